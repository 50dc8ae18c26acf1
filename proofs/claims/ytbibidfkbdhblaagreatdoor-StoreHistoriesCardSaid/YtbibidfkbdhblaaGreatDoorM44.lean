/- Leads to StoreHistories of chapter 6: E8 E9 E10. -/
import Derived.Test.YtbibidfkbdhblaaGreatDoorM43
set_option maxHeartbeats 2000000
set_option maxRecDepth 100000
set_option linter.all false
namespace Go.Proofs.YtbibidfkbdhblaaGreatDoor
open Go.RowKit Go.Maps Sp
theorem getD_of_lt {l : List Int} {k : Nat} (h : k < l.length) : l.getD k 0 = l[k] := by simp [List.getD, h]
theorem count_nodup {l : List Prt} (h : l.Nodup) (p : Prt) : l.count p = if decide (p ∈ l) = true then 1 else 0 := by
 rw [h.count]; simp only [decide_eq_true_eq]
theorem copiesK_le {b : Bk} (hO : BkOk b) {c : List Int} (hlc : c.length = b.ss.length) (p : Prt) : ∀ k, k ≤ b.ss.length → copiesK b c k p ≤ k
 | 0, _ => by simp [copiesK]
 | k + 1, h => by
  rw [copiesK_succ b c k p (by omega) (by omega), count_nodup ((List.take_sublist _ _).nodup (hO.nodup _ (List.getElem_mem (by omega))))]
  have := copiesK_le hO hlc p k (by omega)
  split <;> omega
section
variable {b : Bk} {vr vg vm vs vc : Value} {w : World}
theorem rCopies_at (hB : BookAt w b vr vg vm vs vc) (hO : BkOk b) {la : Option Addr} {ln lc : Nat} {l : List Int} (hL : IntsAt w la l) (hln : ln = l.length) (hll : l.length = b.ss.length) (hC : Came b l) (p : Prt) {t : Int} (ht : copies b l p = t) :
 Calls Tryz.prog 55 #[.agg #[vr, vg, vm, vs, vc], .slice la ln lc, .agg #[.int .i64 p.1, .int .i64 p.2]] w fun e w' => e = .returned (.int .i64 t) ∧ Below w.heap.size w w' := by
 obtain ⟨pm, pg⟩ := p
 subst hln
 obtain ⟨sa, sc, rfl, hS, hsl⟩ := hB.ss
 have hs4 := hO.sl
 have HS := Hh hS
 have HO := Hh hO
 have HL := Hh hL
 have HC := Hh hC
 have HT := Hh ht
 clear hB hO hL hC hS ht
 go_enter Tryz.func55, Tryz.ntmps55
 go_wp2
 obtain ⟨W0, hW0⟩ : ∃ W0, W0 = (w.alloc (.cells #[vr, vg, vm, .slice sa b.ss.length sc, vc] 26)).alloc (.cells #[.int .i64 pm, .int .i64 pg] 85) := ⟨_, rfl⟩
 rw [← hW0]
 have hb0 : Below w.heap.size w W0 := by rw [hW0]; (exact bel)
 have n3 : W0.cell? ⟨w.heap.size, 3, none⟩ = some (.slice sa b.ss.length sc) := by rw [hW0, World.cell?_alloc_past _ _ _ (by simp), World.cell?_alloc_at _ _ _ _ rfl]; rfl
 have p0 : W0.cell? ⟨w.heap.size + 1, 0, none⟩ = some (.int .i64 pm) := by rw [hW0, World.cell?_alloc_at _ _ _ _ (by simp)]; rfl
 have p1 : W0.cell? ⟨w.heap.size + 1, 1, none⟩ = some (.int .i64 pg) := by rw [hW0, World.cell?_alloc_at _ _ _ _ (by simp)]; rfl
 have hs0 : w.heap.size + 1 < W0.heap.size := by rw [hW0]; simp
 clear hW0
 go_loopw [7, 8] (fun v i wr => ∃ (k : Nat), k ≤ l.length ∧ i = .int .i64 k ∧ v = .int .i64 (copiesK b l k (pm, pg) : Nat) ∧ Below W0.heap.size W0 wr) (fun _ i _ => l.length - (intOf i).toNat)
 case atStart => exact ⟨0, Nat.zero_le _, rfl, by simp [copiesK], Below.refl _ _⟩
 case round =>
  obtain ⟨k, hk, rfl, rfl, hW⟩ := hrel
  have hWs := hW.size
  have m3 := (hW.cell (p := ⟨w.heap.size, 3, none⟩) (by simp; omega)).trans n3
  have q0 := (hW.cell (p := ⟨w.heap.size + 1, 0, none⟩) hs0).trans p0
  have q1 := (hW.cell (p := ⟨w.heap.size + 1, 1, none⟩) hs0).trans p1
  have hx1 : w.heap.size < wr.heap.size := by omega
  have hx2 : w.heap.size + 1 < wr.heap.size := by omega
  have hbw := Below.next hb0 hW
  have hcle := copiesK_le HO.out hll (pm, pg) k (by omega)
  by_cases hlt : k < l.length
  ·have hks : k < b.ss.length := by omega
   obtain ⟨lb, lo, rfl, hlb, e0⟩ := HL.out k hlt
   have e0 := (hbw.cell hlb).trans e0
   have hlb2 : lb < wr.heap.size := Nat.lt_of_lt_of_le hlb hbw.size
   obtain ⟨sb, so, rfl, hsb, pa, pc, h0, hpc, hpl, hP⟩ := HS.out k hks
   have h0 := (hbw.cell hsb).trans h0
   have hsb2 : sb < wr.heap.size := Nat.lt_of_lt_of_le hsb hbw.size
   have hck := HC.out k hks
   rw [getD_of_lt hlt] at hck
   have hcs := copiesK_succ b l k (pm, pg) hks hlt
   rw [getD_of_lt hlt, count_nodup ((List.take_sublist _ _).nodup (HO.out.nodup _ (List.getElem_mem hks)))] at hcs
   generalize l[k] = n at e0 hck hcs
   obtain ⟨n, rfl⟩ : ∃ m : Nat, n = m := ⟨n.toNat, by omega⟩
   have HPT := Hh ((hP.below hbw).take n)
   generalize b.ss[k] = s at h0 hpc hpl hck hcs HPT
   have hn : n ≤ s.length := by omega
   have hnpc : (n : Int) ≤ pc := by omega
   have hn0 : (0 : Int) ≤ n := by omega
   have hln : n = (s.take n).length := by simp; omega
   have HLN := Hh hln
   have hll2 : (s.take n).length ≤ 1000000 := by simp; omega
   rw [Int.toNat_natCast] at hcs
   have hb1 : Below wr.heap.size wr wr := Below.refl _ _
   have hwr : IntKind.i64.wrap ((copiesK b l k (pm, pg) : Nat) + 1 : Int) = ((copiesK b l k (pm, pg) + 1 : Nat) : Int) := by rw [IntWalk.i64_in _ (by omega)]; omega
   generalize copiesK b l k (pm, pg) = ck at hcs hwr hcle
   cases hd : decide ((pm, pg) ∈ s.take n)
   ·have HD := Hh hd
    rw [hd] at hcs
    simp only [Bool.false_eq_true, if_false, Nat.add_zero] at hcs
    have HCS := Hh hcs
    clear hd hcs hln hP hck
    go_wp2
    (refine wp_region_bel (by kernel_rfl) (by kernel_rfl) ?_; (repeat (go_big_quiet_step ((go_at_call 126; with_reducible exact Calls.bel_of (has_at (p := (pm, pg)) (HPT.out.below (later_below _ _)) HLN.out hll2 HD.out))))); refine wpQuiet_nil ?_; rintro _ ⟨xq, rfl⟩)
    go_wp2
    go_roundw
    case rel => exact ⟨k + 1, by omega, by go_num, by first | (rw [HCS.out]; done) | (rw [HCS.out]; rfl) | (rw [HCS.out]; simp), Below.next hW (later_below _ _)⟩
    case measure => simp [intOf]; omega
   ·have HD := Hh hd
    rw [hd] at hcs
    simp only [if_true] at hcs
    have HCS := Hh hcs
    clear hd hcs hln hP hck
    go_wp2
    (refine wp_region_bel (by kernel_rfl) (by kernel_rfl) ?_; (repeat (go_big_quiet_step ((go_at_call 126; with_reducible exact Calls.bel_of (has_at (p := (pm, pg)) (HPT.out.below (later_below _ _)) HLN.out hll2 HD.out))))); refine wpQuiet_nil ?_; rintro _ ⟨xq, rfl⟩)
    go_wp2
    go_roundw
    case rel => exact ⟨k + 1, by omega, by go_num, by first | (rw [HCS.out]; done) | (rw [HCS.out]; rfl) | (rw [HCS.out]; simp), Below.next hW (later_below _ _)⟩
    case measure => simp [intOf]; omega
  ·obtain rfl : k = l.length := by omega
   have htt : ((copiesK b l l.length (pm, pg) : Nat) : Int) = t := by rw [hll, copiesK_all]; exact HT.out
   have HTT := Hh htt
   clear htt
   go_wp2
   go_ret
   exact ⟨by rw [← HTT.out]; rfl, hbw⟩
theorem haveOf_succ (b : Bk) (c : List Int) (m : Int) (k : Nat) : ((List.range (k + 1)).filter fun (g : Nat) => decide (0 < copies b c (m, (g : Int)))).length = ((List.range k).filter fun (g : Nat) => decide (0 < copies b c (m, (g : Int)))).length + if 0 < copies b c (m, (k : Int)) then 1 else 0 := by
 rw [List.range_succ, List.filter_append, List.length_append]
 congr 1
 by_cases h : 0 < copies b c (m, (k : Int)) <;> simp [h]
theorem have_le (b : Bk) (c : List Int) (m : Int) (k : Nat) : ((List.range k).filter fun (g : Nat) => decide (0 < copies b c (m, (g : Int)))).length ≤ k := Nat.le_trans (List.length_filter_le _ _) (by simp)
theorem rHave_at (hB : BookAt w b vr vg vm vs vc) (hO : BkOk b) {la : Option Addr} {ln lc : Nat} {l : List Int} (hL : IntsAt w la l) (hln : ln = l.length) (hll : l.length = b.ss.length) (hC : Came b l) {m : Int} (hm : 0 ≤ m ∧ m.toNat < b.ms.length) {t : Int} (ht : haveOf b l m = t) :
 Calls Tryz.prog 60 #[.agg #[vr, vg, vm, vs, vc], .slice la ln lc, .int .i64 m] w fun e w' => e = .returned (.int .i64 t) ∧ Below w.heap.size w w' := by
 have hcop := fun (p : Prt) (w' : World) (hb : Below w.heap.size w w') => rCopies_at (lc := lc) (hB.below hb) hO (hL.below hb) hln hll hC p rfl
 obtain ⟨ma, mc, rfl, hM, hml⟩ := hB.ms
 obtain ⟨m, rfl⟩ : ∃ n : Nat, m = n := ⟨m.toNat, by omega⟩
 have hml5 := hO.ml
 have hmb : m < b.ms.length := by omega
 have hmg := hO.groups _ (List.getElem_mem hmb)
 have hgs : (b.ms[(m : Int).toNat]?).elim 0 Msg.groups = b.ms[m].groups := by rw [Int.toNat_natCast, List.getElem?_eq_getElem hmb]; rfl
 obtain ⟨mb, mo, rfl, hmlt, _, h1, _⟩ := hM m hmb
 unfold haveOf at ht
 rw [hgs] at ht
 generalize b.ms[m].groups = gr at hmg h1 ht hgs
 obtain ⟨gn, rfl⟩ : ∃ n : Nat, gr = n := ⟨gr.toNat, by omega⟩
 rw [Int.toNat_natCast] at ht
 have HCOP := Hh hcop
 have HT := Hh ht
 have hm0 : (0 : Int) ≤ m := by omega
 have hmi : (m : Int) < b.ms.length := by omega
 clear hB hO hL hC hM ht hcop hm hgs hln hll
 go_enter Tryz.func60, Tryz.ntmps60
 go_wp2
 obtain ⟨W0, hW0⟩ : ∃ W0, W0 = w.alloc (.cells #[vr, vg, .slice (some ⟨mb, mo, none⟩) b.ms.length mc, vs, vc] 26) := ⟨_, rfl⟩
 rw [← hW0]
 have hb0 : Below w.heap.size w W0 := by rw [hW0]; (exact bel)
 have nn : ∀ k u, (#[vr, vg, .slice (some ⟨mb, mo, none⟩) b.ms.length mc, vs, vc] : Array Value)[k]? = some u → W0.cell? ⟨w.heap.size, k, none⟩ = some u := fun k u hk => by
  rw [hW0, World.cell?_alloc_at _ _ _ _ rfl]; exact hk
 have n0 := nn 0 _ rfl
 have n1 := nn 1 _ rfl
 have n2 := nn 2 _ rfl
 have n3 := nn 3 _ rfl
 have n4 := nn 4 _ rfl
 have hs0 : w.heap.size < W0.heap.size := by rw [hW0]; simp
 clear hW0 nn
 go_loopw [7, 8] (fun v i wr => ∃ (k : Nat), k ≤ gn ∧ i = .int .i64 k ∧ v = .int .i64 (((List.range k).filter fun (g : Nat) => decide (0 < copies b l ((m : Int), (g : Int)))).length : Nat) ∧ Below W0.heap.size W0 wr) (fun _ i _ => gn - (intOf i).toNat)
 case atStart => exact ⟨0, Nat.zero_le _, rfl, by simp, Below.refl _ _⟩
 case round =>
  obtain ⟨k, hk, rfl, rfl, hW⟩ := hrel
  have hWs := hW.size
  have m0 := (hW.cell (p := ⟨w.heap.size, 0, none⟩) hs0).trans n0
  have m1 := (hW.cell (p := ⟨w.heap.size, 1, none⟩) hs0).trans n1
  have m2 := (hW.cell (p := ⟨w.heap.size, 2, none⟩) hs0).trans n2
  have m3 := (hW.cell (p := ⟨w.heap.size, 3, none⟩) hs0).trans n3
  have m4 := (hW.cell (p := ⟨w.heap.size, 4, none⟩) hs0).trans n4
  have hx1 : w.heap.size < wr.heap.size := by omega
  have hbw := Below.next hb0 hW
  have g1 := (hbw.cell hmlt).trans h1
  have hmlt2 : mb < wr.heap.size := Nat.lt_of_lt_of_le hmlt hbw.size
  have hle := have_le b l (m : Int) k
  by_cases hlt : k < gn
  ·have hsu := haveOf_succ b l (m : Int) k
   have hcp := fun (w' : World) (hb : Below w.heap.size w w') => HCOP.out ((m : Int), (k : Int)) w' hb
   have HCP := Hh hcp
   generalize ((List.range k).filter fun (g : Nat) => decide (0 < copies b l ((m : Int), (g : Int)))).length = hv at hsu hle
   generalize copies b l ((m : Int), (k : Int)) = cc at hsu HCP
   clear hcp
   have hwr : IntKind.i64.wrap ((hv : Int) + 1) = ((hv + 1 : Nat) : Int) := by rw [IntWalk.i64_in _ (by omega)]; omega
   have hki : (k : Int) < gn := by omega
   by_cases hc0 : 0 < cc
   ·rw [if_pos hc0] at hsu
    have HSU := Hh hsu
    clear hsu
    go_wp2_with (go_at_call 55; (with_reducible refine (HCP.out _ hbw).mono ?_); rintro e w5 ⟨rfl, hb5⟩)
    go_roundw
    case rel => exact ⟨k + 1, by omega, by go_num, by first | (rw [HSU.out]; done) | (rw [HSU.out]; rfl) | (rw [HSU.out]; simp), Below.next hW hb5⟩
    case measure => simp [intOf]; omega
   ·rw [if_neg hc0, Nat.add_zero] at hsu
    have HSU := Hh hsu
    clear hsu
    go_wp2_with (go_at_call 55; (with_reducible refine (HCP.out _ hbw).mono ?_); rintro e w5 ⟨rfl, hb5⟩)
    go_roundw
    case rel => exact ⟨k + 1, by omega, by go_num, by first | (rw [HSU.out]; done) | (rw [HSU.out]; rfl) | (rw [HSU.out]; simp), Below.next hW hb5⟩
    case measure => simp [intOf]; omega
  ·obtain rfl : k = gn := by omega
   have HTT := HT
   clear HT
   go_wp2
   go_ret
   exact ⟨by rw [← HTT.out]; rfl, hbw⟩
end
section
variable {b : Bk} {vr vg vm vs vc : Value} {w : World} {la : Option Addr} {ln lc : Nat} {l : List Int}
theorem rRight_0 (hB : BookAt w b vr vg vm vs vc) (hO : BkOk b) (hL : IntsAt w la l) (hln : ln = l.length) (hll : l.length = b.ss.length) (hC : Came b l) (a rb m : Int) (hr : recAl b ⟨0, a, rb, m⟩ = 0) {t : Bool} (h : rightR b l ⟨0, a, rb, m⟩ = t) :
 Calls Tryz.prog 140 #[.agg #[vr, vg, vm, vs, vc], .slice la ln lc, .agg #[.int .i64 0, .int .i64 a, .int .i64 rb, .int .i64 m]] w fun e w' => e = .returned (.bool t) ∧ Below w.heap.size w w' := by
 have ha := (recAl_facts hr).2.1 (by decide)
 have hb2 := inB_nat.1 ha
 obtain ⟨n, rfl⟩ : ∃ n : Nat, a = n := ⟨a.toNat, by omega⟩
 obtain ⟨sa, sc, rfl, hS, hsl⟩ := hB.ss
 have hn : n < b.ss.length := by omega
 have hnl : n < l.length := by omega
 have hs4 := hO.sl
 have hp5 := hO.pl _ (List.getElem_mem hn)
 obtain ⟨sb, so, rfl, hsb, pa, pc, h0, hpc, hpl, _⟩ := hS n hn
 obtain ⟨lb, lo, rfl, hlb, e0⟩ := hL n hnl
 have hd : l.getD (n : Int).toNat 0 = l[n] := by rw [Int.toNat_natCast]; exact getD_of_lt hnl
 have hgs : ((b.ss[(n : Int).toNat]?).elim 0 List.length : Nat) = b.ss[n].length := by rw [Int.toNat_natCast, List.getElem?_eq_getElem hn]; rfl
 simp [rightR] at h
 simp at hd hgs
 try rw [hd] at h
 try rw [hgs] at h
 clear hd hgs
 generalize l[n] = ck at e0 h
 generalize b.ss[n] = s at h0 hpc hpl h hp5
 have hln2 : (n : Int) < ln := by omega
 have hsn2 : (n : Int) < b.ss.length := by omega
 have hn0 : (0 : Int) ≤ n := by omega
 have H := Hh h
 clear h hB hO hL hC hS ha hr hln hll hb2 hnl
 go_enter Tryz.func140, Tryz.ntmps140
 go_wp2
 go_quiet (fail)
 go_wp2
 go_ret
 exact ⟨by rw [← H.out]; first | rfl | simp, bel⟩
theorem rRight_1 (hB : BookAt w b vr vg vm vs vc) (hO : BkOk b) (hL : IntsAt w la l) (hln : ln = l.length) (hll : l.length = b.ss.length) (hC : Came b l) (a rb m : Int) (hr : recAl b ⟨1, a, rb, m⟩ = 0) {t : Bool} (h : rightR b l ⟨1, a, rb, m⟩ = t) :
 Calls Tryz.prog 140 #[.agg #[vr, vg, vm, vs, vc], .slice la ln lc, .agg #[.int .i64 1, .int .i64 a, .int .i64 rb, .int .i64 m]] w fun e w' => e = .returned (.bool t) ∧ Below w.heap.size w w' := by
 have ha := (recAl_facts hr).2.1 (by decide)
 have hb2 := inB_nat.1 ha
 obtain ⟨n, rfl⟩ : ∃ n : Nat, a = n := ⟨a.toNat, by omega⟩
 obtain ⟨sa, sc, rfl, hS, hsl⟩ := hB.ss
 have hn : n < b.ss.length := by omega
 have hnl : n < l.length := by omega
 have hs4 := hO.sl
 have hp5 := hO.pl _ (List.getElem_mem hn)
 obtain ⟨sb, so, rfl, hsb, pa, pc, h0, hpc, hpl, _⟩ := hS n hn
 obtain ⟨lb, lo, rfl, hlb, e0⟩ := hL n hnl
 have hd : l.getD (n : Int).toNat 0 = l[n] := by rw [Int.toNat_natCast]; exact getD_of_lt hnl
 have hgs : ((b.ss[(n : Int).toNat]?).elim 0 List.length : Nat) = b.ss[n].length := by rw [Int.toNat_natCast, List.getElem?_eq_getElem hn]; rfl
 simp [rightR] at h
 simp at hd hgs
 try rw [hd] at h
 try rw [hgs] at h
 clear hd hgs
 generalize l[n] = ck at e0 h
 generalize b.ss[n] = s at h0 hpc hpl h hp5
 have hln2 : (n : Int) < ln := by omega
 have hsn2 : (n : Int) < b.ss.length := by omega
 have hn0 : (0 : Int) ≤ n := by omega
 have H := Hh h
 clear h hB hO hL hC hS ha hr hln hll hb2 hnl
 go_enter Tryz.func140, Tryz.ntmps140
 go_wp2
 go_quiet (fail)
 go_wp2
 go_ret
 exact ⟨by rw [← H.out]; first | rfl | simp, bel⟩
theorem rRight_2 (hB : BookAt w b vr vg vm vs vc) (hO : BkOk b) (hL : IntsAt w la l) (hln : ln = l.length) (hll : l.length = b.ss.length) (hC : Came b l) (a rb m : Int) (hr : recAl b ⟨2, a, rb, m⟩ = 0) {t : Bool} (h : rightR b l ⟨2, a, rb, m⟩ = t) :
 Calls Tryz.prog 140 #[.agg #[vr, vg, vm, vs, vc], .slice la ln lc, .agg #[.int .i64 2, .int .i64 a, .int .i64 rb, .int .i64 m]] w fun e w' => e = .returned (.bool t) ∧ Below w.heap.size w w' := by
 have ha := (recAl_facts hr).2.1 (by decide)
 have hb2 := inB_nat.1 ha
 obtain ⟨n, rfl⟩ : ∃ n : Nat, a = n := ⟨a.toNat, by omega⟩
 obtain ⟨sa, sc, rfl, hS, hsl⟩ := hB.ss
 have hn : n < b.ss.length := by omega
 have hnl : n < l.length := by omega
 have hs4 := hO.sl
 have hp5 := hO.pl _ (List.getElem_mem hn)
 obtain ⟨sb, so, rfl, hsb, pa, pc, h0, hpc, hpl, _⟩ := hS n hn
 obtain ⟨lb, lo, rfl, hlb, e0⟩ := hL n hnl
 have hd : l.getD (n : Int).toNat 0 = l[n] := by rw [Int.toNat_natCast]; exact getD_of_lt hnl
 have hgs : ((b.ss[(n : Int).toNat]?).elim 0 List.length : Nat) = b.ss[n].length := by rw [Int.toNat_natCast, List.getElem?_eq_getElem hn]; rfl
 simp [rightR] at h
 simp at hd hgs
 try rw [hd] at h
 try rw [hgs] at h
 clear hd hgs
 generalize l[n] = ck at e0 h
 generalize b.ss[n] = s at h0 hpc hpl h hp5
 have hln2 : (n : Int) < ln := by omega
 have hsn2 : (n : Int) < b.ss.length := by omega
 have hn0 : (0 : Int) ≤ n := by omega
 have H := Hh h
 clear h hB hO hL hC hS ha hr hln hll hb2 hnl
 go_enter Tryz.func140, Tryz.ntmps140
 go_wp2
 go_quiet (fail)
 go_wp2
 go_ret
 exact ⟨by rw [← H.out]; first | rfl | simp, bel⟩
theorem rRight_3 (hB : BookAt w b vr vg vm vs vc) (hO : BkOk b) (hL : IntsAt w la l) (hln : ln = l.length) (hll : l.length = b.ss.length) (hC : Came b l) (a rb m : Int) (hr : recAl b ⟨3, a, rb, m⟩ = 0) {t : Bool} (h : rightR b l ⟨3, a, rb, m⟩ = t) :
 Calls Tryz.prog 140 #[.agg #[vr, vg, vm, vs, vc], .slice la ln lc, .agg #[.int .i64 3, .int .i64 a, .int .i64 rb, .int .i64 m]] w fun e w' => e = .returned (.bool t) ∧ Below w.heap.size w w' := by
 have ha := (recAl_facts hr).2.1 (by decide)
 have hb2 := inB_nat.1 ha
 obtain ⟨n, rfl⟩ : ∃ n : Nat, a = n := ⟨a.toNat, by omega⟩
 obtain ⟨sa, sc, rfl, hS, hsl⟩ := hB.ss
 have hn : n < b.ss.length := by omega
 have hnl : n < l.length := by omega
 have hs4 := hO.sl
 have hp5 := hO.pl _ (List.getElem_mem hn)
 obtain ⟨sb, so, rfl, hsb, pa, pc, h0, hpc, hpl, _⟩ := hS n hn
 obtain ⟨lb, lo, rfl, hlb, e0⟩ := hL n hnl
 have hd : l.getD (n : Int).toNat 0 = l[n] := by rw [Int.toNat_natCast]; exact getD_of_lt hnl
 have hgs : ((b.ss[(n : Int).toNat]?).elim 0 List.length : Nat) = b.ss[n].length := by rw [Int.toNat_natCast, List.getElem?_eq_getElem hn]; rfl
 simp [rightR] at h
 simp at hd hgs
 try rw [hd] at h
 try rw [hgs] at h
 clear hd hgs
 generalize l[n] = ck at e0 h
 generalize b.ss[n] = s at h0 hpc hpl h hp5
 have hln2 : (n : Int) < ln := by omega
 have hsn2 : (n : Int) < b.ss.length := by omega
 have hn0 : (0 : Int) ≤ n := by omega
 have H := Hh h
 clear h hB hO hL hC hS ha hr hln hll hb2 hnl
 go_enter Tryz.func140, Tryz.ntmps140
 go_wp2
 go_quiet (fail)
 go_wp2
 go_ret
 exact ⟨by rw [← H.out]; first | rfl | simp, bel⟩
theorem rRight_4 (hB : BookAt w b vr vg vm vs vc) (hO : BkOk b) (hL : IntsAt w la l) (hln : ln = l.length) (hll : l.length = b.ss.length) (hC : Came b l) (a rb m : Int) (hr : recAl b ⟨4, a, rb, m⟩ = 0) {t : Bool} (h : rightR b l ⟨4, a, rb, m⟩ = t) :
 Calls Tryz.prog 140 #[.agg #[vr, vg, vm, vs, vc], .slice la ln lc, .agg #[.int .i64 4, .int .i64 a, .int .i64 rb, .int .i64 m]] w fun e w' => e = .returned (.bool t) ∧ Below w.heap.size w w' := by
 have hcop := fun (w' : World) (hb : Below w.heap.size w w') => rCopies_at (lc := lc) (hB.below hb) hO (hL.below hb) hln hll hC (a, rb) rfl
 simp [rightR] at h
 generalize copies b l (a, rb) = cc at hcop h
 have HCOP := Hh hcop
 have H := Hh h
 clear hcop h hB hO hL hC hr hln hll
 go_enter Tryz.func140, Tryz.ntmps140
 go_wp2
 (refine wp_region_bel (by kernel_rfl) (by kernel_rfl) ?_; (repeat (go_big_quiet_step ((go_at_call 55; with_reducible exact Calls.bel_of (HCOP.out _ (Below.next (Below.al (Below.al (Below.refl _ _) _) _) (later_below _ _))))))); refine wpQuiet_nil ?_; rintro _ ⟨xq, rfl⟩)
 go_wp2
 go_ret
 exact ⟨by rw [← H.out]; first | rfl | simp, Below.next (Below.al (Below.al (Below.refl _ _) _) _) (later_below _ _)⟩
theorem rRight_5 (hB : BookAt w b vr vg vm vs vc) (hO : BkOk b) (hL : IntsAt w la l) (hln : ln = l.length) (hll : l.length = b.ss.length) (hC : Came b l) (a rb m : Int) (hr : recAl b ⟨5, a, rb, m⟩ = 0) {t : Bool} (h : rightR b l ⟨5, a, rb, m⟩ = t) :
 Calls Tryz.prog 140 #[.agg #[vr, vg, vm, vs, vc], .slice la ln lc, .agg #[.int .i64 5, .int .i64 a, .int .i64 rb, .int .i64 m]] w fun e w' => e = .returned (.bool t) ∧ Below w.heap.size w w' := by
 have ha := (recAl_facts hr).2.2.2 rfl
 have hb2 := inB_nat.1 ha
 have hcop := fun (w' : World) (hb : Below w.heap.size w w') => rHave_at (lc := lc) (hB.below hb) hO (hL.below hb) hln hll hC (m := a) (by omega) rfl
 simp [rightR] at h
 generalize haveOf b l a = cc at hcop h
 have HCOP := Hh hcop
 have H := Hh h
 clear hcop h hB hO hL hC hr hln hll ha hb2
 go_enter Tryz.func140, Tryz.ntmps140
 go_wp2
 (refine wp_region_bel (by kernel_rfl) (by kernel_rfl) ?_; (repeat (go_big_quiet_step ((go_at_call 60; with_reducible exact Calls.bel_of (HCOP.out _ (Below.next (Below.al (Below.al (Below.refl _ _) _) _) (later_below _ _))))))); refine wpQuiet_nil ?_; rintro _ ⟨xq, rfl⟩)
 go_wp2
 go_ret
 exact ⟨by rw [← H.out]; first | rfl | simp, Below.next (Below.al (Below.al (Below.refl _ _) _) _) (later_below _ _)⟩
theorem rRight_at (hB : BookAt w b vr vg vm vs vc) (hO : BkOk b) (hL : IntsAt w la l) (hln : ln = l.length) (hll : l.length = b.ss.length) (hC : Came b l) (r : Rec) (hr : recAl b r = 0) {t : Bool} (h : rightR b l r = t) :
 Calls Tryz.prog 140 #[.agg #[vr, vg, vm, vs, vc], .slice la ln lc, .agg #[.int .i64 r.k, .int .i64 r.a, .int .i64 r.b, .int .i64 r.m]] w fun e w' => e = .returned (.bool t) ∧ Below w.heap.size w w' := by
 obtain ⟨k, a, rb, m⟩ := r
 have := (recAl_facts hr).1
 have : k = 0 ∨ k = 1 ∨ k = 2 ∨ k = 3 ∨ k = 4 ∨ k = 5 := by omega
 rcases this with rfl | rfl | rfl | rfl | rfl | rfl
 ·exact rRight_0 hB hO hL hln hll hC a rb m hr h
 ·exact rRight_1 hB hO hL hln hll hC a rb m hr h
 ·exact rRight_2 hB hO hL hln hll hC a rb m hr h
 ·exact rRight_3 hB hO hL hln hll hC a rb m hr h
 ·exact rRight_4 hB hO hL hln hll hC a rb m hr h
 ·exact rRight_5 hB hO hL hln hll hC a rb m hr h
theorem rRightAll_at (hB : BookAt w b vr vg vm vs vc) (hO : BkOk b) (hL : IntsAt w la l) (hln : ln = l.length) (hll : l.length = b.ss.length) (hC : Came b l) (hr : ∀ r ∈ b.rs, recAl b r = 0) {t : Bool} (ht : right b l = t) :
 Calls Tryz.prog 101 #[.agg #[vr, vg, vm, vs, vc], .slice la ln lc] w fun e w' => e = .returned (.bool t) ∧ Below w.heap.size w w' := by
 have hone := fun (r : Rec) (hm : r ∈ b.rs) (w' : World) (hb : Below w.heap.size w w') (t : Bool) (ht : rightR b l r = t) => rRight_at (lc := lc) (hB.below hb) hO (hL.below hb) hln hll hC r (hr r hm) ht
 obtain ⟨ra, rc, rfl, hR, hrl⟩ := hB.rs
 have HONE := Hh hone
 have HR := Hh hR
 have HT := Hh ht
 clear hone hB hO hL hln hll hC hr hR ht
 go_enter Tryz.func101, Tryz.ntmps101
 go_wp2
 obtain ⟨W0, hW0⟩ : ∃ W0, W0 = w.alloc (.cells #[vr, vg, vm, vs, .slice ra b.rs.length rc] 26) := ⟨_, rfl⟩
 rw [← hW0]
 have hb0 : Below w.heap.size w W0 := by rw [hW0]; (exact bel)
 have nn : ∀ k u, (#[vr, vg, vm, vs, .slice ra b.rs.length rc] : Array Value)[k]? = some u → W0.cell? ⟨w.heap.size, k, none⟩ = some u := fun k u hk => by
  rw [hW0, World.cell?_alloc_at _ _ _ _ rfl]; exact hk
 have n0 := nn 0 _ rfl
 have n1 := nn 1 _ rfl
 have n2 := nn 2 _ rfl
 have n3 := nn 3 _ rfl
 have n4 := nn 4 _ rfl
 have hs0 : w.heap.size < W0.heap.size := by rw [hW0]; simp
 clear hW0 nn
 go_loopw [5] (fun i wr => ∃ (k : Nat), k ≤ b.rs.length ∧ i = .int .i64 k ∧ Hid ((b.rs.drop k).all (rightR b l) = t) ∧ Below W0.heap.size W0 wr) (fun i _ => b.rs.length - (intOf i).toNat)
 case atStart => exact ⟨0, Nat.zero_le _, rfl, HT.out, Below.refl _ _⟩
 case round =>
  obtain ⟨k, hk, rfl, hG, hW⟩ := hrel
  have hWs := hW.size
  have m0 := (hW.cell (p := ⟨w.heap.size, 0, none⟩) hs0).trans n0
  have m1 := (hW.cell (p := ⟨w.heap.size, 1, none⟩) hs0).trans n1
  have m2 := (hW.cell (p := ⟨w.heap.size, 2, none⟩) hs0).trans n2
  have m3 := (hW.cell (p := ⟨w.heap.size, 3, none⟩) hs0).trans n3
  have m4 := (hW.cell (p := ⟨w.heap.size, 4, none⟩) hs0).trans n4
  have hx1 : w.heap.size < wr.heap.size := by omega
  have hbw := Below.next hb0 hW
  have hg0 := hG.out
  by_cases hlt : k < b.rs.length
  ·obtain ⟨rb, ro, rfl, hrb, e0, e1, e2, e3⟩ := HR.out k hlt
   have e0 := (hbw.cell hrb).trans e0
   have e1 := (hbw.cell hrb).trans e1
   have e2 := (hbw.cell hrb).trans e2
   have e3 := (hbw.cell hrb).trans e3
   have hrb2 : rb < wr.heap.size := Nat.lt_of_lt_of_le hrb hbw.size
   have hmem := List.getElem_mem hlt
   rw [List.drop_eq_getElem_cons hlt, List.all_cons] at hg0
   generalize b.rs[k] = r at e0 e1 e2 e3 hg0 hmem
   have hon := fun (w' : World) (hb : Below w.heap.size w w') => HONE.out r hmem w' hb
   obtain ⟨rk, rA, rB, rm⟩ := r
   simp only at e0 e1 e2 e3
   have HON := Hh hon
   clear hon hmem
   cases hra : rightR b l ⟨rk, rA, rB, rm⟩
   ·rw [hra, Bool.false_and] at hg0
    subst hg0
    have HRA := Hh hra
    clear hra
    go_wp2
    (refine wp_region_bel (by kernel_rfl) (by kernel_rfl) ?_; (repeat (go_big_quiet_step ((go_at_call 140; with_reducible exact Calls.bel_of (HON.out _ (Below.next hbw (later_below _ _)) _ HRA.out))))); refine wpQuiet_nil ?_; rintro _ ⟨xq, rfl⟩)
    go_wp2
    go_ret
    exact ⟨rfl, Below.next hbw (later_below _ _)⟩
   ·rw [hra, Bool.true_and] at hg0
    have HG0 := Hh hg0
    have HRA := Hh hra
    clear hra hg0
    go_wp2
    (refine wp_region_bel (by kernel_rfl) (by kernel_rfl) ?_; (repeat (go_big_quiet_step ((go_at_call 140; with_reducible exact Calls.bel_of (HON.out _ (Below.next hbw (later_below _ _)) _ HRA.out))))); refine wpQuiet_nil ?_; rintro _ ⟨xq, rfl⟩)
    go_wp2
    go_roundw
    case rel => exact ⟨k + 1, by omega, by go_num, HG0.out, Below.next hW (later_below _ _)⟩
    case measure => simp [intOf]; omega
  ·rw [List.drop_eq_nil_of_le (by omega), List.all_nil] at hg0
   subst hg0
   go_wp2
   go_ret
   exact ⟨rfl, hbw⟩
end
namespace Sp
def inRange (ss : List (List Prt)) (l : List Int) : Bool := (List.range l.length).all fun i => inB (l.getD i 0) 0 (((ss[i]?).elim 0 List.length : Nat) : Int)
def isHistAl (b : Bk) (l : List Int) : Int := if bookAl b ≠ 0 then bookAl b else if l.length ≠ b.ss.length then 2 else 0
def isHist (b : Bk) (l : List Int) : Bool := decide (isHistAl b l = 0) && (inRange b.ss l && right b l)
end Sp
theorem inRange_came {b : Bk} {l : List Int} (h : inRange b.ss l = true) (hl : l.length = b.ss.length) : Came b l := by
 intro i hi
 unfold inRange at h
 rw [List.all_eq_true] at h
 have := h i (by simp; omega)
 rw [List.getElem?_eq_getElem hi] at this
 simpa [inB] using this
section
variable {b : Bk} {vr vg vm vs vc : Value} {w : World} {la : Option Addr} {ln lc : Nat} {l : List Int}
theorem rIsHistory_at (hB : BookAt w b vr vg vm vs vc) (hN : ∀ m ∈ b.ms, m.name.size ≤ 1000000) (hL : IntsAt w la l) (hln : ln = l.length) (hl6 : l.length ≤ 1000000) :
 Calls Tryz.prog 35 #[.agg #[vr, vg, vm, vs, vc], .slice la ln lc] w fun e w' => e = .returned (.tuple #[.bool (isHist b l), .int .i64 (isHistAl b l)]) ∧ Below w.heap.size w w' := by
 subst hln
 have HB := Hh hB
 have HN := Hh hN
 have HL := Hh hL
 obtain ⟨rfl, rfl, ⟨ma, mc, rfl, _, _⟩, ⟨sa, sc, rfl, hS, hsl⟩, ra, rc, rfl, _, _⟩ := id hB
 have HS := Hh hS
 clear hB hN hL hS
 by_cases hk : bookAl b = 0
 case neg =>
  have h1 : isHistAl b l = bookAl b := by unfold isHistAl; rw [if_pos hk]
  have h2 : isHist b l = false := by unfold isHist; rw [h1]; simp [hk]
  rw [h1, h2]
  generalize ht : bookAl b = t at hk
  have H0 := Hh ht
  have hz3 : (t != 0) = true := by simpa using hk
  clear ht h1 h2
  go_enter Tryz.func35, Tryz.ntmps35
  go_wp2_with (go_at_call 37; (with_reducible refine (rCheckBook_at (HB.out.below (bel)) HN.out H0.out).mono ?_); rintro e w1 ⟨rfl, hb1⟩; obtain ⟨hc1, hf1⟩ := bcell hb1; have hz1 : w.heap.size < w1.heap.size := (by have := hb1.size; simp at this; omega))
  exact bodyPost_ret (v := .tuple #[.bool false, .int .i64 t]) (by simp [results, Tryz.results35, go_sem, *]) rfl ⟨rfl, bel⟩
 have H0 := Hh hk
 have hbo := (bookAl_ok hk).1
 have HO := Hh hbo
 have hs4 := hbo.sl
 have HRR := Hh (bookAl_ok hk).2
 by_cases hlen : l.length = b.ss.length
 case neg =>
  have h1 : isHistAl b l = 2 := by unfold isHistAl; rw [if_neg (by simpa using hk), if_pos hlen]
  have h2 : isHist b l = false := by unfold isHist; rw [h1]; simp
  rw [h1, h2]
  have hne : ((l.length : Int) != (b.ss.length : Int)) = true := by simp; omega
  clear h1 h2 hbo hk
  go_enter Tryz.func35, Tryz.ntmps35
  go_wp2_with (go_at_call 37; (with_reducible refine (rCheckBook_at (HB.out.below (bel)) HN.out H0.out).mono ?_); rintro e w1 ⟨rfl, hb1⟩; obtain ⟨hc1, hf1⟩ := bcell hb1; have hz1 : w.heap.size < w1.heap.size := (by have := hb1.size; simp at this; omega))
  exact bodyPost_ret (v := .tuple #[.bool false, .int .i64 2]) (by simp [results, Tryz.results35, go_sem, *]) rfl ⟨rfl, bel⟩
 have h1 : isHistAl b l = 0 := by unfold isHistAl; rw [if_neg (by simpa using hk), if_neg (by simpa using hlen)]
 have h2 : isHist b l = (inRange b.ss l && right b l) := by unfold isHist; rw [h1]; simp
 rw [h1, h2]
 have HLEN := Hh hlen
 generalize hres : (inRange b.ss l && right b l) = res
 have HRES := Hh hres
 have hne : ((l.length : Int) != (b.ss.length : Int)) = false := by simp; omega
 clear h1 h2 hbo hk hres hlen
 go_enter Tryz.func35, Tryz.ntmps35
 go_wp2_with (go_at_call 37; (with_reducible refine (rCheckBook_at (HB.out.below (bel)) HN.out H0.out).mono ?_); rintro e w1 ⟨rfl, hb1⟩; obtain ⟨hc1, hf1⟩ := bcell hb1; have hz1 : w.heap.size < w1.heap.size := (by have := hb1.size; simp at this; omega))
 have hbw : Below w.heap.size w w1 := bel
 have nn : ∀ k u, (#[.int .i64 b.room, .int .i64 b.gap, .slice ma b.ms.length mc, .slice sa b.ss.length sc, .slice ra b.rs.length rc] : Array Value)[k]? = some u → w1.cell? ⟨w.heap.size, k, none⟩ = some u := fun k u hk => by
  rw [hc1 _ _ (by simp), World.cell?_alloc_at _ _ _ _ rfl]; exact hk
 have n0 := nn 0 _ rfl
 have n1 := nn 1 _ rfl
 have n2 := nn 2 _ rfl
 have n3 := nn 3 _ rfl
 have n4 := nn 4 _ rfl
 clear nn hc1 hf1 hb1 hne
 go_loopw [7] (fun i wr => ∃ (k : Nat), k ≤ l.length ∧ i = .int .i64 k ∧ Hid (∀ i, i < k → inB (l.getD i 0) 0 (((b.ss[i]?).elim 0 List.length : Nat) : Int) = true) ∧ Below w1.heap.size w1 wr) (fun i _ => l.length - (intOf i).toNat)
 case atStart => exact ⟨0, Nat.zero_le _, rfl, fun i hi => absurd hi (Nat.not_lt_zero _), Below.refl _ _⟩
 case round =>
  obtain ⟨k, hk, rfl, hG, hW⟩ := hrel
  have hWs := hW.size
  have m0 := (hW.cell (p := ⟨w.heap.size, 0, none⟩) hz1).trans n0
  have m1 := (hW.cell (p := ⟨w.heap.size, 1, none⟩) hz1).trans n1
  have m2 := (hW.cell (p := ⟨w.heap.size, 2, none⟩) hz1).trans n2
  have m3 := (hW.cell (p := ⟨w.heap.size, 3, none⟩) hz1).trans n3
  have m4 := (hW.cell (p := ⟨w.heap.size, 4, none⟩) hz1).trans n4
  have hx1 : w.heap.size < wr.heap.size := by omega
  have hbr := Below.next hbw hW
  by_cases hlt : k < l.length
  ·have hks : k < b.ss.length := by have := HLEN.out; omega
   obtain ⟨lb, lo, rfl, hlb, e0⟩ := HL.out k hlt
   have e0 := (hbr.cell hlb).trans e0
   have hlb2 : lb < wr.heap.size := Nat.lt_of_lt_of_le hlb hbr.size
   obtain ⟨sb, so, rfl, hsb, pa, pc, h0, hpc, hpl, hP⟩ := HS.out k hks
   have h0 := (hbr.cell hsb).trans h0
   have hsb2 : sb < wr.heap.size := Nat.lt_of_lt_of_le hsb hbr.size
   have hgk : inB (l.getD k 0) 0 (((b.ss[k]?).elim 0 List.length : Nat) : Int) = inB l[k] 0 (b.ss[k].length : Nat) := by
    rw [getD_of_lt hlt, List.getElem?_eq_getElem hks]; rfl
   generalize l[k] = ck at e0 hgk
   generalize b.ss[k] = s at h0 hpc hpl hgk
   clear hP
   cases hin : inB ck 0 (s.length : Int)
   ·have hres : res = false := by
     rw [← HRES.out]
     have : inRange b.ss l = false := by
      unfold inRange
      rw [List.all_eq_false]
      exact ⟨k, by simpa using hlt, by rw [hgk, hin]; simp⟩
     rw [this, Bool.false_and]
    subst hres
    have HIN := Hh hin
    clear hin hgk
    go_wp2
    (refine wp_region_bel (by kernel_rfl) (by kernel_rfl) ?_; (repeat (go_big_quiet_step ((go_at_call 58; with_reducible exact Calls.bel_of_same (rin_at HIN.out))))); refine wpQuiet_nil ?_; rintro _ ⟨xq, rfl⟩)
    go_wp2
    exact bodyPost_ret (v := .tuple #[.bool false, .int .i64 0]) (by simp [results, Tryz.results35, go_sem, *]) rfl ⟨rfl, Below.next hbr (later_below _ _)⟩
   ·have hg2 : ∀ i, i < k + 1 → inB (l.getD i 0) 0 (((b.ss[i]?).elim 0 List.length : Nat) : Int) = true := fun i hi => by
     by_cases hik : i < k
     ·exact hG.out i hik
     ·obtain rfl : i = k := by omega
      rw [hgk]; exact hin
    have HG2 := Hh hg2
    have HIN := Hh hin
    clear hin hgk hg2
    go_wp2
    (refine wp_region_bel (by kernel_rfl) (by kernel_rfl) ?_; (repeat (go_big_quiet_step ((go_at_call 58; with_reducible exact Calls.bel_of_same (rin_at HIN.out))))); refine wpQuiet_nil ?_; rintro _ ⟨xq, rfl⟩)
    go_wp2
    go_roundw
    case rel => exact ⟨k + 1, by omega, by go_num, HG2.out, Below.next hW (later_below _ _)⟩
    case measure => simp [intOf]; omega
  ·have hir : inRange b.ss l = true := by
    unfold inRange
    rw [List.all_eq_true]
    intro i hi
    exact hG.out i (by simp at hi; omega)
   have hC := inRange_came hir HLEN.out
   have hres := HRES.out
   rw [hir, Bool.true_and] at hres
   have HRES2 := Hh hres
   have HC := Hh hC
   clear hir hC hres
   go_wp2_with (go_at_call 101; (with_reducible refine (rRightAll_at (HB.out.below hbr) HO.out (HL.out.below hbr) rfl HLEN.out HC.out HRR.out HRES2.out).mono ?_); rintro e w5 ⟨rfl, hb5⟩)
   exact bodyPost_ret (v := .tuple #[.bool res, .int .i64 0]) (by simp [results, Tryz.results35, go_sem, *]) rfl ⟨rfl, Below.next hbr hb5⟩
end
end Go.Proofs.YtbibidfkbdhblaaGreatDoor
