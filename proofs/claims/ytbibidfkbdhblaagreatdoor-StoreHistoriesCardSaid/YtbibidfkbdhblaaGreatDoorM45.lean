/- Leads to StoreHistories of chapter 6: E11 E12 E13. -/
import Derived.Test.YtbibidfkbdhblaaGreatDoorM44
set_option maxHeartbeats 4000000
set_option maxRecDepth 100000
set_option linter.all false
namespace Go.Proofs.YtbibidfkbdhblaaGreatDoor
open Go.RowKit Go.Maps Sp
theorem listInfo : (Tryz.prog.info? 27).map (fun i => (i.zero, i.size, i.bytes)) = some (some (.slice none 0 0), 1, 24) := by kernel_rfl
def PastsOut (W : World) (ls : List (List Int)) (e : Ending) (W' : World) : Prop := ∃ a c vs, e = .returned (.slice a ls.length c) ∧ W'.ownsRow W.heap.size 27 1 (.slice a ls.length c) ls.length vs ∧ ListsV W' vs ls ∧ Below W.heap.size W W'
def PreIn (ss : List (List Prt)) (pre : List Int) : Prop := ∀ i (h : i < pre.length), 0 ≤ pre[i] ∧ ∃ h2 : i < ss.length, pre[i] ≤ (ss[i].length : Int)
theorem came_pre {b : Bk} {pre : List Int} (h : PreIn b.ss pre) (hl : pre.length = b.ss.length) : Came b pre := fun i hi => by
 obtain ⟨h1, h2, h3⟩ := h i (by omega)
 rw [getD_of_lt (by omega)]
 exact ⟨h1, h3⟩
theorem fuel_pasts {b : Bk} {n : Nat} {l : List (List Prt)} {pre : List Int} {s : List Prt} (hp : ∀ s ∈ b.ss, s.length ≤ 5) (hl : ∀ x ∈ s :: l, x.length ≤ 5) (h4 : (s :: l).length ≤ 4) (hn : n ≤ s.length + 1) : ((List.range n).flatMap fun (n : Nat) => pastsFrom b (pre ++ [(n : Int)]) l).length ≤ 1296 := by
 rw [List.length_flatMap]
 have h1 : ∀ (ns : List Nat), (ns.map fun (n : Nat) => (pastsFrom b (pre ++ [(n : Int)]) l).length).sum ≤ ns.length * 6 ^ l.length := by
  intro ns
  induction ns with
  | nil => simp
  | cons n ns ih =>
   have := pastsFrom_le (b := b) l (pre ++ [(n : Int)]) (fun s hs => hl s (List.mem_cons_of_mem _ hs))
   simp only [List.map_cons, List.sum_cons, List.length_cons, Nat.succ_mul]
   omega
 have h2 := h1 (List.range n)
 rw [List.length_range] at h2
 have h5 := hl s (List.mem_cons_self ..)
 have h6 : n * 6 ^ l.length ≤ 6 * 6 ^ 3 := Nat.mul_le_mul (by omega) (Nat.pow_le_pow_right (by omega) (by simp at h4; omega))
 omega
section
variable {b : Bk} {vr vg vm vs vc : Value} {w : World}
theorem rPasts_leaf (hB : BookAt w b vr vg vm vs vc) (hO : BkOk b) (hr : ∀ r ∈ b.rs, recAl b r = 0) {pre : List Int} (hl : pre.length = b.ss.length) (hp : PreIn b.ss pre) {la : Option Addr} {lc : Nat} (hL : IntsV w (.slice la pre.length lc) pre) :
 Calls Tryz.prog 132 #[.agg #[vr, vg, vm, vs, vc], .slice la pre.length lc] w (PastsOut w (if right b pre then [pre] else [])) := by
 have hC := came_pre hp hl
 obtain ⟨_, _, e, hI, _⟩ := hL.form
 cases e
 have HB := Hh hB
 have HO := Hh hO
 have HI := Hh hI
 have HC := Hh hC
 have HRR := Hh hr
 have HL := Hh hL
 have HLEN := Hh hl
 obtain ⟨sa, sc, rfl, _, hsl⟩ := hB.ss
 have heq : ((pre.length : Int) == (b.ss.length : Int)) = true := by simp; omega
 clear hB hO hI hC hr hL hp
 generalize hn : pre.length = n at heq
 have HN := Hh hn
 clear hn hl
 cases ht : right b pre
 ·have HT := Hh ht
  clear ht
  go_enter Tryz.func132, Tryz.ntmps132
  go_wp2_with (go_at_call 101; (with_reducible refine (rRightAll_at (HB.out.below (bel)) HO.out (HI.out.below (bel)) HN.out.symm HLEN.out HC.out HRR.out HT.out).mono ?_); rintro e w1 ⟨rfl, hb1⟩)
  go_ret
  exact ⟨none, 0, [], rfl, World.ownsRow_nil _ _ _ _, ListsV.nil _, bel⟩
 ·have HT := Hh ht
  clear ht
  go_enter Tryz.func132, Tryz.ntmps132
  go_wp2_with (go_at_call 101; (with_reducible refine (rRightAll_at (HB.out.below (bel)) HO.out (HI.out.below (bel)) HN.out.symm HLEN.out HC.out HRR.out HT.out).mono ?_); rintro e w1 ⟨rfl, hb1⟩)
  go_ret
  have hbw : Below w.heap.size w w1 := bel
  refine ⟨some ⟨w1.heap.size, 0, none⟩, 1, [.slice la n lc], rfl, World.ownsRow_lit w1 #[.slice la n lc] 1 hbw.size (by decide) rfl, ListsV.single ?_, bel⟩
  rw [← HN.out]
  exact (HL.out.below hbw).below (bal _ _)
end
theorem flat_succ (f : Nat → List (List Int)) (k : Nat) : (List.range (k + 1)).flatMap f = (List.range k).flatMap f ++ f k := by
 rw [List.range_succ, List.flatMap_append]; simp
theorem intsV_pre {w : World} {B n c : Nat} {a : Option Addr} {pre : List Int} {k : Int} (h : w.ownsRow B 3 1 (.slice a n c) n ([] ++ pre.map (Value.int .i64) ++ [.int .i64 k])) : IntsV w (.slice a n c) (pre ++ [k]) := IntsV.of (l := pre ++ [k]) (by simpa using h)
section
variable {b : Bk} {vr vg vm vs vc : Value} {w : World}
theorem rPasts_step (hB : BookAt w b vr vg vm vs vc) (hp5 : ∀ s ∈ b.ss, s.length ≤ 5) (h4 : b.ss.length ≤ 4) {pre : List Int} {s : List Prt} {l : List (List Prt)} (hs : b.ss.drop pre.length = s :: l)
 (hin : ∀ n : Nat, n ≤ s.length → ∀ W la lc, Below w.heap.size w W → IntsV W (.slice la (pre.length + 1) lc) (pre ++ [(n : Int)]) → Calls Tryz.prog 132 #[.agg #[vr, vg, vm, vs, vc], .slice la (pre.length + 1) lc] W (PastsOut W (pastsFrom b (pre ++ [(n : Int)]) l)))
 {la : Option Addr} {lc : Nat} (hL : IntsV w (.slice la pre.length lc) pre) :
 Calls Tryz.prog 132 #[.agg #[vr, vg, vm, vs, vc], .slice la pre.length lc] w (PastsOut w ((List.range (s.length + 1)).flatMap fun (n : Nat) => pastsFrom b (pre ++ [(n : Int)]) l)) := by
 have hlt : pre.length < b.ss.length := by
  apply Classical.byContradiction
  intro h
  rw [List.drop_eq_nil_of_le (by omega)] at hs
  cases hs
 have hsl : (s :: l).length ≤ 4 := by rw [← hs, List.length_drop]; omega
 have hall : ∀ x ∈ s :: l, x.length ≤ 5 := fun x hx => hp5 x (List.mem_of_mem_drop (hs ▸ hx))
 have hfew := fun n (hn : n ≤ s.length + 1) => fuel_pasts (b := b) (pre := pre) hp5 hall hsl hn
 have hsx : b.ss[pre.length] = s := by
  rw [List.drop_eq_getElem_cons hlt] at hs
  exact (List.cons.inj hs).1
 have hs5 : s.length ≤ 5 := hall s (List.mem_cons_self ..)
 obtain ⟨sa, sc, rfl, hS, hsl6⟩ := hB.ss
 obtain ⟨sb, so, rfl, hsb, pa, pc, h0, hpc, hpl, hPx⟩ := hS pre.length hlt
 clear hPx
 rw [hsx] at h0 hpc hpl
 obtain ⟨_, _, e, hI, hz, hlc⟩ := hL.form
 cases e
 have hlat0 : ∀ ad, la = some ad → ad.block < w.heap.size := fun ad e => (ownBlock_row hL ad.block (by rw [e]; rfl)).2
 have HLAT := Hh hlat0
 clear hlat0
 have HB := Hh hB
 have HIN := Hh hin
 have HI := Hh hI
 have HZ := Hh hz
 have HFEW := Hh hfew
 have heq : ((pre.length : Int) == (b.ss.length : Int)) = false := by simp; omega
 have hpi : (pre.length : Int) < b.ss.length := by omega
 have hp0 : (0 : Int) ≤ (pre.length : Int) := by omega
 have hp4 : pre.length < 4 := by omega
 generalize hflat : (fun (n : Nat) => pastsFrom b (pre ++ [(n : Int)]) l) = f at hfew
 have HF := Hh hflat
 have HIN2 : Hid (∀ n : Nat, n ≤ s.length → ∀ W la lc, Below w.heap.size w W → IntsV W (.slice la (pre.length + 1) lc) (pre ++ [(n : Int)]) → Calls Tryz.prog 132 #[.agg #[vr, vg, vm, .slice (some ⟨sb, so, none⟩) b.ss.length sc, vc], .slice la (pre.length + 1) lc] W (PastsOut W (f n))) := by rw [← hflat]; exact hin
 have HFEW2 : Hid (∀ n, n ≤ s.length + 1 → ((List.range n).flatMap f).length ≤ 1296) := hfew
 clear hB hp5 hin hI hz hfew hS hs hsx hlt hall hsl hL HIN HFEW hflat
 generalize hpn : pre.length = pn at heq hpi hp0 hp4 h0 hlc
 have HPN := Hh hpn
 rw [hpn] at HIN2
 clear hpn
 go_enter Tryz.func132, Tryz.ntmps132
 go_wp2
 obtain ⟨W0, hW0⟩ : ∃ W0, W0 = w.alloc (.cells #[vr, vg, vm, .slice (some ⟨sb, so, none⟩) b.ss.length sc, vc] 26) := ⟨_, rfl⟩
 rw [← hW0]
 have hb0 : Below w.heap.size w W0 := by rw [hW0]; (exact bel)
 have nn : ∀ k u, (#[vr, vg, vm, .slice (some ⟨sb, so, none⟩) b.ss.length sc, vc] : Array Value)[k]? = some u → W0.cell? ⟨w.heap.size, k, none⟩ = some u := fun k u hk => by
  rw [hW0, World.cell?_alloc_at _ _ _ _ rfl]; exact hk
 have hs0 : w.heap.size < W0.heap.size := by rw [hW0]; simp
 have hall : ∀ w' : World, Below W0.heap.size W0 w' → (Below W0.heap.size W0 w' ∧ w'.cell? ⟨w.heap.size, 0, none⟩ = some vr ∧ w'.cell? ⟨w.heap.size, 1, none⟩ = some vg ∧ w'.cell? ⟨w.heap.size, 2, none⟩ = some vm ∧ w'.cell? ⟨w.heap.size, 3, none⟩ = some (.slice (some ⟨sb, so, none⟩) b.ss.length sc) ∧ w'.cell? ⟨w.heap.size, 4, none⟩ = some vc) := fun w' h =>
  ⟨h, (h.cell (p := ⟨w.heap.size, 0, none⟩) hs0).trans (nn 0 _ rfl), (h.cell (p := ⟨w.heap.size, 1, none⟩) hs0).trans (nn 1 _ rfl), (h.cell (p := ⟨w.heap.size, 2, none⟩) hs0).trans (nn 2 _ rfl), (h.cell (p := ⟨w.heap.size, 3, none⟩) hs0).trans (nn 3 _ rfl), (h.cell (p := ⟨w.heap.size, 4, none⟩) hs0).trans (nn 4 _ rfl)⟩
 have HALL := Hh hall
 clear hW0 nn hall
 go_loopw [5, 6] (fun v i wr => ∃ (k : Nat) (a : Option Addr) (c : Nat) (vs : List Value), k ≤ s.length + 1 ∧ i = .int .i64 k ∧ v = .slice a ((List.range k).flatMap f).length c ∧ wr.ownsRow W0.heap.size 27 1 (.slice a ((List.range k).flatMap f).length c) ((List.range k).flatMap f).length vs ∧ ListsV wr vs ((List.range k).flatMap f) ∧ Below W0.heap.size W0 wr) (fun _ i _ => s.length + 1 - (intOf i).toNat)
 case atStart => exact ⟨0, none, 0, [], Nat.zero_le _, rfl, rfl, World.ownsRow_nil _ _ _ _, ListsV.nil _, Below.refl _ _⟩
 case round =>
  obtain ⟨k, a, c, vs, hk, rfl, rfl, hrow, hlv, hW⟩ := hrel
  have hWs := hW.size
  obtain ⟨_, m0, m1, m2, m3, m4⟩ := HALL.out _ hW
  have hbw := Below.next hb0 hW
  have hx1 : w.heap.size < wr.heap.size := by omega
  have g0 := (hbw.cell hsb).trans h0
  have hsb2 : sb < wr.heap.size := Nat.lt_of_lt_of_le hsb hbw.size
  have HROW := Hh hrow
  have HLV := Hh hlv
  by_cases hlt : k ≤ s.length
  ·have hfl := flat_succ f k
   have hf1 := HFEW2.out (k + 1) (by omega)
   rw [hfl, List.length_append] at hf1
   have HFL := Hh hfl
   clear hrow hlv hfl
   have hcall := HIN2.out k hlt
   have HCALL := Hh hcall
   have hsrc : Src1 wr la lc (pre.map (Value.int .i64)) := (ints_src (HI.out.below hbw) HZ.out)
   have HSRC := Hh hsrc
   have HBW := Hh hbw
   have HLEN := Hh (show (pre.map (Value.int .i64)).length = pn by rw [List.length_map]; exact HPN.out)
   have HONE := Hh (show ∀ u ∈ pre.map (Value.int .i64), u.oneCell' = true from fun u hu => by obtain ⟨x, _, rfl⟩ := List.mem_map.1 hu; rfl)
   have HLT := Hh (show ∀ ad, la = some ad → ad.block < wr.heap.size from fun ad e => Nat.lt_of_lt_of_le (HLAT.out ad e) hbw.size)
   clear hcall hsrc
   generalize hout : (List.range k).flatMap f = out at hf1 HROW HLV HFL
   generalize hnew : f k = new at hf1 HFL HCALL
   have HO1 := Hh hout
   have HNW := Hh hnew
   clear hout hnew
   go_wp2
   go_region_held3 (fun w' => Below W0.heap.size W0 w' ∧ w'.cell? ⟨w.heap.size, 0, none⟩ = some vr ∧ w'.cell? ⟨w.heap.size, 1, none⟩ = some vg ∧ w'.cell? ⟨w.heap.size, 2, none⟩ = some vm ∧ w'.cell? ⟨w.heap.size, 3, none⟩ = some (.slice (some ⟨sb, so, none⟩) b.ss.length sc) ∧ w'.cell? ⟨w.heap.size, 4, none⟩ = some vc)
    ((go_split_ands; exact HALL.out _ (bel)))
    (first
      | (refine step_appW wr rfl _ _ 27 rfl 3 Tryz.underlying27 intInfo rfl (by omega) (.slice (some ⟨wr.heap.size, 0, none⟩) 0 0) 0 [] rfl la pn lc (pre.map (Value.int .i64)) rfl HLEN.out HONE.out pn (by omega) (by omega) ?_ ?_ ?_ ?_; (focus ((exact bel))); exact own_lit rfl (Nat.le_refl _); exact (HSRC.out).ks (KS.all (show Below wr.heap.size wr _ from bel) (fun _ => True)) (fun ad e => ⟨HLT.out ad e, trivial⟩); intro a2 c2 w2 hown2 hks2 hbw2)
      | (refine step_appW wr rfl _ _ 27 rfl 3 Tryz.underlying27 intInfo rfl (by omega) (.slice (some ⟨wr.heap.size, 0, none⟩) 0 0) 0 [] rfl la pn lc (pre.map (Value.int .i64)) rfl HLEN.out HONE.out pn (by omega) (by omega) ?_ ?_ ?_ ?_; (focus ((exact bel))); exact (own_lit (w := wr.drew) rfl (Nat.le_refl _)).alloc _; exact (HSRC.out).ks (KS.all (show Below wr.heap.size wr _ from bel) (fun _ => True)) (fun ad e => ⟨HLT.out ad e, trivial⟩); intro a2 c2 w2 hown2 hks2 hbw2; have hsrc2 : Src1 w2 (some ⟨wr.heap.size + 1, 0, none⟩) 1 [.int .i64 k] := (src_new (wr.drew.alloc (.cells #[] 3)) [.int .i64 k] 3 (n := wr.heap.size + 1) (by simp) 1).ks hks2 (fun ad e => by cases e; exact ⟨by simp, by simp [Value.ownBlock]⟩))
      | (refine step_appW wr rfl _ _ 27 rfl 3 Tryz.underlying27 intInfo rfl (by omega) (.slice (some ⟨wr.heap.size + 1, 0, none⟩) 0 0) 0 [] rfl la pn lc (pre.map (Value.int .i64)) rfl HLEN.out HONE.out pn (by omega) (by omega) ?_ ?_ ?_ ?_; (focus ((exact bel))); exact own_lit (by simp) (by omega); exact (HSRC.out).ks (KS.all (show Below wr.heap.size wr _ from bel) (fun _ => True)) (fun ad e => ⟨HLT.out ad e, trivial⟩); intro a2 c2 w2 hown2 hks2 hbw2; have hsrc2 : Src1 w2 (some ⟨wr.heap.size, 0, none⟩) 1 [.int .i64 k] := ((src_new wr.drew [.int .i64 k] 3 (n := wr.heap.size) rfl 1).ks (KS.alloc (fun _ => True) _ (.cells #[] 3)) (fun ad e => by cases e; exact ⟨by simp, trivial⟩)).ks hks2 (fun ad e => by cases e; exact ⟨by simp; omega, by simp [Value.ownBlock]⟩))
      | (refine step_appW wr rfl _ _ 27 rfl 3 Tryz.underlying27 intInfo rfl (by omega) (.slice a2 pn c2) pn ([] ++ pre.map (Value.int .i64)) rfl (some ⟨w2.heap.size, 0, none⟩) 1 1 [.int .i64 k] rfl rfl (by simp [Value.oneCell']) (pn + 1) rfl (by omega) ?_ ?_ ?_ ?_; (focus ((exact bel))); exact hown2.alloc _; exact src_new w2 [.int .i64 k] 3 rfl 1; intro a4 c4 w4 hown4 hks4 hbw4)
      | (refine step_appW wr rfl _ _ 27 rfl 3 Tryz.underlying27 intInfo rfl (by omega) (.slice a2 pn c2) pn ([] ++ pre.map (Value.int .i64)) rfl (some ⟨wr.heap.size + 1, 0, none⟩) 1 1 [.int .i64 k] rfl rfl (by simp [Value.oneCell']) (pn + 1) rfl (by omega) ?_ ?_ ?_ ?_; (focus ((exact bel))); exact hown2; exact hsrc2; intro a4 c4 w4 hown4 hks4 hbw4)
      | (refine step_appW wr rfl _ _ 27 rfl 3 Tryz.underlying27 intInfo rfl (by omega) (.slice a2 pn c2) pn ([] ++ pre.map (Value.int .i64)) rfl (some ⟨wr.heap.size, 0, none⟩) 1 1 [.int .i64 k] rfl rfl (by simp [Value.oneCell']) (pn + 1) rfl (by omega) ?_ ?_ ?_ ?_; (focus ((exact bel))); exact hown2; exact hsrc2; intro a4 c4 w4 hown4 hks4 hbw4)
      | (go_at_call 132; go_split_ands; (with_reducible refine (HCALL.out w4 a4 c4 (Below.next hbw hbw4) (intsV_pre hown4)).mono ?_); rintro e w5 ⟨a5, c5, vs5, rfl, hrow5, hl5, hb5⟩; have hbr5 : Below wr.heap.size wr w5 := Below.next hbw4 hb5; have hown5 := ownsRow_below HROW.out hbr5)
      | (refine step_appW W0 rfl _ _ 112 rfl 27 Tryz.underlying112 listInfo rfl (by omega) (.slice a out.length c) out.length vs rfl a5 new.length c5 vs5 rfl hl5.1 hl5.one (out.length + new.length) rfl (by omega) ?_ ?_ ?_ ?_; exact Below.next hW hbr5; exact hown5; exact src_row hrow5; intro a6 c6 w6 hown6 hks6 hbw6))
   all_goals
    have hl6 := ((HLV.out.below hbr5).append hl5).keep hown5 (by decide) hks6
    rw [← HFL.out] at hl6
    have hlen6 : out.length + new.length = ((List.range (k + 1)).flatMap f).length := by rw [HFL.out, List.length_append]
    rw [hlen6] at hown6
    have HL6 := Hh hl6
    have HR6 := Hh hown6
    have HE6 := Hh hlen6
    have HB6 := Hh hbw6
    clear hl6 hown6 hlen6 hks6
    go_wp2
    go_roundw
    case rel => exact ⟨k + 1, a6, c6, _, by omega, by go_num, by rw [HE6.out], HR6.out, HL6.out, HB6.out⟩
    case measure => simp [intOf]; omega
  ·obtain rfl : k = s.length + 1 := by omega
   clear hrow hlv
   go_wp2
   go_ret
   exact ⟨a, c, vs, rfl, ownsRow_base HROW.out (by omega), HLV.out, hbw⟩
end
section
variable {b : Bk} {vr vg vm vs vc : Value} {w : World}
theorem rPasts_at (hO : BkOk b) (hr : ∀ r ∈ b.rs, recAl b r = 0) : ∀ (l : List (List Prt)) (pre : List Int) (w : World) (la : Option Addr) (lc : Nat), BookAt w b vr vg vm vs vc → b.ss.drop pre.length = l → pre.length ≤ b.ss.length → PreIn b.ss pre → IntsV w (.slice la pre.length lc) pre →
 Calls Tryz.prog 132 #[.agg #[vr, vg, vm, vs, vc], .slice la pre.length lc] w (PastsOut w (pastsFrom b pre l))
 | [], pre, w, la, lc, hB, hs, hle, hp, hL => by
  have hl : pre.length = b.ss.length := by
   apply Classical.byContradiction
   intro h
   have := congrArg List.length hs
   rw [List.length_drop, List.length_nil] at this
   omega
  unfold pastsFrom
  exact rPasts_leaf hB hO hr hl hp hL
 | s :: l, pre, w, la, lc, hB, hs, hle, hp, hL => by
  have hlt : pre.length < b.ss.length := by
   apply Classical.byContradiction
   intro h
   rw [List.drop_eq_nil_of_le (by omega)] at hs
   cases hs
  have hd := List.drop_eq_getElem_cons hlt
  rw [hs] at hd
  obtain ⟨h1, h2⟩ := List.cons.inj hd
  unfold pastsFrom
  refine rPasts_step hB hO.pl hO.sl hs (fun n hn W la' lc' hW hL' => ?_) hL
  have := rPasts_at hO hr l (pre ++ [(n : Int)]) W la' lc' (hB.below hW) (by rw [List.length_append]; exact h2.symm) (by rw [List.length_append]; simp; omega) (fun i hi => ?_) (by rw [List.length_append]; exact hL')
  ·rw [List.length_append] at this; exact this
  ·rw [List.length_append] at hi
   by_cases hip : i < pre.length
   ·rw [List.getElem_append_left hip]
    exact hp i hip
   ·obtain rfl : i = pre.length := by simp at hi; omega
    rw [List.getElem_append_right (Nat.le_refl _)]
    simp only [Nat.sub_self, List.getElem_cons_zero]
    exact ⟨by omega, hlt, by rw [← h1]; omega⟩
theorem rPastsOf_at (hB : BookAt w b vr vg vm vs vc) (hO : BkOk b) (hr : ∀ r ∈ b.rs, recAl b r = 0) :
 Calls Tryz.prog 83 #[.agg #[vr, vg, vm, vs, vc]] w (PastsOut w (pasts b)) := by
 have hc : ∀ (W : World) (hb : Below w.heap.size w W), Calls Tryz.prog 132 #[.agg #[vr, vg, vm, vs, vc], .slice none 0 0] W (PastsOut W (pasts b)) := fun (W : World) (hb : Below w.heap.size w W) => rPasts_at (vr := vr) (vg := vg) (vm := vm) (vs := vs) (vc := vc) hO hr b.ss [] W none 0 (hB.below hb) rfl (Nat.zero_le _) (fun i hi => absurd hi (Nat.not_lt_zero _)) (IntsV.nil _)
 have HC := Hh hc
 clear hc hB hO hr
 go_enter Tryz.func83, Tryz.ntmps83
 go_wp2_with (go_at_call 132; (with_reducible refine (HC.out _ (bel)).mono ?_); rintro e w1 ⟨a, c, vs', rfl, h1, h2, h3⟩)
 go_ret
 exact ⟨a, c, vs', rfl, ownsRow_base h1 (by simp), h2, bel⟩
theorem rHistories_at (hB : BookAt w b vr vg vm vs vc) (hN : ∀ m ∈ b.ms, m.name.size ≤ 1000000) :
 Calls Tryz.prog 39 #[.agg #[vr, vg, vm, vs, vc]] w fun e w' => e = .returned (.tuple #[.int .i64 (if bookAl b = 0 then ((pasts b).length : Nat) else 0), .int .i64 (bookAl b)]) ∧ Below w.heap.size w w' := by
 have HB := Hh hB
 have HN := Hh hN
 obtain ⟨rfl, rfl, ⟨ma, mc, rfl, _, _⟩, ⟨sa, sc, rfl, _, _⟩, ra, rc, rfl, _, _⟩ := id hB
 clear hB hN
 by_cases hk : bookAl b = 0
 ·have H0 := Hh hk
  have HO := Hh (bookAl_ok hk).1
  have HR := Hh (bookAl_ok hk).2
  rw [hk, if_pos rfl]
  clear hk
  go_enter Tryz.func39, Tryz.ntmps39
  go_wp2_with (first
   | (go_at_call 37; (with_reducible refine (rCheckBook_at (HB.out.below (bel)) HN.out H0.out).mono ?_); rintro e w1 ⟨rfl, hb1⟩; obtain ⟨hc1, hf1⟩ := bcell hb1; have hz1 : w.heap.size < w1.heap.size := (by have := hb1.size; simp at this; omega))
   | (go_at_call 83; (with_reducible refine (rPastsOf_at (HB.out.below (bel)) HO.out HR.out).mono ?_); rintro e w3 ⟨a, c, vs', rfl, h1, h2, hb3⟩))
  exact bodyPost_ret (v := .tuple #[.int .i64 ((pasts b).length : Nat), .int .i64 0]) (by simp [results, Tryz.results39, go_sem, *]) rfl ⟨rfl, bel⟩
 ·rw [if_neg hk]
  generalize ht : bookAl b = t at hk
  have H0 := Hh ht
  have hz3 : (t != 0) = true := by simpa using hk
  clear ht
  go_enter Tryz.func39, Tryz.ntmps39
  go_wp2_with (go_at_call 37; (with_reducible refine (rCheckBook_at (HB.out.below (bel)) HN.out H0.out).mono ?_); rintro e w1 ⟨rfl, hb1⟩; obtain ⟨hc1, hf1⟩ := bcell hb1; have hz1 : w.heap.size < w1.heap.size := (by have := hb1.size; simp at this; omega))
  exact bodyPost_ret (v := .tuple #[.int .i64 0, .int .i64 t]) (by simp [results, Tryz.results39, go_sem, *]) rfl ⟨rfl, bel⟩
def askedAl (b : Bk) (is : Bool) : Int := if bookAl b ≠ 0 then bookAl b else if is = false then 6 else if pasts b = [] then 10 else 0
theorem askedAl_ok {b : Bk} {is : Bool} (h : askedAl b is = 0) : bookAl b = 0 ∧ is = true ∧ pasts b ≠ [] := by
 unfold askedAl at h
 split at h
 ·rename_i hh; exact absurd h hh
 ·rename_i hh
  split at h
  ·cases h
  ·rename_i h2
   split at h
   ·cases h
   ·rename_i h3; exact ⟨Classical.not_not.1 hh, by simpa using h2, h3⟩
theorem rAsked_no (hB : BookAt w b vr vg vm vs vc) (hN : ∀ m ∈ b.ms, m.name.size ≤ 1000000) (is : Bool) {t : Int} (ht : askedAl b is = t) (h0 : t ≠ 0) :
 Calls Tryz.prog 70 #[.agg #[vr, vg, vm, vs, vc], .bool is] w fun e w' => e = .returned (.tuple #[.slice none 0 0, .int .i64 t]) ∧ Below w.heap.size w w' := by
 have HB := Hh hB
 have HN := Hh hN
 obtain ⟨rfl, rfl, ⟨ma, mc, rfl, _, _⟩, ⟨sa, sc, rfl, _, _⟩, ra, rc, rfl, _, _⟩ := id hB
 clear hB hN
 by_cases hk : bookAl b = 0
 case neg =>
  have h1 : askedAl b is = bookAl b := by unfold askedAl; rw [if_pos hk]
  rw [h1] at ht
  have H0 := Hh ht
  have hz3 : (t != 0) = true := by simpa using h0
  clear ht h1 hk h0
  go_enter Tryz.func70, Tryz.ntmps70
  go_wp2_with (go_at_call 37; (with_reducible refine (rCheckBook_at (HB.out.below (bel)) HN.out H0.out).mono ?_); rintro e w1 ⟨rfl, hb1⟩; obtain ⟨hc1, hf1⟩ := bcell hb1; have hz1 : w.heap.size < w1.heap.size := (by have := hb1.size; simp at this; omega))
  exact bodyPost_ret (v := .tuple #[.slice none 0 0, .int .i64 t]) (by simp [results, Tryz.results70, go_sem, *]) rfl ⟨rfl, bel⟩
 have H0 := Hh hk
 have HO := Hh (bookAl_ok hk).1
 have HR := Hh (bookAl_ok hk).2
 cases is
 ·have h1 : t = 6 := by rw [← ht]; unfold askedAl; rw [if_neg (by simpa using hk), if_pos rfl]
  subst h1
  clear ht hk h0
  go_enter Tryz.func70, Tryz.ntmps70
  go_wp2_with (go_at_call 37; (with_reducible refine (rCheckBook_at (HB.out.below (bel)) HN.out H0.out).mono ?_); rintro e w1 ⟨rfl, hb1⟩; obtain ⟨hc1, hf1⟩ := bcell hb1; have hz1 : w.heap.size < w1.heap.size := (by have := hb1.size; simp at this; omega))
  exact bodyPost_ret (v := .tuple #[.slice none 0 0, .int .i64 6]) (by simp [results, Tryz.results70, go_sem, *]) rfl ⟨rfl, bel⟩
 ·have hp : pasts b = [] := by
   apply Classical.byContradiction
   intro hp
   apply h0
   rw [← ht]; unfold askedAl; rw [if_neg (by simpa using hk), if_neg (by simp), if_neg hp]
  have h1 : t = 10 := by rw [← ht]; unfold askedAl; rw [if_neg (by simpa using hk), if_neg (by simp), if_pos hp]
  subst h1
  have hpl : (pasts b).length = 0 := by rw [hp]; rfl
  have HP := Hh hpl
  clear ht hk h0 hp hpl
  go_enter Tryz.func70, Tryz.ntmps70
  go_wp2_with (first
   | (go_at_call 37; (with_reducible refine (rCheckBook_at (HB.out.below (bel)) HN.out H0.out).mono ?_); rintro e w1 ⟨rfl, hb1⟩; obtain ⟨hc1, hf1⟩ := bcell hb1; have hz1 : w.heap.size < w1.heap.size := (by have := hb1.size; simp at this; omega))
   | (go_at_call 83; (with_reducible refine (rPastsOf_at (HB.out.below (bel)) HO.out HR.out).mono ?_); rintro e w3 ⟨a, c, vs', rfl, h1, h2, hb3⟩; rw [HP.out]))
  exact bodyPost_ret (v := .tuple #[.slice none 0 0, .int .i64 10]) (by simp [results, Tryz.results70, go_sem, *]) rfl ⟨rfl, bel⟩
def AskedOut (W : World) (ls : List (List Int)) (e : Ending) (W' : World) : Prop := ∃ a c vs, e = .returned (.tuple #[.slice a ls.length c, .int .i64 0]) ∧ W'.ownsRow W.heap.size 27 1 (.slice a ls.length c) ls.length vs ∧ ListsV W' vs ls ∧ Below W.heap.size W W'
theorem rAsked_ok (hB : BookAt w b vr vg vm vs vc) (hN : ∀ m ∈ b.ms, m.name.size ≤ 1000000) (ht : askedAl b true = 0) :
 Calls Tryz.prog 70 #[.agg #[vr, vg, vm, vs, vc], .bool true] w (AskedOut w (pasts b)) := by
 obtain ⟨hk, _, hp⟩ := askedAl_ok ht
 have HB := Hh hB
 have HN := Hh hN
 obtain ⟨rfl, rfl, ⟨ma, mc, rfl, _, _⟩, ⟨sa, sc, rfl, _, _⟩, ra, rc, rfl, _, _⟩ := id hB
 have H0 := Hh hk
 have HO := Hh (bookAl_ok hk).1
 have HR := Hh (bookAl_ok hk).2
 have hpl : (((pasts b).length : Nat) : Int) == 0 ↔ False := by
  have : (pasts b).length ≠ 0 := fun h => hp (List.length_eq_zero_iff.1 h)
  simp; exact hp
 have hpl2 : ((((pasts b).length : Nat) : Int) == 0) = false := by simpa using hp
 clear hB hN hk hp ht hpl
 go_enter Tryz.func70, Tryz.ntmps70
 go_wp2_with (first
  | (go_at_call 37; (with_reducible refine (rCheckBook_at (HB.out.below (bel)) HN.out H0.out).mono ?_); rintro e w1 ⟨rfl, hb1⟩; obtain ⟨hc1, hf1⟩ := bcell hb1; have hz1 : w.heap.size < w1.heap.size := (by have := hb1.size; simp at this; omega))
  | (go_at_call 83; (with_reducible refine (rPastsOf_at (HB.out.below (bel)) HO.out HR.out).mono ?_); rintro e w3 ⟨a, c, vs', rfl, h1, h2, hb3⟩))
 have hbw : Below w.heap.size w w1 := bel
 exact bodyPost_ret (v := .tuple #[.slice a (pasts b).length c, .int .i64 0]) (by simp [results, Tryz.results70, go_sem, *]) rfl ⟨a, c, vs', rfl, ownsRow_base h1 hbw.size, h2, bel⟩
end
end Go.Proofs.YtbibidfkbdhblaaGreatDoor
