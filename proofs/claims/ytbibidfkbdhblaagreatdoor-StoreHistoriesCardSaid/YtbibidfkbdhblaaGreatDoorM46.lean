/- Leads to StoreHistories of chapter 6: E14 Y1 V11 V12. -/
import Derived.Test.YtbibidfkbdhblaaGreatDoorM45
import Derived.Laws.CopyOwn
set_option maxHeartbeats 2000000
set_option maxRecDepth 100000
set_option linter.all false
namespace Go.Proofs.YtbibidfkbdhblaaGreatDoor
open Go.RowKit Go.Maps Sp
def throughTo (b : Bk) (s : Nat) (k : Nat) : List Int := ((List.range k).filter fun (n : Nat) => (pasts b).any fun x => x.getD s 0 == (n : Int)).map fun (n : Nat) => (n : Int)
theorem throughTo_succ (b : Bk) (s k : Nat) : throughTo b s (k + 1) = if (pasts b).any (fun x => x.getD s 0 == (k : Int)) = true then throughTo b s k ++ [(k : Int)] else throughTo b s k := by
 unfold throughTo
 rw [List.range_succ, List.filter_append]
 cases h : (pasts b).any (fun x => x.getD s 0 == (k : Int)) <;> simp only [List.filter_cons, h, List.filter_nil, Bool.false_eq_true, if_false, if_true, List.append_nil, List.map_append, List.map_cons, List.map_nil]
theorem throughTo_len (b : Bk) (s k : Nat) : (throughTo b s k).length ≤ k := by
 unfold throughTo
 rw [List.length_map]
 exact Nat.le_trans (List.length_filter_le _ _) (by simp)
theorem any_take_succ {α : Type} (f : α → Bool) (l : List α) (i : Nat) (h : i < l.length) : (l.take (i + 1)).any f = ((l.take i).any f || f l[i]) := by
 rw [List.take_succ_eq_append_getElem h, List.any_append]
 simp
def throughR (b : Bk) (s : Int) : List Int := throughTo b s.toNat (((b.ss[s.toNat]?).elim 0 List.length) + 1)
theorem asked_through {b : Bk} {s : Int} : askedAl b (inB s 0 ((b.ss.length : Int) - 1)) = throughAl b s := by
 unfold askedAl throughAl throughAsk openAl
 cases inB s 0 ((b.ss.length : Int) - 1) <;> simp
section
variable {b : Bk} {vr vg vm vs vc : Value} {w : World}
theorem rThrough_no (hB : BookAt w b vr vg vm vs vc) (hN : ∀ m ∈ b.ms, m.name.size ≤ 1000000) (s : Int) {t : Int} (ht : throughAl b s = t) (h0 : t ≠ 0) :
 Calls Tryz.prog 41 #[.agg #[vr, vg, vm, vs, vc], .int .i64 s] w fun e w' => e = .returned (.tuple #[.slice none 0 0, .int .i64 t]) ∧ Below w.heap.size w w' := by
 have HB := Hh hB
 have HN := Hh hN
 rw [← asked_through] at ht
 obtain ⟨rfl, rfl, ⟨ma, mc, rfl, _, _⟩, ⟨sa, sc, rfl, _, hsl⟩, ra, rc, rfl, _, _⟩ := id hB
 have hz3 : (t != 0) = true := by simpa using h0
 generalize hin : inB s 0 ((b.ss.length : Int) - 1) = is at ht
 have HIN := Hh hin
 have HT := Hh ht
 have H00 := Hh h0
 clear hB hN hin ht h0
 go_enter Tryz.func41, Tryz.ntmps41
 go_wp2
 (refine wp_region_bel (by kernel_rfl) (by kernel_rfl) ?_; (repeat (go_big_quiet_step ((first | (go_at_call 113; with_reducible exact Calls.bel_of_same (there_at hsl HIN.out)) | (go_at_call 70; with_reducible exact Calls.bel_of (rAsked_no (HB.out.below (Below.next (Below.al (Below.refl _ _) _) (later_below _ _))) HN.out _ HT.out H00.out)))))); refine wpQuiet_nil ?_; rintro _ ⟨xq, rfl⟩)
 go_wp2
 exact bodyPost_ret (v := .tuple #[.slice none 0 0, .int .i64 t]) (by simp [results, Tryz.results41, go_sem, *]) rfl ⟨rfl, Below.next (Below.al (Below.refl _ _) _) (later_below _ _)⟩
theorem rThrough_ok (hB : BookAt w b vr vg vm vs vc) (hN : ∀ m ∈ b.ms, m.name.size ≤ 1000000) (s : Int) (ht : throughAl b s = 0) :
 Calls Tryz.prog 41 #[.agg #[vr, vg, vm, vs, vc], .int .i64 s] w fun e w' => ∃ a c, e = .returned (.tuple #[.slice a (throughR b s).length c, .int .i64 0]) ∧ IntsAt w' a (throughR b s) ∧ Below w.heap.size w w' := by
 rw [← asked_through] at ht
 obtain ⟨hk, hin, hps⟩ := askedAl_ok ht
 rw [hin] at ht
 have hbo := (bookAl_ok hk).1
 have hs0 : 0 ≤ s ∧ s ≤ (b.ss.length : Int) - 1 := by unfold inB at hin; simpa using hin
 have hs4 := hbo.sl
 obtain ⟨sn, rfl⟩ : ∃ sn : Nat, s = sn := ⟨s.toNat, by omega⟩
 have hsn : sn < b.ss.length := by omega
 have hs5 := hbo.pl _ (List.getElem_mem hsn)
 have hpl := pasts_le hbo
 have HPC := Hh (fun x (hx : x ∈ pasts b) => (pasts_came hbo hx).2.2)
 have HB := Hh hB
 have HN := Hh hN
 obtain ⟨rfl, rfl, ⟨ma, mc, rfl, _, _⟩, ⟨sa, sc, rfl, hS, hsl⟩, ra, rc, rfl, _, _⟩ := id hB
 obtain ⟨sb, so, rfl, hsb, pa, pc, h0, hpc, hpl6, hPx⟩ := hS sn hsn
 clear hPx
 have hge : (b.ss[(sn : Int).toNat]?).elim 0 List.length = b.ss[sn].length := by rw [Int.toNat_natCast, List.getElem?_eq_getElem hsn]; rfl
 have htr : throughR b (sn : Int) = throughTo b sn (b.ss[sn].length + 1) := by unfold throughR; rw [hge, Int.toNat_natCast]
 rw [htr]
 have HIN := Hh hin
 have HT := Hh ht
 clear hB hN hin ht hk hps hbo hS htr hge
 generalize b.ss[sn].length = sl at h0 hpc hpl6 hs5
 have hsn1 : (sn : Int) < b.ss.length := by omega
 have hsn0 : (0 : Int) ≤ sn := by omega
 have hsln : sn < 4 := by omega
 have HSN := Hh hsn
 clear hsn hs0
 go_enter Tryz.func41, Tryz.ntmps41
 go_wp2
 obtain ⟨W0, hW0⟩ : ∃ W0, W0 = w.alloc (.cells #[.int .i64 b.room, .int .i64 b.gap, .slice ma b.ms.length mc, .slice (some ⟨sb, so, none⟩) b.ss.length sc, .slice ra b.rs.length rc] 26) := ⟨_, rfl⟩
 rw [← hW0]
 have hb0 : Below w.heap.size w W0 := by rw [hW0]; (exact bel)
 have nn : ∀ k u, (#[.int .i64 b.room, .int .i64 b.gap, .slice ma b.ms.length mc, .slice (some ⟨sb, so, none⟩) b.ss.length sc, .slice ra b.rs.length rc] : Array Value)[k]? = some u → W0.cell? ⟨w.heap.size, k, none⟩ = some u := fun k u hk => by
  rw [hW0, World.cell?_alloc_at _ _ _ _ rfl]; exact hk
 have hs0 : w.heap.size < W0.heap.size := by rw [hW0]; simp
 have hall : ∀ w' : World, Below W0.heap.size W0 w' → (Below W0.heap.size W0 w' ∧ w'.cell? ⟨w.heap.size, 0, none⟩ = some (.int .i64 b.room) ∧ w'.cell? ⟨w.heap.size, 1, none⟩ = some (.int .i64 b.gap) ∧ w'.cell? ⟨w.heap.size, 2, none⟩ = some (.slice ma b.ms.length mc) ∧ w'.cell? ⟨w.heap.size, 3, none⟩ = some (.slice (some ⟨sb, so, none⟩) b.ss.length sc) ∧ w'.cell? ⟨w.heap.size, 4, none⟩ = some (.slice ra b.rs.length rc)) := fun w' h =>
  ⟨h, (h.cell (p := ⟨w.heap.size, 0, none⟩) hs0).trans (nn 0 _ rfl), (h.cell (p := ⟨w.heap.size, 1, none⟩) hs0).trans (nn 1 _ rfl), (h.cell (p := ⟨w.heap.size, 2, none⟩) hs0).trans (nn 2 _ rfl), (h.cell (p := ⟨w.heap.size, 3, none⟩) hs0).trans (nn 3 _ rfl), (h.cell (p := ⟨w.heap.size, 4, none⟩) hs0).trans (nn 4 _ rfl)⟩
 have HALL := Hh hall
 have HB0 := Hh (HB.out.below hb0)
 have n3 := nn 3 _ rfl
 have n0 := nn 0 _ rfl
 have n1 := nn 1 _ rfl
 have n2 := nn 2 _ rfl
 have n4 := nn 4 _ rfl
 clear hW0 nn hall
 go_region_held3 (fun w' => Below W0.heap.size W0 w' ∧ w'.cell? ⟨w.heap.size, 0, none⟩ = some (.int .i64 b.room) ∧ w'.cell? ⟨w.heap.size, 1, none⟩ = some (.int .i64 b.gap) ∧ w'.cell? ⟨w.heap.size, 2, none⟩ = some (.slice ma b.ms.length mc) ∧ w'.cell? ⟨w.heap.size, 3, none⟩ = some (.slice (some ⟨sb, so, none⟩) b.ss.length sc) ∧ w'.cell? ⟨w.heap.size, 4, none⟩ = some (.slice ra b.rs.length rc))
  ((go_split_ands; exact HALL.out _ (bel)))
  (first
    | (go_at_call 113; go_split_ands; (with_reducible refine (there_at hsl HIN.out).mono ?_); rintro e w' ⟨rfl, rfl⟩)
    | (go_at_call 70; go_split_ands; (with_reducible refine (rAsked_ok (HB0.out.below (bel)) HN.out HT.out).mono ?_); rintro e w3 ⟨a3, c3, vs3, rfl, hrow3, hl3, hb3⟩))
 all_goals
  have hbw : Below W0.heap.size W0 w3 := bel
  have hw3 := hbw.size
  obtain ⟨_, m0, m1, m2, m3, m4⟩ := HALL.out _ hbw
  have hbz := Below.next hb0 hbw
  have hx1 : w.heap.size < w3.heap.size := by omega
  have g0 := (hbz.cell hsb).trans h0
  have hsb2 : sb < w3.heap.size := Nat.lt_of_lt_of_le hsb hbz.size
  have HLS := Hh (lists_of_row hrow3 hl3)
  clear hrow3 hl3 n0 n1 n2 n3 n4 m0 m1 m2 m4
  clear hb3
  go_wp2
  go_loopw [8, 9] (fun v i wr => ∃ (k : Nat) (a : Option Addr) (c : Nat), k ≤ sl + 1 ∧ i = .int .i64 k ∧ v = .slice a (throughTo b sn k).length c ∧ wr.ownsRow w3.heap.size 3 1 (.slice a (throughTo b sn k).length c) (throughTo b sn k).length ((throughTo b sn k).map (Value.int .i64)) ∧ Below w3.heap.size w3 wr) (fun _ i _ => sl + 1 - (intOf i).toNat)
  case atStart => exact ⟨0, none, 0, Nat.zero_le _, rfl, rfl, by simpa [throughTo] using World.ownsRow_nil _ _ _ _, Below.refl _ _⟩
  case round =>
   obtain ⟨k, a, c, hk, rfl, rfl, hrow, hW⟩ := hrel
   have hWs := hW.size
   have k3 := (hW.cell (p := ⟨w.heap.size, 3, none⟩) hx1).trans m3
   have hy1 : w.heap.size < wr.heap.size := by omega
   have g1 := (hW.cell hsb2).trans g0
   have hsb3 : sb < wr.heap.size := by omega
   have HROW := Hh hrow
   have htl := throughTo_len b sn k
   by_cases hlt : k ≤ sl
   ·have hsu := throughTo_succ b sn k
    generalize hto : throughTo b sn k = to at hrow HROW hsu htl
    have HTO := Hh hto
    have HSU := Hh hsu
    clear hrow hsu hto
    have hki : (k : Int) ≤ sl := by omega
    go_wp2
    go_loop [10, 11] (fun v i => ∃ (j : Nat), j ≤ (pasts b).length ∧ i = .int .i64 j ∧ v = .bool (((pasts b).take j).any fun x => x.getD sn 0 == (k : Int))) (fun _ i => (pasts b).length - (intOf i).toNat)
    case atStart => exact ⟨0, Nat.zero_le _, rfl, by simp⟩
    case round =>
     obtain ⟨j, hj, rfl, rfl⟩ := hrel
     by_cases hjt : j < (pasts b).length
     ·obtain ⟨lb, lo, rfl, hlb, v, hc, hv⟩ := HLS.out j hjt
      have hc := (hW.cell hlb).trans hc
      have hlb2 : lb < wr.heap.size := by omega
      have hany := any_take_succ (fun x : List Int => x.getD sn 0 == (k : Int)) (pasts b) j hjt
      have hxl := HPC.out _ (List.getElem_mem hjt)
      have hv := hv.below hW
      generalize (pasts b)[j] = x at hany hxl hv
      obtain ⟨xa, xc, rfl, hxi, _, _⟩ := hv.form
      obtain ⟨xb, xo, rfl, hxb, hxc⟩ := hxi sn (by rw [hxl]; exact HSN.out)
      have hgx : x.getD sn 0 = x[sn]'(by rw [hxl]; exact HSN.out) := getD_of_lt _
      have hxl2 : (sn : Int) < x.length := by rw [hxl]; exact hsn1
      rw [hgx] at hany
      generalize x[sn]'(by rw [hxl]; exact HSN.out) = xs at hxc hany
      generalize ((pasts b).take j).any (fun x : List Int => x.getD sn 0 == (k : Int)) = was at hany
      have HANY := Hh hany
      clear hany hgx hxi hv hxl
      cases was
      ·cases hq : (xs == (k : Int))
       all_goals
        go_wp2
        go_roundw
        case rel => exact ⟨j + 1, by omega, by go_num, by rw [HANY.out, hq]; rfl⟩
        case measure => simp [intOf]; omega
      ·go_wp2
       go_roundw
       case rel => exact ⟨j + 1, by omega, by go_num, by rw [HANY.out]; rfl⟩
       case measure => simp [intOf]; omega
     ·obtain rfl : j = (pasts b).length := by omega
      rw [List.take_length]
      have hsu := HSU.out
      cases hany : (pasts b).any (fun x : List Int => x.getD sn 0 == (k : Int))
      ·rw [hany] at hsu
       simp only [Bool.false_eq_true, if_false] at hsu
       have HS2 := Hh hsu
       clear hsu hany
       go_wp2
       go_roundw
       case rel => exact ⟨k + 1, a, c, by omega, by go_num, by rw [HS2.out], by rw [HS2.out]; exact HROW.out, hW⟩
       case measure => simp [intOf]; omega
      ·rw [hany] at hsu
       simp only [if_true] at hsu
       have HS2 := Hh hsu
       clear hsu hany
       go_wp2_with (at_builtin; go_loud (refine wpl_append1 rfl _ _ 27 rfl w3.heap.size 3 Tryz.underlying27 intInfo rfl (by omega) (.slice a to.length c) to.length _ rfl HROW.out (by omega) (by omega) _ (n := wr.heap.size) rfl rfl (by simp [Value.oneCell']) ?_; intro g cap w6 hown6 hb6))
       have hown7 : w6.ownsRow w3.heap.size 3 1 (.slice (some ⟨g, 0, none⟩) (throughTo b sn (k + 1)).length cap) (throughTo b sn (k + 1)).length ((throughTo b sn (k + 1)).map (Value.int .i64)) := by
        rw [HS2.out, List.map_append, List.length_append]
        exact hown6
       have HOWN := Hh hown7
       clear hown6 hown7
       go_roundw
       case rel => exact ⟨k + 1, _, _, by omega, by go_num, by rw [HS2.out, List.length_append]; rfl, HOWN.out, hW.trans hb6⟩
       case measure => simp [intOf]; omega
   ·obtain rfl : k = sl + 1 := by omega
    clear hrow
    go_wp2
    exact bodyPost_ret (v := .tuple #[.slice a (throughTo b sn (sl + 1)).length c, .int .i64 0]) (by simp [results, Tryz.results41, go_sem, *]) rfl ⟨a, c, rfl, ints_of_row HROW.out, Below.next hbz hW⟩
end
attribute [local go_sem] Oper.semAt_some
theorem eqCame (a b c d a' b' c' d' : Int) (w : World) : (binOp .eql 137 (.agg #[.int .i64 a, .int .i64 b, .int .i64 c, .int .i64 d]) (.agg #[.int .i64 a', .int .i64 b', .int .i64 c', .int .i64 d'])).run Tryz.prog w = .ok (.bool (a == a' && b == b' && c == c' && d == d')) w := by
 have u3 := Tryz.underlying3
 rw [run_eql_struct, show (10000 : Nat) = 9999 + 1 from rfl, Op.equalIn]
 simp only [Sem.run_bind, run_underlying Tryz.underlying137, Result.andThen_ok]
 simp only [Std.Legacy.Range.forIn_eq_forIn_range', Std.Legacy.Range.size, Nat.sub_zero, Nat.add_sub_cancel, Nat.div_one, List.range'_succ, List.range'_zero, List.forIn_cons, List.forIn_nil]
 go_simp
 by_cases h1 : a = a' <;> by_cases h2 : b = b' <;> by_cases h3 : c = c' <;> by_cases h4 : d = d' <;> simp [h1, h2, h3, h4]
theorem mem_pastsFrom {b : Bk} : ∀ (l : List (List Prt)) (pre x : List Int), x ∈ pastsFrom b pre l ↔ ∃ suf, x = pre ++ suf ∧ suf.length = l.length ∧ (∀ i (h : i < suf.length), 0 ≤ suf[i] ∧ ∃ h2 : i < l.length, suf[i] ≤ (l[i].length : Int)) ∧ right b x = true
 | [], pre, x => by
  unfold pastsFrom
  constructor
  ·intro h
   split at h
   ·rename_i hr
    simp only [List.mem_singleton] at h
    exact ⟨[], by simp [h], rfl, fun i hi => absurd hi (Nat.not_lt_zero _), by rw [h]; exact hr⟩
   ·simp at h
  ·rintro ⟨suf, rfl, hl, _, hr⟩
   obtain rfl : suf = [] := List.length_eq_zero_iff.1 hl
   rw [List.append_nil] at hr ⊢
   rw [if_pos hr]; simp
 | s :: l, pre, x => by
  unfold pastsFrom
  rw [List.mem_flatMap]
  constructor
  ·rintro ⟨n, hn, hx⟩
   obtain ⟨suf, rfl, hl, hr, hri⟩ := (mem_pastsFrom l _ x).1 hx
   rw [List.mem_range] at hn
   refine ⟨(n : Int) :: suf, by simp, by simp [hl], fun i hi => ?_, hri⟩
   cases i with
   | zero => simp; omega
   | succ i =>
    obtain ⟨h1, h2, h3⟩ := hr i (by simpa using hi)
    exact ⟨by simpa using h1, by simpa using h2, by simpa using h3⟩
  ·rintro ⟨suf, rfl, hl, hr, hri⟩
   match suf, hl with
   | y :: suf, hl =>
    obtain ⟨h1, _, h3⟩ := hr 0 (by simp)
    simp only [List.getElem_cons_zero] at h1 h3
    refine ⟨y.toNat, List.mem_range.2 (by omega), (mem_pastsFrom l _ _).2 ⟨suf, ?_, by simpa using hl, fun i hi => ?_, ?_⟩⟩
    ·rw [Int.toNat_of_nonneg h1]; simp
    ·obtain ⟨h4, h5, h6⟩ := hr (i + 1) (by simpa using hi)
     exact ⟨by simpa using h4, by simpa using h5, by simpa using h6⟩
    ·exact hri
theorem isHist_mem {b : Bk} {l : List Int} (h : isHistAl b l = 0) : isHist b l = decide (l ∈ pasts b) := by
 have hl : l.length = b.ss.length := by
  unfold isHistAl at h
  split at h
  ·rename_i hh; exact absurd h hh
  ·split at h
   ·cases h
   ·rename_i hh; exact Classical.not_not.1 hh
 unfold isHist
 rw [h]
 simp only [decide_true, Bool.true_and]
 by_cases hm : l ∈ pasts b
 ·obtain ⟨suf, e, h1, h2, h3⟩ := (mem_pastsFrom b.ss [] l).1 hm
  rw [List.nil_append] at e
  subst e
  have : inRange b.ss l = true := by
   unfold inRange
   rw [List.all_eq_true]
   intro i hi
   have hi : i < l.length := by simpa using hi
   obtain ⟨h4, h5, h6⟩ := h2 i hi
   rw [getD_of_lt hi, List.getElem?_eq_getElem h5]
   unfold inB
   exact decide_eq_true (show 0 ≤ l[i] ∧ l[i] ≤ (b.ss[i].length : Int) from ⟨h4, h6⟩)
  rw [this, h3]; simp [hm]
 ·have : ¬ (inRange b.ss l = true ∧ right b l = true) := fun ⟨h1, h2⟩ => hm ((mem_pastsFrom b.ss [] l).2 ⟨l, rfl, hl, fun i hi => by
   have hi2 : i < b.ss.length := hl ▸ hi
   have h3 := inRange_came h1 hl i hi2
   rw [getD_of_lt hi] at h3
   exact ⟨h3.1, hi2, h3.2⟩, h2⟩)
  simp only [hm, decide_false]
  cases h1 : inRange b.ss l
  ·rfl
  ·cases h2 : right b l
   ·rfl
   ·exact absurd ⟨h1, h2⟩ this
theorem pad_inj {x y : List Int} (h : x.length = y.length) (h4 : x.length ≤ 4) (e : pad x = pad y) : x = y := by
 unfold pad at e
 rw [h] at e
 exact List.append_cancel_right e
section
variable {b : Bk} {vr vg vm vs vc : Value} {w : World}
theorem isHistory_no (hB : BookAt w b vr vg vm vs vc) (hN : ∀ m ∈ b.ms, m.name.size ≤ 1000000) (hK : KindsAt w) {la : Option Addr} {lc : Nat} {l : List Int} {t : Int} (hL : l.length ≤ 1000000) (ht : isHistAl b l = t) (h0 : t ≠ 0) :
 Calls Tryz.prog 34 #[.agg #[vr, vg, vm, vs, vc], .slice la l.length lc] w fun e w' => e = .returned (.tuple #[.bool false, .int .i64 t]) ∧ Below w.heap.size w w' := by
 have HB := Hh hB
 have HN := Hh hN
 have HK := Hh hK
 obtain ⟨rfl, rfl, ⟨ma, mc, rfl, _, _⟩, ⟨sa, sc, rfl, _, hsl⟩, ra, rc, rfl, _, _⟩ := id hB
 clear hB hN hK
 by_cases hk : bookAl b = 0
 case neg =>
  have h1 : isHistAl b l = bookAl b := by unfold isHistAl; rw [if_pos hk]
  rw [h1] at ht
  have H0 := Hh ht
  have hz3 : (t != 0) = true := by simpa using h0
  clear ht h1 hk h0
  go_enter Tryz.func34, Tryz.ntmps34
  go_wp2_with (go_at_call 36; (with_reducible refine (checkBook_at (HB.out.below (bel)) HN.out (HK.out.below (bel)) H0.out).mono ?_); rintro e w1 ⟨rfl, hb1⟩; obtain ⟨hc1, hf1⟩ := bcell hb1; have hz1 : w.heap.size + 1 + 1 < w1.heap.size := (by have := hb1.size; simp at this; omega))
  have k9 : KS (fun k => k < w.heap.size) w1 ((w1.setCell ⟨w.heap.size + 1, 0, none⟩ (.bool false)).setCell ⟨w.heap.size + 1 + 1, 0, none⟩ (.int .i64 t)) := (KS.setCell (by simp) _ _).trans (KS.setCell (by simp; omega) _ _)
  have hbw : Below w.heap.size w w1 := bel
  have c1 : ((w1.setCell ⟨w.heap.size + 1, 0, none⟩ (.bool false)).setCell ⟨w.heap.size + 1 + 1, 0, none⟩ (.int .i64 t)).cell? ⟨w.heap.size + 1, 0, none⟩ = some (.bool false) := by
   rw [World.cell?_setCell_other (h := fun e => by injection e with e _ _; omega), World.cell?_setCell_same' _ _ _ (by rw [hc1 _ _ (by simp), World.cell?_alloc_past _ _ _ (by simp), alloc1_cell (by simp)]; rfl)]
  have c2 : ((w1.setCell ⟨w.heap.size + 1, 0, none⟩ (.bool false)).setCell ⟨w.heap.size + 1 + 1, 0, none⟩ (.int .i64 t)).cell? ⟨w.heap.size + 1 + 1, 0, none⟩ = some (.int .i64 t) := by
   rw [World.cell?_setCell_same' _ _ _ (by rw [World.cell?_setCell_other (h := fun e => by injection e with e _ _; omega), hc1 _ _ (by simp), alloc1_cell (by simp)]; rfl)]
  exact bodyPost_ret (v := .tuple #[.bool false, .int .i64 t]) (by simp [results, Tryz.results34, go_sem, c1, c2]) rfl ⟨rfl, hbw.trans (k9.to_below hbw.size)⟩
 have H0 := Hh hk
 have hs4 := (bookAl_ok hk).1.sl
 have h1 : l.length ≠ b.ss.length := fun e => h0 (by rw [← ht]; unfold isHistAl; rw [if_neg (by simpa using hk), if_neg (by simpa using e)])
 have h2 : t = 2 := by rw [← ht]; unfold isHistAl; rw [if_neg (by simpa using hk), if_pos h1]
 subst h2
 have hne : ((l.length : Int) != (b.ss.length : Int)) = true := by simp; omega
 clear ht h0 hk h1
 go_enter Tryz.func34, Tryz.ntmps34
 go_wp2_with (go_at_call 36; (with_reducible refine (checkBook_at (HB.out.below (bel)) HN.out (HK.out.below (bel)) H0.out).mono ?_); rintro e w1 ⟨rfl, hb1⟩; obtain ⟨hc1, hf1⟩ := bcell hb1; have hz1 : w.heap.size + 1 + 1 < w1.heap.size := (by have := hb1.size; simp at this; omega))
 have k9 : KS (fun k => k < w.heap.size) w1 ((w1.setCell ⟨w.heap.size + 1, 0, none⟩ (.bool false)).setCell ⟨w.heap.size + 1 + 1, 0, none⟩ (.int .i64 2)) := (KS.setCell (by simp) _ _).trans (KS.setCell (by simp; omega) _ _)
 have hbw : Below w.heap.size w w1 := bel
 have c1 : ((w1.setCell ⟨w.heap.size + 1, 0, none⟩ (.bool false)).setCell ⟨w.heap.size + 1 + 1, 0, none⟩ (.int .i64 2)).cell? ⟨w.heap.size + 1, 0, none⟩ = some (.bool false) := by
  rw [World.cell?_setCell_other (h := fun e => by injection e with e _ _; omega), World.cell?_setCell_same' _ _ _ (by rw [hc1 _ _ (by simp), World.cell?_alloc_past _ _ _ (by simp), alloc1_cell (by simp)]; rfl)]
 have c2 : ((w1.setCell ⟨w.heap.size + 1, 0, none⟩ (.bool false)).setCell ⟨w.heap.size + 1 + 1, 0, none⟩ (.int .i64 2)).cell? ⟨w.heap.size + 1 + 1, 0, none⟩ = some (.int .i64 2) := by
  rw [World.cell?_setCell_same' _ _ _ (by rw [World.cell?_setCell_other (h := fun e => by injection e with e _ _; omega), hc1 _ _ (by simp), alloc1_cell (by simp)]; rfl)]
 exact bodyPost_ret (v := .tuple #[.bool false, .int .i64 2]) (by simp [results, Tryz.results34, go_sem, c1, c2]) rfl ⟨rfl, hbw.trans (k9.to_below hbw.size)⟩
end
end Go.Proofs.YtbibidfkbdhblaaGreatDoor
namespace Go.Proofs.YtbibidfkbdhblaaGreatDoor
open Go.RowKit Sp
theorem sorted_ext : ∀ {l m : List Int}, l.Pairwise (· < ·) → m.Pairwise (· < ·) → (∀ x, x ∈ l ↔ x ∈ m) → l = m
 | [], [], _, _, _ => rfl
 | [], b :: m, _, _, h => by have := (h b).2 (List.mem_cons_self ..); cases this
 | a :: l, [], _, _, h => by have := (h a).1 (List.mem_cons_self ..); cases this
 | a :: l, b :: m, hl, hm, h => by
  rw [List.pairwise_cons] at hl hm
  have hab : a = b := by
   have h1 := (h a).1 (List.mem_cons_self ..)
   have h2 := (h b).2 (List.mem_cons_self ..)
   rcases List.mem_cons.1 h1 with e | e
   ·exact e
   ·rcases List.mem_cons.1 h2 with e2 | e2
    ·exact e2.symm
    ·have := hm.1 _ e
     have := hl.1 _ e2
     omega
  subst hab
  rw [sorted_ext hl.2 hm.2 fun x => ?_]
  constructor
  ·intro hx
   rcases List.mem_cons.1 ((h x).1 (List.mem_cons_of_mem _ hx)) with e | e
   ·have := hl.1 _ hx; omega
   ·exact e
  ·intro hx
   rcases List.mem_cons.1 ((h x).2 (List.mem_cons_of_mem _ hx)) with e | e
   ·have := hm.1 _ hx; omega
   ·exact e
theorem compact_part {zs : List Int} (hz : zs.Pairwise (· ≤ ·)) : ∀ m, m ≤ zs.length → (Lib.compactUpTo zs.toArray m).Pairwise (· < ·) ∧ ∀ x, x ∈ Lib.compactUpTo zs.toArray m ↔ ∃ j, j < m ∧ zs.toArray[j]! = x
 | 0, _ => by simp [Lib.compactUpTo]
 | m + 1, hm => by
  obtain ⟨ih1, ih2⟩ := compact_part hz m (by omega)
  have hle : ∀ i j, i ≤ j → j < zs.length → zs.toArray[i]! ≤ zs.toArray[j]! := fun i j hij hj => by
   rw [getElem!_pos _ _ (by simp; omega), getElem!_pos _ _ (by simpa using hj)]
   simp only [List.getElem_toArray]
   rcases Nat.lt_or_ge i j with h | h
   ·exact (List.pairwise_iff_getElem.1 hz) i j (by omega) hj h
   ·obtain rfl : i = j := by omega
    exact Int.le_refl _
  rw [Lib.compactUpTo_succ]
  by_cases hk : Lib.keeps zs.toArray m = true
  ·rw [if_pos hk]
   refine ⟨List.pairwise_append.2 ⟨ih1, List.pairwise_singleton .., fun x hx y hy => ?_⟩, fun x => ?_⟩
   ·rw [List.mem_singleton] at hy
    subst hy
    obtain ⟨j, hj, rfl⟩ := (ih2 x).1 hx
    unfold Lib.keeps at hk
    have hk := of_decide_eq_true hk
    rcases hk with h | h
    ·omega
    ·have h1 := hle j (m - 1) (by omega) (by omega)
     have h2 := hle (m - 1) m (by omega) (by omega)
     omega
   ·rw [List.mem_append, List.mem_singleton, ih2]
    constructor
    ·rintro (⟨j, hj, e⟩ | rfl)
     ·exact ⟨j, by omega, e⟩
     ·exact ⟨m, by omega, rfl⟩
    ·rintro ⟨j, hj, e⟩
     rcases Nat.lt_or_ge j m with h | h
     ·exact .inl ⟨j, h, e⟩
     ·obtain rfl : j = m := by omega
      exact .inr e.symm
  ·rw [if_neg hk, List.append_nil]
   refine ⟨ih1, fun x => ?_⟩
   rw [ih2]
   unfold Lib.keeps at hk
   simp only [decide_eq_true_eq, not_or, Classical.not_not] at hk
   constructor
   ·rintro ⟨j, hj, e⟩
    exact ⟨j, by omega, e⟩
   ·rintro ⟨j, hj, e⟩
    rcases Nat.lt_or_ge j m with h | h
    ·exact ⟨j, h, e⟩
    ·obtain rfl : j = m := by omega
     exact ⟨j - 1, by omega, by rw [← e, hk.2]⟩
theorem mem_compact {zs : List Int} (hz : zs.Pairwise (· ≤ ·)) {x : Int} : x ∈ Lib.compact zs ↔ x ∈ zs := by
 unfold Lib.compact
 rw [(compact_part hz _ (Nat.le_refl _)).2, List.mem_iff_getElem]
 constructor
 ·rintro ⟨j, hj, e⟩
  rw [getElem!_pos _ _ (by simpa using hj)] at e
  exact ⟨j, hj, by simpa using e⟩
 ·rintro ⟨j, hj, e⟩
  exact ⟨j, hj, by rw [getElem!_pos _ _ (by simpa using hj)]; simpa using e⟩
theorem sortI_sorted (l : List Int) : (sortI l).Pairwise (· ≤ ·) := by
 have := List.pairwise_mergeSort (le := fun x y : Int => decide (x ≤ y)) (fun a b c h1 h2 => by simp at *; omega) (fun a b => by simp; omega) l
 exact this.imp (fun {a b} h => by simpa using h)
theorem through_same {b : Bk} {s : Int} (h : throughAl b s = 0) : throughI b s = throughR b s := by
 obtain ⟨hk, hpt, hps⟩ := openAl_ok h
 have hin : inB s 0 ((b.ss.length : Int) - 1) = true := by
  cases h : inB s 0 ((b.ss.length : Int) - 1)
  ·unfold throughAsk at hpt; rw [h] at hpt; simp at hpt
  ·rfl
 have hs0 : 0 ≤ s ∧ s ≤ (b.ss.length : Int) - 1 := by unfold inB at hin; simpa using hin
 have hsl : s.toNat < b.ss.length := by omega
 unfold throughI throughR
 refine sorted_ext (compact_part (sortI_sorted _) _ (Nat.le_refl _)).1 ?_ fun x => ?_
 ·unfold throughTo
  rw [List.pairwise_map]
  refine (List.Pairwise.filter _ (List.pairwise_lt_range (n := (b.ss[s.toNat]?).elim 0 List.length + 1))).imp fun {a c} h => by omega
 ·rw [mem_compact (sortI_sorted _)]
  unfold sortI
  rw [List.mem_mergeSort, List.mem_map]
  unfold throughTo
  rw [List.mem_map]
  constructor
  ·rintro ⟨p, hp, rfl⟩
   have hp2 := hp
   unfold pasts at hp2
   obtain ⟨suf, e, hlen, hb, _⟩ := (mem_pastsFrom _ _ _).1 hp2
   simp only [List.nil_append] at e
   subst e
   obtain ⟨h1, h2, h3⟩ := hb s.toNat (by omega)
   have hg : p.getD s.toNat 0 = p[s.toNat]'(by omega) := by simp [List.getD, List.getElem?_eq_getElem (show s.toNat < p.length by omega)]
   refine ⟨(p.getD s.toNat 0).toNat, ?_, by rw [hg]; omega⟩
   rw [List.mem_filter, List.mem_range, List.any_eq_true]
   refine ⟨by rw [hg, List.getElem?_eq_getElem h2]; simp only [Option.elim]; omega, p, hp, by rw [hg]; simp; omega⟩
  ·rintro ⟨n, hn, rfl⟩
   rw [List.mem_filter, List.any_eq_true] at hn
   obtain ⟨_, p, hp, e⟩ := hn
   exact ⟨p, hp, by simpa using e⟩
end Go.Proofs.YtbibidfkbdhblaaGreatDoor
namespace Go.Proofs.YtbibidfkbdhblaaGreatDoor
open Go.RowKit Go.Maps Sp
def SesRaw (w : World) (a : Option Addr) (l : List (List Prt)) : Prop := ∀ i (h : i < l.length), ∃ b o, a = some ⟨b, o, none⟩ ∧ b < w.heap.size ∧
 ∃ pa pc, w.cell? ⟨b, o + i, none⟩ = some (.slice pa l[i].length pc) ∧ l[i].length ≤ pc ∧ PartsAt w pa l[i]
structure RawAt (w : World) (b : Bk) (vr vg vm vs vc : Value) : Prop where
 room : vr = .int .i64 b.room
 gap : vg = .int .i64 b.gap
 ms : ∃ a c, vm = .slice a b.ms.length c ∧ MsgsAt w a b.ms
 ss : ∃ a c, vs = .slice a b.ss.length c ∧ SesRaw w a b.ss
 rs : ∃ a c, vc = .slice a b.rs.length c ∧ RecsAt w a b.rs
theorem SesRaw.below {w w' : World} {a : Option Addr} {l : List (List Prt)} (h : SesRaw w a l) (hb : Below w.heap.size w w') : SesRaw w' a l := fun i hi => by
 obtain ⟨b, o, e, hlt, pa, pc, h1, h2, h4⟩ := h i hi
 exact ⟨b, o, e, Nat.lt_of_lt_of_le hlt hb.size, pa, pc, (hb.cell hlt).trans h1, h2, h4.below hb⟩
def SmallB (b : Bk) : Prop := b.ms.length ≤ 20 ∧ b.ss.length ≤ 20 ∧ b.rs.length ≤ 20 ∧ (∀ m ∈ b.ms, m.name.size ≤ 100) ∧ ∀ s ∈ b.ss, s.length ≤ 20
theorem RawAt.book {w : World} {b : Bk} {vr vg vm vs vc : Value} (h : RawAt w b vr vg vm vs vc) (hs : SmallB b) : BookAt w b vr vg vm vs vc := by
 obtain ⟨h1, h2, ⟨a1, c1, e1, h3⟩, ⟨a2, c2, e2, h4⟩, a3, c3, e3, h5⟩ := h
 obtain ⟨s1, s2, s3, s4, s5⟩ := hs
 refine ⟨h1, h2, ⟨a1, c1, e1, h3, by omega⟩, ⟨a2, c2, e2, fun i hi => ?_, by omega⟩, a3, c3, e3, h5, by omega⟩
 obtain ⟨b', o, e, hlt, pa, pc, q1, q2, q4⟩ := h4 i hi
 have := s5 _ (List.getElem_mem hi)
 exact ⟨b', o, e, hlt, pa, pc, q1, q2, by omega, q4⟩
theorem great_at {b : Bk} {vr vg vm vs vc : Value} {w : World} (hB : RawAt w b vr vg vm vs vc) {g : Bool} (hg : g = true ↔ ¬ SmallB b) :
 Calls Tryz.prog 8 #[.agg #[vr, vg, vm, vs, vc]] w fun e w' => e = .returned (.bool g) ∧ Below w.heap.size w w' := by
 have HG := Hh hg
 clear hg
 obtain ⟨rfl, rfl, ⟨ma, mc, rfl, hM⟩, ⟨sa, sc, rfl, hS⟩, ra, rc, rfl, _⟩ := hB
 have HM := Hh hM; clear hM
 have HS := Hh hS; clear hS
 by_cases h1 : 20 < b.ms.length
 ·obtain rfl : g = true := HG.out.2 fun h => by have := h.1; omega
  go_enter Tryz.func8, Tryz.ntmps8
  go_wp2
  go_ret
  exact ⟨rfl, bel⟩
 by_cases h2 : 20 < b.ss.length
 ·obtain rfl : g = true := HG.out.2 fun h => by have := h.2.1; omega
  go_enter Tryz.func8, Tryz.ntmps8
  go_wp2
  go_ret
  exact ⟨rfl, bel⟩
 by_cases h3 : 20 < b.rs.length
 ·obtain rfl : g = true := HG.out.2 fun h => by have := h.2.2.1; omega
  go_enter Tryz.func8, Tryz.ntmps8
  go_wp2
  go_ret
  exact ⟨rfl, bel⟩
 have hl1 : b.ms.length ≤ 20 := by omega
 have hl2 : b.ss.length ≤ 20 := by omega
 have hl3 : b.rs.length ≤ 20 := by omega
 go_enter Tryz.func8, Tryz.ntmps8
 go_wp2
 obtain ⟨W0, hW0⟩ : ∃ W0, W0 = w.alloc (.cells #[.int .i64 b.room, .int .i64 b.gap, .slice ma b.ms.length mc, .slice sa b.ss.length sc, .slice ra b.rs.length rc] 26) := ⟨_, rfl⟩
 rw [← hW0]
 have five := Five.new w (.int .i64 b.room) (.int .i64 b.gap) (.slice ma b.ms.length mc) (.slice sa b.ss.length sc) (.slice ra b.rs.length rc) 26
 rw [← hW0] at five
 have hb0 : Below w.heap.size w W0 := by rw [hW0]; (exact bel)
 clear hW0
 obtain ⟨n0, n1, n2, n3, n4, nl⟩ := five
 go_loopw [3] (fun i wr => ∃ (k : Nat), k ≤ b.ms.length ∧ i = .int .i64 k ∧ Hid (∀ m ∈ b.ms.take k, m.name.size ≤ 100) ∧ Below W0.heap.size W0 wr) (fun i _ => b.ms.length - (intOf i).toNat)
 case atStart => exact ⟨0, Nat.zero_le _, rfl, by simp [Hid], Below.refl _ _⟩
 case round =>
  obtain ⟨k, hk, rfl, hG, hW⟩ := hrel
  obtain ⟨wo, rfl⟩ : ∃ wo : World, wo = wr := ⟨_, rfl⟩
  have hWs := hW.size
  have m2 := (hW.cell (p := ⟨w.heap.size, 2, none⟩) nl).trans n2
  have m3 := (hW.cell (p := ⟨w.heap.size, 3, none⟩) nl).trans n3
  have ml : w.heap.size < wo.heap.size := by omega
  have hbw := Below.next hb0 hW
  clear n0 n1 n2 n3 n4
  by_cases hlt : k < b.ms.length
  ·obtain ⟨mb, mo, rfl, hmb, h0, _, _⟩ := HM.out k hlt
   have c0 := (hbw.cell hmb).trans h0
   have hmb2 : mb < wo.heap.size := Nat.lt_of_lt_of_le hmb hbw.size
   have htk := List.take_succ_eq_append_getElem hlt
   clear h0
   have hgr : 100 < b.ms[k].name.size → g = true := fun h => HG.out.2 fun hs => by have := hs.2.2.2.1 _ (List.getElem_mem hlt); omega
   generalize b.ms[k] = m at c0 htk hgr
   have HT := Hh htk
   clear htk
   obtain ⟨nm, gr, du⟩ := m
   dsimp only at c0 hgr
   by_cases h100 : 100 < nm.size
   ·obtain rfl := hgr h100
    clear hgr
    go_wp2
    go_ret
    exact ⟨rfl, bel⟩
   ·clear hgr
    have hle : nm.size ≤ 100 := by omega
    go_wp2
    go_roundw
    case rel =>
     refine ⟨k + 1, by omega, by go_num, ?_, bel⟩
     intro m hm
     rw [HT.out, List.mem_append, List.mem_singleton] at hm
     rcases hm with hm | rfl
     ·exact hG.out m hm
     ·exact hle
    case measure => simp [intOf]; omega
  ·obtain rfl : k = b.ms.length := by omega
   have hN : Hid (∀ m ∈ b.ms, m.name.size ≤ 100) := by have := hG.out; rwa [List.take_length] at this
   clear hG
   go_wp2
   go_loopw [4] (fun i wr => ∃ (k : Nat), k ≤ b.ss.length ∧ i = .int .i64 k ∧ Hid (∀ s ∈ b.ss.take k, s.length ≤ 20) ∧ Below wo.heap.size wo wr) (fun i _ => b.ss.length - (intOf i).toNat)
   case atStart => exact ⟨0, Nat.zero_le _, rfl, by simp [Hid], Below.refl _ _⟩
   case round =>
    obtain ⟨j, hj, rfl, hG, hX⟩ := hrel
    have hXs := hX.size
    have l3 := (hX.cell (p := ⟨w.heap.size, 3, none⟩) ml).trans m3
    have ll : w.heap.size < wr.heap.size := by omega
    have hbx := Below.next hbw hX
    clear m2 m3
    by_cases hjt : j < b.ss.length
    ·obtain ⟨sb, so, rfl, hsb, pa, pc, h0, hpc, _⟩ := HS.out j hjt
     have c0 := (hbx.cell hsb).trans h0
     have hsb2 : sb < wr.heap.size := Nat.lt_of_lt_of_le hsb hbx.size
     have htk := List.take_succ_eq_append_getElem hjt
     clear h0
     have hgr : 20 < b.ss[j].length → g = true := fun h => HG.out.2 fun hs => by have := hs.2.2.2.2 _ (List.getElem_mem hjt); omega
     generalize b.ss[j] = s at c0 htk hpc hgr
     have HT := Hh htk
     clear htk
     by_cases h20 : 20 < s.length
     ·obtain rfl := hgr h20
      clear hgr
      go_wp2
      go_ret
      exact ⟨rfl, bel⟩
     ·clear hgr
      have hle : s.length ≤ 20 := by omega
      go_wp2
      go_roundw
      case rel =>
       refine ⟨j + 1, by omega, by go_num, ?_, bel⟩
       intro m hm
       rw [HT.out, List.mem_append, List.mem_singleton] at hm
       rcases hm with hm | rfl
       ·exact hG.out m hm
       ·exact hle
      case measure => simp [intOf]; omega
    ·obtain rfl : j = b.ss.length := by omega
     have hQ : Hid (∀ s ∈ b.ss, s.length ≤ 20) := by have := hG.out; rwa [List.take_length] at this
     clear hG
     obtain rfl : g = false := by
      cases g with
      | false => rfl
      | true => exact absurd ⟨hl1, hl2, hl3, hN.out, hQ.out⟩ (HG.out.1 rfl)
     go_wp2
     go_ret
     exact ⟨rfl, bel⟩
end Go.Proofs.YtbibidfkbdhblaaGreatDoor
