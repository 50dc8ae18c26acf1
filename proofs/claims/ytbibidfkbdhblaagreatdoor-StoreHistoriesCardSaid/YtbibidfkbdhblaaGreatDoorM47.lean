/- Leads to StoreHistories of chapter 6: Y2. -/
import Derived.Test.YtbibidfkbdhblaaGreatDoorM46
set_option maxHeartbeats 2000000
set_option maxRecDepth 100000
set_option linter.all false
namespace Go.Proofs.YtbibidfkbdhblaaGreatDoor
open Go.RowKit Go.Maps Sp
attribute [local go_sem] Oper.semAt_some
section
variable {b : Bk} {vr vg vm vs vc : Value} {w : World}
theorem zeros_pad {l : List Int} (h : l.length ≤ 4) : splice [Value.int .i64 0, .int .i64 0, .int .i64 0, .int .i64 0] 0 (l.map (Value.int .i64)) = (pad l).map (Value.int .i64) := by
 have e : [Value.int .i64 0, .int .i64 0, .int .i64 0, .int .i64 0] = List.replicate 4 (Value.int .i64 0) := rfl
 unfold splice pad
 rw [e]
 simp only [List.take_zero, List.nil_append, List.length_map, Nat.zero_add, List.drop_replicate, List.map_append, List.map_replicate]
theorem add_off' (b o j : Nat) : Addr.add ⟨b, o, none⟩ j = ⟨b, o + j, none⟩ := by unfold Addr.add; split <;> simp_all
theorem copy_lies {X : World} {g : Nat} {cur : List Value} {t : TypeId} {la : Option Addr} {lc : Nat} {l : List Int} (hg : X.heap[g]? = some (.cells cur.toArray t (0, 0))) (hl : l.length ≤ 4) (hc : cur.length = 4) (hI : IntsAt X la l) :
 ∃ w2, (Builtin.copy_ #[27, 27] 3 #[.slice (some ⟨g, 0, none⟩) 4 4, .slice la l.length lc]).run Tryz.prog X = .ok (goInt l.length) w2 ∧ w2.heap[g]? = some (.cells (splice cur 0 (l.map (Value.int .i64))).toArray t (0, 0)) ∧ KS (fun k => k ≠ g) X w2 := by
 have hsz : (Tryz.prog.info? 3).map (·.size) = some 1 := by kernel_rfl
 by_cases h0 : l.length = 0
 ·obtain rfl : l = [] := List.length_eq_zero_iff.1 h0
  exact ⟨X, run_copy_none (P := Tryz.prog) X 27 27 3 3 _ _ _ _ _ _ Tryz.underlying27 hsz (by simp), by rw [hg]; simp [splice], KS.refl _ _⟩
 ·obtain ⟨b0, o0, rfl, _, _⟩ := hI 0 (by omega)
  have hr := run_copy_row (P := Tryz.prog) X 27 27 3 3 g 0 4 4 ⟨b0, o0, none⟩ l.length lc cur.toArray t (l.map (Value.int .i64)) Tryz.underlying27 hsz hg (by rw [List.length_map]; exact (Nat.min_eq_left hl).symm) (fun j v hj => by
   rw [List.getElem?_map] at hj
   obtain ⟨x, hx, rfl⟩ := Option.map_eq_some_iff.1 hj
   obtain ⟨hjl, rfl⟩ := List.getElem?_eq_some_iff.1 hx
   obtain ⟨b1, o1, e1, hlt1, hc1⟩ := hI j hjl
   cases e1
   rw [add_off']; exact hc1) (by rw [List.length_map, List.size_toArray, hc]; omega) (fun u hu => by obtain ⟨x, _, rfl⟩ := List.mem_map.1 hu; rfl)
  rw [List.length_map] at hr
  refine ⟨_, hr, ?_, ⟨rfl, rfl, rfl, by simp [World.setRow], fun k _ hk => setRow_other _ _ _ _ hk⟩⟩
  rw [setRow_heap _ _ _ _ _ _ hg]
  simp [splice]
def HisJ (l : List Int) (W1 : World) (pre : List (List Int)) (A : World) : Prop := Hid (l ∉ pre) ∧ KS (fun k => k < W1.heap.size) W1 A
def HisX (b : Bk) (l : List Int) (w W1 : World) (A : World) : Prop := Hid (l ∈ pasts b) ∧ A.cell? ⟨w.heap.size + 1, 0, none⟩ = some (.bool true) ∧ A.cell? ⟨w.heap.size + 1 + 1, 0, none⟩ = some (.int .i64 0) ∧ KS (fun k => k < W1.heap.size ∧ k ≠ w.heap.size + 1 ∧ k ≠ w.heap.size + 1 + 1) W1 A
theorem isHistory_ok (hB : BookAt w b vr vg vm vs vc) (hN : ∀ m ∈ b.ms, m.name.size ≤ 1000000) (hK : KindsAt w) {la : Option Addr} {lc : Nat} {l : List Int} (hL : IntsAt w la l) (ht : isHistAl b l = 0) :
 Calls Tryz.prog 34 #[.agg #[vr, vg, vm, vs, vc], .slice la l.length lc] w fun e w' => e = .returned (.tuple #[.bool (isHist b l), .int .i64 0]) ∧ Below w.heap.size w w' := by
 rw [isHist_mem ht]
 have hk : bookAl b = 0 := by
  unfold isHistAl at ht
  split at ht
  ·rename_i hh; exact absurd ht hh
  ·rename_i hh; exact Classical.not_not.1 hh
 have hll : l.length = b.ss.length := by
  unfold isHistAl at ht
  rw [if_neg (by simpa using hk)] at ht
  split at ht
  ·cases ht
  ·rename_i hh; exact Classical.not_not.1 hh
 refine (callsIn_wide (n := 0)).1 (callsIn_of_wp_marks Tryz.func34 rfl trivial (wpIn_wide.2 ?_) rfl)
 have HB := Hh hB
 have HN := Hh hN
 have HK := Hh hK
 have hbo := (bookAl_ok hk).1
 have HO := Hh hbo
 have HR := Hh (bookAl_ok hk).2
 have HBA := Hh hk
 have hsl := hbo.sl
 have HL := Hh hL
 have HLL := Hh hll
 obtain ⟨rfl, rfl, ⟨ma, mc, rfl, _, _⟩, ⟨sa, sc, rfl, _, _⟩, ra, rc, rfl, _, _⟩ := id hB
 have hl4 : l.length ≤ 4 := by omega
 have hne : ((l.length : Int) != (b.ss.length : Int)) = false := by simp; omega
 clear hB hN hK ht hk hbo hL hll
 simp only [Tryz.ntmps34, List.size_toArray, List.length_cons, List.length_nil, Nat.reduceAdd, Nat.reduceSub, Array.replicate_succ, Array.replicate_zero, List.push_toArray, List.append_toArray, List.nil_append, List.cons_append]
 go_wp2_with (go_at_call 36; (with_reducible refine (checkBook_at (HB.out.below (bel)) HN.out (HK.out.below (bel)) HBA.out).mono ?_); rintro e w1 ⟨rfl, hb1⟩; obtain ⟨hc1, hf1⟩ := bcell hb1; have hz1 : w.heap.size + 1 + 1 < w1.heap.size := (by have := hb1.size; simp at this; omega))
 have hbw1 : Below w.heap.size w w1 := bel
 obtain ⟨w2, hr2, hg2, hk2⟩ := copy_lies (X := w1.alloc (.cells #[.int .i64 0, .int .i64 0, .int .i64 0, .int .i64 0] 137)) (lc := lc) (cur := [.int .i64 0, .int .i64 0, .int .i64 0, .int .i64 0]) (World.alloc_heap_new w1 _) hl4 rfl (HL.out.below (bel))
 rw [hr2]
 rw [zeros_pad hl4] at hg2
 have hpl : (pad l).length = 4 := by unfold pad; simp; omega
 obtain ⟨p0, p1, p2, p3, hp⟩ := four hpl
 rw [hp] at hg2
 have hw2 : w1.heap.size < w2.heap.size := by have := hk2.size; simp at this; omega
 have hkw : KS (fun k => k < w1.heap.size) w1 w2 := (KS.alloc _ _ _).trans (hk2.mono fun k _ h => by omega)
 have n0 : w2.cell? ⟨w1.heap.size, 0, none⟩ = some (.int .i64 p0) := by unfold World.cell?; rw [hg2]; rfl
 have n1 : w2.cell? ⟨w1.heap.size, 1, none⟩ = some (.int .i64 p1) := by unfold World.cell?; rw [hg2]; rfl
 have n2 : w2.cell? ⟨w1.heap.size, 2, none⟩ = some (.int .i64 p2) := by unfold World.cell?; rw [hg2]; rfl
 have n3 : w2.cell? ⟨w1.heap.size, 3, none⟩ = some (.int .i64 p3) := by unfold World.cell?; rw [hg2]; rfl
 have old : ∀ b o, b < w1.heap.size → w2.cell? ⟨b, o, none⟩ = w1.cell? ⟨b, o, none⟩ := fun b o h => hkw.cell (x := ⟨b, o, none⟩) h h
 have oldf : ∀ b o, b < w1.heap.size → w2.frozen? ⟨b, o, none⟩ = w1.frozen? ⟨b, o, none⟩ := fun b o h => hkw.frozen (x := ⟨b, o, none⟩) h h
 have q1 : w2.cell? ⟨w.heap.size + 1, 0, none⟩ = some (.bool false) := by rw [old _ _ (by omega), hc1 _ _ (by simp), World.cell?_alloc_past _ _ _ (by simp), alloc1_cell (by simp)]
 have q2 : w2.cell? ⟨w.heap.size + 1 + 1, 0, none⟩ = some (.int .i64 0) := by rw [old _ _ (by omega), hc1 _ _ (by simp), alloc1_cell (by simp)]
 have q3 : w2.frozen? ⟨w.heap.size + 1, 0, none⟩ = false := by rw [oldf _ _ (by omega), hf1 _ _ (by simp), World.frozen?_alloc_past _ _ _ (by simp), World.frozen?_alloc_at _ _ _ _ (by simp)]
 have q4 : w2.frozen? ⟨w.heap.size + 1 + 1, 0, none⟩ = false := by rw [oldf _ _ (by omega), hf1 _ _ (by simp), World.frozen?_alloc_at _ _ _ _ (by simp)]
 have mm : ∀ k u, (#[.int .i64 b.room, .int .i64 b.gap, .slice ma b.ms.length mc, .slice sa b.ss.length sc, .slice ra b.rs.length rc] : Array Value)[k]? = some u → w2.cell? ⟨w.heap.size, k, none⟩ = some u := fun k u hk => by
  rw [old _ _ (by omega), hc1 _ _ (by simp; omega), World.cell?_alloc_past _ _ _ (by simp; omega), World.cell?_alloc_past _ _ _ (by simp), World.cell?_alloc_at _ _ _ _ rfl]; exact hk
 obtain ⟨m0, m1, m2, m3, m4⟩ : _ ∧ _ ∧ _ ∧ _ ∧ _ := ⟨mm 0 _ rfl, mm 1 _ rfl, mm 2 _ rfl, mm 3 _ rfl, mm 4 _ rfl⟩
 have hbw2 : Below w.heap.size w w2 := hbw1.trans ((hkw.mono fun k _ h => by omega : KS (fun k => k < w.heap.size) w1 w2).to_below (by omega))
 have HP := Hh hp
 have hwx : w.heap.size < w2.heap.size := by omega
 clear hr2 hg2 hk2 hkw old oldf mm hc1 hf1 hb1 hp hpl hne
 go_wp2
 refine wpIn_wide.1 (wpIn_range (gf := 100) (recv := .agg #[.int .i64 b.room, .int .i64 b.gap, .slice ma b.ms.length mc, .slice sa b.ss.length sc, .slice ra b.rs.length rc]) rfl (enters_of Tryz.func100 (by kernel_rfl) rfl)
  (encH (w2.heap.size + 6)) (fun x args W h => by rw [h.1]; rfl) (pasts b) (fun k => k = w2.heap.size + 4) (fun k => (k < w2.heap.size ∧ k ≠ w.heap.size + 1 ∧ k ≠ w.heap.size + 1 + 1) ∨ (w2.heap.size + 2 ≤ k ∧ k ≤ w2.heap.size + 5)) ⟨by omega, by omega⟩ (by omega)
  (fun W hW hsz => ?seq) (HisJ l w2) (fun pre A => HisX b l w w2 A) ?hJ ?hJx ?h0 (fun pre x a A => ∃ B, w2.heap.size + 6 ≤ B ∧ B < A.heap.size ∧ A.cell? ⟨B, 0, none⟩ = some (.int .i64 ((pad x).getD 0 0)) ∧ A.cell? ⟨B, 1, none⟩ = some (.int .i64 ((pad x).getD 1 0)) ∧ A.cell? ⟨B, 2, none⟩ = some (.int .i64 ((pad x).getD 2 0)) ∧ A.cell? ⟨B, 3, none⟩ = some (.int .i64 ((pad x).getD 3 0)) ∧ HisJ l w2 pre A ∧ a = { tmps := #[.agg #[.int .i64 b.room, .int .i64 b.gap, .slice ma b.ms.length mc, .slice sa b.ss.length sc, .slice ra b.rs.length rc], .slice la l.length lc, .pointer (some ⟨w.heap.size, 0, none⟩), U, .pointer (some ⟨w.heap.size + 1, 0, none⟩), .pointer (some ⟨w.heap.size + 1 + 1, 0, none⟩), .int .i64 0, .pointer (some ⟨w1.heap.size, 0, none⟩), .pointer (some ⟨B, 0, none⟩), .agg #[.int .i64 b.room, .int .i64 b.gap, .slice ma b.ms.length mc, .slice sa b.ss.length sc, .slice ra b.rs.length rc], .int .i64 0, .int .i64 0, .bool false, U, .slice la l.length lc, .int .i64 l.length, .pointer (some ⟨w.heap.size, 3, none⟩), .slice sa b.ss.length sc, .int .i64 b.ss.length, .bool false, .slice (some ⟨w1.heap.size, 0, none⟩) 4 4, .slice la l.length lc, .int .i64 l.length, .agg #[.int .i64 b.room, .int .i64 b.gap, .slice ma b.ms.length mc, .slice sa b.ss.length sc, .slice ra b.rs.length rc], .agg #[.int .i64 b.room, .int .i64 b.gap, .slice ma b.ms.length mc, .slice sa b.ss.length sc, .slice ra b.rs.length rc], .func (.func 100) #[.agg #[.int .i64 b.room, .int .i64 b.gap, .slice ma b.ms.length mc, .slice sa b.ss.length sc, .slice ra b.rs.length rc]] #[], cameV (pad x), U, U, U], defers := [] }) ?hMid ?assign ?body ?done ?stop)
 case seq =>
  have hh := histories_iter HB.out HK.out HO.out HR.out (Below.next hbw2 hW) (p := fun k => (k < w2.heap.size ∧ k ≠ w.heap.size + 1 ∧ k ≠ w.heap.size + 1 + 1) ∨ (w2.heap.size + 2 ≤ k ∧ k ≤ w2.heap.size + 5)) (fun k hk => .inl (by omega)) (fun k h1 h2 => .inr (by omega))
  have e4 : W.heap.size + 1 + 1 + 1 + 1 = w2.heap.size + 6 := by omega
  have e2 : W.heap.size + 1 + 1 = w2.heap.size + 4 := by omega
  rw [e4, e2] at hh
  exact hh
 case hJ => exact fun pre A B h hk => ⟨h.1, h.2.trans (hk.mono fun k _ hk => by omega)⟩
 case hJx =>
  rintro pre A B ⟨h1, h2, h3, h4⟩ hk
  have e1 := lt_of_cell h2
  have e2 := lt_of_cell h3
  simp only at e1 e2
  exact ⟨h1, (hk.cell (x := ⟨w.heap.size + 1, 0, none⟩) e1 (by simp; omega)).trans h2, (hk.cell (x := ⟨w.heap.size + 1 + 1, 0, none⟩) e2 (by simp; omega)).trans h3, h4.trans (hk.mono fun k _ hk => by omega)⟩
 case h0 => exact fun W hW hsz => ⟨by simp [Hid], KS.all hW _⟩
 case hMid =>
  rintro pre x a₁ A B ⟨Bx, h1, h2, c0, c1, c2, c3, hj, ha⟩ hk hsz
  exact ⟨Bx, h1, by omega, (hk.cell h2 (by simp; omega)).trans c0, (hk.cell h2 (by simp; omega)).trans c1, (hk.cell h2 (by simp; omega)).trans c2, (hk.cell h2 (by simp; omega)).trans c3, ⟨hj.1, hj.2.trans (hk.mono fun k _ hk => by omega)⟩, ha⟩
 case assign =>
  rintro pre x args A hx ⟨rfl, hsz⟩ hj hlt
  have hp4 := four (pad_length (x := x) (by
   obtain ⟨suf, hx⟩ := hx
   have := (pasts_came HO.out (x := x) (by rw [hx]; simp)).2.2
   omega))
  obtain ⟨x0, x1, x2, x3, hx4⟩ := hp4
  have hv : cameV (pad x) = .agg #[.int .i64 x0, .int .i64 x1, .int .i64 x2, .int .i64 x3] := by rw [hx4]; rfl
  have HX := Hh hx4
  have HV := Hh hv
  rw [hv]
  have HJ := Hh hj
  clear hx4 hv hj
  rw [one_param]
  show Code.wpIn _ _ _ _ _ { tmps := #[.agg #[.int .i64 b.room, .int .i64 b.gap, .slice ma b.ms.length mc, .slice sa b.ss.length sc, .slice ra b.rs.length rc], .slice la l.length lc, .pointer (some ⟨w.heap.size, 0, none⟩), U, .pointer (some ⟨w.heap.size + 1, 0, none⟩), .pointer (some ⟨w.heap.size + 1 + 1, 0, none⟩), .int .i64 0, .pointer (some ⟨w1.heap.size, 0, none⟩), U, .agg #[.int .i64 b.room, .int .i64 b.gap, .slice ma b.ms.length mc, .slice sa b.ss.length sc, .slice ra b.rs.length rc], .int .i64 0, .int .i64 0, .bool false, U, .slice la l.length lc, .int .i64 l.length, .pointer (some ⟨w.heap.size, 3, none⟩), .slice sa b.ss.length sc, .int .i64 b.ss.length, .bool false, .slice (some ⟨w1.heap.size, 0, none⟩) 4 4, .slice la l.length lc, .int .i64 l.length, .agg #[.int .i64 b.room, .int .i64 b.gap, .slice ma b.ms.length mc, .slice sa b.ss.length sc, .slice ra b.rs.length rc], .agg #[.int .i64 b.room, .int .i64 b.gap, .slice ma b.ms.length mc, .slice sa b.ss.length sc, .slice ra b.rs.length rc], .func (.func 100) #[.agg #[.int .i64 b.room, .int .i64 b.gap, .slice ma b.ms.length mc, .slice sa b.ss.length sc, .slice ra b.rs.length rc]] #[], .agg #[.int .i64 x0, .int .i64 x1, .int .i64 x2, .int .i64 x3], U, U, U], defers := [] } A
  gi_wp2
  refine ⟨(KS.alloc _ _ _), A.heap.size, by omega, by simp, ?_, ?_, ?_, ?_, ⟨HJ.out.1, HJ.out.2.trans (KS.alloc _ _ _)⟩, ?_⟩
  ·rw [HX.out, World.cell?_alloc_at _ _ _ _ rfl]; rfl
  ·rw [HX.out, World.cell?_alloc_at _ _ _ _ rfl]; rfl
  ·rw [HX.out, World.cell?_alloc_at _ _ _ _ rfl]; rfl
  ·rw [HX.out, World.cell?_alloc_at _ _ _ _ rfl]; rfl
  ·first | rw [HV.out] | (unfold cameV; rw [HX.out]; rfl) | rfl
 case body =>
  rintro pre x a₁ A ⟨suf, hx⟩ ⟨Bx, h1, h2, c0, c1, c2, c3, hj, rfl⟩ hlt
  have hmem : x ∈ pasts b := by rw [hx]; simp
  have hxl := (pasts_came HO.out hmem).2.2
  have ha : A.heap.size ≥ w2.heap.size := hj.2.size
  have k0 := (hj.2.cell (x := ⟨w1.heap.size, 0, none⟩) (by simp; omega) (by simp; omega)).trans n0
  have k1 := (hj.2.cell (x := ⟨w1.heap.size, 1, none⟩) (by simp; omega) (by simp; omega)).trans n1
  have k2 := (hj.2.cell (x := ⟨w1.heap.size, 2, none⟩) (by simp; omega) (by simp; omega)).trans n2
  have k3 := (hj.2.cell (x := ⟨w1.heap.size, 3, none⟩) (by simp; omega) (by simp; omega)).trans n3
  have r1 := (hj.2.cell (x := ⟨w.heap.size + 1, 0, none⟩) (by simp; omega) (by simp; omega)).trans q1
  have r2 := (hj.2.cell (x := ⟨w.heap.size + 1 + 1, 0, none⟩) (by simp; omega) (by simp; omega)).trans q2
  have r3 := (hj.2.frozen (x := ⟨w.heap.size + 1, 0, none⟩) (by simp; omega) (by simp; omega)).trans q3
  have r4 := (hj.2.frozen (x := ⟨w.heap.size + 1 + 1, 0, none⟩) (by simp; omega) (by simp; omega)).trans q4
  have hA1 : w1.heap.size < A.heap.size := by omega
  have hA2 : w.heap.size + 1 < A.heap.size := by omega
  have hA3 : w.heap.size + 1 + 1 < A.heap.size := by omega
  have HJ := Hh hj
  have HM := Hh hmem
  obtain ⟨x0, x1, x2, x3, hx4⟩ := four (pad_length (x := x) (by omega))
  rw [hx4] at c0 c1 c2 c3
  simp only [List.getD_cons_zero, List.getD_cons_succ] at c0 c1 c2 c3
  have hxy : x = l ↔ [x0, x1, x2, x3] = [p0, p1, p2, p3] := by
   constructor
   ·rintro rfl; rw [← hx4, ← HP.out]
   ·intro e; exact pad_inj (by rw [hxl, HLL.out]) (by omega) (by rw [hx4, HP.out, e])
  clear hj hmem hx hxl hx4 n0 n1 n2 n3 q1 q2 q3 q4 m0 m1 m2 m3 m4
  by_cases he : x = l
  ·have he2 := hxy.1 he
   simp only [List.cons.injEq, and_true] at he2
   obtain ⟨rfl, rfl, rfl, rfl⟩ := he2
   have heq := fun w => (eqCame x0 x1 x2 x3 x0 x1 x2 x3 w).trans (by simp : _ = Result.ok (Value.bool true) w)
   have HE := Hh he
   clear he hxy
   gi_wp2
   have ks : KS (fun k => k ≠ w.heap.size + 1 ∧ k ≠ w.heap.size + 1 + 1) A ((A.setCell ⟨w.heap.size + 1, 0, none⟩ (.bool true)).setCell ⟨w.heap.size + 1 + 1, 0, none⟩ (.int .i64 0)) := (KS.setCell (by simp) _ _).trans (KS.setCell (by simp) _ _)
   refine ⟨ks.mono fun k _ hk => by omega, by rw [← HE.out]; exact HM, ?_, ?_, (HJ.out.2.mono fun k _ hk => hk.1).trans (ks.mono fun k _ hk => ⟨hk.2.1, hk.2.2⟩)⟩
   ·rw [World.cell?_setCell_other (h := fun e => by injection e with e _ _; omega), World.cell?_setCell_same' _ _ _ (by rw [r1]; rfl)]
   ·rw [World.cell?_setCell_same' _ _ _ (by rw [World.cell?_setCell_other (h := fun e => by injection e with e _ _; omega), r2]; rfl)]
  ·have hne4 : (x0 == p0 && x1 == p1 && x2 == p2 && x3 == p3) = false := by
    cases hq : (x0 == p0 && x1 == p1 && x2 == p2 && x3 == p3)
    ·rfl
    ·simp only [Bool.and_eq_true, beq_iff_eq] at hq
     obtain ⟨⟨⟨rfl, rfl⟩, rfl⟩, rfl⟩ := hq
     exact absurd (hxy.2 rfl) he
   have heq := fun w => (eqCame x0 x1 x2 x3 p0 p1 p2 p3 w).trans (by rw [hne4] : _ = Result.ok (Value.bool false) w)
   have HE := Hh he
   clear he hxy hne4
   gi_wp2
   exact ⟨KS.refl _ _, fun h => (List.mem_append.1 h).elim HJ.out.1.out (fun h => HE.out (List.mem_singleton.1 h).symm), HJ.out.2⟩
 case done =>
  rintro W ⟨hno, hk⟩ hd
  have r1 := (hk.cell (x := ⟨w.heap.size + 1, 0, none⟩) (by simp; omega) (by simp; omega)).trans q1
  have r2 := (hk.cell (x := ⟨w.heap.size + 1 + 1, 0, none⟩) (by simp; omega) (by simp; omega)).trans q2
  have r3 := (hk.frozen (x := ⟨w.heap.size + 1, 0, none⟩) (by simp; omega) (by simp; omega)).trans q3
  have r4 := (hk.frozen (x := ⟨w.heap.size + 1 + 1, 0, none⟩) (by simp; omega) (by simp; omega)).trans q4
  have hsz := hk.size
  have hA2 : w.heap.size + 1 < W.heap.size := by omega
  have hA3 : w.heap.size + 1 + 1 < W.heap.size := by omega
  have HKS := Hh hk
  clear hk n0 n1 n2 n3 q1 q2 q3 q4 m0 m1 m2 m3 m4
  go_wp2
  obtain ⟨W9, hW9⟩ : ∃ W9, W9 = ((W.setCell ⟨w.heap.size + 1, 0, none⟩ (.bool false)).setCell ⟨w.heap.size + 1 + 1, 0, none⟩ (.int .i64 0)) := ⟨_, rfl⟩
  rw [← hW9]
  have k9 : KS (fun k => k ≠ w.heap.size + 1 ∧ k ≠ w.heap.size + 1 + 1) W W9 := by rw [hW9]; exact (KS.setCell (by simp) _ _).trans (KS.setCell (by simp) _ _)
  have hD : w2.heap.size < W.heap.size := (Array.getElem?_eq_some_iff.1 hd).1
  have hd9 : W9.heap[w2.heap.size]? = some (.deferred (some [])) := (k9.block _ hD (by omega)).trans hd
  have k10 : KS (fun k => k ≠ w2.heap.size) W9 (W9.putObj w2.heap.size (.deferred none)) := KS.putObj (by simp) _ _
  have c1 : (W9.putObj w2.heap.size (.deferred none)).cell? ⟨w.heap.size + 1, 0, none⟩ = some (.bool false) := by
   rw [k10.cell (x := ⟨w.heap.size + 1, 0, none⟩) (Nat.lt_of_lt_of_le hA2 k9.size) (by simp; omega), hW9, World.cell?_setCell_other (h := fun e => by injection e with e _ _; omega), World.cell?_setCell_same' _ _ _ (by rw [r1]; rfl)]
  have c2 : (W9.putObj w2.heap.size (.deferred none)).cell? ⟨w.heap.size + 1 + 1, 0, none⟩ = some (.int .i64 0) := by
   rw [k10.cell (x := ⟨w.heap.size + 1 + 1, 0, none⟩) (Nat.lt_of_lt_of_le hA3 k9.size) (by simp; omega), hW9, World.cell?_setCell_same' _ _ _ (by rw [World.cell?_setCell_other (h := fun e => by injection e with e _ _; omega), r2]; rfl)]
  have hbw : Below w.heap.size w (W9.putObj w2.heap.size (.deferred none)) := by
   have h2 := (HKS.out.toBelow (n := w.heap.size) (by omega) (fun k hk => by omega))
   have h3 := (k9.toBelow (n := w.heap.size) (by omega) (fun k hk => by omega))
   have h4 := (k10.toBelow (n := w.heap.size) (by have := k9.size; omega) (fun k hk => by omega))
   exact ((hbw2.trans h2).trans h3).trans h4
  clear hW9 r1 r2 r3 r4
  refine ⟨by simp, .inl ⟨_, _, rfl, run_takeDeferred hd9, ?_⟩⟩
  exact ⟨.tuple #[.bool false, .int .i64 0], by simp [results, Tryz.results34, go_sem, c1, c2], by rw [decide_eq_false hno.out], hbw⟩
 case stop =>
  rintro pre W ⟨hyes, r1, r2, hk⟩ hd
  have HYES := Hh hyes
  clear hyes n0 n1 n2 n3 q1 q2 q3 q4 m0 m1 m2 m3 m4
  have hsz := hk.size
  have hA2 : w.heap.size + 1 < W.heap.size := by omega
  have hA3 : w.heap.size + 1 + 1 < W.heap.size := by omega
  have k10 : KS (fun k => k ≠ w2.heap.size) W (W.putObj w2.heap.size (.deferred none)) := KS.putObj (by simp) _ _
  have c1 := (k10.cell (x := ⟨w.heap.size + 1, 0, none⟩) hA2 (by simp; omega)).trans r1
  have c2 := (k10.cell (x := ⟨w.heap.size + 1 + 1, 0, none⟩) hA3 (by simp; omega)).trans r2
  have hbw : Below w.heap.size w (W.putObj w2.heap.size (.deferred none)) := by
   have h2 := (hk.toBelow (n := w.heap.size) (by omega) (fun k hk => by omega))
   have h4 := (k10.toBelow (n := w.heap.size) (by omega) (fun k hk => by omega))
   exact (hbw2.trans h2).trans h4
  refine wpIn_ret ?_
  refine ⟨by simp, .inl ⟨_, _, rfl, run_takeDeferred hd, ?_⟩⟩
  exact ⟨.tuple #[.bool true, .int .i64 0], by simp [results, Tryz.results34, go_sem, c1, c2], by rw [decide_eq_true HYES.out.out], hbw⟩
end
end Go.Proofs.YtbibidfkbdhblaaGreatDoor
