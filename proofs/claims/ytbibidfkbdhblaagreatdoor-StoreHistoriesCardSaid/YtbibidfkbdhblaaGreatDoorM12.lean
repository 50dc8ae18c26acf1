/- Leads to StoreHistories of chapter 6: J2 N1 N2. -/
import Derived.Test.YtbibidfkbdhblaaGreatDoorM11
set_option maxHeartbeats 6000000
set_option maxRecDepth 100000
set_option linter.all false
namespace Go.Proofs.YtbibidfkbdhblaaGreatDoor
open Go.RowKit Go.Maps Sp
attribute [local go_sem] Oper.semAt_some
theorem parts_isPart {b : Bk} {x : Prt} (h : x ∈ partsL b) : isPart b x = true := by
 unfold partsL partsTo at h
 obtain ⟨i, hi, h⟩ := List.mem_flatMap.1 h
 unfold partsOf at h
 obtain ⟨g, hg, rfl⟩ := List.mem_map.1 h
 rw [List.mem_range] at hi hg
 clear h
 unfold isPart inB
 simp only [Int.toNat_natCast]
 simp only [Bool.and_eq_true, decide_eq_true_eq]
 generalize hn : (b.ms[i]?).elim 0 Msg.groups = n at hg
 omega
theorem parts_bd {b : Bk} (hO : BkOk b) : (partsL b).length ≤ 5000 := by
 unfold partsL partsTo
 rw [List.length_flatMap]
 have h := sum_map_le (fun i => (partsOf i ((b.ms[i]?).elim 0 Msg.groups).toNat).length) 1000 (List.range b.ms.length) fun i hi => by
  unfold partsOf
  rw [List.length_map, List.length_range]
  cases hm : b.ms[i]? with
  | none => simp
  | some m =>
   have := (hO.groups m (List.mem_of_getElem? hm)).2
   simp only [Option.elim]
   omega
 rw [List.length_range] at h
 have := hO.ml
 omega
theorem partInfo : (Tryz.prog.info? 85).map (fun i => (i.zero, i.size, i.bytes)) = some (some (.agg #[.int .i64 0, .int .i64 0]), 2, 16) := by kernel_rfl
def cellsQ (p : Prt) : List Value := [.int .i64 p.1, .int .i64 p.2]
def isMiss (b : Bk) (l : List (List Int)) (p : Prt) : Bool := decide (countI (oftenI b l p) 1 < (l.length : Int))
def missL (b : Bk) (l : List (List Int)) (pre : List Prt) : List Prt := pre.filter (isMiss b l)
theorem calls_round {P : Program} {f : FuncId} {args : Array Value} {w : World} {R : Ending → World → Prop} {l n : Nat} (h : Calls P f args w R) : CallsIn (Fence.wide.inRound l) n P f args w R := (callsIn_wide (n := n)).2 h
section
variable {b : Bk} {vr vg vm vs vc : Value}
structure MisJ (w : World) (b : Bk) (vr vg vm vs vc : Value) (la : Option Addr) (lc : Nat) (l : List (List Int)) (pre : List Prt) (A : World) : Prop where
 five : Five A w.heap.size vr vg vm vs vc
 c : A.cell? ⟨w.heap.size + 1, 0, none⟩ = some (.slice la l.length lc)
 out : ∃ v, A.cell? ⟨w.heap.size + 2, 0, none⟩ = some v ∧ A.frozen? ⟨w.heap.size + 2, 0, none⟩ = false ∧ A.ownsRow (w.heap.size + 5) 85 2 v (missL b l pre).length ((missL b l pre).flatMap cellsQ)
 base : Below w.heap.size w A
 lt : w.heap.size + 4 < A.heap.size
theorem MisJ.keep {w A B : World} {la : Option Addr} {lc : Nat} {l : List (List Int)} {pre : List Prt} (h : MisJ w b vr vg vm vs vc la lc l pre A) {p : Nat → Prop} (hk : KS p A B) (hp : ∀ k, k ≤ w.heap.size + 2 ∨ w.heap.size + 5 ≤ k → p k) : MisJ w b vr vg vm vs vc la lc l pre B := by
 obtain ⟨h1, h2, ⟨v, h3, h4, h5⟩, h6, h7⟩ := h
 have e : ∀ o, B.cell? ⟨w.heap.size, o, none⟩ = A.cell? ⟨w.heap.size, o, none⟩ := fun o => hk.cell (x := ⟨w.heap.size, o, none⟩) (by simp; omega) (hp _ (.inl (by simp)))
 refine ⟨⟨(e 0).trans h1.c0, (e 1).trans h1.c1, (e 2).trans h1.c2, (e 3).trans h1.c3, (e 4).trans h1.c4, Nat.lt_of_lt_of_le h1.lt hk.size⟩, (hk.cell (x := ⟨w.heap.size + 1, 0, none⟩) (by simp; omega) (hp _ (.inl (by simp)))).trans h2,
  ⟨v, (hk.cell (x := ⟨w.heap.size + 2, 0, none⟩) (by simp; omega) (hp _ (.inl (by simp)))).trans h3, (hk.frozen (x := ⟨w.heap.size + 2, 0, none⟩) (by simp; omega) (hp _ (.inl (by simp)))).trans h4, ownsRow_ks h5 hk fun k hk => hp k (.inr hk)⟩,
  ⟨hk.os.trans h6.os, hk.tape.trans h6.tape, hk.output.trans h6.output, Nat.le_trans h6.size hk.size, fun k hkk => (hk.block k (Nat.lt_of_lt_of_le hkk h6.size) (hp k (.inl (by omega)))).trans (h6.block k hkk)⟩, Nat.lt_of_lt_of_le h7 hk.size⟩
def MisMid (w : World) (b : Bk) (vr vg vm vs vc : Value) (la : Option Addr) (lc : Nat) (l : List (List Int)) (pre : List Prt) (x : Prt) (a : Act) (A : World) : Prop :=
 ∃ B, w.heap.size + 5 ≤ B ∧ B < A.heap.size ∧ A.cell? ⟨B, 0, none⟩ = some (.int .i64 x.1) ∧ A.cell? ⟨B, 1, none⟩ = some (.int .i64 x.2) ∧
  a = { tmps := #[.agg #[vr, vg, vm, vs, vc], .slice la l.length lc, .pointer (some ⟨w.heap.size, 0, none⟩), .pointer (some ⟨w.heap.size + 1, 0, none⟩), .slice none 0 0, .pointer (some ⟨w.heap.size + 2, 0, none⟩), .pointer (some ⟨B, 0, none⟩), .agg #[vr, vg, vm, vs, vc], .func (.func 98) #[.agg #[vr, vg, vm, vs, vc]] #[], .agg #[.int .i64 x.1, .int .i64 x.2], U, U, U, U, U, U, U, U, U, U, U, U, U], defers := [] } ∧ MisJ w b vr vg vm vs vc la lc l pre A
def MisOut (w : World) (b : Bk) (l : List (List Int)) (e : Ending) (w' : World) : Prop := ∃ v, e = .returned v ∧ w'.ownsRow (w.heap.size + 5) 85 2 v (missL b l (partsL b)).length ((missL b l (partsL b)).flatMap cellsQ) ∧ Below w.heap.size w w'
theorem missing_at {w : World} (hB : BookAt w b vr vg vm vs vc) (hO : BkOk b) {la : Option Addr} {lc : Nat} {l : List (List Int)} (hL : CamesAt w la l) (hl : ∀ x ∈ l, Came b (pad x) ∧ (pad x).length = 4 ∧ x.length = b.ss.length) (hll : l.length ≤ 2000) :
 Calls Tryz.prog 81 #[.agg #[vr, vg, vm, vs, vc], .slice la l.length lc] w (MisOut w b l) := by
 refine (callsIn_wide (n := 0)).1 (callsIn_of_wp_marks Tryz.func81 rfl trivial (wpIn_wide.2 ?_) rfl)
 have HB := Hh hB
 have HO := Hh hO
 have HL := Hh hL
 have HLL := Hh hl
 obtain ⟨rfl, rfl, ⟨ma, mc, rfl, _, _⟩, ⟨sa, sc, rfl, _, _⟩, ra, rc, rfl, _, _⟩ := id hB
 clear hB hO hL hl
 simp only [Tryz.ntmps81, List.size_toArray, List.length_cons, List.length_nil, Nat.reduceAdd, Nat.reduceSub, Array.replicate_succ, Array.replicate_zero, List.push_toArray, List.append_toArray, List.nil_append, List.cons_append]
 go_wp2
 obtain ⟨W1, hW1⟩ : ∃ W1, W1 = ((w.alloc (.cells #[.int .i64 b.room, .int .i64 b.gap, .slice ma b.ms.length mc, .slice sa b.ss.length sc, .slice ra b.rs.length rc] 99)).alloc (.cells #[.slice la l.length lc] 100)).alloc (.cells #[.slice none 0 0] 38) := ⟨_, rfl⟩
 rw [← hW1]
 have hb1 : Below w.heap.size w W1 := by rw [hW1]; (exact bel)
 have hs1 : W1.heap.size = w.heap.size + 1 + 1 + 1 := by rw [hW1]; simp
 have hj1 : ∀ W, Below W1.heap.size W1 W → W.heap.size = W1.heap.size + 1 + 1 → MisJ w b (.int .i64 b.room) (.int .i64 b.gap) (.slice ma b.ms.length mc) (.slice sa b.ss.length sc) (.slice ra b.rs.length rc) la lc l [] W := by
  intro W hW hsz
  have five := ((Five.new w (.int .i64 b.room) (.int .i64 b.gap) (.slice ma b.ms.length mc) (.slice sa b.ss.length sc) (.slice ra b.rs.length rc) 99).below ((bal _ (.cells #[.slice la l.length lc] 100)).alloc (by simp) (.cells #[.slice none 0 0] 38)) (by simp))
  rw [← hW1] at five
  refine ⟨five.below hW five.lt, ?_, ⟨.slice none 0 0, ?_, ?_, by simpa [missL] using World.ownsRow_nil _ _ _ _⟩, Below.next hb1 hW, by omega⟩
  ·refine (hW.cell (p := ⟨w.heap.size + 1, 0, none⟩) (by simp; omega)).trans ?_
   rw [hW1, World.cell?_alloc_past _ _ _ (by simp), alloc1_cell (by simp)]
  ·refine (hW.cell (p := ⟨w.heap.size + 2, 0, none⟩) (by simp; omega)).trans ?_
   rw [hW1, alloc1_cell (by simp)]
  ·refine (hW.frozen (p := ⟨w.heap.size + 2, 0, none⟩) (by simp; omega)).trans ?_
   rw [hW1, World.frozen?_alloc_at _ _ _ _ (by simp)]
 have HJ1 := Hh hj1
 clear hj1 hW1
 have e3 : W1.heap.size + 1 = w.heap.size + 4 := by omega
 refine wpIn_wide.1 (wpIn_range (gf := 98) (recv := .agg #[.int .i64 b.room, .int .i64 b.gap, .slice ma b.ms.length mc, .slice sa b.ss.length sc, .slice ra b.rs.length rc]) rfl (enters_of Tryz.func98 (by kernel_rfl) rfl)
  encP (fun x args W h => by rw [h]; rfl) (partsL b) (fun _ => False) (fun k => k < w.heap.size) ⟨fun h => h, fun h => h⟩ (by omega)
  (fun W hW hsz => ?seq) (MisJ w b (.int .i64 b.room) (.int .i64 b.gap) (.slice ma b.ms.length mc) (.slice sa b.ss.length sc) (.slice ra b.rs.length rc) la lc l) (fun _ _ => False) ?hJ ?hJx ?h0 (MisMid w b (.int .i64 b.room) (.int .i64 b.gap) (.slice ma b.ms.length mc) (.slice sa b.ss.length sc) (.slice ra b.rs.length rc) la lc l) ?hMid ?assign ?body ?done ?stop)
 case seq => exact parts_iter HB.out HO.out.groups (Below.next hb1 hW) (fun k hk => hk)
 case hJ => exact fun pre A B h hk => h.keep hk fun k hk h => h.elim id fun h => by omega
 case hJx => exact fun _ _ _ h _ => h
 case h0 => exact fun W hW hsz => HJ1.out W hW hsz
 case hMid =>
  rintro pre x a₁ A B ⟨Bx, h1, h2, c0, c1, ha, hj⟩ hk hsz
  exact ⟨Bx, h1, by omega, (hk.cell h2 (by simp; omega)).trans c0, (hk.cell h2 (by simp; omega)).trans c1, ha, hj.keep hk (by omega)⟩
 case assign =>
  rintro pre x args A hx rfl hj hlt
  have HJ := Hh hj
  clear hj hx
  rw [one_param]
  show Code.wpIn _ _ _ _ _ { tmps := #[.agg #[.int .i64 b.room, .int .i64 b.gap, .slice ma b.ms.length mc, .slice sa b.ss.length sc, .slice ra b.rs.length rc], .slice la l.length lc, .pointer (some ⟨w.heap.size, 0, none⟩), .pointer (some ⟨w.heap.size + 1, 0, none⟩), .slice none 0 0, .pointer (some ⟨w.heap.size + 1 + 1, 0, none⟩), U, .agg #[.int .i64 b.room, .int .i64 b.gap, .slice ma b.ms.length mc, .slice sa b.ss.length sc, .slice ra b.rs.length rc], .func (.func 98) #[.agg #[.int .i64 b.room, .int .i64 b.gap, .slice ma b.ms.length mc, .slice sa b.ss.length sc, .slice ra b.rs.length rc]] #[], .agg #[.int .i64 x.1, .int .i64 x.2], U, U, U, U, U, U, U, U, U, U, U, U, U], defers := [] } _
  gi_wp2
  refine ⟨(KS.alloc _ _ _), A.heap.size, by omega, by simp, ?_, ?_, rfl, HJ.out.keep (KS.alloc (fun _ => True) _ _) (fun _ _ => trivial)⟩
  ·rw [World.cell?_alloc_at _ _ _ _ rfl]; rfl
  ·rw [World.cell?_alloc_at _ _ _ _ rfl]; rfl
 case body =>
  rintro pre x a₁ A hx ⟨Bx, h1, h2, c0, c1, rfl, hj⟩ hlt
  have hlen : pre.length < 5000 := by
   obtain ⟨suf, hx⟩ := hx
   have := parts_bd HO.out
   rw [hx] at this
   simp at this
   omega
  have hpx : isPart b x = true := parts_isPart (by obtain ⟨suf, hx⟩ := hx; rw [hx]; simp)
  obtain ⟨f0, f1, f2, f3, f4, f5⟩ := hj.five
  have fc := hj.c
  have hbel := hj.base
  have HBA := Hh (HB.out.below hbel)
  have HLA := Hh (HL.out.below hbel)
  have HPX := Hh hpx
  have HJ := Hh hj
  clear hj hpx hx
  obtain ⟨x1, x2⟩ := x
  simp only at c0 c1
  have hA1 : w.heap.size + 1 < A.heap.size := by omega
  have hA2 : w.heap.size + 2 < A.heap.size := by omega
  gi_wp2
  refine wpIn_mono (Q := fun e a' w' => e = .normal ∧ Below A.heap.size A w' ∧ ∃ u10 u11 u12 u13 u14 u15 u16, a' = { tmps := #[.agg #[.int .i64 b.room, .int .i64 b.gap, .slice ma b.ms.length mc, .slice sa b.ss.length sc, .slice ra b.rs.length rc], .slice la l.length lc, .pointer (some ⟨w.heap.size, 0, none⟩), .pointer (some ⟨w.heap.size + 1, 0, none⟩), .slice none 0 0, .pointer (some ⟨w.heap.size + 2, 0, none⟩), .pointer (some ⟨Bx, 0, none⟩), .agg #[.int .i64 b.room, .int .i64 b.gap, .slice ma b.ms.length mc, .slice sa b.ss.length sc, .slice ra b.rs.length rc], .func (.func 98) #[.agg #[.int .i64 b.room, .int .i64 b.gap, .slice ma b.ms.length mc, .slice sa b.ss.length sc, .slice ra b.rs.length rc]] #[], .agg #[.int .i64 x1, .int .i64 x2], u10, u11, u12, u13, u14, u15, u16, .bool (decide (countI (oftenI b l (x1, x2)) 1 < (l.length : Int))), U, U, U, U, U], defers := [] }) ?_ ?_
  ·gi_region_with (first
    | (gi_at_call 91; (with_reducible refine (calls_round (often_at (p := (x1, x2)) (HBA.out.below (bel)) HO.out (HLA.out.below (bel)) HLL.out hll HPX.out)).mono ?_); rintro e w4 ⟨ia, ic, rfl, hir, hb4⟩; have HIR := Hh hir; obtain ⟨hc4, hf4⟩ := bcell hb4; have hz4 := hb4.size; (try simp at hz4); have fc4 : w4.cell? ⟨w.heap.size + 1, 0, none⟩ = some (.slice la l.length lc) := (hb4.cell (p := ⟨w.heap.size + 1, 0, none⟩) (by simp; omega)).trans fc; clear hir)
    | (gi_at_call 90; (with_reducible refine (calls_round (count_at 1 (ints_of_row HIR.out) (by simp [oftenI]; omega) rfl)).mono ?_); rintro e w5 ⟨rfl, rfl⟩))
   all_goals exact ⟨rfl, bel, _, _, _, _, _, _, _, rfl⟩
  rintro e a' w4 ⟨rfl, hb4, u10, u11, u12, u13, u14, u15, u16, rfl⟩
  have hJ4 := HJ.out.keep (KS.all hb4 (fun _ => True)) (fun _ _ => trivial)
  have d0 := (hb4.cell (p := ⟨Bx, 0, none⟩) h2).trans c0
  have d1 := (hb4.cell (p := ⟨Bx, 1, none⟩) h2).trans c1
  clear f0 f1 f2 f3 f4 f5 fc c0 c1
  have hB2 : Bx < w4.heap.size := Nat.lt_of_lt_of_le h2 hb4.size
  obtain ⟨v, o1, o2, hrow⟩ := hJ4.out
  have HJ4 := Hh hJ4
  have HROW := Hh hrow
  have hlt4 := hJ4.lt
  have hbel4 := hJ4.base
  have hmb : (missL b l pre).length < 5000 := Nat.lt_of_le_of_lt (List.length_filter_le _ _) hlen
  clear hJ4 hrow
  by_cases hm : countI (oftenI b l (x1, x2)) 1 < (l.length : Int)
  ·have hd : decide (countI (oftenI b l (x1, x2)) 1 < (l.length : Int)) = true := decide_eq_true hm
   have hml : missL b l (pre ++ [(x1, x2)]) = missL b l pre ++ [(x1, x2)] := by
    unfold missL
    rw [List.filter_append, List.filter_cons, if_pos (show isMiss b l (x1, x2) = true from hd), List.filter_nil]
   have HML := Hh hml
   rw [hd]
   obtain ⟨i0, hi, hz0, hz1, hz2⟩ := info_parts partInfo
   clear hd hml hm
   gi_wp2_with (gi_at_builtin; go_loud (refine wpListIn_append_own _ rfl _ _ 38 rfl (w.heap.size + 5) 85 i0 (.agg #[.int .i64 0, .int .i64 0]) 2 16 Tryz.underlying38 hi hz0 hz1 hz2 rfl (by decide) _ _ _ rfl (ownsRow_ks HROW.out (KS.alloc (fun _ => True) _ _) (fun _ _ => trivial)) ⟨w4.heap.size, 0, none⟩ 1 1 [.int .i64 x1, .int .i64 x2] rfl rfl (cells_new _ _ _) (by simp [Value.oneCell']) (by unfold maxLen; omega) (by omega) (by simp; omega) ?_; intro v' w1 hown' hgrow _; obtain ⟨g', cap', rfl⟩ := ownsRow_succ hown'; have hks := grow_ks (ownsRow_ks HROW.out (KS.alloc (fun _ => True) w4 _) (fun _ _ => trivial)) hgrow; have q1 := (hks.cell (x := ⟨w.heap.size + 2, 0, none⟩) (by simp; omega) (by simp)); have q2 := (hks.frozen (x := ⟨w.heap.size + 2, 0, none⟩) (by simp; omega) (by simp)); rw [World.cell?_alloc_past _ _ _ (by omega), o1] at q1; rw [World.frozen?_alloc_past _ _ _ (by omega), o2] at q2))
   have hks3 : KS (fun k => k ≠ w.heap.size + 2) w1 (w1.setCell ⟨w.heap.size + 2, 0, none⟩ (.slice (some ⟨g', 0, none⟩) ((missL b l pre).length + 1) cap')) := KS.setCell (by simp) _ _
   have hks1 := KS.alloc (fun k => k < w.heap.size + 5) w4 (.cells #[.int .i64 x1, .int .i64 x2] 85)
   have hks4 : KS (fun k => k < w.heap.size + 5 ∧ k ≠ w.heap.size + 2) w4 (w1.setCell ⟨w.heap.size + 2, 0, none⟩ (.slice (some ⟨g', 0, none⟩) ((missL b l pre).length + 1) cap')) := ((hks1.trans hks).mono fun k _ h => h.1).trans (hks3.mono fun k _ h => h.2)
   have hks5 := (KS.all hb4 (fun k => k < w.heap.size + 5 ∧ k ≠ w.heap.size + 2)).trans hks4
   refine ⟨hks5.mono fun k _ h => by omega, ?_⟩
   have e : ∀ o, (w1.setCell ⟨w.heap.size + 2, 0, none⟩ (.slice (some ⟨g', 0, none⟩) ((missL b l pre).length + 1) cap')).cell? ⟨w.heap.size, o, none⟩ = A.cell? ⟨w.heap.size, o, none⟩ := fun o => hks5.cell (x := ⟨w.heap.size, o, none⟩) (by simp; omega) (by simp)
   have h5 := HJ.out.five
   refine ⟨⟨(e 0).trans h5.c0, (e 1).trans h5.c1, (e 2).trans h5.c2, (e 3).trans h5.c3, (e 4).trans h5.c4, Nat.lt_of_lt_of_le h5.lt hks5.size⟩, (hks5.cell (x := ⟨w.heap.size + 1, 0, none⟩) (by simp; omega) (by simp)).trans HJ.out.c, ⟨_, World.cell?_setCell_same' _ _ _ (by rw [q1]; rfl), by rw [World.frozen?_setCell]; exact q2, ?_⟩, ?_, Nat.lt_of_lt_of_le hlt4 hks4.size⟩
   ·rw [HML.out, List.flatMap_append, List.length_append, List.flatMap_cons, List.flatMap_nil, List.append_nil]
    exact ownsRow_ks hown' hks3 (fun k hk => by omega)
   ·exact ⟨hks4.os.trans hbel4.os, hks4.tape.trans hbel4.tape, hks4.output.trans hbel4.output, Nat.le_trans hbel4.size hks4.size, fun k hkk => (hks4.block k (Nat.lt_of_lt_of_le hkk hbel4.size) ⟨by omega, by omega⟩).trans (hbel4.block k hkk)⟩
  ·have hd : decide (countI (oftenI b l (x1, x2)) 1 < (l.length : Int)) = false := decide_eq_false hm
   have hml : missL b l (pre ++ [(x1, x2)]) = missL b l pre := by
    unfold missL
    rw [List.filter_append, List.filter_cons, if_neg (by rw [show isMiss b l (x1, x2) = false from hd]; simp), List.filter_nil, List.append_nil]
   have HML := Hh hml
   rw [hd]
   clear hd hml hm
   gi_wp2
   refine ⟨(KS.all hb4 _), ?_⟩
   have h := HJ4.out
   exact ⟨h.five, h.c, by rw [HML.out]; exact h.out, h.base, h.lt⟩
 case done =>
  rintro W hj hd
  obtain ⟨h1, h2, ⟨v, o1, o2, hrow⟩, hbel, hlt⟩ := hj
  clear h1 h2
  go_wp2
  refine ⟨by simp, .inl ⟨_, _, rfl, run_takeDeferred hd, ?_⟩⟩
  have hks : KS (fun k => k ≠ W1.heap.size) W (W.putObj W1.heap.size (.deferred none)) := KS.putObj (by simp) _ _
  exact ⟨_, results_tmp rfl _ _ _, ⟨_, rfl, ownsRow_ks hrow hks (fun k hk => by omega), ⟨hks.os.trans hbel.os, hks.tape.trans hbel.tape, hks.output.trans hbel.output, Nat.le_trans hbel.size hks.size, fun k hkk => (hks.block k (Nat.lt_of_lt_of_le hkk hbel.size) (by omega)).trans (hbel.block k hkk)⟩⟩⟩
 case stop => exact fun _ _ h _ => h.elim
end
end Go.Proofs.YtbibidfkbdhblaaGreatDoor
namespace Go.Proofs.YtbibidfkbdhblaaGreatDoor
namespace Sp
def endAt (gap now : Int) (tapes : List Int) (k : Nat) : Int := now + ((tapes.take k).map fun x => gap + x).sum
def endsTo (gap now : Int) (tapes : List Int) (k : Nat) : List Int := (List.range k).map fun i => endAt gap now tapes (i + 1)
def endsI (gap now : Int) (tapes : List Int) : List Int := endsTo gap now tapes tapes.length
theorem endAt_zero (gap now : Int) (tapes : List Int) : endAt gap now tapes 0 = now := by simp [endAt]
theorem endAt_succ (gap now : Int) (tapes : List Int) {k : Nat} (h : k < tapes.length) : endAt gap now tapes (k + 1) = endAt gap now tapes k + (gap + tapes[k]) := by
 unfold endAt
 rw [List.take_succ_eq_append_getElem h, List.map_append, List.sum_append]
 simp
 omega
theorem endsTo_succ (gap now : Int) (tapes : List Int) (k : Nat) : endsTo gap now tapes (k + 1) = endsTo gap now tapes k ++ [endAt gap now tapes (k + 1)] := by
 unfold endsTo
 rw [List.range_succ, List.map_append]
 rfl
theorem endsTo_length (gap now : Int) (tapes : List Int) (k : Nat) : (endsTo gap now tapes k).length = k := by simp [endsTo]
theorem endsI_length (gap now : Int) (tapes : List Int) : (endsI gap now tapes).length = tapes.length := endsTo_length ..
theorem endAt_bd {gap now : Int} {tapes : List Int} (hg : 0 ≤ gap ∧ gap ≤ 100) (hn : 0 ≤ now ∧ now ≤ 1000) (ht : ∀ x ∈ tapes, 0 ≤ x ∧ x ≤ 100000) : ∀ k, k ≤ tapes.length → 0 ≤ endAt gap now tapes k ∧ endAt gap now tapes k ≤ 1000 + k * 100100
 | 0, _ => by rw [endAt_zero]; omega
 | k + 1, h => by
  have ih := endAt_bd hg hn ht k (by omega)
  rw [endAt_succ _ _ _ (by omega)]
  have := ht _ (List.getElem_mem (show k < tapes.length by omega))
  omega
theorem endsI_bd {gap now : Int} {tapes : List Int} (hg : 0 ≤ gap ∧ gap ≤ 100) (hn : 0 ≤ now ∧ now ≤ 1000) (ht : ∀ x ∈ tapes, 0 ≤ x ∧ x ≤ 100000) (hl : tapes.length ≤ 100) : ∀ x ∈ endsI gap now tapes, 0 ≤ x ∧ x ≤ 20000000 := fun x hx => by
 obtain ⟨i, hi, rfl⟩ := List.mem_map.1 hx
 have := List.mem_range.1 hi
 have := endAt_bd hg hn ht (i + 1) (by omega)
 omega
def tapeStep (n : Int) (out : List Int) (k ld : Int) : Option (List Int) :=
 if k < -1 ∨ n ≤ k ∨ ¬ (k = -1 ↔ ld = 0) then none
 else if k < 0 then some out
 else some ((out ++ List.replicate (k.toNat + 1 - out.length) 0).set k.toNat ((out ++ List.replicate (k.toNat + 1 - out.length) 0).getD k.toNat 0 + ld))
def tapesGo (n : Int) (out : List Int) : List (Int × Int) → Option (List Int)
 | [] => some out
 | (k, ld) :: l => (tapeStep n out k ld).bind fun o => tapesGo n o l
def tapesI (loads plan : List Int) : Option (List Int) := tapesGo plan.length [] (plan.zip loads)
def planOk (loads plan : List Int) : Option (List Int) := (tapesI loads plan).bind fun o => if 0 ∈ o then none else some o
theorem tapeStep_bd {n : Int} {out o : List Int} {k ld : Int} (h : tapeStep n out k ld = some o) {m : Int} (hn : n ≤ 100) (hm : 0 ≤ m) (hl : 0 ≤ ld ∧ ld ≤ 1000) (ho : ∀ x ∈ out, 0 ≤ x ∧ x ≤ m) (hlen : out.length ≤ 100) :
 (∀ x ∈ o, 0 ≤ x ∧ x ≤ m + 1000) ∧ o.length ≤ 100 := by
 unfold tapeStep at h
 split at h
 ·cases h
 ·rename_i hk
  split at h
  ·cases h
   exact ⟨fun x hx => by have := ho x hx; omega, hlen⟩
  ·cases h
   have h1 : ∀ x ∈ out ++ List.replicate (k.toNat + 1 - out.length) 0, 0 ≤ x ∧ x ≤ m := fun x hx => by
    rcases List.mem_append.1 hx with hx | hx
    ·exact ho x hx
    ·rw [List.eq_of_mem_replicate hx]; omega
   refine ⟨fun x hx => ?_, ?_⟩
   ·rcases List.mem_or_eq_of_mem_set hx with hx | rfl
    ·have := h1 x hx; omega
    ·have : 0 ≤ (out ++ List.replicate (k.toNat + 1 - out.length) 0).getD k.toNat 0 ∧ (out ++ List.replicate (k.toNat + 1 - out.length) 0).getD k.toNat 0 ≤ m := by
      rw [List.getD_eq_getElem?_getD]
      cases hg : (out ++ List.replicate (k.toNat + 1 - out.length) 0)[k.toNat]? with
      | none => simpa using hm
      | some y => simpa using h1 y (List.mem_of_getElem? hg)
     omega
   ·rw [List.length_set, List.length_append, List.length_replicate]
    omega
theorem tapesGo_bd {n : Int} (hn : n ≤ 100) : ∀ (l : List (Int × Int)) (out o : List Int) (m : Int) (_ : tapesGo n out l = some o) (_ : 0 ≤ m) (_ : ∀ x ∈ l, 0 ≤ x.2 ∧ x.2 ≤ 1000) (_ : ∀ x ∈ out, 0 ≤ x ∧ x ≤ m) (_ : out.length ≤ 100), (∀ x ∈ o, 0 ≤ x ∧ x ≤ m + l.length * 1000) ∧ o.length ≤ 100
 | [], out, o, m, h, hm, hl, ho, hlen => by cases h; exact ⟨fun x hx => by have := ho x hx; simp; omega, hlen⟩
 | (k, ld) :: l, out, o, m, h, hm, hl, ho, hlen => by
  unfold tapesGo at h
  cases h1 : tapeStep n out k ld with
  | none => rw [h1] at h; cases h
  | some o1 =>
   rw [h1] at h
   obtain ⟨h2, h3⟩ := tapeStep_bd h1 hn hm (hl (k, ld) (by simp)) ho hlen
   obtain ⟨h4, h5⟩ := tapesGo_bd hn l o1 o (m + 1000) h (by omega) (fun x hx => hl x (by simp [hx])) h2 h3
   exact ⟨fun x hx => by have := h4 x hx; simp only [List.length_cons]; omega, h5⟩
theorem planOk_bd {loads plan o : List Int} (h : planOk loads plan = some o) (hp : plan.length ≤ 50) (hl : ∀ x ∈ loads, 0 ≤ x ∧ x ≤ 1000) : (∀ x ∈ o, 0 ≤ x ∧ x ≤ 100000) ∧ o.length ≤ 100 := by
 unfold planOk tapesI at h
 cases h1 : tapesGo plan.length [] (plan.zip loads) with
 | none => rw [h1] at h; cases h
 | some o1 =>
  rw [h1] at h
  have h : (if 0 ∈ o1 then none else some o1) = some o := h
  split at h
  ·cases h
  ·cases h
   obtain ⟨h2, h3⟩ := tapesGo_bd (by omega) _ _ _ 0 h1 (by omega) (fun x hx => hl _ (List.of_mem_zip hx).2) (by simp) (by simp)
   refine ⟨fun x hx => ?_, h3⟩
   have := h2 x hx
   have h5 : (plan.zip loads).length ≤ 50 := by rw [List.length_zip]; omega
   omega
def lateGo (ends : List Int) : List Int → List Msg → Int → Int
 | k :: ks, m :: ms, t => lateGo ends ks ms (if 0 ≤ k then max t (ends.getD k.toNat 0 - m.due) else t)
 | _, _, t => t
def lateI (b : Bk) (plan tapes : List Int) : Int := lateGo (endsI b.gap 0 tapes) plan b.ms (-999)
def fitsI (b : Bk) (tapes : List Int) : Bool := tapes.all fun n => decide (n ≤ b.room)
def goodI (b : Bk) (plan tapes : List Int) (now : Int) : Bool := fitsI b tapes && (decide (lateI b plan tapes + now ≤ 0) || decide (tapes = []))
def plansFrom (loads : List Int) (pre : List Int) : List Int → List (List Int × List Int)
 | [] => match planOk loads pre with
  | some t => [(pre, t)]
  | none => []
 | ld :: rest => (if ld = 0 then [(-1 : Int)] else (List.range loads.length).map fun (k : Nat) => (k : Int)).flatMap fun k => plansFrom loads (pre ++ [k]) rest
def plansI (loads : List Int) : List (List Int × List Int) := plansFrom loads [] loads
def packStep (b : Bk) (now : Int) (st : Option (List Int × List Int)) (x : List Int × List Int) : Option (List Int × List Int) :=
 if goodI b x.1 x.2 now && (match st with | none => true | some y => decide (x.2.length < y.2.length)) then some x else st
def packI (b : Bk) (loads : List Int) (now : Int) : Option (List Int × List Int) := (plansI loads).foldl (packStep b now) none
def latestStep (b : Bk) (st : Option Int) (x : List Int × List Int) : Option Int :=
 if fitsI b x.2 && decide (lateI b x.1 x.2 ≤ 0) && (match st with | none => true | some y => decide (y < - lateI b x.1 x.2)) then some (- lateI b x.1 x.2) else st
def latestI (b : Bk) (loads : List Int) : Option Int := (plansI loads).foldl (latestStep b) none
end Sp
end Go.Proofs.YtbibidfkbdhblaaGreatDoor
namespace Go.Proofs.YtbibidfkbdhblaaGreatDoor
open Go.RowKit Go.Maps Sp
section
variable {b : Bk} {vr vg vm vs vc : Value} {w : World}
theorem ends_at (hB : BookAt w b vr vg vm vs vc) (ls : Value) (hls : ls.oneCell' = true) {ta : Option Addr} {tc : Nat} {tapes : List Int} (hT : IntsAt w ta tapes) (htl : tapes.length ≤ 100) (htb : ∀ x ∈ tapes, 0 ≤ x ∧ x ≤ 100000) (hg : 0 ≤ b.gap ∧ b.gap ≤ 100) {now : Int} (hn : 0 ≤ now ∧ now ≤ 1000) :
 Calls Tryz.prog 77 #[.agg #[vr, vg, vm, vs, vc, ls], .slice ta tapes.length tc, .int .i64 now] w (IntsOut w (endsI b.gap now tapes)) := by
 have HB := Hh hB
 have HT := Hh hT
 have HTB := Hh htb
 have HBD := Hh (endAt_bd hg hn htb)
 obtain ⟨rfl, rfl, ⟨ma, mc, rfl, _, _⟩, ⟨sa, sc, rfl, _, _⟩, ra, rc, rfl, _, _⟩ := id hB
 clear hB hT htb
 go_enter Tryz.func77, Tryz.ntmps77
 go_wp2
 obtain ⟨W0, hW0⟩ : ∃ W0, W0 = w.alloc (.cells #[.int .i64 b.room, .int .i64 b.gap, .slice ma b.ms.length mc, .slice sa b.ss.length sc, .slice ra b.rs.length rc, ls] 106) := ⟨_, rfl⟩
 rw [← hW0]
 have hb0 : Below w.heap.size w W0 := by rw [hW0]; (exact bel)
 have g0 : W0.cell? ⟨w.heap.size, 1, none⟩ = some (.int .i64 b.gap) := by rw [hW0, World.cell?_alloc_at _ _ _ _ rfl]; rfl
 have hsz0 : w.heap.size < W0.heap.size := by rw [hW0]; simp
 have HT0 := Hh (HT.out.below hb0)
 clear hW0
 have hz0 : endAt b.gap now tapes 0 = now := endAt_zero ..
 go_loopw [2, 7, 12] (fun nw v i wr => ∃ (k : Nat) (a : Option Addr) (c : Nat) (t : Int), k ≤ tapes.length ∧ i = .int .i64 k ∧ nw = .int .i64 t ∧ Hid (t = endAt b.gap now tapes k) ∧ v = .slice a k c ∧ wr.ownsRow W0.heap.size 3 1 (.slice a k c) k ((endsTo b.gap now tapes k).map (Value.int .i64)) ∧ Below W0.heap.size W0 wr) (fun _ _ i _ => tapes.length - (intOf i).toNat)
 case atStart => exact ⟨0, none, 0, now, Nat.zero_le _, rfl, rfl, hz0.symm, rfl, by simpa [endsTo] using World.ownsRow_nil _ _ _ _, Below.refl _ _⟩
 case round =>
  obtain ⟨k, a, c, t, hk, rfl, rfl, ht, rfl, hrow, hW⟩ := hrel
  have hWs := hW.size
  by_cases hlt : k < tapes.length
  ·obtain ⟨lb, lo, rfl, hlb, e0⟩ := HT0.out k hlt
   have d0 := (hW.cell hlb).trans e0
   have hlb2 : lb < wr.heap.size := Nat.lt_of_lt_of_le hlb hW.size
   have s1 := (hW.cell (p := ⟨w.heap.size, 1, none⟩) hsz0).trans g0
   have hsz1 : w.heap.size < wr.heap.size := by omega
   have hx := HTB.out _ (List.getElem_mem hlt)
   have hE := endAt_succ b.gap now tapes hlt
   have hb1 := HBD.out k (by omega)
   have hb2 := HBD.out (k + 1) (by omega)
   have hS := endsTo_succ b.gap now tapes k
   have ht' := ht.out
   rw [← ht'] at hE hb1
   generalize tapes[k] = x at d0 hx hE
   rw [hE] at hb2 hS
   have w1 : IntKind.i64.wrap (b.gap + x) = b.gap + x := IntWalk.i64_in _ (by omega)
   have w2 : IntKind.i64.wrap (t + (b.gap + x)) = t + (b.gap + x) := IntWalk.i64_in _ (by omega)
   have HROW := Hh hrow
   have HS := Hh hS
   have HE := Hh hE
   clear hrow hS hE e0 ht'
   go_wp2_with (at_builtin; go_loud (refine wpl_append1 rfl _ _ 27 rfl W0.heap.size 3 Tryz.underlying27 intInfo rfl (by omega) (.slice a k c) k _ rfl HROW.out (by omega) (by omega) _ (n := wr.heap.size) (by simp) rfl (by simp [Value.oneCell']) ?_; intro g cap w2 hown2 hb2))
   have hown3 : w2.ownsRow W0.heap.size 3 1 (.slice (some ⟨g, 0, none⟩) (k + 1) cap) (k + 1) ((endsTo b.gap now tapes (k + 1)).map (Value.int .i64)) := by
    rw [HS.out, List.map_append]
    exact hown2
   have HOWN := Hh hown3
   clear hown2 hown3
   go_roundw
   case rel => exact ⟨k + 1, _, _, _, by omega, by go_num, rfl, HE.out.symm, rfl, HOWN.out, hW.trans hb2⟩
   case measure => simp [intOf]; omega
  ·obtain rfl : k = tapes.length := by omega
   have hl2 : (endsI b.gap now tapes).length = tapes.length := endsI_length ..
   have HROW := Hh hrow
   have HL2 := Hh hl2
   clear hrow hl2
   go_wp2
   go_ret
   refine ⟨a, c, by rw [HL2.out]; rfl, ?_, bel⟩
   rw [HL2.out]
   exact ownsRow_base HROW.out (by omega)
end
end Go.Proofs.YtbibidfkbdhblaaGreatDoor
