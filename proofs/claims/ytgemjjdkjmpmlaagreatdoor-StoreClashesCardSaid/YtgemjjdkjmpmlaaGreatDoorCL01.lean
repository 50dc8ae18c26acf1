/- Leads to StoreClashes of chapter 6: CL1 CL2 CL3 CL4. -/
import Derived.Test.YtgemjjdkjmpmlaaGreatDoorCL00
set_option maxHeartbeats 8000000
set_option maxRecDepth 100000
set_option linter.all false
namespace Go.Proofs.YtgemjjdkjmpmlaaGreatDoor
open Go.RowKit Go.Maps Sp Mt Go.Conc
theorem clBody_eq : ∃ r0 rg rs r3 r4 r5 f6 r7 s8 r9 r10 f11 r12 B0 r18 r19 B2 r24 r25, Tryz.f4.body = some (.seq r0 (.seq (.seq rg (.cond (.tmp 19) (.seq rs .ret) .skip)) (.seq r3 (.seq r4 (.seq (.seq r5 (.cond (.tmp 52) (.seq f6 .ret) .skip)) (.seq (.seq r7 (.cond (.tmp 54) (.seq s8 .ret) .skip)) (.seq (.seq r9 (.seq r10 (.cond (.tmp 68) (.seq f11 .ret) .skip))) (.seq (.seq r12 B0) (.seq r18 (.seq (.seq r19 B2) (.seq r24 (.seq r25 .ret)))))))))))) := ⟨_, _, _, _, _, _, _, _, _, _, _, _, _, _, _, _, _, _, _, rfl⟩
def CZ0 (b : Bk) (s : Int) (vr vg vm vs vc : Value) (a' : Act) (w2 : World) : Prop := ∃ B, a' = { tmps := #[.agg #[vr, vg, vm, vs, vc], .int .u8 s, .pointer (some ⟨B, 0, none⟩), U, .bool false, U, U, U, U, U, U, U, U, U, U, U, U, U, U, U, U, U, U, U, U, U, U, U, U, U, U, U, U, U, U, U, U, U, U, U, U, U, U, U, U, U, U, U, U, U, U, U, U, U, U, U, U, U, U, U, U, U, U, U, U, U, U, U, U, U, U, U, U, U, U, U, U, U, U, U, U, U, U, U, U, U, U, U, U, U, U, U, U, U, U, U, U, U, U, U, U, U, U, U, U, U, U, U, U, U, U, U, U, U, U, U, U, U, U, U, U, U, U, U, U, U, U, U], defers := [] } ∧ LawAt w2 B b [] vr vg vm vs vc none
theorem cl_0 {r0 rg rs r3 r4 r5 f6 r7 s8 r9 r10 f11 r12 B0 r18 r19 B2 r24 r25 : Code} (hc : Tryz.f4.body = some (.seq r0 (.seq (.seq rg (.cond (.tmp 19) (.seq rs .ret) .skip)) (.seq r3 (.seq r4 (.seq (.seq r5 (.cond (.tmp 52) (.seq f6 .ret) .skip)) (.seq (.seq r7 (.cond (.tmp 54) (.seq s8 .ret) .skip)) (.seq (.seq r9 (.seq r10 (.cond (.tmp 68) (.seq f11 .ret) .skip))) (.seq (.seq r12 B0) (.seq r18 (.seq (.seq r19 B2) (.seq r24 (.seq r25 .ret))))))))))))) {b : Bk} {s : Int} {vr vg vm vs vc : Value} {w : World} (hR : RawAt w b vr vg vm vs vc) (hK : KindsAt w) : r0.wp Tryz.prog (PZ w (CZ0 b s vr vg vm vs vc)) ({ tmps := #[.agg #[vr, vg, vm, vs, vc], .int .u8 s, U, U, U, U, U, U, U, U, U, U, U, U, U, U, U, U, U, U, U, U, U, U, U, U, U, U, U, U, U, U, U, U, U, U, U, U, U, U, U, U, U, U, U, U, U, U, U, U, U, U, U, U, U, U, U, U, U, U, U, U, U, U, U, U, U, U, U, U, U, U, U, U, U, U, U, U, U, U, U, U, U, U, U, U, U, U, U, U, U, U, U, U, U, U, U, U, U, U, U, U, U, U, U, U, U, U, U, U, U, U, U, U, U, U, U, U, U, U, U, U, U, U, U, U, U, U], defers := [] }) w := by
 simp only [Tryz.f4, Option.some.injEq, Code.seq.injEq, Code.cond.injEq] at hc
 obtain ⟨rfl, ⟨rfl, -, ⟨rfl, -⟩, -⟩, rfl, rfl, ⟨rfl, -, ⟨rfl, -⟩, -⟩, ⟨rfl, -, ⟨rfl, -⟩, -⟩, ⟨rfl, rfl, -, ⟨rfl, -⟩, -⟩, ⟨rfl, rfl⟩, rfl, ⟨rfl, rfl⟩, rfl, rfl, -⟩ := hc
 have HR := Hh hR
 have HK := Hh hK
 clear hR hK
 go_wp2
 have hbw : Below w.heap.size w (w.alloc (.cells #[vr, vg, vm, vs, vc] 26)) := bel
 refine ⟨rfl, ⟨w.heap.size, rfl, ?_, ?_, ?_, ?_, ?_, HR.out.below hbw, HK.out.below hbw, ints_nil⟩, hbw⟩ <;> (rw [World.cell?_alloc_at _ _ _ _ rfl]; rfl)
def CZ1 (B : Nat) (s : Int) (vr vg vm vs vc : Value) (x : Bool) (a' : Act) (w2 : World) : Prop := ∃ d17 d18, a' = { tmps := #[.agg #[vr, vg, vm, vs, vc], .int .u8 s, .pointer (some ⟨B, 0, none⟩), U, .bool false, U, U, U, U, U, U, U, U, U, U, U, U, d17, d18, .bool x, U, U, U, U, U, U, U, U, U, U, U, U, U, U, U, U, U, U, U, U, U, U, U, U, U, U, U, U, U, U, U, U, U, U, U, U, U, U, U, U, U, U, U, U, U, U, U, U, U, U, U, U, U, U, U, U, U, U, U, U, U, U, U, U, U, U, U, U, U, U, U, U, U, U, U, U, U, U, U, U, U, U, U, U, U, U, U, U, U, U, U, U, U, U, U, U, U, U, U, U, U, U, U, U, U, U, U, U], defers := [] }
theorem cl_1 {r0 rg rs r3 r4 r5 f6 r7 s8 r9 r10 f11 r12 B0 r18 r19 B2 r24 r25 : Code} (hc : Tryz.f4.body = some (.seq r0 (.seq (.seq rg (.cond (.tmp 19) (.seq rs .ret) .skip)) (.seq r3 (.seq r4 (.seq (.seq r5 (.cond (.tmp 52) (.seq f6 .ret) .skip)) (.seq (.seq r7 (.cond (.tmp 54) (.seq s8 .ret) .skip)) (.seq (.seq r9 (.seq r10 (.cond (.tmp 68) (.seq f11 .ret) .skip))) (.seq (.seq r12 B0) (.seq r18 (.seq (.seq r19 B2) (.seq r24 (.seq r25 .ret))))))))))))) {B : Nat} {b : Bk} {s : Int} {vr vg vm vs vc : Value} {w : World} {x : Bool} (hE : LawAt w B b [] vr vg vm vs vc none) (hx : x = true ↔ ¬ (SmallB b ∧ bookAl b = 0)) : rg.wp Tryz.prog (PZ w (CZ1 B s vr vg vm vs vc x)) ({ tmps := #[.agg #[vr, vg, vm, vs, vc], .int .u8 s, .pointer (some ⟨B, 0, none⟩), U, .bool false, U, U, U, U, U, U, U, U, U, U, U, U, U, U, U, U, U, U, U, U, U, U, U, U, U, U, U, U, U, U, U, U, U, U, U, U, U, U, U, U, U, U, U, U, U, U, U, U, U, U, U, U, U, U, U, U, U, U, U, U, U, U, U, U, U, U, U, U, U, U, U, U, U, U, U, U, U, U, U, U, U, U, U, U, U, U, U, U, U, U, U, U, U, U, U, U, U, U, U, U, U, U, U, U, U, U, U, U, U, U, U, U, U, U, U, U, U, U, U, U, U, U, U], defers := [] }) w := by
 simp only [Tryz.f4, Option.some.injEq, Code.seq.injEq, Code.cond.injEq] at hc
 obtain ⟨rfl, ⟨rfl, -, ⟨rfl, -⟩, -⟩, rfl, rfl, ⟨rfl, -, ⟨rfl, -⟩, -⟩, ⟨rfl, -, ⟨rfl, -⟩, -⟩, ⟨rfl, rfl, -, ⟨rfl, -⟩, -⟩, ⟨rfl, rfl⟩, rfl, ⟨rfl, rfl⟩, rfl, rfl, -⟩ := hc
 have hrw := hE.raw
 obtain ⟨x0, x1, x2, x3, x4, _, _, _⟩ := hE
 have HRW := Hh hrw
 have hB0 := lt_of_cell x0
 simp only at hB0
 by_cases hs : SmallB b ∧ bookAl b = 0
 ·have HG := Hh (show (true = true ↔ SmallB b ∧ bookAl b = 0) by simp [hs])
  obtain rfl : x = false := by
   cases x with
   | false => rfl
   | true => exact absurd hs (hx.1 rfl)
  clear hs hx hrw
  go_wp2_with (go_at_call 13; (with_reducible refine (fit_at HRW.out HG.out).mono ?_); rintro e w1 ⟨rfl, hb1⟩)
  exact ⟨rfl, ⟨_, _, rfl⟩, hb1⟩
 ·have HG := Hh (show (false = true ↔ SmallB b ∧ bookAl b = 0) by simp [hs])
  obtain rfl : x = true := hx.2 fun h => hs h
  clear hs hx hrw
  go_wp2_with (go_at_call 13; (with_reducible refine (fit_at HRW.out HG.out).mono ?_); rintro e w1 ⟨rfl, hb1⟩)
  exact ⟨rfl, ⟨_, _, rfl⟩, hb1⟩
def CZ5 (B : Nat) (s k : Int) (q : List Int) (vr vg vm vs vc : Value) (a' : Act) (w2 : World) : Prop := ∃ ya yc, (∃ d17 d18 d21 d22 d23 d24 d25 d26 d27 d28 d29 d30 d31 d32 d33 d34 d35 d36 d37 d38 d39 d40 d41 d42 d43 d44 d45 d46 d47 d48 d49 d50 d51, a' = { tmps := #[.agg #[vr, vg, vm, vs, vc], .int .u8 s, .pointer (some ⟨B, 0, none⟩), U, .bool false, .slice ya q.length yc, .int .i64 0, .int .i64 k, .int .i64 0, U, U, U, U, U, U, U, U, d17, d18, .bool false, U, d21, d22, d23, d24, d25, d26, d27, d28, d29, d30, d31, d32, d33, d34, d35, d36, d37, d38, d39, d40, d41, d42, d43, d44, d45, d46, d47, d48, d49, d50, d51, .bool false, U, U, U, U, U, U, U, U, U, U, U, U, U, U, U, U, U, U, U, U, U, U, U, U, U, U, U, U, U, U, U, U, U, U, U, U, U, U, U, U, U, U, U, U, U, U, U, U, U, U, U, U, U, U, U, U, U, U, U, U, U, U, U, U, U, U, U, U, U, U, U, U, U, U, U], defers := [] }) ∧ IntsAt w2 ya q
theorem cl_A {r0 rg rs r3 r4 r5 f6 r7 s8 r9 r10 f11 r12 B0 r18 r19 B2 r24 r25 : Code} (hc : Tryz.f4.body = some (.seq r0 (.seq (.seq rg (.cond (.tmp 19) (.seq rs .ret) .skip)) (.seq r3 (.seq r4 (.seq (.seq r5 (.cond (.tmp 52) (.seq f6 .ret) .skip)) (.seq (.seq r7 (.cond (.tmp 54) (.seq s8 .ret) .skip)) (.seq (.seq r9 (.seq r10 (.cond (.tmp 68) (.seq f11 .ret) .skip))) (.seq (.seq r12 B0) (.seq r18 (.seq (.seq r19 B2) (.seq r24 (.seq r25 .ret))))))))))))) {B : Nat} {b : Bk} {s : Int} {vr vg vm vs vc : Value} {w : World} {k : Int} {q : List Int} (hE : LawAt w B b [] vr vg vm vs vc none) (hS : SmallB b) (hk : bookAl b = 0) (hkk : histN b = k) (hq : clashQ b = q) {d17 d18 : Value} :
 wps Tryz.prog [r3, r4, .seq r5 (.cond (.tmp 52) (.seq f6 .ret) .skip)] (fun a' w2 => CZ5 B s k q vr vg vm vs vc a' w2 ∧ Old w w2) ({ tmps := #[.agg #[vr, vg, vm, vs, vc], .int .u8 s, .pointer (some ⟨B, 0, none⟩), U, .bool false, U, U, U, U, U, U, U, U, U, U, U, U, d17, d18, .bool false, U, U, U, U, U, U, U, U, U, U, U, U, U, U, U, U, U, U, U, U, U, U, U, U, U, U, U, U, U, U, U, U, U, U, U, U, U, U, U, U, U, U, U, U, U, U, U, U, U, U, U, U, U, U, U, U, U, U, U, U, U, U, U, U, U, U, U, U, U, U, U, U, U, U, U, U, U, U, U, U, U, U, U, U, U, U, U, U, U, U, U, U, U, U, U, U, U, U, U, U, U, U, U, U, U, U, U, U], defers := [] }) w := by
 simp only [Tryz.f4, Option.some.injEq, Code.seq.injEq, Code.cond.injEq] at hc
 obtain ⟨rfl, ⟨rfl, -, ⟨rfl, -⟩, -⟩, h3, h4, ⟨h5, -, ⟨h6, -⟩, -⟩, ⟨rfl, -, ⟨rfl, -⟩, -⟩, ⟨rfl, rfl, -, ⟨rfl, -⟩, -⟩, ⟨rfl, rfl⟩, rfl, ⟨rfl, rfl⟩, rfl, rfl, -⟩ := hc
 have hr5 := recs_len hk
 have HS := Hh hS
 have HN := Hh hS.names
 have HAL := Hh hk
 have HKK := Hh hkk
 have HQ := Hh hq
 have HE := Hh hE
 have hpn : (pasts b = [] ∧ k = 0 ∧ 0 < q.length) ∨ (pasts b ≠ [] ∧ 0 < k ∧ q.length = 0) := by
  rw [← hkk, ← hq]
  unfold histN clashQ
  rw [if_pos hk]
  by_cases hp : pasts b = []
  ·exact .inl ⟨hp, by rw [hp]; rfl, by rw [if_pos hp]; exact List.length_pos_iff.2 (clash_law hp).2.1⟩
  ·exact .inr ⟨hp, by have := List.length_pos_iff.2 hp; omega, by rw [if_neg hp]; rfl⟩
 have hqb : (∀ x ∈ q, inB x 0 ((b.rs.length : Int) - 1) = true) ∧ q.Pairwise (· < ·) ∧ q.length ≤ 5 := by
  rw [← hq]
  unfold clashQ
  by_cases hp : pasts b = []
  ·rw [if_pos hp]
   obtain ⟨⟨m, hm, e⟩, _⟩ := clash_law hp
   rw [e]
   refine ⟨fun x hx => ?_, ?_, ?_⟩
   ·unfold idxI idxs at hx
    obtain ⟨y, hy, rfl⟩ := List.mem_map.1 hx
    have := (List.mem_filter.1 hy).1
    rw [List.mem_range] at this
    simp [inB]; omega
   ·unfold idxI idxs
    rw [List.pairwise_map]
    exact (List.Pairwise.filter _ List.pairwise_lt_range).imp fun h => by omega
   ·unfold idxI
    have := idxs_le m b.rs.length
    simp; omega
  ·rw [if_neg hp]; simp
 have HQB := Hh hqb
 have hq5 := hqb.2.2
 have HPN := Hh hpn
 clear hS hk hkk hq hE hqb hpn
 refine wps_nq ?_
 rw [← h3]
 clear h3
 have E0 := HE.out
 obtain ⟨c0, c1, c2, c3, c4, _, _, _⟩ := E0
 have HBx := Hh (HE.out.raw.book HS.out)
 have HKx := Hh HE.out.kd
 have hB0 := lt_of_cell c0
 simp only at hB0
 go_wp2_with (go_at_call 23; (with_reducible refine (clash2_at HBx.out HN.out HKx.out HAL.out hr5 HQ.out).mono ?_); rintro e w1 ⟨ya, yc, rfl, hx1, hb1⟩)
 refine ⟨rfl, fun X1 t1 => ?_⟩
 have o1 := (Old.ofBelow hb1).twin0 t1
 have E1 := HE.out.old o1
 have Y1 := Hh (t1.ints hx1)
 have OO1 := Hh o1
 clear c0 c1 c2 c3 c4 HBx HKx hb1 t1 o1 hx1 hB0 HE
 refine wps_nq ?_
 rw [← h4]
 clear h4
 obtain ⟨c0, c1, c2, c3, c4, _, _, _⟩ := id E1
 have HBx := Hh (E1.raw.book HS.out)
 have HKx := Hh E1.kd
 have EE := Hh E1
 clear E1
 have hB0 := lt_of_cell c0
 simp only at hB0
 go_wp2_with (go_at_call 24; (with_reducible refine (histories2_at HBx.out HN.out HKx.out HKK.out HAL.out).mono ?_); rintro e w1 ⟨rfl, hb1⟩)
 refine ⟨rfl, fun X2 t1 => ?_⟩
 have o1 := (Old.ofBelow hb1).twin0 t1
 have E2 := EE.out.old o1
 have Y2 := Hh (o1.ints Y1.out)
 have OO2 := Hh (OO1.out.trans o1)
 clear c0 c1 c2 c3 c4 HBx HKx hb1 t1 o1 hB0 EE OO1 Y1
 refine wps_nq ?_
 rw [← h5, ← h6]
 clear h5 h6
 have hrw := E2.raw
 obtain ⟨c0, c1, c2, c3, c4, _, _, _⟩ := id E2
 obtain ⟨rfl, rfl, ⟨ma, mc, rfl, _⟩, ⟨sa, sc, rfl, _⟩, ra, rc, rfl, _⟩ := hrw
 clear E2
 have hB0 := lt_of_cell c0
 simp only at hB0
 rcases HPN.out with ⟨hp, hk0, hq0⟩ | ⟨hp, hk0, hq0⟩
 ·have e1 : (k == 0) = true := by simpa using hk0
  have e2 : decide ((0 : Int) < (q.length : Int)) = true := by rw [decide_eq_true_iff]; omega
  have e3 : decide (0 < q.length) = true := by rw [decide_eq_true_iff]; omega
  clear hp hk0 hq0
  go_wp2_with (go_at_call 25; (with_reducible refine (asc_ok Y2.out rfl (by omega) (by omega) HQB.out.1 HQB.out.2.1).mono ?_); rintro e w1 ⟨rfl, hb1⟩)
  refine ⟨rfl, fun X3 t1 => ?_⟩
  have o1 := (Old.ofBelow hb1).twin0 t1
  exact ⟨⟨ya, yc, ⟨_, _, _, _, _, _, _, _, _, _, _, _, _, _, _, _, _, _, _, _, _, _, _, _, _, _, _, _, _, _, _, _, _, rfl⟩, o1.ints Y2.out⟩, OO2.out.trans o1⟩
 ·have e1 : (k == 0) = false := by simp; omega
  have e2 : decide ((0 : Int) < (q.length : Int)) = false := by rw [decide_eq_false_iff_not]; omega
  have e3 : decide (0 < q.length) = false := by rw [decide_eq_false_iff_not]; omega
  clear hp hk0 hq0
  go_wp2_with (go_at_call 25; (with_reducible refine (asc_ok Y2.out rfl (by omega) (by omega) HQB.out.1 HQB.out.2.1).mono ?_); rintro e w1 ⟨rfl, hb1⟩)
  refine ⟨rfl, fun X3 t1 => ?_⟩
  have o1 := (Old.ofBelow hb1).twin0 t1
  exact ⟨⟨ya, yc, ⟨_, _, _, _, _, _, _, _, _, _, _, _, _, _, _, _, _, _, _, _, _, _, _, _, _, _, _, _, _, _, _, _, _, rfl⟩, o1.ints Y2.out⟩, OO2.out.trans o1⟩
theorem alone_al {b : Bk} (h : bookAl b = 0) {l : List Int} (hl : l.length ≤ 5) : bookAl (aloneB b l) = 0 := by
 refine bookAl_rs h (Nat.le_trans (List.length_filterMap_le _ _) hl) fun r hr => ?_
 obtain ⟨i, _, hi⟩ := List.mem_filterMap.1 hr
 exact (bookAl_ok h).2 r (List.mem_of_getElem? hi)
theorem alone_zero {b : Bk} (h : bookAl b = 0) {l : List Int} (hl : l.length ≤ 5) (hp : pasts (aloneB b l) = []) : histN (aloneB b l) = 0 := by
 unfold histN
 rw [if_pos (alone_al h hl), hp]
 rfl
theorem alone_some {b : Bk} (h : bookAl b = 0) {l : List Int} (hl : l.length ≤ 5) (hp : pasts (aloneB b l) ≠ []) : 0 < histN (aloneB b l) := by
 unfold histN
 rw [if_pos (alone_al h hl)]
 have := List.length_pos_iff.2 hp
 omega
theorem idx_bd {m n : Nat} {x : Int} (h : x ∈ idxI m n) : 0 ≤ x ∧ x < (n : Int) := by
 unfold idxI idxs at h
 obtain ⟨y, hy, rfl⟩ := List.mem_map.1 h
 have := (List.mem_filter.1 hy).1
 rw [List.mem_range] at this
 exact ⟨by omega, by omega⟩
def CZ9 (B : Nat) (s k : Int) (q : List Int) (vr vg vm vs vc : Value) (ya : Option Addr) (yc : Nat) (w : World) : Exit → Act → World → Prop
 | .normal, a', w2 => (∃ d17 d18 d21 d22 d23 d24 d25 d26 d27 d28 d29 d30 d31 d32 d33 d34 d35 d36 d37 d38 d39 d40 d41 d42 d43 d44 d45 d46 d47 d48 d49 d50 d51 d53 d56 d57 d58 d59 d60 d61 d62 d63 d64 d65 d66 d67, a' = { tmps := #[.agg #[vr, vg, vm, vs, vc], .int .u8 s, .pointer (some ⟨B, 0, none⟩), U, .bool false, .slice ya q.length yc, .int .i64 0, .int .i64 k, .int .i64 0, .int .i64 0, .int .i64 0, U, U, U, U, U, U, d17, d18, .bool false, U, d21, d22, d23, d24, d25, d26, d27, d28, d29, d30, d31, d32, d33, d34, d35, d36, d37, d38, d39, d40, d41, d42, d43, d44, d45, d46, d47, d48, d49, d50, d51, .bool false, d53, .bool false, U, d56, d57, d58, d59, d60, d61, d62, d63, d64, d65, d66, d67, .bool false, U, U, U, U, U, U, U, U, U, U, U, U, U, U, U, U, U, U, U, U, U, U, U, U, U, U, U, U, U, U, U, U, U, U, U, U, U, U, U, U, U, U, U, U, U, U, U, U, U, U, U, U, U, U, U, U, U, U, U], defers := [] }) ∧ Below w.heap.size w w2
 | _, _, _ => False
theorem cl_9 {r0 rg rs r3 r4 r5 f6 r7 s8 r9 r10 f11 r12 B0 r18 r19 B2 r24 r25 : Code} (hc : Tryz.f4.body = some (.seq r0 (.seq (.seq rg (.cond (.tmp 19) (.seq rs .ret) .skip)) (.seq r3 (.seq r4 (.seq (.seq r5 (.cond (.tmp 52) (.seq f6 .ret) .skip)) (.seq (.seq r7 (.cond (.tmp 54) (.seq s8 .ret) .skip)) (.seq (.seq r9 (.seq r10 (.cond (.tmp 68) (.seq f11 .ret) .skip))) (.seq (.seq r12 B0) (.seq r18 (.seq (.seq r19 B2) (.seq r24 (.seq r25 .ret))))))))))))) {B : Nat} {b : Bk} {s : Int} {vr vg vm vs vc : Value} {w : World} {k : Int} {q : List Int} {ya : Option Addr} {yc : Nat} (hE : LawAt w B b [] vr vg vm vs vc none) (hS : SmallB b) (hk : bookAl b = 0) (hY : IntsAt w ya q) (hq5 : q.length ≤ 5) (hqb : ∀ x ∈ q, 0 ≤ x ∧ x < (b.rs.length : Int)) (hq0 : pasts (aloneB b q) = []) {d17 d18 d21 d22 d23 d24 d25 d26 d27 d28 d29 d30 d31 d32 d33 d34 d35 d36 d37 d38 d39 d40 d41 d42 d43 d44 d45 d46 d47 d48 d49 d50 d51 d53 : Value} :
 (Code.seq r9 (.seq r10 (.cond (.tmp 68) (.seq f11 .ret) .skip))).wp Tryz.prog (CZ9 B s k q vr vg vm vs vc ya yc w) ({ tmps := #[.agg #[vr, vg, vm, vs, vc], .int .u8 s, .pointer (some ⟨B, 0, none⟩), U, .bool false, .slice ya q.length yc, .int .i64 0, .int .i64 k, .int .i64 0, U, U, U, U, U, U, U, U, d17, d18, .bool false, U, d21, d22, d23, d24, d25, d26, d27, d28, d29, d30, d31, d32, d33, d34, d35, d36, d37, d38, d39, d40, d41, d42, d43, d44, d45, d46, d47, d48, d49, d50, d51, .bool false, d53, .bool false, U, U, U, U, U, U, U, U, U, U, U, U, U, U, U, U, U, U, U, U, U, U, U, U, U, U, U, U, U, U, U, U, U, U, U, U, U, U, U, U, U, U, U, U, U, U, U, U, U, U, U, U, U, U, U, U, U, U, U, U, U, U, U, U, U, U, U, U, U, U, U, U, U], defers := [] }) w := by
 simp only [Tryz.f4, Option.some.injEq, Code.seq.injEq, Code.cond.injEq] at hc
 obtain ⟨rfl, ⟨rfl, -, ⟨rfl, -⟩, -⟩, rfl, rfl, ⟨rfl, -, ⟨rfl, -⟩, -⟩, ⟨rfl, -, ⟨rfl, -⟩, -⟩, ⟨rfl, rfl, -, ⟨rfl, -⟩, -⟩, ⟨rfl, rfl⟩, rfl, ⟨rfl, rfl⟩, rfl, rfl, -⟩ := hc
 have hr5 := recs_len hk
 have HB := Hh (hE.raw.book hS)
 have HK := Hh hE.kd
 have HY := Hh hY
 have HQB := Hh hqb
 have HNA := Hh (show ∀ m ∈ (aloneB b q).ms, m.name.size ≤ 1000000 from hS.names)
 have HZ := Hh (alone_zero hk hq5 hq0)
 have HZA := Hh (alone_al hk hq5)
 obtain ⟨c0, c1, c2, c3, c4, _, _, _⟩ := hE
 have hB0 := lt_of_cell c0
 simp only at hB0
 clear hS hk hY hqb hq0
 go_wp2_with (first
  | (go_at_call 26; (with_reducible refine (alone_at HB.out hr5 HY.out rfl HQB.out hq5).mono ?_); rintro e w1 ⟨xa, xc, rfl, hBA, hb1⟩)
  | (go_at_call 24; (with_reducible refine (histories2_at hBA HNA.out (HK.out.below hb1) HZ.out HZA.out).mono ?_); rintro e w2 ⟨rfl, hb2⟩))
 exact ⟨⟨_, _, _, _, _, _, _, _, _, _, _, _, _, _, _, _, _, _, _, _, _, _, _, _, _, _, _, _, _, _, _, _, _, _, _, _, _, _, _, _, _, _, _, _, _, _, rfl⟩, bel⟩
def CZL (B : Nat) (s k : Int) (q : List Int) (vr vg vm vs vc : Value) (ya : Option Addr) (yc : Nat) (w : World) : Exit → Act → World → Prop
 | .normal, a', w2 => (∃ d4 d11 d12 d13 d17 d18 d21 d22 d23 d24 d25 d26 d27 d28 d29 d30 d31 d32 d33 d34 d35 d36 d37 d38 d39 d40 d41 d42 d43 d44 d45 d46 d47 d48 d49 d50 d51 d53 d56 d57 d58 d59 d60 d61 d62 d63 d64 d65 d66 d67 d69 d70 d71 d72 d73 d74 d75 d76 d77 d78 d79 d80 d81 d82 d83 d84 d85 d86 d87 d88 d89, a' = { tmps := #[.agg #[vr, vg, vm, vs, vc], .int .u8 s, .pointer (some ⟨B, 0, none⟩), U, d4, .slice ya q.length yc, .int .i64 0, .int .i64 k, .int .i64 0, .int .i64 0, .int .i64 0, d11, d12, d13, U, U, U, d17, d18, .bool false, U, d21, d22, d23, d24, d25, d26, d27, d28, d29, d30, d31, d32, d33, d34, d35, d36, d37, d38, d39, d40, d41, d42, d43, d44, d45, d46, d47, d48, d49, d50, d51, .bool false, d53, .bool false, U, d56, d57, d58, d59, d60, d61, d62, d63, d64, d65, d66, d67, .bool false, d69, d70, d71, d72, d73, d74, d75, d76, d77, d78, d79, d80, d81, d82, d83, d84, d85, d86, d87, d88, d89, U, U, U, U, U, U, U, U, U, U, U, U, U, U, U, U, U, U, U, U, U, U, U, U, U, U, U, U, U, U, U, U, U, U, U, U, U, U], defers := [] }) ∧ Below w.heap.size w w2
 | _, _, _ => False
theorem cl_L {r0 rg rs r3 r4 r5 f6 r7 s8 r9 r10 f11 r12 B0 r18 r19 B2 r24 r25 : Code} (hc : Tryz.f4.body = some (.seq r0 (.seq (.seq rg (.cond (.tmp 19) (.seq rs .ret) .skip)) (.seq r3 (.seq r4 (.seq (.seq r5 (.cond (.tmp 52) (.seq f6 .ret) .skip)) (.seq (.seq r7 (.cond (.tmp 54) (.seq s8 .ret) .skip)) (.seq (.seq r9 (.seq r10 (.cond (.tmp 68) (.seq f11 .ret) .skip))) (.seq (.seq r12 B0) (.seq r18 (.seq (.seq r19 B2) (.seq r24 (.seq r25 .ret))))))))))))) {B : Nat} {b : Bk} {s : Int} {vr vg vm vs vc : Value} {w : World} {k : Int} {q : List Int} {ya : Option Addr} {yc : Nat} (hE : LawAt w B b [] vr vg vm vs vc none) (hS : SmallB b) (hk : bookAl b = 0) (hY : IntsAt w ya q) (hq5 : q.length ≤ 5) (hqb : ∀ x ∈ q, 0 ≤ x ∧ x < (b.rs.length : Int)) (hq1 : ∀ i, i < q.length → pasts (aloneB b (q.eraseIdx i)) ≠ []) {d17 d18 d21 d22 d23 d24 d25 d26 d27 d28 d29 d30 d31 d32 d33 d34 d35 d36 d37 d38 d39 d40 d41 d42 d43 d44 d45 d46 d47 d48 d49 d50 d51 d53 d56 d57 d58 d59 d60 d61 d62 d63 d64 d65 d66 d67 : Value} :
 (Code.seq r12 B0).wp Tryz.prog (CZL B s k q vr vg vm vs vc ya yc w) ({ tmps := #[.agg #[vr, vg, vm, vs, vc], .int .u8 s, .pointer (some ⟨B, 0, none⟩), U, .bool false, .slice ya q.length yc, .int .i64 0, .int .i64 k, .int .i64 0, .int .i64 0, .int .i64 0, U, U, U, U, U, U, d17, d18, .bool false, U, d21, d22, d23, d24, d25, d26, d27, d28, d29, d30, d31, d32, d33, d34, d35, d36, d37, d38, d39, d40, d41, d42, d43, d44, d45, d46, d47, d48, d49, d50, d51, .bool false, d53, .bool false, U, d56, d57, d58, d59, d60, d61, d62, d63, d64, d65, d66, d67, .bool false, U, U, U, U, U, U, U, U, U, U, U, U, U, U, U, U, U, U, U, U, U, U, U, U, U, U, U, U, U, U, U, U, U, U, U, U, U, U, U, U, U, U, U, U, U, U, U, U, U, U, U, U, U, U, U, U, U, U, U], defers := [] }) w := by
 simp only [Tryz.f4, Option.some.injEq, Code.seq.injEq, Code.cond.injEq] at hc
 obtain ⟨rfl, ⟨rfl, -, ⟨rfl, -⟩, -⟩, rfl, rfl, ⟨rfl, -, ⟨rfl, -⟩, -⟩, ⟨rfl, -, ⟨rfl, -⟩, -⟩, ⟨rfl, rfl, -, ⟨rfl, -⟩, -⟩, ⟨rfl, rfl⟩, rfl, ⟨rfl, rfl⟩, rfl, rfl, -⟩ := hc
 have hr5 := recs_len hk
 have HB := Hh (hE.raw.book hS)
 have HK := Hh hE.kd
 have HY := Hh hY
 have HQB := Hh hqb
 have HN := Hh hS.names
 have HBA := Hh hk
 have HQ1 := Hh hq1
 obtain ⟨c0, c1, c2, c3, c4, _, _, _⟩ := hE
 have hB0 := lt_of_cell c0
 simp only at hB0
 have hall : ∀ w' : World, Below w.heap.size w w' → (Below w.heap.size w w' ∧ w'.cell? ⟨B, 0, none⟩ = some vr ∧ w'.cell? ⟨B, 1, none⟩ = some vg ∧ w'.cell? ⟨B, 2, none⟩ = some vm ∧ w'.cell? ⟨B, 3, none⟩ = some vs ∧ w'.cell? ⟨B, 4, none⟩ = some vc) := fun w' h =>
  ⟨h, (h.cell (p := ⟨B, 0, none⟩) hB0).trans c0, (h.cell (p := ⟨B, 1, none⟩) hB0).trans c1, (h.cell (p := ⟨B, 2, none⟩) hB0).trans c2, (h.cell (p := ⟨B, 3, none⟩) hB0).trans c3, (h.cell (p := ⟨B, 4, none⟩) hB0).trans c4⟩
 have HALL := Hh hall
 clear hS hk hY hqb hq1 hall c0 c1 c2 c3 c4
 go_wp2
 go_loopw [11] (fun i wr => ∃ j : Nat, j ≤ q.length ∧ i = .int .i64 j ∧ Below w.heap.size w wr) (fun i _ => q.length - (intOf i).toNat)
 case atStart => exact ⟨0, Nat.zero_le _, rfl, Below.refl _ _⟩
 case round =>
  obtain ⟨j, hj, rfl, hW⟩ := hrel
  have hWs := hW.size
  by_cases hlt : j < q.length
  ·have hBr : B < wr.heap.size := by omega
   have hel : (q.eraseIdx j).length ≤ 5 := Nat.le_trans (List.length_eraseIdx_le _ _) hq5
   have hpos := alone_some HBA.out hel (HQ1.out j hlt)
   have HAL := Hh (alone_al HBA.out hel)
   have HNA := Hh (show ∀ m ∈ (aloneB b (q.eraseIdx j)).ms, m.name.size ≤ 1000000 from HN.out)
   have HEB := Hh (fun x (hx : x ∈ q.eraseIdx j) => HQB.out x (List.mem_of_mem_eraseIdx hx))
   generalize hnn : histN (aloneB b (q.eraseIdx j)) = nn at hpos
   have HNN := Hh hnn
   have e1 : (nn == 0) = false := by simp; omega
   clear hnn
   go_wp2
   go_region_held3 (fun w' => Below w.heap.size w w' ∧ w'.cell? ⟨B, 0, none⟩ = some vr ∧ w'.cell? ⟨B, 1, none⟩ = some vg ∧ w'.cell? ⟨B, 2, none⟩ = some vm ∧ w'.cell? ⟨B, 3, none⟩ = some vs ∧ w'.cell? ⟨B, 4, none⟩ = some vc)
    ((go_split_ands; exact HALL.out _ (bel)))
    (first
      | (go_at_call 27; go_split_ands; (with_reducible refine (leave_at (HY.out.below (Below.next hW (bel))) rfl (by omega) j hlt).mono ?_); rintro e w1 ⟨xa, xc, rfl, hx1, hb1⟩; have hbr1 : Below wr.heap.size wr w1 := bel)
      | (go_at_call 26; go_split_ands; (with_reducible refine (alone_at (HB.out.below (Below.next hW hbr1)) hr5 hx1 rfl HEB.out hel).mono ?_); rintro e w2 ⟨za, zc, rfl, hBA, hb2⟩; have hbr2 : Below wr.heap.size wr w2 := Below.next hbr1 hb2)
      | (go_at_call 24; go_split_ands; (with_reducible refine (histories2_at hBA HNA.out (HK.out.below (Below.next hW hbr2)) HNN.out HAL.out).mono ?_); rintro e w3 ⟨rfl, hb3⟩; have hbr3 := Hh (Below.next hW (Below.next hbr2 hb3)))
      | fail "no arm")
   all_goals
    clear hb1 hb2 hb3 hbr1 hbr2 hx1 hBA
    go_wp2
    go_roundw
    case rel => exact ⟨j + 1, by omega, by go_num, hbr3.out⟩
    case measure => simp [intOf]; omega
  ·obtain rfl : j = q.length := by omega
   go_wp2
   exact ⟨⟨_, _, _, _, _, _, _, _, _, _, _, _, _, _, _, _, _, _, _, _, _, _, _, _, _, _, _, _, _, _, _, _, _, _, _, _, _, _, _, _, _, _, _, _, _, _, _, _, _, _, _, _, _, _, _, _, _, _, _, _, _, _, _, _, _, _, _, _, _, _, _, rfl⟩, hW⟩
theorem bit8_cond : ∀ k : Fin 256, ∀ j : Fin 5, (bits .and .u8 (((k.1 : Nat) : Int) / 2 ^ j.1) 1 == 1) = k.1.testBit j.1 := by decide +kernel
theorem idx_bd' {m n : Nat} {x : Int} (h : x ∈ idxI m n) : 0 ≤ x ∧ x < (n : Int) := by
 unfold idxI idxs at h
 obtain ⟨y, hy, rfl⟩ := List.mem_map.1 h
 have := (List.mem_filter.1 hy).1
 rw [List.mem_range] at this
 exact ⟨by omega, by omega⟩
def CZ7 (B : Nat) (s k : Int) (q : List Int) (vr vg vm vs vc : Value) (ya : Option Addr) (yc : Nat) (y : Bool) (a' : Act) (w2 : World) : Prop := ∃ d17 d18 d21 d22 d23 d24 d25 d26 d27 d28 d29 d30 d31 d32 d33 d34 d35 d36 d37 d38 d39 d40 d41 d42 d43 d44 d45 d46 d47 d48 d49 d50 d51 d53, a' = { tmps := #[.agg #[vr, vg, vm, vs, vc], .int .u8 s, .pointer (some ⟨B, 0, none⟩), U, .bool false, .slice ya q.length yc, .int .i64 0, .int .i64 k, .int .i64 0, U, U, U, U, U, U, U, U, d17, d18, .bool false, U, d21, d22, d23, d24, d25, d26, d27, d28, d29, d30, d31, d32, d33, d34, d35, d36, d37, d38, d39, d40, d41, d42, d43, d44, d45, d46, d47, d48, d49, d50, d51, .bool false, d53, .bool y, U, U, U, U, U, U, U, U, U, U, U, U, U, U, U, U, U, U, U, U, U, U, U, U, U, U, U, U, U, U, U, U, U, U, U, U, U, U, U, U, U, U, U, U, U, U, U, U, U, U, U, U, U, U, U, U, U, U, U, U, U, U, U, U, U, U, U, U, U, U, U, U, U], defers := [] }
theorem cl_7 {r0 rg rs r3 r4 r5 f6 r7 s8 r9 r10 f11 r12 B0 r18 r19 B2 r24 r25 : Code} (hc : Tryz.f4.body = some (.seq r0 (.seq (.seq rg (.cond (.tmp 19) (.seq rs .ret) .skip)) (.seq r3 (.seq r4 (.seq (.seq r5 (.cond (.tmp 52) (.seq f6 .ret) .skip)) (.seq (.seq r7 (.cond (.tmp 54) (.seq s8 .ret) .skip)) (.seq (.seq r9 (.seq r10 (.cond (.tmp 68) (.seq f11 .ret) .skip))) (.seq (.seq r12 B0) (.seq r18 (.seq (.seq r19 B2) (.seq r24 (.seq r25 .ret))))))))))))) {B : Nat} {w : World} {k s : Int} {q : List Int} {vr vg vm vs vc : Value} {ya : Option Addr} {yc : Nat} {y : Bool} (hy : y = decide (0 < k)) {d17 d18 d21 d22 d23 d24 d25 d26 d27 d28 d29 d30 d31 d32 d33 d34 d35 d36 d37 d38 d39 d40 d41 d42 d43 d44 d45 d46 d47 d48 d49 d50 d51 : Value} : r7.wp Tryz.prog (PZ w (CZ7 B s k q vr vg vm vs vc ya yc y)) ({ tmps := #[.agg #[vr, vg, vm, vs, vc], .int .u8 s, .pointer (some ⟨B, 0, none⟩), U, .bool false, .slice ya q.length yc, .int .i64 0, .int .i64 k, .int .i64 0, U, U, U, U, U, U, U, U, d17, d18, .bool false, U, d21, d22, d23, d24, d25, d26, d27, d28, d29, d30, d31, d32, d33, d34, d35, d36, d37, d38, d39, d40, d41, d42, d43, d44, d45, d46, d47, d48, d49, d50, d51, .bool false, U, U, U, U, U, U, U, U, U, U, U, U, U, U, U, U, U, U, U, U, U, U, U, U, U, U, U, U, U, U, U, U, U, U, U, U, U, U, U, U, U, U, U, U, U, U, U, U, U, U, U, U, U, U, U, U, U, U, U, U, U, U, U, U, U, U, U, U, U, U, U, U, U, U, U], defers := [] }) w := by
 simp only [Tryz.f4, Option.some.injEq, Code.seq.injEq, Code.cond.injEq] at hc
 obtain ⟨rfl, ⟨rfl, -, ⟨rfl, -⟩, -⟩, rfl, rfl, ⟨rfl, -, ⟨rfl, -⟩, -⟩, ⟨rfl, -, ⟨rfl, -⟩, -⟩, ⟨rfl, rfl, -, ⟨rfl, -⟩, -⟩, ⟨rfl, rfl⟩, rfl, ⟨rfl, rfl⟩, rfl, rfl, -⟩ := hc
 have hd := hy.symm
 clear hy
 go_wp2
 exact ⟨rfl, ⟨_, _, _, _, _, _, _, _, _, _, _, _, _, _, _, _, _, _, _, _, _, _, _, _, _, _, _, _, _, _, _, _, _, _, rfl⟩, Below.refl _ _⟩
def CZ18 (B : Nat) (s k : Int) (q : List Int) (vr vg vm vs vc : Value) (ya : Option Addr) (yc : Nat) (w : World) : Exit → Act → World → Prop
 | .normal, a', w2 => (∃ d4 d11 d12 d13 d17 d18 d21 d22 d23 d24 d25 d26 d27 d28 d29 d30 d31 d32 d33 d34 d35 d36 d37 d38 d39 d40 d41 d42 d43 d44 d45 d46 d47 d48 d49 d50 d51 d53 d56 d57 d58 d59 d60 d61 d62 d63 d64 d65 d66 d67 d69 d70 d71 d72 d73 d74 d75 d76 d77 d78 d79 d80 d81 d82 d83 d84 d85 d86 d87 d88 d89, a' = { tmps := #[.agg #[vr, vg, vm, vs, vc], .int .u8 s, .pointer (some ⟨B, 0, none⟩), U, d4, .slice ya q.length yc, .int .i64 0, .int .i64 k, .int .i64 0, .int .i64 0, .int .i64 0, d11, d12, d13, .slice none 0 0, U, U, d17, d18, .bool false, U, d21, d22, d23, d24, d25, d26, d27, d28, d29, d30, d31, d32, d33, d34, d35, d36, d37, d38, d39, d40, d41, d42, d43, d44, d45, d46, d47, d48, d49, d50, d51, .bool false, d53, .bool false, U, d56, d57, d58, d59, d60, d61, d62, d63, d64, d65, d66, d67, .bool false, d69, d70, d71, d72, d73, d74, d75, d76, d77, d78, d79, d80, d81, d82, d83, d84, d85, d86, d87, d88, d89, U, U, U, U, U, U, U, U, U, U, U, U, U, U, U, U, U, U, U, U, U, U, U, U, U, U, U, U, U, U, U, U, U, U, U, U, U, U], defers := [] }) ∧ Below w.heap.size w w2
 | _, _, _ => False
theorem cl_18 {r0 rg rs r3 r4 r5 f6 r7 s8 r9 r10 f11 r12 B0 r18 r19 B2 r24 r25 : Code} (hc : Tryz.f4.body = some (.seq r0 (.seq (.seq rg (.cond (.tmp 19) (.seq rs .ret) .skip)) (.seq r3 (.seq r4 (.seq (.seq r5 (.cond (.tmp 52) (.seq f6 .ret) .skip)) (.seq (.seq r7 (.cond (.tmp 54) (.seq s8 .ret) .skip)) (.seq (.seq r9 (.seq r10 (.cond (.tmp 68) (.seq f11 .ret) .skip))) (.seq (.seq r12 B0) (.seq r18 (.seq (.seq r19 B2) (.seq r24 (.seq r25 .ret))))))))))))) {B : Nat} {w : World} {k s : Int} {q : List Int} {vr vg vm vs vc : Value} {ya : Option Addr} {yc : Nat} {d4 d11 d12 d13 d17 d18 d21 d22 d23 d24 d25 d26 d27 d28 d29 d30 d31 d32 d33 d34 d35 d36 d37 d38 d39 d40 d41 d42 d43 d44 d45 d46 d47 d48 d49 d50 d51 d53 d56 d57 d58 d59 d60 d61 d62 d63 d64 d65 d66 d67 d69 d70 d71 d72 d73 d74 d75 d76 d77 d78 d79 d80 d81 d82 d83 d84 d85 d86 d87 d88 d89 : Value} : r18.wp Tryz.prog (CZ18 B s k q vr vg vm vs vc ya yc w) ({ tmps := #[.agg #[vr, vg, vm, vs, vc], .int .u8 s, .pointer (some ⟨B, 0, none⟩), U, d4, .slice ya q.length yc, .int .i64 0, .int .i64 k, .int .i64 0, .int .i64 0, .int .i64 0, d11, d12, d13, U, U, U, d17, d18, .bool false, U, d21, d22, d23, d24, d25, d26, d27, d28, d29, d30, d31, d32, d33, d34, d35, d36, d37, d38, d39, d40, d41, d42, d43, d44, d45, d46, d47, d48, d49, d50, d51, .bool false, d53, .bool false, U, d56, d57, d58, d59, d60, d61, d62, d63, d64, d65, d66, d67, .bool false, d69, d70, d71, d72, d73, d74, d75, d76, d77, d78, d79, d80, d81, d82, d83, d84, d85, d86, d87, d88, d89, U, U, U, U, U, U, U, U, U, U, U, U, U, U, U, U, U, U, U, U, U, U, U, U, U, U, U, U, U, U, U, U, U, U, U, U, U, U], defers := [] }) w := by
 simp only [Tryz.f4, Option.some.injEq, Code.seq.injEq, Code.cond.injEq] at hc
 obtain ⟨rfl, ⟨rfl, -, ⟨rfl, -⟩, -⟩, rfl, rfl, ⟨rfl, -, ⟨rfl, -⟩, -⟩, ⟨rfl, -, ⟨rfl, -⟩, -⟩, ⟨rfl, rfl, -, ⟨rfl, -⟩, -⟩, ⟨rfl, rfl⟩, rfl, ⟨rfl, rfl⟩, rfl, rfl, -⟩ := hc
 go_wp2
 exact ⟨⟨_, _, _, _, _, _, _, _, _, _, _, _, _, _, _, _, _, _, _, _, _, _, _, _, _, _, _, _, _, _, _, _, _, _, _, _, _, _, _, _, _, _, _, _, _, _, _, _, _, _, _, _, _, _, _, _, _, _, _, _, _, _, _, _, _, _, _, _, _, _, _, rfl⟩, Below.refl _ _⟩
def CZM (b : Bk) (sn : Nat) (B : Nat) (s k : Int) (q : List Int) (vr vg vm vs vc : Value) (ya : Option Addr) (yc : Nat) (w : World) : Exit → Act → World → Prop
 | .normal, a', w2 => ∃ xa xc, (∃ d4 d11 d12 d13 d15 d17 d18 d21 d22 d23 d24 d25 d26 d27 d28 d29 d30 d31 d32 d33 d34 d35 d36 d37 d38 d39 d40 d41 d42 d43 d44 d45 d46 d47 d48 d49 d50 d51 d53 d56 d57 d58 d59 d60 d61 d62 d63 d64 d65 d66 d67 d69 d70 d71 d72 d73 d74 d75 d76 d77 d78 d79 d80 d81 d82 d83 d84 d85 d86 d87 d88 d89 d90 d91 d92 d93 d94 d95 d96 d97 d98 d99 d100 d101 d102 d103 d104 d105, a' = { tmps := #[.agg #[vr, vg, vm, vs, vc], .int .u8 s, .pointer (some ⟨B, 0, none⟩), U, d4, .slice ya q.length yc, .int .i64 0, .int .i64 k, .int .i64 0, .int .i64 0, .int .i64 0, d11, d12, d13, .slice xa (idxI sn b.rs.length).length xc, d15, U, d17, d18, .bool false, U, d21, d22, d23, d24, d25, d26, d27, d28, d29, d30, d31, d32, d33, d34, d35, d36, d37, d38, d39, d40, d41, d42, d43, d44, d45, d46, d47, d48, d49, d50, d51, .bool false, d53, .bool false, U, d56, d57, d58, d59, d60, d61, d62, d63, d64, d65, d66, d67, .bool false, d69, d70, d71, d72, d73, d74, d75, d76, d77, d78, d79, d80, d81, d82, d83, d84, d85, d86, d87, d88, d89, d90, d91, d92, d93, d94, d95, d96, d97, d98, d99, d100, d101, d102, d103, d104, d105, U, U, U, U, U, U, U, U, U, U, U, U, U, U, U, U, U, U, U, U, U, U], defers := [] }) ∧ IntsAt w2 xa (idxI sn b.rs.length) ∧ Below w.heap.size w w2
 | _, _, _ => False
theorem cl_M {r0 rg rs r3 r4 r5 f6 r7 s8 r9 r10 f11 r12 B0 r18 r19 B2 r24 r25 : Code} (hc : Tryz.f4.body = some (.seq r0 (.seq (.seq rg (.cond (.tmp 19) (.seq rs .ret) .skip)) (.seq r3 (.seq r4 (.seq (.seq r5 (.cond (.tmp 52) (.seq f6 .ret) .skip)) (.seq (.seq r7 (.cond (.tmp 54) (.seq s8 .ret) .skip)) (.seq (.seq r9 (.seq r10 (.cond (.tmp 68) (.seq f11 .ret) .skip))) (.seq (.seq r12 B0) (.seq r18 (.seq (.seq r19 B2) (.seq r24 (.seq r25 .ret))))))))))))) {b : Bk} {vr vg vm vs vc : Value} {w : World} {B : Nat} {k s : Int} {q : List Int} {ya : Option Addr} {yc sn : Nat} (hE : LawAt w B b [] vr vg vm vs vc none) (hk : bookAl b = 0) (hs : s = (sn : Int)) (hs2 : sn < 256) {d4 d11 d12 d13 d17 d18 d21 d22 d23 d24 d25 d26 d27 d28 d29 d30 d31 d32 d33 d34 d35 d36 d37 d38 d39 d40 d41 d42 d43 d44 d45 d46 d47 d48 d49 d50 d51 d53 d56 d57 d58 d59 d60 d61 d62 d63 d64 d65 d66 d67 d69 d70 d71 d72 d73 d74 d75 d76 d77 d78 d79 d80 d81 d82 d83 d84 d85 d86 d87 d88 d89 : Value} :
 (Code.seq r19 B2).wp Tryz.prog (CZM b sn B s k q vr vg vm vs vc ya yc w) ({ tmps := #[.agg #[vr, vg, vm, vs, vc], .int .u8 s, .pointer (some ⟨B, 0, none⟩), U, d4, .slice ya q.length yc, .int .i64 0, .int .i64 k, .int .i64 0, .int .i64 0, .int .i64 0, d11, d12, d13, .slice none 0 0, U, U, d17, d18, .bool false, U, d21, d22, d23, d24, d25, d26, d27, d28, d29, d30, d31, d32, d33, d34, d35, d36, d37, d38, d39, d40, d41, d42, d43, d44, d45, d46, d47, d48, d49, d50, d51, .bool false, d53, .bool false, U, d56, d57, d58, d59, d60, d61, d62, d63, d64, d65, d66, d67, .bool false, d69, d70, d71, d72, d73, d74, d75, d76, d77, d78, d79, d80, d81, d82, d83, d84, d85, d86, d87, d88, d89, U, U, U, U, U, U, U, U, U, U, U, U, U, U, U, U, U, U, U, U, U, U, U, U, U, U, U, U, U, U, U, U, U, U, U, U, U, U], defers := [] }) w := by
 simp only [Tryz.f4, Option.some.injEq, Code.seq.injEq, Code.cond.injEq] at hc
 obtain ⟨rfl, ⟨rfl, -, ⟨rfl, -⟩, -⟩, rfl, rfl, ⟨rfl, -, ⟨rfl, -⟩, -⟩, ⟨rfl, -, ⟨rfl, -⟩, -⟩, ⟨rfl, rfl, -, ⟨rfl, -⟩, -⟩, ⟨rfl, rfl⟩, rfl, ⟨rfl, rfl⟩, rfl, rfl, -⟩ := hc
 subst hs
 have hr5 := recs_len hk
 obtain ⟨i0, hi0, hz0, hz1, hz2⟩ := info_parts intInfo
 have hrw := hE.raw
 obtain ⟨c0, c1, c2, c3, c4, _, _, _⟩ := hE
 obtain ⟨rfl, rfl, ⟨ma, mc, rfl, _⟩, ⟨sa, sc, rfl, _⟩, ra, rc, rfl, _⟩ := hrw
 have hB0 := lt_of_cell c0
 simp only at hB0
 clear c0 c1 c2 c3 hk
 go_wp2
 go_loopw [14, 15] (fun v i wr => ∃ (j : Nat) (a : Option Addr) (c : Nat), j ≤ b.rs.length ∧ i = .int .i64 j ∧ v = .slice a (idxI sn j).length c ∧ wr.ownsRow w.heap.size 3 1 (.slice a (idxI sn j).length c) (idxI sn j).length ((idxI sn j).map (Value.int .i64)) ∧ Below w.heap.size w wr) (fun _ i _ => b.rs.length - (intOf i).toNat)
 case atStart => exact ⟨0, none, 0, Nat.zero_le _, rfl, rfl, by simpa [idxI, idxs] using World.ownsRow_nil _ _ _ _, Below.refl _ _⟩
 case round =>
  obtain ⟨j, a, c, hj, rfl, rfl, hrow, hW⟩ := hrel
  have hWs := hW.size
  have hBr : B < wr.heap.size := by omega
  have d4 := (hW.cell (p := ⟨B, 4, none⟩) hB0).trans c4
  have HROW := Hh hrow
  clear hrow
  by_cases hlt : j < b.rs.length
  ·have hbc := bit8_cond ⟨sn, hs2⟩ ⟨j, by omega⟩
   simp only at hbc
   have hil : (idxI sn j).length ≤ 5 := by
    have := idxs_le sn j
    unfold idxI
    simp
    omega
   cases htb : sn.testBit j
   ·rw [htb] at hbc
    have i2 : idxI sn (j + 1) = idxI sn j := by rw [idxI_succ, htb]; rfl
    have HI := Hh i2
    clear htb i2
    go_wp2
    go_roundw
    case rel => exact ⟨j + 1, a, c, by omega, by go_num, by rw [HI.out], by rw [HI.out]; exact HROW.out, hW⟩
    case measure => simp [intOf]; omega
   ·rw [htb] at hbc
    have i2 : idxI sn (j + 1) = idxI sn j ++ [(j : Int)] := by rw [idxI_succ, htb]; rfl
    have HI := Hh i2
    clear htb i2
    go_wp2_with (at_builtin; go_loud (refine wpList_append_own _ rfl _ _ 30 rfl w.heap.size 3 i0 (.int .i64 0) 1 8 Tryz.underlying30 hi0 hz0 hz1 hz2 rfl (by decide) _ _ _ rfl (HROW.out.alloc _) ⟨wr.heap.size, 0, none⟩ 1 1 [.int .i64 j] rfl rfl (cells_new _ _ _) (by simp [Value.oneCell']) (by unfold maxLen; omega) (by omega) (by simp; omega) ?_; intro v' w5 hown' hgrow _; obtain ⟨g', cap', rfl⟩ := ownsRow_succ hown'; have hb5 := below_own (HROW.out.alloc (.cells #[.int .i64 j] 3)) hgrow (by simp; omega)))
    have hb6 : Below w.heap.size w w5 := (hW.alloc (by omega) _).trans hb5
    have hb7 := Hh hb6
    have HO := Hh hown'
    clear hb6 hb5 hown' hgrow
    go_roundw
    case rel => exact ⟨j + 1, some ⟨g', 0, none⟩, cap', by omega, by go_num, by rw [HI.out, List.length_append]; rfl, by rw [HI.out, List.length_append, List.map_append]; exact HO.out, hb7.out⟩
    case measure => simp [intOf]; omega
  ·obtain rfl : j = b.rs.length := by omega
   go_wp2
   exact ⟨a, c, ⟨_, _, _, _, _, _, _, _, _, _, _, _, _, _, _, _, _, _, _, _, _, _, _, _, _, _, _, _, _, _, _, _, _, _, _, _, _, _, _, _, _, _, _, _, _, _, _, _, _, _, _, _, _, _, _, _, _, _, _, _, _, _, _, _, _, _, _, _, _, _, _, _, _, _, _, _, _, _, _, _, _, _, _, _, _, _, _, _, rfl⟩, ints_of_row HROW.out, hW⟩
def CZ24 (b : Bk) (sn : Nat) (k2 : Int) (B : Nat) (s k : Int) (q : List Int) (vr vg vm vs vc : Value) (ya : Option Addr) (yc : Nat) (xa : Option Addr) (xc : Nat) (w : World) : Exit → Act → World → Prop
 | .normal, a', w2 => (∃ d4 d11 d12 d13 d15 d17 d18 d21 d22 d23 d24 d25 d26 d27 d28 d29 d30 d31 d32 d33 d34 d35 d36 d37 d38 d39 d40 d41 d42 d43 d44 d45 d46 d47 d48 d49 d50 d51 d53 d56 d57 d58 d59 d60 d61 d62 d63 d64 d65 d66 d67 d69 d70 d71 d72 d73 d74 d75 d76 d77 d78 d79 d80 d81 d82 d83 d84 d85 d86 d87 d88 d89 d90 d91 d92 d93 d94 d95 d96 d97 d98 d99 d100 d101 d102 d103 d104 d105 d106 d107 d108 d109 d110 d111 d112, a' = { tmps := #[.agg #[vr, vg, vm, vs, vc], .int .u8 s, .pointer (some ⟨B, 0, none⟩), U, d4, .slice ya q.length yc, .int .i64 0, .int .i64 k2, .int .i64 0, .int .i64 0, .int .i64 0, d11, d12, d13, .slice xa (idxI sn b.rs.length).length xc, d15, .int .i64 0, d17, d18, .bool false, U, d21, d22, d23, d24, d25, d26, d27, d28, d29, d30, d31, d32, d33, d34, d35, d36, d37, d38, d39, d40, d41, d42, d43, d44, d45, d46, d47, d48, d49, d50, d51, .bool false, d53, .bool false, U, d56, d57, d58, d59, d60, d61, d62, d63, d64, d65, d66, d67, .bool false, d69, d70, d71, d72, d73, d74, d75, d76, d77, d78, d79, d80, d81, d82, d83, d84, d85, d86, d87, d88, d89, d90, d91, d92, d93, d94, d95, d96, d97, d98, d99, d100, d101, d102, d103, d104, d105, d106, d107, d108, d109, d110, d111, d112, U, U, U, U, U, U, U, U, U, U, U, U, U, U, U], defers := [] }) ∧ Below w.heap.size w w2
 | _, _, _ => False
theorem cl_24 {r0 rg rs r3 r4 r5 f6 r7 s8 r9 r10 f11 r12 B0 r18 r19 B2 r24 r25 : Code} (hc : Tryz.f4.body = some (.seq r0 (.seq (.seq rg (.cond (.tmp 19) (.seq rs .ret) .skip)) (.seq r3 (.seq r4 (.seq (.seq r5 (.cond (.tmp 52) (.seq f6 .ret) .skip)) (.seq (.seq r7 (.cond (.tmp 54) (.seq s8 .ret) .skip)) (.seq (.seq r9 (.seq r10 (.cond (.tmp 68) (.seq f11 .ret) .skip))) (.seq (.seq r12 B0) (.seq r18 (.seq (.seq r19 B2) (.seq r24 (.seq r25 .ret))))))))))))) {B : Nat} {b : Bk} {s : Int} {vr vg vm vs vc : Value} {w : World} {k k2 : Int} {q : List Int} {ya xa : Option Addr} {yc xc sn : Nat} (hE : LawAt w B b [] vr vg vm vs vc none) (hS : SmallB b) (hk : bookAl b = 0) (hX : IntsAt w xa (idxI sn b.rs.length)) (hx5 : (idxI sn b.rs.length).length ≤ 5) (hkk : histN (aloneB b (idxI sn b.rs.length)) = k2) (hal : bookAl (aloneB b (idxI sn b.rs.length)) = 0) {d4 d11 d12 d13 d15 d17 d18 d21 d22 d23 d24 d25 d26 d27 d28 d29 d30 d31 d32 d33 d34 d35 d36 d37 d38 d39 d40 d41 d42 d43 d44 d45 d46 d47 d48 d49 d50 d51 d53 d56 d57 d58 d59 d60 d61 d62 d63 d64 d65 d66 d67 d69 d70 d71 d72 d73 d74 d75 d76 d77 d78 d79 d80 d81 d82 d83 d84 d85 d86 d87 d88 d89 d90 d91 d92 d93 d94 d95 d96 d97 d98 d99 d100 d101 d102 d103 d104 d105 : Value} :
 r24.wp Tryz.prog (CZ24 b sn k2 B s k q vr vg vm vs vc ya yc xa xc w) ({ tmps := #[.agg #[vr, vg, vm, vs, vc], .int .u8 s, .pointer (some ⟨B, 0, none⟩), U, d4, .slice ya q.length yc, .int .i64 0, .int .i64 k, .int .i64 0, .int .i64 0, .int .i64 0, d11, d12, d13, .slice xa (idxI sn b.rs.length).length xc, d15, U, d17, d18, .bool false, U, d21, d22, d23, d24, d25, d26, d27, d28, d29, d30, d31, d32, d33, d34, d35, d36, d37, d38, d39, d40, d41, d42, d43, d44, d45, d46, d47, d48, d49, d50, d51, .bool false, d53, .bool false, U, d56, d57, d58, d59, d60, d61, d62, d63, d64, d65, d66, d67, .bool false, d69, d70, d71, d72, d73, d74, d75, d76, d77, d78, d79, d80, d81, d82, d83, d84, d85, d86, d87, d88, d89, d90, d91, d92, d93, d94, d95, d96, d97, d98, d99, d100, d101, d102, d103, d104, d105, U, U, U, U, U, U, U, U, U, U, U, U, U, U, U, U, U, U, U, U, U, U], defers := [] }) w := by
 simp only [Tryz.f4, Option.some.injEq, Code.seq.injEq, Code.cond.injEq] at hc
 obtain ⟨rfl, ⟨rfl, -, ⟨rfl, -⟩, -⟩, rfl, rfl, ⟨rfl, -, ⟨rfl, -⟩, -⟩, ⟨rfl, -, ⟨rfl, -⟩, -⟩, ⟨rfl, rfl, -, ⟨rfl, -⟩, -⟩, ⟨rfl, rfl⟩, rfl, ⟨rfl, rfl⟩, rfl, rfl, -⟩ := hc
 have hr5 := recs_len hk
 have HB := Hh (hE.raw.book hS)
 have HK := Hh hE.kd
 have HX := Hh hX
 have HQB := Hh (fun x (h : x ∈ idxI sn b.rs.length) => show 0 ≤ x ∧ x < (b.rs.length : Int) from idx_bd' h)
 have HNA := Hh (show ∀ m ∈ (aloneB b (idxI sn b.rs.length)).ms, m.name.size ≤ 1000000 from hS.names)
 have HZ := Hh hkk
 have HZA := Hh hal
 obtain ⟨c0, c1, c2, c3, c4, _, _, _⟩ := hE
 have hB0 := lt_of_cell c0
 simp only at hB0
 clear hS hk hX hkk hal
 go_wp2_with (first
  | (go_at_call 26; (with_reducible refine (alone_at HB.out hr5 HX.out rfl HQB.out hx5).mono ?_); rintro e w1 ⟨za, zc, rfl, hBA, hb1⟩)
  | (go_at_call 24; (with_reducible refine (histories2_at hBA HNA.out (HK.out.below hb1) HZ.out HZA.out).mono ?_); rintro e w2 ⟨rfl, hb2⟩))
 exact ⟨⟨_, _, _, _, _, _, _, _, _, _, _, _, _, _, _, _, _, _, _, _, _, _, _, _, _, _, _, _, _, _, _, _, _, _, _, _, _, _, _, _, _, _, _, _, _, _, _, _, _, _, _, _, _, _, _, _, _, _, _, _, _, _, _, _, _, _, _, _, _, _, _, _, _, _, _, _, _, _, _, _, _, _, _, _, _, _, _, _, _, _, _, _, _, _, _, rfl⟩, bel⟩
def CZB (sn : Nat) (k2 : Int) (n : Nat) (q : List Int) (a' : Act) (w2 : World) : Prop := ∃ xa xc ya yc, (a'.tmps.size = 128 ∧ a'.defers = [] ∧ a'.tmps[5]? = some (.slice ya q.length yc) ∧ a'.tmps[7]? = some (.int .i64 k2) ∧ a'.tmps[14]? = some (.slice xa (idxI sn n).length xc) ∧ a'.tmps[16]? = some (.int .i64 0)) ∧ IntsAt w2 xa (idxI sn n) ∧ IntsAt w2 ya q ∧ KindsAt w2
theorem frame_facts {n : Nat} {k2 : Int} {q : List Int} {sn : Nat} {B : Nat} {s k : Int} {vr vg vm vs vc : Value} {ya xa : Option Addr} {yc xc : Nat} {b : Bk} (hn : n = b.rs.length) {d4 d11 d12 d13 d15 d17 d18 d21 d22 d23 d24 d25 d26 d27 d28 d29 d30 d31 d32 d33 d34 d35 d36 d37 d38 d39 d40 d41 d42 d43 d44 d45 d46 d47 d48 d49 d50 d51 d53 d56 d57 d58 d59 d60 d61 d62 d63 d64 d65 d66 d67 d69 d70 d71 d72 d73 d74 d75 d76 d77 d78 d79 d80 d81 d82 d83 d84 d85 d86 d87 d88 d89 d90 d91 d92 d93 d94 d95 d96 d97 d98 d99 d100 d101 d102 d103 d104 d105 d106 d107 d108 d109 d110 d111 d112 : Value} {a' : Act} (h : a' = { tmps := #[.agg #[vr, vg, vm, vs, vc], .int .u8 s, .pointer (some ⟨B, 0, none⟩), U, d4, .slice ya q.length yc, .int .i64 0, .int .i64 k2, .int .i64 0, .int .i64 0, .int .i64 0, d11, d12, d13, .slice xa (idxI sn b.rs.length).length xc, d15, .int .i64 0, d17, d18, .bool false, U, d21, d22, d23, d24, d25, d26, d27, d28, d29, d30, d31, d32, d33, d34, d35, d36, d37, d38, d39, d40, d41, d42, d43, d44, d45, d46, d47, d48, d49, d50, d51, .bool false, d53, .bool false, U, d56, d57, d58, d59, d60, d61, d62, d63, d64, d65, d66, d67, .bool false, d69, d70, d71, d72, d73, d74, d75, d76, d77, d78, d79, d80, d81, d82, d83, d84, d85, d86, d87, d88, d89, d90, d91, d92, d93, d94, d95, d96, d97, d98, d99, d100, d101, d102, d103, d104, d105, d106, d107, d108, d109, d110, d111, d112, U, U, U, U, U, U, U, U, U, U, U, U, U, U, U], defers := [] }) : a'.tmps.size = 128 ∧ a'.defers = [] ∧ a'.tmps[5]? = some (.slice ya q.length yc) ∧ a'.tmps[7]? = some (.int .i64 k2) ∧ a'.tmps[14]? = some (.slice xa (idxI sn n).length xc) ∧ a'.tmps[16]? = some (.int .i64 0) := by
 subst hn h
 exact ⟨rfl, rfl, rfl, rfl, rfl, rfl⟩
theorem cl_B {r0 rg rs r3 r4 r5 f6 r7 s8 r9 r10 f11 r12 B0 r18 r19 B2 r24 r25 : Code} (hc : Tryz.f4.body = some (.seq r0 (.seq (.seq rg (.cond (.tmp 19) (.seq rs .ret) .skip)) (.seq r3 (.seq r4 (.seq (.seq r5 (.cond (.tmp 52) (.seq f6 .ret) .skip)) (.seq (.seq r7 (.cond (.tmp 54) (.seq s8 .ret) .skip)) (.seq (.seq r9 (.seq r10 (.cond (.tmp 68) (.seq f11 .ret) .skip))) (.seq (.seq r12 B0) (.seq r18 (.seq (.seq r19 B2) (.seq r24 (.seq r25 .ret))))))))))))) {B : Nat} {b : Bk} {s : Int} {vr vg vm vs vc : Value} {w : World} {k k2 : Int} {q : List Int} {ya : Option Addr} {yc sn : Nat} (hE : LawAt w B b [] vr vg vm vs vc none) (hS : SmallB b) (hk : bookAl b = 0) (hY : IntsAt w ya q) (hq5 : q.length ≤ 5) (hqb : ∀ x ∈ q, 0 ≤ x ∧ x < (b.rs.length : Int)) (hq0 : pasts (aloneB b q) = []) (hq1 : ∀ i, i < q.length → pasts (aloneB b (q.eraseIdx i)) ≠ []) (hs : s = (sn : Int)) (hs2 : sn < 256) (hkk : histN (aloneB b (idxI sn b.rs.length)) = k2) {d17 d18 d21 d22 d23 d24 d25 d26 d27 d28 d29 d30 d31 d32 d33 d34 d35 d36 d37 d38 d39 d40 d41 d42 d43 d44 d45 d46 d47 d48 d49 d50 d51 d53 : Value} :
 wps Tryz.prog [.seq r9 (.seq r10 (.cond (.tmp 68) (.seq f11 .ret) .skip)), .seq r12 B0, r18, .seq r19 B2, r24] (fun a' w2 => CZB sn k2 b.rs.length q a' w2 ∧ Old w w2) ({ tmps := #[.agg #[vr, vg, vm, vs, vc], .int .u8 s, .pointer (some ⟨B, 0, none⟩), U, .bool false, .slice ya q.length yc, .int .i64 0, .int .i64 k, .int .i64 0, U, U, U, U, U, U, U, U, d17, d18, .bool false, U, d21, d22, d23, d24, d25, d26, d27, d28, d29, d30, d31, d32, d33, d34, d35, d36, d37, d38, d39, d40, d41, d42, d43, d44, d45, d46, d47, d48, d49, d50, d51, .bool false, d53, .bool false, U, U, U, U, U, U, U, U, U, U, U, U, U, U, U, U, U, U, U, U, U, U, U, U, U, U, U, U, U, U, U, U, U, U, U, U, U, U, U, U, U, U, U, U, U, U, U, U, U, U, U, U, U, U, U, U, U, U, U, U, U, U, U, U, U, U, U, U, U, U, U, U, U], defers := [] }) w := by
 have hx5 : (idxI sn b.rs.length).length ≤ 5 := by
  have := idxs_le sn b.rs.length
  have := recs_len hk
  unfold idxI
  simp
  omega
 have hal := alone_al hk hx5
 refine wps_nq (Code.wp_mono (fun e a' w1 h => ?_) (cl_9 hc hE hS hk hY hq5 hqb hq0))
 cases e <;> try exact h.elim
 obtain ⟨⟨d17, d18, d21, d22, d23, d24, d25, d26, d27, d28, d29, d30, d31, d32, d33, d34, d35, d36, d37, d38, d39, d40, d41, d42, d43, d44, d45, d46, d47, d48, d49, d50, d51, d53, d56, d57, d58, d59, d60, d61, d62, d63, d64, d65, d66, d67, rfl⟩, hb⟩ := h
 refine ⟨rfl, fun X1 t1 => ?_⟩
 have o1 := (Old.ofBelow hb).twin0 t1
 clear hb t1
 refine wps_nq (Code.wp_mono (fun e a' w1 h => ?_) (cl_L hc (hE.old o1) hS hk (o1.ints hY) hq5 hqb hq1))
 cases e <;> try exact h.elim
 obtain ⟨⟨d4, d11, d12, d13, d17, d18, d21, d22, d23, d24, d25, d26, d27, d28, d29, d30, d31, d32, d33, d34, d35, d36, d37, d38, d39, d40, d41, d42, d43, d44, d45, d46, d47, d48, d49, d50, d51, d53, d56, d57, d58, d59, d60, d61, d62, d63, d64, d65, d66, d67, d69, d70, d71, d72, d73, d74, d75, d76, d77, d78, d79, d80, d81, d82, d83, d84, d85, d86, d87, d88, d89, rfl⟩, hb⟩ := h
 refine ⟨rfl, fun X2 t2 => ?_⟩
 have o2 := o1.trans ((Old.ofBelow hb).twin0 t2)
 clear hb t2 o1
 refine wps_nq (Code.wp_mono (fun e a' w1 h => ?_) (cl_18 hc (w := X2)))
 cases e <;> try exact h.elim
 obtain ⟨⟨d4, d11, d12, d13, d17, d18, d21, d22, d23, d24, d25, d26, d27, d28, d29, d30, d31, d32, d33, d34, d35, d36, d37, d38, d39, d40, d41, d42, d43, d44, d45, d46, d47, d48, d49, d50, d51, d53, d56, d57, d58, d59, d60, d61, d62, d63, d64, d65, d66, d67, d69, d70, d71, d72, d73, d74, d75, d76, d77, d78, d79, d80, d81, d82, d83, d84, d85, d86, d87, d88, d89, rfl⟩, hb⟩ := h
 refine ⟨rfl, fun X3 t3 => ?_⟩
 have o3 := o2.trans ((Old.ofBelow hb).twin0 t3)
 clear hb t3 o2
 refine wps_nq (Code.wp_mono (fun e a' w1 h => ?_) (cl_M hc (hE.old o3) hk hs hs2))
 cases e <;> try exact h.elim
 obtain ⟨xa, xc, ⟨d4, d11, d12, d13, d15, d17, d18, d21, d22, d23, d24, d25, d26, d27, d28, d29, d30, d31, d32, d33, d34, d35, d36, d37, d38, d39, d40, d41, d42, d43, d44, d45, d46, d47, d48, d49, d50, d51, d53, d56, d57, d58, d59, d60, d61, d62, d63, d64, d65, d66, d67, d69, d70, d71, d72, d73, d74, d75, d76, d77, d78, d79, d80, d81, d82, d83, d84, d85, d86, d87, d88, d89, d90, d91, d92, d93, d94, d95, d96, d97, d98, d99, d100, d101, d102, d103, d104, d105, rfl⟩, hx, hb⟩ := h
 refine ⟨rfl, fun X4 t4 => ?_⟩
 have o4 := o3.trans ((Old.ofBelow hb).twin0 t4)
 have hX := t4.ints hx
 clear hb t4 o3 hx
 refine wps_nq (Code.wp_mono (fun e a' w1 h => ?_) (cl_24 hc (hE.old o4) hS hk hX hx5 hkk hal))
 cases e <;> try exact h.elim
 obtain ⟨⟨d4, d11, d12, d13, d15, d17, d18, d21, d22, d23, d24, d25, d26, d27, d28, d29, d30, d31, d32, d33, d34, d35, d36, d37, d38, d39, d40, d41, d42, d43, d44, d45, d46, d47, d48, d49, d50, d51, d53, d56, d57, d58, d59, d60, d61, d62, d63, d64, d65, d66, d67, d69, d70, d71, d72, d73, d74, d75, d76, d77, d78, d79, d80, d81, d82, d83, d84, d85, d86, d87, d88, d89, d90, d91, d92, d93, d94, d95, d96, d97, d98, d99, d100, d101, d102, d103, d104, d105, d106, d107, d108, d109, d110, d111, d112, he⟩, hb⟩ := h
 have hf := frame_facts (k := k) rfl he
 refine ⟨hf.2.1, fun X5 t5 => ?_⟩
 have o5 := (Old.ofBelow hb).twin0 t5
 have o6 := o4.trans o5
 exact ⟨⟨xa, xc, ya, yc, hf, o5.ints hX, o6.ints hY, (hE.old o6).kd⟩, o6⟩
end Go.Proofs.YtgemjjdkjmpmlaaGreatDoor
