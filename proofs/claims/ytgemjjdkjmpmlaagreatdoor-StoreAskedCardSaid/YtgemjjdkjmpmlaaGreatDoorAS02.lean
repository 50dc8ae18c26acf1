/- Leads to StoreAsked of chapter 6: AS6. -/
import Derived.Test.YtgemjjdkjmpmlaaGreatDoorAS01
set_option maxHeartbeats 8000000
set_option maxRecDepth 100000
set_option linter.all false
namespace Go.Proofs.YtgemjjdkjmpmlaaGreatDoor
open Go.RowKit Go.Maps Sp Mt Go.Conc
theorem as_co {w : World} {b : Bk} {s : Int} {vr vg vm vs vc : Value} (hR : RawAt w b vr vg vm vs vc) (hK : KindsAt w) (hs0 : 0 ≤ s) (hs1 : s ≤ 255) :
 Leads Tryz.prog (Leaving0 Tryz.prog fun v w' => v = .bool true ∧ Old w w') (Frame.enter Tryz.prog 5 #[.agg #[vr, vg, vm, vs, vc], .int .u8 s] .normal) [] w := by
 obtain ⟨r0, rg, rs, r3, r4, r5, s6, r7, f8, r9, r10, r11, f12, r13, r14, r15, hc⟩ := asBody_eq
 have hok := progOk.code _ _ Tryz.func5 _ hc
 simp only [codeOk, Bool.and_eq_true] at hok
 obtain ⟨k0, ⟨kg, _⟩, k3, k4, ⟨k5, ⟨k6, _⟩, _⟩, ⟨k7, ⟨k8, _⟩, _⟩, ⟨k9, ⟨k10, k11, ⟨k12, _⟩, _⟩, _⟩, k13, k14, _⟩ := hok
 rw [asFrame hc]
 have nb : (Go.Conc.base 5).kind = .normal := rfl
 have nd : MarksOnly [] := fun d hd => by cases hd
 refine piece_step k0 nb nd (Z := UZ0 b s vr vg vm vs vc) (fun a w1 w2 ht h => by obtain ⟨B, h1, h2⟩ := h; exact ⟨B, h1, h2.twin ht⟩) (fun W hW => as_0 hc (hW.raw hR) (hW.kinds hK)) fun a0 w0 hz ho0 => ?_
 obtain ⟨B, rfl, hE⟩ := hz
 obtain ⟨x, hx⟩ : ∃ x : Bool, (x = true ↔ ¬ ((SmallB b ∧ bookAl b = 0) ∧ b.rs.length + 2 ≤ 5 ∧ 0 < b.ss.length)) := by
  by_cases h : ((SmallB b ∧ bookAl b = 0) ∧ b.rs.length + 2 ≤ 5 ∧ 0 < b.ss.length)
  ·exact ⟨false, by simp only [Bool.false_eq_true, false_iff]; exact fun h2 => h2 h⟩
  ·exact ⟨true, by simp only [true_iff]; exact h⟩
 refine leads_seq fun d => ?_
 have hE := hE.twin (on_at w0 d)
 have ho0 := ho0.at d
 refine piece_step kg nb nd (Z := UZ1 B s vr vg vm vs vc x) (fun a w1 w2 ht h => h) (fun W hW => as_1 hc (hE.twin hW) hx) fun a1 w1 hz ho => ?_
 obtain ⟨d15, d16, d17, d18, d19, d20, d21, d22, d23, d24, d25, d26, d27, d28, d29, rfl⟩ := hz
 have hE := hE.old ho
 have ho1 := ho0.trans ho
 clear ho
 cases x with
 | true =>
  refine leads_cond (t := true) (by simp [go_sem]) fun da => ?_
  simp only [if_true]
  exact (as_early2 hc (ho1.at da) ((on_at w1 da).kinds hE.kd) rfl rfl).here
 | false =>
  obtain ⟨hS, hl5, hn⟩ : ((SmallB b ∧ bookAl b = 0) ∧ b.rs.length + 2 ≤ 5 ∧ 0 < b.ss.length) := Classical.byContradiction fun h => by have := hx.2 h; cases this
  refine leads_cond (t := false) (by simp [go_sem]) fun dd => ?_
  simp only [Bool.false_eq_true, if_false]
  refine leads_skip fun dd2 => ?_
  have hE := (hE.twin (on_at w1 dd)).twin (on_at (w1.at dd) dd2)
  have ho1 := (ho1.at dd).at dd2
  generalize (w1.at dd).at dd2 = w2 at hE ho1
  have ho2 := ho1
  clear ho1
  by_cases hp : pasts b = []
  ·refine pieces_co [r3, r4] (by simp [k3, k4]) nb rfl (Z := UZA B s vr vg vm vs vc) (fun a w1 w2 ht h => h) (fun W hW => as_A hc (hE.twin hW) hS.1 hS.2 hp) fun a3 w3 hz ho => ?_
   obtain ⟨d15, d16, d17, d18, d19, d20, d21, d22, d23, d24, d25, d26, d27, d28, d29, d32, d33, d34, d35, d36, d37, d38, d39, d40, d41, d42, rfl⟩ := hz
   have hE := hE.old ho
   have ho3 := ho2.trans ho
   clear ho ho2
   refine leads_seq fun d => ?_
   have hE := hE.twin (on_at w3 d)
   have ho3 := ho3.at d
   generalize w3.at d = w4 at hE ho3
   refine piece_step k5 nb nd (Z := UZA5 B s vr vg vm vs vc) (fun a w1 w2 ht h => h) (fun W hW => as_A5 (b := b) hc) fun a5 w5 hz ho => ?_
   obtain ⟨d15, d16, d17, d18, d19, d20, d21, d22, d23, d24, d25, d26, d27, d28, d29, d32, d33, d34, d35, d36, d37, d38, d39, d40, d41, d42, d43, d44, d45, d46, d47, rfl⟩ := hz
   have hE := hE.old ho
   have ho5 := ho3.trans ho
   refine leads_cond (t := true) (by simp [go_sem]) fun da => ?_
   simp only [if_true]
   exact (as_early6 hc (ho5.at da) ((on_at w5 da).kinds hE.kd) rfl rfl rfl rfl).here
  ·have ht : openAl b 0 = 0 := by unfold openAl; rw [if_neg (by simp [hS.2]), if_neg (by simp), if_neg hp]
   have hh : histN b = ((pasts b).length : Int) := by unfold histN; rw [if_pos hS.2]
   have hn0 : 0 < histN b := by have := List.length_pos_iff.2 hp; omega
   have hi0 : 0 ≤ s % (b.ss.length : Int) := Int.emod_nonneg _ (by omega)
   have hi1 : s % (b.ss.length : Int) < (b.ss.length : Int) := Int.emod_lt_of_pos _ (by omega)
   obtain ⟨hA, hB⟩ := askK_law (pasts b) b.ss.length
   have hB := hB (s % (b.ss.length : Int)).toNat (by omega)
   refine leads_seq fun d => ?_
   have hE := hE.twin (on_at w2 d)
   have ho2 := ho2.at d
   generalize w2.at d = w4 at hE ho2
   refine as_3 hc hE hS.1 ht hn fun w5 ho d32 d33 d34 d35 d36 d37 => ?_
   have hE := hE.old ho
   have ho5 := ho2.trans ho
   clear ho ho2
   rw [show askI (pasts b) b.ss.length = askK (pasts b) b.ss.length from rfl]
   rcases hA with ⟨eA, eB⟩ | ⟨j, hj, eA, eB, hln⟩
   ·rw [eA, eB] at hB ⊢
    rw [← hh] at hB ⊢
    refine pieces_co [r4, .seq r5 (.cond (.tmp 48) (.seq s6 .ret) .skip), .seq r7 (.cond (.tmp 86) (.seq f8 .ret) .skip), .seq r9 (.cond (.tmp 88) (.seq r10 (.seq r11 (.cond (.tmp 101) (.seq f12 .ret) .skip))) .skip), r13, r14] (by simp [k4, k5, k6, k7, k8, k9, k10, k11, k12, k13, k14, codeOk]) nb rfl (Z := UZB (-1) (histN b) (s % (b.ss.length : Int)) (mostI (pasts b) (s % (b.ss.length : Int)).toNat)) (fun a w1 w2 ht h => ⟨h.1, ht.kinds h.2⟩) (fun W hW => as_B1 hc (hE.twin hW) hS.1 hS.2 hl5 hn hs0 hs1 rfl rfl hn0 rfl) fun a3 w3 hz ho => ?_
    obtain ⟨⟨sz, df, q5, q6, q12, q13, q14⟩, hk7⟩ := hz
    rcases hB with h1 | ⟨h1, _⟩ | ⟨h1, _⟩
    ·exact (as_tailA (k := -1) (i := 0) hc (ho5.trans ho) hk7 (by simpa using h1) sz df q6 q13 q14).here
    ·exact (as_tailB (i := 0) hc (ho5.trans ho) hk7 (by rw [decide_eq_false_iff_not]; omega) (by rw [beq_iff_eq]; omega) rfl sz df q5 q6 q13 q14).here
    ·by_cases h2 : histN b < mostI (pasts b) (s % (b.ss.length : Int)).toNat
     ·exact (as_tailA (k := -1) (i := 0) hc (ho5.trans ho) hk7 (by simpa using h2) sz df q6 q13 q14).here
     ·exact (as_tailB (i := 0) hc (ho5.trans ho) hk7 (by rw [decide_eq_false_iff_not]; omega) (by rw [beq_iff_eq]; omega) rfl sz df q5 q6 q13 q14).here
   ·rw [eA, eB] at hB ⊢
    rw [← hh] at hln
    refine pieces_co [r4, .seq r5 (.cond (.tmp 48) (.seq s6 .ret) .skip), .seq r7 (.cond (.tmp 86) (.seq f8 .ret) .skip), .seq r9 (.cond (.tmp 88) (.seq r10 (.seq r11 (.cond (.tmp 101) (.seq f12 .ret) .skip))) .skip), r13, r14] (by simp [k4, k5, k6, k7, k8, k9, k10, k11, k12, k13, k14, codeOk]) nb rfl (Z := UZB (j : Int) (mostI (pasts b) j) (s % (b.ss.length : Int)) (mostI (pasts b) (s % (b.ss.length : Int)).toNat)) (fun a w1 w2 ht h => ⟨h.1, ht.kinds h.2⟩) (fun W hW => as_B2 hc (hE.twin hW) hS.1 hS.2 hl5 hn hs0 hs1 rfl rfl hn0 rfl hj rfl hln) fun a3 w3 hz ho => ?_
    obtain ⟨⟨sz, df, q5, q6, q12, q13, q14⟩, hk7⟩ := hz
    rcases hB with h1 | ⟨h1, h2⟩ | ⟨_, h2⟩
    ·exact (as_tailA (k := j) (i := 0) hc (ho5.trans ho) hk7 (by simpa using h1) sz df q6 q13 q14).here
    ·exact (as_tailC hc (ho5.trans ho) hk7 (by rw [decide_eq_false_iff_not]; omega) (by rw [beq_iff_eq]; omega) (by rw [decide_eq_false_iff_not]; omega) (by rw [decide_eq_true_iff]; omega) sz df q5 q6 q12 q13 q14).here
    ·omega
end Go.Proofs.YtgemjjdkjmpmlaaGreatDoor
