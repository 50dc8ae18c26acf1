/- Leads to StoreHistories of chapter 6: K6 K7 K8. -/
import Derived.Test.YtbibidfkbdhblaaGreatDoorM01
import Derived.Laws.EntriesVeiled
set_option maxHeartbeats 2000000
set_option maxRecDepth 100000
set_option linter.all false
namespace Go.Proofs.YtbibidfkbdhblaaGreatDoor
open Go.RowKit Go.Maps Sp
def kindWord : Nat → List UInt8
 | 0 => [97, 108, 108]
 | 1 => [98, 114, 111, 107, 101]
 | 2 => [108, 101, 97, 115, 116]
 | 3 => [109, 111, 115, 116]
 | 4 => [99, 111, 112, 105, 101, 115]
 | _ => [104, 97, 118, 101]
def kindMost : Nat → Nat
 | 4 => 197
 | 5 => 199
 | _ => 192
def kindRight : Nat → Nat
 | 0 => 193
 | 1 => 194
 | 2 => 195
 | 3 => 196
 | 4 => 198
 | _ => 200
def KindsAt (w : World) : Prop := 0 < w.heap.size ∧ ∀ i, i < 6 →
 (∃ s : ByteArray, s.data.toList = kindWord i ∧ w.cell? ⟨0, i * 5, none⟩ = some (.string s)) ∧
 w.cell? ⟨0, i * 5 + 1, none⟩ = some (.bool (usesB i)) ∧ w.cell? ⟨0, i * 5 + 2, none⟩ = some (.bool (usesMany i)) ∧
 w.cell? ⟨0, i * 5 + 3, none⟩ = some (.func (.func (kindMost i)) #[] #[]) ∧ w.cell? ⟨0, i * 5 + 4, none⟩ = some (.func (.func (kindRight i)) #[] #[])
theorem KindsAt.below {w w' : World} (h : KindsAt w) (hb : Below w.heap.size w w') : KindsAt w' :=
 ⟨Nat.lt_of_lt_of_le h.1 hb.size, fun i hi => by
   obtain ⟨⟨s, e, h0⟩, h1, h2, h3, h4⟩ := h.2 i hi
   exact ⟨⟨s, e, (hb.cell h.1).trans h0⟩, (hb.cell h.1).trans h1, (hb.cell h.1).trans h2, (hb.cell h.1).trans h3, (hb.cell h.1).trans h4⟩⟩
def recV (r : Rec) : Value := .agg #[.int .i64 r.k, .int .i64 r.a, .int .i64 r.b, .int .i64 r.m]
section
variable {b : Bk} {vr vg vm vs vc : Value} {w : World}
def RecPost (w : World) (t : Int) (e : Ending) (w' : World) : Prop := e = .returned (.int .i64 t) ∧ Below w.heap.size w w'
theorem record_out (r : Rec) (h : inB r.k 0 5 = false) :
 Calls Tryz.prog 142 #[.agg #[vr, vg, vm, vs, vc], recV r] w (RecPost w 1) := by
 have H := Hh h; clear h
 unfold recV
 go_enter Tryz.func142, Tryz.ntmps142
 go_wp2_with (go_at_call 80; (with_reducible refine (inside_at H.out).mono ?_); rintro e w' ⟨rfl, rfl⟩)
 go_ret
 exact ⟨rfl, bel⟩
theorem record_0 (hB : BookAt w b vr vg vm vs vc) (hG : ∀ m ∈ b.ms, 0 ≤ m.groups ∧ m.groups ≤ 1000) (hK : KindsAt w) (a rb m : Int) {t : Int} (h : recAl b ⟨0, a, rb, m⟩ = t) :
 Calls Tryz.prog 142 #[.agg #[vr, vg, vm, vs, vc], .agg #[.int .i64 0, .int .i64 a, .int .i64 rb, .int .i64 m]] w (RecPost w t) := by
 obtain ⟨hlt, hK⟩ := hK
 obtain ⟨⟨s, _, k0⟩, k1, k2, k3, k4⟩ := hK 0 (by omega)
 simp [usesB, usesMany, kindMost, kindRight] at k0 k1 k2 k3 k4
 simp [recAl, usesB, usesMany, show inB 0 0 5 = true from by decide] at h
 have HK := Hh (show inB 0 0 5 = true from by decide)
 have HB := Hh hB
 have HG := Hh hG
 clear hB hG hK
 by_cases hrb : rb = 0
 rotate_left
 ·simp [hrb] at h
  subst h
  go_enter Tryz.func142, Tryz.ntmps142
  go_wp2_with (first | (go_at_call 80; (with_reducible refine (inside_at HK.out).mono ?_); rintro e w' ⟨rfl, rfl⟩) | (go_at_call 80; (with_reducible refine (inside_at HM.out).mono ?_); rintro e w' ⟨rfl, rfl⟩))
  go_ret
  exact ⟨rfl, bel⟩
 subst hrb
 by_cases hm : m = 0
 rotate_left
 ·simp [hm] at h
  subst h
  go_enter Tryz.func142, Tryz.ntmps142
  go_wp2_with (first | (go_at_call 80; (with_reducible refine (inside_at HK.out).mono ?_); rintro e w' ⟨rfl, rfl⟩) | (go_at_call 80; (with_reducible refine (inside_at HM.out).mono ?_); rintro e w' ⟨rfl, rfl⟩))
  go_ret
  exact ⟨rfl, bel⟩
 subst hm
 cases hO : inB a 0 ((b.ss.length : Int) - 1)
 ·simp [most, hO] at h
  subst h
  have HO := Hh hO; clear hO
  go_enter Tryz.func142, Tryz.ntmps142
  go_wp2_with (first | (go_at_call 80; (with_reducible refine (inside_at HK.out).mono ?_); rintro e w' ⟨rfl, rfl⟩) | (go_at_call 192; (with_reducible refine (kind0_no (HB.out.below (Below.al (Below.al (Below.al (Below.refl _ _) _) _) _)) _ _ _ _ HO.out).mono ?_); rintro e w1 ⟨rfl, hb1⟩; obtain ⟨hc1, hf1⟩ := bcell hb1; have hz1 := hb1.size) | (go_at_call 80; (with_reducible refine (inside_at HM.out).mono ?_); rintro e w' ⟨rfl, rfl⟩))
  go_ret
  exact ⟨rfl, bel⟩
 ·have ht : (if inB 0 0 (((b.ss[a.toNat]?).elim 0 List.length : Nat) : Int) = true then (0 : Int) else 1) = t := by simpa [most, hO] using h
  clear h
  have HO := Hh hO; clear hO
  cases hM : inB 0 0 (((b.ss[a.toNat]?).elim 0 List.length : Nat) : Int)
  all_goals
   rw [hM] at ht
   have HM := Hh hM; clear hM
   simp at ht
   subst ht
   go_enter Tryz.func142, Tryz.ntmps142
   go_wp2_with (first | (go_at_call 80; (with_reducible refine (inside_at HK.out).mono ?_); rintro e w' ⟨rfl, rfl⟩) | (go_at_call 192; (with_reducible refine (kind0_yes (HB.out.below (Below.al (Below.al (Below.al (Below.refl _ _) _) _) _)) _ _ _ _ HO.out).mono ?_); rintro e w1 ⟨rfl, hb1⟩; obtain ⟨hc1, hf1⟩ := bcell hb1; have hz1 := hb1.size) | (go_at_call 80; (with_reducible refine (inside_at HM.out).mono ?_); rintro e w' ⟨rfl, rfl⟩))
   go_ret
   exact ⟨rfl, bel⟩
theorem record_1 (hB : BookAt w b vr vg vm vs vc) (hG : ∀ m ∈ b.ms, 0 ≤ m.groups ∧ m.groups ≤ 1000) (hK : KindsAt w) (a rb m : Int) {t : Int} (h : recAl b ⟨1, a, rb, m⟩ = t) :
 Calls Tryz.prog 142 #[.agg #[vr, vg, vm, vs, vc], .agg #[.int .i64 1, .int .i64 a, .int .i64 rb, .int .i64 m]] w (RecPost w t) := by
 obtain ⟨hlt, hK⟩ := hK
 obtain ⟨⟨s, _, k0⟩, k1, k2, k3, k4⟩ := hK 1 (by omega)
 simp [usesB, usesMany, kindMost, kindRight] at k0 k1 k2 k3 k4
 simp [recAl, usesB, usesMany, show inB 1 0 5 = true from by decide] at h
 have HK := Hh (show inB 1 0 5 = true from by decide)
 have HB := Hh hB
 have HG := Hh hG
 clear hB hG hK
 by_cases hrb : rb = 0
 rotate_left
 ·simp [hrb] at h
  subst h
  go_enter Tryz.func142, Tryz.ntmps142
  go_wp2_with (first | (go_at_call 80; (with_reducible refine (inside_at HK.out).mono ?_); rintro e w' ⟨rfl, rfl⟩) | (go_at_call 80; (with_reducible refine (inside_at HM.out).mono ?_); rintro e w' ⟨rfl, rfl⟩))
  go_ret
  exact ⟨rfl, bel⟩
 subst hrb
 by_cases hm : m = 0
 rotate_left
 ·simp [hm] at h
  subst h
  go_enter Tryz.func142, Tryz.ntmps142
  go_wp2_with (first | (go_at_call 80; (with_reducible refine (inside_at HK.out).mono ?_); rintro e w' ⟨rfl, rfl⟩) | (go_at_call 80; (with_reducible refine (inside_at HM.out).mono ?_); rintro e w' ⟨rfl, rfl⟩))
  go_ret
  exact ⟨rfl, bel⟩
 subst hm
 cases hO : inB a 0 ((b.ss.length : Int) - 1)
 ·simp [most, hO] at h
  subst h
  have HO := Hh hO; clear hO
  go_enter Tryz.func142, Tryz.ntmps142
  go_wp2_with (first | (go_at_call 80; (with_reducible refine (inside_at HK.out).mono ?_); rintro e w' ⟨rfl, rfl⟩) | (go_at_call 192; (with_reducible refine (kind0_no (HB.out.below (Below.al (Below.al (Below.al (Below.refl _ _) _) _) _)) _ _ _ _ HO.out).mono ?_); rintro e w1 ⟨rfl, hb1⟩; obtain ⟨hc1, hf1⟩ := bcell hb1; have hz1 := hb1.size) | (go_at_call 80; (with_reducible refine (inside_at HM.out).mono ?_); rintro e w' ⟨rfl, rfl⟩))
  go_ret
  exact ⟨rfl, bel⟩
 ·have ht : (if inB 0 0 (((b.ss[a.toNat]?).elim 0 List.length : Nat) : Int) = true then (0 : Int) else 1) = t := by simpa [most, hO] using h
  clear h
  have HO := Hh hO; clear hO
  cases hM : inB 0 0 (((b.ss[a.toNat]?).elim 0 List.length : Nat) : Int)
  all_goals
   rw [hM] at ht
   have HM := Hh hM; clear hM
   simp at ht
   subst ht
   go_enter Tryz.func142, Tryz.ntmps142
   go_wp2_with (first | (go_at_call 80; (with_reducible refine (inside_at HK.out).mono ?_); rintro e w' ⟨rfl, rfl⟩) | (go_at_call 192; (with_reducible refine (kind0_yes (HB.out.below (Below.al (Below.al (Below.al (Below.refl _ _) _) _) _)) _ _ _ _ HO.out).mono ?_); rintro e w1 ⟨rfl, hb1⟩; obtain ⟨hc1, hf1⟩ := bcell hb1; have hz1 := hb1.size) | (go_at_call 80; (with_reducible refine (inside_at HM.out).mono ?_); rintro e w' ⟨rfl, rfl⟩))
   go_ret
   exact ⟨rfl, bel⟩
theorem record_2 (hB : BookAt w b vr vg vm vs vc) (hG : ∀ m ∈ b.ms, 0 ≤ m.groups ∧ m.groups ≤ 1000) (hK : KindsAt w) (a rb m : Int) {t : Int} (h : recAl b ⟨2, a, rb, m⟩ = t) :
 Calls Tryz.prog 142 #[.agg #[vr, vg, vm, vs, vc], .agg #[.int .i64 2, .int .i64 a, .int .i64 rb, .int .i64 m]] w (RecPost w t) := by
 obtain ⟨hlt, hK⟩ := hK
 obtain ⟨⟨s, _, k0⟩, k1, k2, k3, k4⟩ := hK 2 (by omega)
 simp [usesB, usesMany, kindMost, kindRight] at k0 k1 k2 k3 k4
 simp [recAl, usesB, usesMany, show inB 2 0 5 = true from by decide] at h
 have HK := Hh (show inB 2 0 5 = true from by decide)
 have HB := Hh hB
 have HG := Hh hG
 clear hB hG hK
 by_cases hrb : rb = 0
 rotate_left
 ·simp [hrb] at h
  subst h
  go_enter Tryz.func142, Tryz.ntmps142
  go_wp2_with (first | (go_at_call 80; (with_reducible refine (inside_at HK.out).mono ?_); rintro e w' ⟨rfl, rfl⟩) | (go_at_call 80; (with_reducible refine (inside_at HM.out).mono ?_); rintro e w' ⟨rfl, rfl⟩))
  go_ret
  exact ⟨rfl, bel⟩
 subst hrb
 cases hO : inB a 0 ((b.ss.length : Int) - 1)
 ·simp [most, hO] at h
  subst h
  have HO := Hh hO; clear hO
  go_enter Tryz.func142, Tryz.ntmps142
  go_wp2_with (first | (go_at_call 80; (with_reducible refine (inside_at HK.out).mono ?_); rintro e w' ⟨rfl, rfl⟩) | (go_at_call 192; (with_reducible refine (kind0_no (HB.out.below (Below.al (Below.al (Below.al (Below.refl _ _) _) _) _)) _ _ _ _ HO.out).mono ?_); rintro e w1 ⟨rfl, hb1⟩; obtain ⟨hc1, hf1⟩ := bcell hb1; have hz1 := hb1.size) | (go_at_call 80; (with_reducible refine (inside_at HM.out).mono ?_); rintro e w' ⟨rfl, rfl⟩))
  go_ret
  exact ⟨rfl, bel⟩
 ·have ht : (if inB m 0 (((b.ss[a.toNat]?).elim 0 List.length : Nat) : Int) = true then (0 : Int) else 1) = t := by simpa [most, hO] using h
  clear h
  have HO := Hh hO; clear hO
  cases hM : inB m 0 (((b.ss[a.toNat]?).elim 0 List.length : Nat) : Int)
  all_goals
   rw [hM] at ht
   have HM := Hh hM; clear hM
   simp at ht
   subst ht
   go_enter Tryz.func142, Tryz.ntmps142
   go_wp2_with (first | (go_at_call 80; (with_reducible refine (inside_at HK.out).mono ?_); rintro e w' ⟨rfl, rfl⟩) | (go_at_call 192; (with_reducible refine (kind0_yes (HB.out.below (Below.al (Below.al (Below.al (Below.refl _ _) _) _) _)) _ _ _ _ HO.out).mono ?_); rintro e w1 ⟨rfl, hb1⟩; obtain ⟨hc1, hf1⟩ := bcell hb1; have hz1 := hb1.size) | (go_at_call 80; (with_reducible refine (inside_at HM.out).mono ?_); rintro e w' ⟨rfl, rfl⟩))
   go_ret
   exact ⟨rfl, bel⟩
theorem record_3 (hB : BookAt w b vr vg vm vs vc) (hG : ∀ m ∈ b.ms, 0 ≤ m.groups ∧ m.groups ≤ 1000) (hK : KindsAt w) (a rb m : Int) {t : Int} (h : recAl b ⟨3, a, rb, m⟩ = t) :
 Calls Tryz.prog 142 #[.agg #[vr, vg, vm, vs, vc], .agg #[.int .i64 3, .int .i64 a, .int .i64 rb, .int .i64 m]] w (RecPost w t) := by
 obtain ⟨hlt, hK⟩ := hK
 obtain ⟨⟨s, _, k0⟩, k1, k2, k3, k4⟩ := hK 3 (by omega)
 simp [usesB, usesMany, kindMost, kindRight] at k0 k1 k2 k3 k4
 simp [recAl, usesB, usesMany, show inB 3 0 5 = true from by decide] at h
 have HK := Hh (show inB 3 0 5 = true from by decide)
 have HB := Hh hB
 have HG := Hh hG
 clear hB hG hK
 by_cases hrb : rb = 0
 rotate_left
 ·simp [hrb] at h
  subst h
  go_enter Tryz.func142, Tryz.ntmps142
  go_wp2_with (first | (go_at_call 80; (with_reducible refine (inside_at HK.out).mono ?_); rintro e w' ⟨rfl, rfl⟩) | (go_at_call 80; (with_reducible refine (inside_at HM.out).mono ?_); rintro e w' ⟨rfl, rfl⟩))
  go_ret
  exact ⟨rfl, bel⟩
 subst hrb
 cases hO : inB a 0 ((b.ss.length : Int) - 1)
 ·simp [most, hO] at h
  subst h
  have HO := Hh hO; clear hO
  go_enter Tryz.func142, Tryz.ntmps142
  go_wp2_with (first | (go_at_call 80; (with_reducible refine (inside_at HK.out).mono ?_); rintro e w' ⟨rfl, rfl⟩) | (go_at_call 192; (with_reducible refine (kind0_no (HB.out.below (Below.al (Below.al (Below.al (Below.refl _ _) _) _) _)) _ _ _ _ HO.out).mono ?_); rintro e w1 ⟨rfl, hb1⟩; obtain ⟨hc1, hf1⟩ := bcell hb1; have hz1 := hb1.size) | (go_at_call 80; (with_reducible refine (inside_at HM.out).mono ?_); rintro e w' ⟨rfl, rfl⟩))
  go_ret
  exact ⟨rfl, bel⟩
 ·have ht : (if inB m 0 (((b.ss[a.toNat]?).elim 0 List.length : Nat) : Int) = true then (0 : Int) else 1) = t := by simpa [most, hO] using h
  clear h
  have HO := Hh hO; clear hO
  cases hM : inB m 0 (((b.ss[a.toNat]?).elim 0 List.length : Nat) : Int)
  all_goals
   rw [hM] at ht
   have HM := Hh hM; clear hM
   simp at ht
   subst ht
   go_enter Tryz.func142, Tryz.ntmps142
   go_wp2_with (first | (go_at_call 80; (with_reducible refine (inside_at HK.out).mono ?_); rintro e w' ⟨rfl, rfl⟩) | (go_at_call 192; (with_reducible refine (kind0_yes (HB.out.below (Below.al (Below.al (Below.al (Below.refl _ _) _) _) _)) _ _ _ _ HO.out).mono ?_); rintro e w1 ⟨rfl, hb1⟩; obtain ⟨hc1, hf1⟩ := bcell hb1; have hz1 := hb1.size) | (go_at_call 80; (with_reducible refine (inside_at HM.out).mono ?_); rintro e w' ⟨rfl, rfl⟩))
   go_ret
   exact ⟨rfl, bel⟩
theorem record_4 (hB : BookAt w b vr vg vm vs vc) (hG : ∀ m ∈ b.ms, 0 ≤ m.groups ∧ m.groups ≤ 1000) (hK : KindsAt w) (a rb m : Int) {t : Int} (h : recAl b ⟨4, a, rb, m⟩ = t) :
 Calls Tryz.prog 142 #[.agg #[vr, vg, vm, vs, vc], .agg #[.int .i64 4, .int .i64 a, .int .i64 rb, .int .i64 m]] w (RecPost w t) := by
 obtain ⟨hlt, hK⟩ := hK
 obtain ⟨⟨s, _, k0⟩, k1, k2, k3, k4⟩ := hK 4 (by omega)
 simp [usesB, usesMany, kindMost, kindRight] at k0 k1 k2 k3 k4
 simp [recAl, usesB, usesMany, show inB 4 0 5 = true from by decide] at h
 have HK := Hh (show inB 4 0 5 = true from by decide)
 have HB := Hh hB
 have HG := Hh hG
 clear hB hG hK
 cases hO : isPart b (a, rb)
 ·simp [most, hO] at h
  subst h
  have HO := Hh hO; clear hO
  go_enter Tryz.func142, Tryz.ntmps142
  go_wp2_with (first | (go_at_call 80; (with_reducible refine (inside_at HK.out).mono ?_); rintro e w' ⟨rfl, rfl⟩) | (go_at_call 197; (with_reducible refine (kind4_at (HB.out.below (Below.al (Below.al (Below.al (Below.refl _ _) _) _) _)) HG.out _ (a, rb) _ HO.out).mono ?_); rintro e w1 ⟨rfl, hb1⟩; obtain ⟨hc1, hf1⟩ := bcell hb1; have hz1 := hb1.size) | (go_at_call 80; (with_reducible refine (inside_at HM.out).mono ?_); rintro e w' ⟨rfl, rfl⟩))
  go_ret
  exact ⟨rfl, bel⟩
 ·have ht : (if inB m 0 (b.ss.length : Int) = true then (0 : Int) else 1) = t := by simpa [most, hO] using h
  clear h
  have HO := Hh hO; clear hO
  cases hM : inB m 0 (b.ss.length : Int)
  all_goals
   rw [hM] at ht
   have HM := Hh hM; clear hM
   simp at ht
   subst ht
   go_enter Tryz.func142, Tryz.ntmps142
   go_wp2_with (first | (go_at_call 80; (with_reducible refine (inside_at HK.out).mono ?_); rintro e w' ⟨rfl, rfl⟩) | (go_at_call 197; (with_reducible refine (kind4_at (HB.out.below (Below.al (Below.al (Below.al (Below.refl _ _) _) _) _)) HG.out _ (a, rb) _ HO.out).mono ?_); rintro e w1 ⟨rfl, hb1⟩; obtain ⟨hc1, hf1⟩ := bcell hb1; have hz1 := hb1.size) | (go_at_call 80; (with_reducible refine (inside_at HM.out).mono ?_); rintro e w' ⟨rfl, rfl⟩))
   go_ret
   exact ⟨rfl, bel⟩
theorem record_5 (hB : BookAt w b vr vg vm vs vc) (hG : ∀ m ∈ b.ms, 0 ≤ m.groups ∧ m.groups ≤ 1000) (hK : KindsAt w) (a rb m : Int) {t : Int} (h : recAl b ⟨5, a, rb, m⟩ = t) :
 Calls Tryz.prog 142 #[.agg #[vr, vg, vm, vs, vc], .agg #[.int .i64 5, .int .i64 a, .int .i64 rb, .int .i64 m]] w (RecPost w t) := by
 obtain ⟨hlt, hK⟩ := hK
 obtain ⟨⟨s, _, k0⟩, k1, k2, k3, k4⟩ := hK 5 (by omega)
 simp [usesB, usesMany, kindMost, kindRight] at k0 k1 k2 k3 k4
 simp [recAl, usesB, usesMany, show inB 5 0 5 = true from by decide] at h
 have HK := Hh (show inB 5 0 5 = true from by decide)
 have HB := Hh hB
 have HG := Hh hG
 clear hB hG hK
 by_cases hrb : rb = 0
 rotate_left
 ·simp [hrb] at h
  subst h
  go_enter Tryz.func142, Tryz.ntmps142
  go_wp2_with (first | (go_at_call 80; (with_reducible refine (inside_at HK.out).mono ?_); rintro e w' ⟨rfl, rfl⟩) | (go_at_call 80; (with_reducible refine (inside_at HM.out).mono ?_); rintro e w' ⟨rfl, rfl⟩))
  go_ret
  exact ⟨rfl, bel⟩
 subst hrb
 cases hO : inB a 0 ((b.ms.length : Int) - 1)
 ·simp [most, hO] at h
  subst h
  have HO := Hh hO; clear hO
  go_enter Tryz.func142, Tryz.ntmps142
  go_wp2_with (first | (go_at_call 80; (with_reducible refine (inside_at HK.out).mono ?_); rintro e w' ⟨rfl, rfl⟩) | (go_at_call 199; (with_reducible refine (kind5_no (HB.out.below (Below.al (Below.al (Below.al (Below.refl _ _) _) _) _)) _ _ _ _ HO.out).mono ?_); rintro e w1 ⟨rfl, hb1⟩; obtain ⟨hc1, hf1⟩ := bcell hb1; have hz1 := hb1.size) | (go_at_call 80; (with_reducible refine (inside_at HM.out).mono ?_); rintro e w' ⟨rfl, rfl⟩))
  go_ret
  exact ⟨rfl, bel⟩
 ·have ht : (if inB m 0 ((b.ms[a.toNat]?).elim 0 Msg.groups) = true then (0 : Int) else 1) = t := by simpa [most, hO] using h
  clear h
  have HO := Hh hO; clear hO
  cases hM : inB m 0 ((b.ms[a.toNat]?).elim 0 Msg.groups)
  all_goals
   rw [hM] at ht
   have HM := Hh hM; clear hM
   simp at ht
   subst ht
   go_enter Tryz.func142, Tryz.ntmps142
   go_wp2_with (first | (go_at_call 80; (with_reducible refine (inside_at HK.out).mono ?_); rintro e w' ⟨rfl, rfl⟩) | (go_at_call 199; (with_reducible refine (kind5_yes (HB.out.below (Below.al (Below.al (Below.al (Below.refl _ _) _) _) _)) _ _ _ _ HO.out).mono ?_); rintro e w1 ⟨rfl, hb1⟩; obtain ⟨hc1, hf1⟩ := bcell hb1; have hz1 := hb1.size) | (go_at_call 80; (with_reducible refine (inside_at HM.out).mono ?_); rintro e w' ⟨rfl, rfl⟩))
   go_ret
   exact ⟨rfl, bel⟩
theorem record_at (hB : BookAt w b vr vg vm vs vc) (hG : ∀ m ∈ b.ms, 0 ≤ m.groups ∧ m.groups ≤ 1000) (hK : KindsAt w) (r : Rec) {t : Int} (h : recAl b r = t) :
 Calls Tryz.prog 142 #[.agg #[vr, vg, vm, vs, vc], recV r] w (RecPost w t) := by
 cases hk : inB r.k 0 5
 ·simp [recAl, hk] at h
  subst h
  exact record_out r hk
 ·obtain ⟨k, a, rb, m⟩ := r
  simp only [inB, decide_eq_true_eq] at hk
  have : k = 0 ∨ k = 1 ∨ k = 2 ∨ k = 3 ∨ k = 4 ∨ k = 5 := by omega
  rcases this with rfl | rfl | rfl | rfl | rfl | rfl
  ·exact record_0 hB hG hK a rb m h
  ·exact record_1 hB hG hK a rb m h
  ·exact record_2 hB hG hK a rb m h
  ·exact record_3 hB hG hK a rb m h
  ·exact record_4 hB hG hK a rb m h
  ·exact record_5 hB hG hK a rb m h
end
section
variable {b : Bk} {vr vg vm vs vc : Value} {w : World}
theorem record_at2 (hB : BookAt w b vr vg vm vs vc) (hG : ∀ m ∈ b.ms, 0 ≤ m.groups ∧ m.groups ≤ 1000) (hK : KindsAt w) (r : Rec) {t : Int} (h : recAl b r = t) :
 Calls Tryz.prog 142 #[.agg #[vr, vg, vm, vs, vc], .agg #[.int .i64 r.k, .int .i64 r.a, .int .i64 r.b, .int .i64 r.m]] w fun e w' => e = .returned (.int .i64 t) ∧ Below w.heap.size w w' := record_at hB hG hK r h
theorem records_at (hB : BookAt w b vr vg vm vs vc) (hG : ∀ m ∈ b.ms, 0 ≤ m.groups ∧ m.groups ≤ 1000) (hK : KindsAt w) {t : Int} (h : recsAl b = t) :
 Calls Tryz.prog 105 #[.agg #[vr, vg, vm, vs, vc]] w fun e w' => e = .returned (.int .i64 t) ∧ Below w.heap.size w w' := by
 obtain ⟨sa, sc, rfl, hM, hl⟩ := hB.rs
 unfold recsAl at h
 by_cases h4 : 5 < b.rs.length
 ·rw [if_pos h4] at h
  subst h
  go_enter Tryz.func105, Tryz.ntmps105
  go_wp2
  go_ret
  exact ⟨rfl, bel⟩
 ·rw [if_neg h4] at h
  have H := Hh h; clear h
  have HB := Hh hB; clear hB
  have HG := Hh hG; clear hG
  have HK := Hh hK; clear hK
  clear hM
  go_enter Tryz.func105, Tryz.ntmps105
  go_wp2
  obtain ⟨W0, hW0⟩ : ∃ W0, W0 = w.alloc (.cells #[vr, vg, vm, vs, .slice sa b.rs.length sc] 99) := ⟨_, rfl⟩
  rw [← hW0]
  have five := Five.new w vr vg vm vs (.slice sa b.rs.length sc) 99
  rw [← hW0] at five
  have hb0 : Below w.heap.size w W0 := by rw [hW0]; (exact bel)
  have HB0 := Hh (HB.out.below hb0)
  have HK0 := Hh (HK.out.below hb0)
  have HS : Hid (RecsAt W0 sa b.rs) := by obtain ⟨_, _, e, h, _⟩ := HB0.out.rs; cases e; exact h
  clear hW0
  go_loopw [15] (fun i wr => ∃ (k : Nat), k ≤ b.rs.length ∧ i = .int .i64 k ∧ Hid (goR b (b.rs.drop k) = t) ∧ Below W0.heap.size W0 wr) (fun i _ => b.rs.length - (intOf i).toNat)
  case atStart => exact ⟨0, Nat.zero_le _, rfl, H.out, Below.refl _ _⟩
  case round =>
   obtain ⟨k, hk, rfl, hG0, hW⟩ := hrel
   have hWs := hW.size
   by_cases hlt : k < b.rs.length
   ·obtain ⟨sb, so, rfl, hsb, e0, e1, e2, e3⟩ := HS.out k hlt
    have c0 := (hW.cell hsb).trans e0
    have c1 := (hW.cell hsb).trans e1
    have c2 := (hW.cell hsb).trans e2
    have c3 := (hW.cell hsb).trans e3
    have hsb2 : sb < wr.heap.size := Nat.lt_of_lt_of_le hsb hW.size
    have hG' := hG0.out
    rw [List.drop_eq_getElem_cons hlt, goR] at hG'
    clear hG0 e0 e1 e2 e3
    generalize hs : b.rs[k] = s at c0 c1 c2 c3 hG'
    obtain ⟨rk, ra, rb, rm⟩ := s
    dsimp only at c0 c1 c2 c3
    have HSS := Hh hs; clear hs
    obtain ⟨y0, y1, y2, y3, y4, ylt⟩ := five.below hW five.lt
    have HBr := Hh (HB0.out.below hW)
    have HKr := Hh (HK0.out.below hW)
    by_cases hz : recAl b ⟨rk, ra, rb, rm⟩ = 0
    ·rw [if_neg (by simpa using hz)] at hG'
     have HZ := Hh hz
     have HG1 := Hh hG'
     clear hz hG'
     go_wp2_with (go_at_call 142; (with_reducible refine (record_at2 (HBr.out.below (bal _ _)) HG.out (HKr.out.below (bal _ _)) ⟨rk, ra, rb, rm⟩ HZ.out).mono ?_); rintro e w1 ⟨rfl, hb1⟩)
     go_roundw
     case rel => exact ⟨k + 1, by omega, by go_num, HG1.out, bel⟩
     case measure => simp [intOf]; omega
    ·rw [if_pos (by simpa using hz)] at hG'
     have HZ := Hh hG'
     have hz2 : (t == 0) = false := by rw [← hG']; simpa using hz
     have hz3 : (t != 0) = true := by rw [← hG']; simpa using hz
     have hz4 : ¬ t = 0 := by rw [← hG']; exact hz
     clear hz hG'
     go_wp2_with (go_at_call 142; (with_reducible refine (record_at2 (HBr.out.below (bal _ _)) HG.out (HKr.out.below (bal _ _)) ⟨rk, ra, rb, rm⟩ HZ.out).mono ?_); rintro e w1 ⟨rfl, hb1⟩)
     go_ret
     exact ⟨rfl, bel⟩
   ·have : goR b (b.rs.drop k) = t := hG0.out
    rw [List.drop_eq_nil_of_le (by omega)] at this
    simp only [goR] at this
    subst this
    go_wp2
    go_ret
    exact ⟨rfl, bel⟩
end
section
variable {b : Bk} {vr vg vm vs vc : Value} {w : World}
theorem numbers_at {b : Bk} {vr vg vm vs vc : Value} {w : World} (hB : BookAt w b vr vg vm vs vc) {t : Int} (h : numbersAl b = t) :
 Calls Tryz.prog 102 #[.agg #[vr, vg, vm, vs, vc]] w fun e w' => e = .returned (.int .i64 t) ∧ Below w.heap.size w w' := by
 obtain rfl := hB.room
 obtain rfl := hB.gap
 subst h
 exact numbers_any b vm vs vc w
theorem msgsAl_ok {b : Bk} (h : msgsAl b = 0) : ∀ m ∈ b.ms, 0 ≤ m.groups ∧ m.groups ≤ 1000 := by
 unfold msgsAl at h
 split at h
 ·cases h
 ·have : ∀ (l : List Msg) (seen : List (List UInt8)), goM seen l = 0 → ∀ m ∈ l, 0 ≤ m.groups ∧ m.groups ≤ 1000 := by
   intro l
   induction l with
   | nil => intro _ _ m hm; cases hm
   | cons x l ih =>
    intro seen hg m hm
    unfold goM at hg
    split at hg
    ·cases hg
    ·split at hg
     ·cases hg
     ·split at hg
      ·cases hg
      ·rename_i hx
       rcases List.mem_cons.1 hm with rfl | hm
       ·simp only [not_or, Bool.not_eq_false, inB, decide_eq_true_eq] at hx
        omega
       ·exact ih _ hg m hm
  exact this _ _ h
theorem checkBook_at (hB : BookAt w b vr vg vm vs vc) (hN : ∀ m ∈ b.ms, m.name.size ≤ 1000000) (hK : KindsAt w) {t : Int} (h : bookAl b = t) :
 Calls Tryz.prog 36 #[.agg #[vr, vg, vm, vs, vc]] w fun e w' => e = .returned (.int .i64 t) ∧ Below w.heap.size w w' := by
 have H := Hh h; clear h
 obtain ⟨rfl, rfl, ⟨ma, mc, rfl, hM, hml⟩, ⟨sa, sc, rfl, hS, hsl⟩, ra, rc, rfl, hR, hrl⟩ := id hB
 have HB := Hh hB; clear hB hM hS hR
 have HN := Hh hN; clear hN
 have HK := Hh hK; clear hK
 go_enter Tryz.func36, Tryz.ntmps36
 go_wp2
 obtain ⟨W0, hW0⟩ : ∃ W0, W0 = ((w.alloc (.cells #[.int .i64 b.room, .int .i64 b.gap, .slice ma b.ms.length mc, .slice sa b.ss.length sc, .slice ra b.rs.length rc] 26)).alloc (.cells #[.int .i64 b.room, .int .i64 b.gap, .slice ma b.ms.length mc, .slice sa b.ss.length sc, .slice ra b.rs.length rc] 99)).alloc
  (.cells #[.func (.func 102) #[.agg #[.int .i64 b.room, .int .i64 b.gap, .slice ma b.ms.length mc, .slice sa b.ss.length sc, .slice ra b.rs.length rc]] #[], .func (.func 103) #[.agg #[.int .i64 b.room, .int .i64 b.gap, .slice ma b.ms.length mc, .slice sa b.ss.length sc, .slice ra b.rs.length rc]] #[], .func (.func 104) #[.agg #[.int .i64 b.room, .int .i64 b.gap, .slice ma b.ms.length mc, .slice sa b.ss.length sc, .slice ra b.rs.length rc]] #[], .func (.func 105) #[.agg #[.int .i64 b.room, .int .i64 b.gap, .slice ma b.ms.length mc, .slice sa b.ss.length sc, .slice ra b.rs.length rc]] #[]] 143) := ⟨_, rfl⟩
 rw [← hW0]
 have hb0 : Below w.heap.size w W0 := by rw [hW0]; (exact bel)
 have hsz : w.heap.size + 1 + 1 < W0.heap.size := by rw [hW0]; simp
 have q0 : W0.cell? ⟨w.heap.size + 1 + 1, 0, none⟩ = some (.func (.func 102) #[.agg #[.int .i64 b.room, .int .i64 b.gap, .slice ma b.ms.length mc, .slice sa b.ss.length sc, .slice ra b.rs.length rc]] #[]) := by rw [hW0, World.cell?_alloc_at _ _ _ _ (by simp)]; rfl
 have q1 : W0.cell? ⟨w.heap.size + 1 + 1, 1, none⟩ = some (.func (.func 103) #[.agg #[.int .i64 b.room, .int .i64 b.gap, .slice ma b.ms.length mc, .slice sa b.ss.length sc, .slice ra b.rs.length rc]] #[]) := by rw [hW0, World.cell?_alloc_at _ _ _ _ (by simp)]; rfl
 have q2 : W0.cell? ⟨w.heap.size + 1 + 1, 2, none⟩ = some (.func (.func 104) #[.agg #[.int .i64 b.room, .int .i64 b.gap, .slice ma b.ms.length mc, .slice sa b.ss.length sc, .slice ra b.rs.length rc]] #[]) := by rw [hW0, World.cell?_alloc_at _ _ _ _ (by simp)]; rfl
 have q3 : W0.cell? ⟨w.heap.size + 1 + 1, 3, none⟩ = some (.func (.func 105) #[.agg #[.int .i64 b.room, .int .i64 b.gap, .slice ma b.ms.length mc, .slice sa b.ss.length sc, .slice ra b.rs.length rc]] #[]) := by rw [hW0, World.cell?_alloc_at _ _ _ _ (by simp)]; rfl
 have HB0 := Hh (HB.out.below hb0)
 have HK0 := Hh (HK.out.below hb0)
 clear hW0
 go_loopw [19] (fun i wr => ∃ (k : Nat), k ≤ 4 ∧ i = .int .i64 k ∧ Hid ((1 ≤ k → numbersAl b = 0) ∧ (2 ≤ k → msgsAl b = 0) ∧ (3 ≤ k → sessAl b = 0) ∧ (4 ≤ k → recsAl b = 0)) ∧ Below W0.heap.size W0 wr) (fun i _ => 4 - (intOf i).toNat)
 case atStart => exact ⟨0, by omega, rfl, by unfold Hid; omega, Below.refl _ _⟩
 case round =>
  obtain ⟨k, hk, rfl, hC, hW⟩ := hrel
  have hWs := hW.size
  have HBr := Hh (HB0.out.below hW)
  have HKr := Hh (HK0.out.below hW)
  have z0 := (hW.cell hsz).trans q0
  have z1 := (hW.cell hsz).trans q1
  have z2 := (hW.cell hsz).trans q2
  have z3 := (hW.cell hsz).trans q3
  clear q0 q1 q2 q3
  have : k = 0 ∨ k = 1 ∨ k = 2 ∨ k = 3 ∨ k = 4 := by omega
  rcases this with rfl | rfl | rfl | rfl | rfl
  ·by_cases hz : numbersAl b = 0
   ·have HZ := Hh hz
    clear hz
    go_wp2_with (go_at_call 102; (with_reducible refine (numbers_at HBr.out HZ.out).mono ?_); rintro e w1 ⟨rfl, hb1⟩)
    go_roundw
    case rel => exact ⟨1, by omega, by go_num, ⟨fun _ => HZ.out, by omega, by omega, by omega⟩, bel⟩
    case measure => simp [intOf]
   ·have HZ := Hh (show numbersAl b = t by rw [← H.out]; simp [bookAl, hz])
    have hz3 : (t != 0) = true := by rw [← HZ.out]; simpa using hz
    have hz4 : ¬ t = 0 := by rw [← HZ.out]; exact hz
    clear hz
    go_wp2_with (go_at_call 102; (with_reducible refine (numbers_at HBr.out HZ.out).mono ?_); rintro e w1 ⟨rfl, hb1⟩)
    go_ret
    exact ⟨rfl, bel⟩
  ·have hp := hC.out
   have hq : bookAl b = if msgsAl b ≠ 0 then msgsAl b else bookAl b := by
    split
    ·simp [bookAl, hC.out.1 (by omega), *]
    ·rfl
   have HQ := Hh hq
   clear hp hq
   by_cases hz : msgsAl b = 0
   ·have HZ := Hh hz
    clear hz
    go_wp2_with (go_at_call 103; (with_reducible refine (messages_at HBr.out HN.out HZ.out).mono ?_); rintro e w1 ⟨rfl, hb1⟩)
    go_roundw
    case rel => exact ⟨2, by omega, by go_num, ⟨fun _ => hC.out.1 (by omega), fun _ => HZ.out, by omega, by omega⟩, bel⟩
    case measure => simp [intOf]
   ·have HZ := Hh (show msgsAl b = t by rw [← H.out, HQ.out, if_pos hz])
    have hz3 : (t != 0) = true := by rw [← HZ.out]; simpa using hz
    have hz4 : ¬ t = 0 := by rw [← HZ.out]; exact hz
    clear hz
    go_wp2_with (go_at_call 103; (with_reducible refine (messages_at HBr.out HN.out HZ.out).mono ?_); rintro e w1 ⟨rfl, hb1⟩)
    go_ret
    exact ⟨rfl, bel⟩
  ·have hp := hC.out
   have hq : bookAl b = if sessAl b ≠ 0 then sessAl b else bookAl b := by
    split
    ·simp [bookAl, hC.out.1 (by omega), hC.out.2.1 (by omega), *]
    ·rfl
   have HQ := Hh hq
   clear hp hq
   have HG := Hh (msgsAl_ok (hC.out.2.1 (by omega)))
   by_cases hz : sessAl b = 0
   ·have HZ := Hh hz
    clear hz
    go_wp2_with (go_at_call 104; (with_reducible refine (sessions_at HBr.out HG.out HZ.out).mono ?_); rintro e w1 ⟨rfl, hb1⟩)
    go_roundw
    case rel => exact ⟨3, by omega, by go_num, ⟨fun _ => hC.out.1 (by omega), fun _ => hC.out.2.1 (by omega), fun _ => HZ.out, by omega⟩, bel⟩
    case measure => simp [intOf]
   ·have HZ := Hh (show sessAl b = t by rw [← H.out, HQ.out, if_pos hz])
    have hz3 : (t != 0) = true := by rw [← HZ.out]; simpa using hz
    have hz4 : ¬ t = 0 := by rw [← HZ.out]; exact hz
    clear hz
    go_wp2_with (go_at_call 104; (with_reducible refine (sessions_at HBr.out HG.out HZ.out).mono ?_); rintro e w1 ⟨rfl, hb1⟩)
    go_ret
    exact ⟨rfl, bel⟩
  ·have hp := hC.out
   have hq : bookAl b = if recsAl b ≠ 0 then recsAl b else bookAl b := by
    split
    ·simp [bookAl, hC.out.1 (by omega), hC.out.2.1 (by omega), hC.out.2.2.1 (by omega), *]
    ·rfl
   have HQ := Hh hq
   clear hp hq
   have HG := Hh (msgsAl_ok (hC.out.2.1 (by omega)))
   by_cases hz : recsAl b = 0
   ·have HZ := Hh hz
    clear hz
    go_wp2_with (go_at_call 105; (with_reducible refine (records_at HBr.out HG.out HKr.out HZ.out).mono ?_); rintro e w1 ⟨rfl, hb1⟩)
    go_roundw
    case rel => exact ⟨4, by omega, by go_num, ⟨fun _ => hC.out.1 (by omega), fun _ => hC.out.2.1 (by omega), fun _ => hC.out.2.2.1 (by omega), fun _ => HZ.out⟩, bel⟩
    case measure => simp [intOf]
   ·have HZ := Hh (show recsAl b = t by rw [← H.out, HQ.out, if_pos hz])
    have hz3 : (t != 0) = true := by rw [← HZ.out]; simpa using hz
    have hz4 : ¬ t = 0 := by rw [← HZ.out]; exact hz
    clear hz
    go_wp2_with (go_at_call 105; (with_reducible refine (records_at HBr.out HG.out HKr.out HZ.out).mono ?_); rintro e w1 ⟨rfl, hb1⟩)
    go_ret
    exact ⟨rfl, bel⟩
  ·have ht : 0 = t := by rw [← H.out]; simp [bookAl, hC.out.1 (by omega), hC.out.2.1 (by omega), hC.out.2.2.1 (by omega), hC.out.2.2.2 (by omega)]
   subst ht
   clear z0 z1 z2 z3
   go_wp2
   go_ret
   exact ⟨rfl, bel⟩
end
end Go.Proofs.YtbibidfkbdhblaaGreatDoor
