/- Leads to StoreHistories of chapter 6: K12 K13 K14. -/
import Derived.Test.YtbibidfkbdhblaaGreatDoorM03
import Derived.Deep.RegionHeld3
set_option maxHeartbeats 1000000
set_option maxRecDepth 100000
set_option linter.all false
namespace Go.Proofs.YtbibidfkbdhblaaGreatDoor
open Go.RowKit Go.Maps Sp
section
variable {b : Bk} {vr vg vm vs vc : Value} {w : World}
structure Boxes (w W : World) (vr vg vm vs vc : Value) (c0 c1 c2 c3 k a rb m : Int) : Prop where
 five : Five W w.heap.size vr vg vm vs vc
 came : ∀ i, i < 4 → W.cell? ⟨w.heap.size + 1, i, none⟩ = some (.int .i64 ([c0, c1, c2, c3].getD i 0))
 rk : W.cell? ⟨w.heap.size + 1 + 1, 0, none⟩ = some (.int .i64 k)
 ra : W.cell? ⟨w.heap.size + 1 + 1, 1, none⟩ = some (.int .i64 a)
 rb : W.cell? ⟨w.heap.size + 1 + 1, 2, none⟩ = some (.int .i64 rb)
 rm : W.cell? ⟨w.heap.size + 1 + 1, 3, none⟩ = some (.int .i64 m)
 below : Below w.heap.size w W
 size : W.heap.size = w.heap.size + 1 + 1 + 1
theorem boxes3 (w : World) (vr vg vm vs vc : Value) (c0 c1 c2 c3 k a rb m : Int) (t1 t2 t3 : TypeId) :
 Boxes w (((w.alloc (.cells #[vr, vg, vm, vs, vc] t1)).alloc (.cells #[.int .i64 c0, .int .i64 c1, .int .i64 c2, .int .i64 c3] t2)).alloc (.cells #[.int .i64 k, .int .i64 a, .int .i64 rb, .int .i64 m] t3)) vr vg vm vs vc c0 c1 c2 c3 k a rb m := by
 refine ⟨⟨?_, ?_, ?_, ?_, ?_, by simp; omega⟩, fun i hi => ?_, ?_, ?_, ?_, ?_, bel, by simp⟩
 iterate 5 (rw [World.cell?_alloc_past _ _ _ (by simp; omega), World.cell?_alloc_past _ _ _ (by simp), World.cell?_alloc_at _ _ _ _ rfl]; rfl)
 ·rw [World.cell?_alloc_past _ _ _ (by simp), World.cell?_alloc_at _ _ _ _ (by simp)]
  have : i = 0 ∨ i = 1 ∨ i = 2 ∨ i = 3 := by omega
  rcases this with rfl | rfl | rfl | rfl <;> rfl
 iterate 4 (rw [World.cell?_alloc_at _ _ _ _ (by simp)]; rfl)
theorem right0 (hB : BookAt w b vr vg vm vs vc) (hs : b.ss.length ≤ 4) (c0 c1 c2 c3 a rb m : Int) (ha : inB a 0 ((b.ss.length : Int) - 1) = true) {t : Bool} (h : rightR b [c0, c1, c2, c3] ⟨0, a, rb, m⟩ = t) :
 Calls Tryz.prog 193 #[.agg #[vr, vg, vm, vs, vc], .agg #[.int .i64 c0, .int .i64 c1, .int .i64 c2, .int .i64 c3], .agg #[.int .i64 0, .int .i64 a, .int .i64 rb, .int .i64 m]] w fun e w' => e = .returned (.bool t) ∧ Below w.heap.size w w' := by
 obtain ⟨sa, sc, rfl, hM, hl⟩ := hB.ss
 obtain ⟨h1, h2⟩ := inB_nat.1 ha
 obtain ⟨sb, so, rfl, hsb, pa, pc, d0, hpc, hpl, _⟩ := hM _ h2
 simp [rightR, List.getElem?_eq_getElem h2] at h
 have h3 : a < b.ss.length := by omega
 have h4 : a < 4 := by omega
 generalize hs : b.ss[a.toNat] = s at *
 have HS := Hh hs
 have H := Hh h
 clear hs h hB hM ha
 go_enter Tryz.func193, Tryz.ntmps193
 go_wp2
 obtain ⟨W0, hW0⟩ : ∃ W0, W0 = ((w.alloc (.cells #[vr, vg, vm, .slice (some ⟨sb, so, none⟩) b.ss.length sc, vc] 99)).alloc (.cells #[.int .i64 c0, .int .i64 c1, .int .i64 c2, .int .i64 c3] 137)).alloc (.cells #[.int .i64 0, .int .i64 a, .int .i64 rb, .int .i64 m] 72) := ⟨_, rfl⟩
 rw [← hW0]
 obtain ⟨⟨y0, y1, y2, y3, y4, y5⟩, yc, z0, z1, z2, z3, hb0, hsz⟩ := hW0 ▸ boxes3 w vr vg vm (.slice (some ⟨sb, so, none⟩) b.ss.length sc) vc c0 c1 c2 c3 0 a rb m 99 137 72
 have d1 := (hb0.cell hsb).trans d0
 have hc := yc a.toNat (by omega)
 generalize hck : List.getD [c0, c1, c2, c3] a.toNat 0 = ck at hc
 have HCK := Hh hck
 clear hW0 hck yc d0 hsz
 go_quiet (fail)
 go_wp2
 go_ret
 refine ⟨?_, bel⟩
 rw [← H.out, ← HCK.out]
 rfl
theorem right1 (hB : BookAt w b vr vg vm vs vc) (hs : b.ss.length ≤ 4) (c0 c1 c2 c3 a rb m : Int) (ha : inB a 0 ((b.ss.length : Int) - 1) = true) {t : Bool} (h : rightR b [c0, c1, c2, c3] ⟨1, a, rb, m⟩ = t) :
 Calls Tryz.prog 194 #[.agg #[vr, vg, vm, vs, vc], .agg #[.int .i64 c0, .int .i64 c1, .int .i64 c2, .int .i64 c3], .agg #[.int .i64 1, .int .i64 a, .int .i64 rb, .int .i64 m]] w fun e w' => e = .returned (.bool t) ∧ Below w.heap.size w w' := by
 obtain ⟨sa, sc, rfl, hM, hl⟩ := hB.ss
 obtain ⟨h1, h2⟩ := inB_nat.1 ha
 obtain ⟨sb, so, rfl, hsb, pa, pc, d0, hpc, hpl, _⟩ := hM _ h2
 simp [rightR, List.getElem?_eq_getElem h2] at h
 have h3 : a < b.ss.length := by omega
 have h4 : a < 4 := by omega
 generalize hs : b.ss[a.toNat] = s at *
 have HS := Hh hs
 have H := Hh h
 clear hs h hB hM ha
 go_enter Tryz.func194, Tryz.ntmps194
 go_wp2
 obtain ⟨W0, hW0⟩ : ∃ W0, W0 = ((w.alloc (.cells #[vr, vg, vm, .slice (some ⟨sb, so, none⟩) b.ss.length sc, vc] 99)).alloc (.cells #[.int .i64 c0, .int .i64 c1, .int .i64 c2, .int .i64 c3] 137)).alloc (.cells #[.int .i64 1, .int .i64 a, .int .i64 rb, .int .i64 m] 72) := ⟨_, rfl⟩
 rw [← hW0]
 obtain ⟨⟨y0, y1, y2, y3, y4, y5⟩, yc, z0, z1, z2, z3, hb0, hsz⟩ := hW0 ▸ boxes3 w vr vg vm (.slice (some ⟨sb, so, none⟩) b.ss.length sc) vc c0 c1 c2 c3 1 a rb m 99 137 72
 have d1 := (hb0.cell hsb).trans d0
 have hc := yc a.toNat (by omega)
 generalize hck : List.getD [c0, c1, c2, c3] a.toNat 0 = ck at hc
 have HCK := Hh hck
 clear hW0 hck yc d0 hsz
 go_quiet (fail)
 go_wp2
 go_ret
 refine ⟨?_, bel⟩
 rw [← H.out, ← HCK.out]
 rfl
theorem right2 (hB : BookAt w b vr vg vm vs vc) (hs : b.ss.length ≤ 4) (c0 c1 c2 c3 a rb m : Int) (ha : inB a 0 ((b.ss.length : Int) - 1) = true) {t : Bool} (h : rightR b [c0, c1, c2, c3] ⟨2, a, rb, m⟩ = t) :
 Calls Tryz.prog 195 #[.agg #[vr, vg, vm, vs, vc], .agg #[.int .i64 c0, .int .i64 c1, .int .i64 c2, .int .i64 c3], .agg #[.int .i64 2, .int .i64 a, .int .i64 rb, .int .i64 m]] w fun e w' => e = .returned (.bool t) ∧ Below w.heap.size w w' := by
 obtain ⟨sa, sc, rfl, hM, hl⟩ := hB.ss
 obtain ⟨h1, h2⟩ := inB_nat.1 ha
 obtain ⟨sb, so, rfl, hsb, pa, pc, d0, hpc, hpl, _⟩ := hM _ h2
 simp [rightR] at h
 have h3 : a < b.ss.length := by omega
 have h4 : a < 4 := by omega
 generalize hs : b.ss[a.toNat] = s at *
 have HS := Hh hs
 have H := Hh h
 clear hs h hB hM ha
 go_enter Tryz.func195, Tryz.ntmps195
 go_wp2
 obtain ⟨W0, hW0⟩ : ∃ W0, W0 = ((w.alloc (.cells #[vr, vg, vm, .slice (some ⟨sb, so, none⟩) b.ss.length sc, vc] 99)).alloc (.cells #[.int .i64 c0, .int .i64 c1, .int .i64 c2, .int .i64 c3] 137)).alloc (.cells #[.int .i64 2, .int .i64 a, .int .i64 rb, .int .i64 m] 72) := ⟨_, rfl⟩
 rw [← hW0]
 obtain ⟨⟨y0, y1, y2, y3, y4, y5⟩, yc, z0, z1, z2, z3, hb0, hsz⟩ := hW0 ▸ boxes3 w vr vg vm (.slice (some ⟨sb, so, none⟩) b.ss.length sc) vc c0 c1 c2 c3 2 a rb m 99 137 72
 have d1 := (hb0.cell hsb).trans d0
 have hc := yc a.toNat (by omega)
 generalize hck : List.getD [c0, c1, c2, c3] a.toNat 0 = ck at hc
 have HCK := Hh hck
 clear hW0 hck yc d0 hsz
 go_quiet (fail)
 go_wp2
 go_ret
 refine ⟨?_, bel⟩
 rw [← H.out, ← HCK.out]
 rfl
theorem right3 (hB : BookAt w b vr vg vm vs vc) (hs : b.ss.length ≤ 4) (c0 c1 c2 c3 a rb m : Int) (ha : inB a 0 ((b.ss.length : Int) - 1) = true) {t : Bool} (h : rightR b [c0, c1, c2, c3] ⟨3, a, rb, m⟩ = t) :
 Calls Tryz.prog 196 #[.agg #[vr, vg, vm, vs, vc], .agg #[.int .i64 c0, .int .i64 c1, .int .i64 c2, .int .i64 c3], .agg #[.int .i64 3, .int .i64 a, .int .i64 rb, .int .i64 m]] w fun e w' => e = .returned (.bool t) ∧ Below w.heap.size w w' := by
 obtain ⟨sa, sc, rfl, hM, hl⟩ := hB.ss
 obtain ⟨h1, h2⟩ := inB_nat.1 ha
 obtain ⟨sb, so, rfl, hsb, pa, pc, d0, hpc, hpl, _⟩ := hM _ h2
 simp [rightR] at h
 have h3 : a < b.ss.length := by omega
 have h4 : a < 4 := by omega
 generalize hs : b.ss[a.toNat] = s at *
 have HS := Hh hs
 have H := Hh h
 clear hs h hB hM ha
 go_enter Tryz.func196, Tryz.ntmps196
 go_wp2
 obtain ⟨W0, hW0⟩ : ∃ W0, W0 = ((w.alloc (.cells #[vr, vg, vm, .slice (some ⟨sb, so, none⟩) b.ss.length sc, vc] 99)).alloc (.cells #[.int .i64 c0, .int .i64 c1, .int .i64 c2, .int .i64 c3] 137)).alloc (.cells #[.int .i64 3, .int .i64 a, .int .i64 rb, .int .i64 m] 72) := ⟨_, rfl⟩
 rw [← hW0]
 obtain ⟨⟨y0, y1, y2, y3, y4, y5⟩, yc, z0, z1, z2, z3, hb0, hsz⟩ := hW0 ▸ boxes3 w vr vg vm (.slice (some ⟨sb, so, none⟩) b.ss.length sc) vc c0 c1 c2 c3 3 a rb m 99 137 72
 have d1 := (hb0.cell hsb).trans d0
 have hc := yc a.toNat (by omega)
 generalize hck : List.getD [c0, c1, c2, c3] a.toNat 0 = ck at hc
 have HCK := Hh hck
 clear hW0 hck yc d0 hsz
 go_quiet (fail)
 go_wp2
 go_ret
 refine ⟨?_, bel⟩
 rw [← H.out, ← HCK.out]
 rfl
theorem right5 (hB : BookAt w b vr vg vm vs vc) (hO : BkOk b) (c0 c1 c2 c3 a rb m : Int) (hc : Came b [c0, c1, c2, c3]) (ha : inB a 0 ((b.ms.length : Int) - 1) = true) {t : Bool} (h : rightR b [c0, c1, c2, c3] ⟨5, a, rb, m⟩ = t) :
 Calls Tryz.prog 200 #[.agg #[vr, vg, vm, vs, vc], .agg #[.int .i64 c0, .int .i64 c1, .int .i64 c2, .int .i64 c3], .agg #[.int .i64 5, .int .i64 a, .int .i64 rb, .int .i64 m]] w fun e w' => e = .returned (.bool t) ∧ Below w.heap.size w w' := by
 have ha2 := inB_nat.1 ha
 simp [rightR] at h
 have hhv := fun (w' : World) (hb : Below w.heap.size w w') => have_at (hB.below hb) hO hc rfl ha2
 rw [show cameV [c0, c1, c2, c3] = .agg #[.int .i64 c0, .int .i64 c1, .int .i64 c2, .int .i64 c3] from rfl] at hhv
 generalize haveOf b [c0, c1, c2, c3] a = n at h hhv
 have H := Hh h
 have HV := Hh hhv
 clear h hB hO hc ha ha2 hhv
 go_enter Tryz.func200, Tryz.ntmps200
 go_wp2
 (refine wp_region_bel (by kernel_rfl) (by kernel_rfl) ?_; (repeat (go_big_quiet_step ((go_at_call 97; with_reducible exact Calls.bel_of (HV.out _ (Below.next (Below.al (Below.al (Below.al (Below.refl _ _) _) _) _) (later_below _ _))))))); refine wpQuiet_nil ?_; rintro _ ⟨xq, rfl⟩)
 go_wp2
 go_ret
 refine ⟨?_, by have := later_below _ xq; (exact bel)⟩
 rw [← H.out]
 rfl
theorem right4 (hB : BookAt w b vr vg vm vs vc) (hO : BkOk b) (c0 c1 c2 c3 a rb m : Int) (hc : Came b [c0, c1, c2, c3]) (ha : isPart b (a, rb) = true) {t : Bool} (h : rightR b [c0, c1, c2, c3] ⟨4, a, rb, m⟩ = t) :
 Calls Tryz.prog 198 #[.agg #[vr, vg, vm, vs, vc], .agg #[.int .i64 c0, .int .i64 c1, .int .i64 c2, .int .i64 c3], .agg #[.int .i64 4, .int .i64 a, .int .i64 rb, .int .i64 m]] w fun e w' => e = .returned (.bool t) ∧ Below w.heap.size w w' := by
 have hbd := isPart_bounds hO.groups (by have := hO.ml; omega) ha
 have hkey := partKeyE (a, rb) hbd.1 hbd.2
 simp [rightR] at h
 have hhv := fun (w' : World) (hb : Below w.heap.size w w') => copies_at (hB.below hb) hO hc rfl
 rw [show cameV [c0, c1, c2, c3] = .agg #[.int .i64 c0, .int .i64 c1, .int .i64 c2, .int .i64 c3] from rfl] at hhv
 generalize hcc : copies b [c0, c1, c2, c3] (a, rb) = nc at h
 have H := Hh h
 have HV := Hh hhv
 have HK := Hh hkey
 have HCC := Hh hcc
 clear h hB hO hc ha hbd hhv hkey hcc
 go_enter Tryz.func198, Tryz.ntmps198
 go_wp2
 obtain ⟨W0, hW0⟩ : ∃ W0, W0 = ((w.alloc (.cells #[vr, vg, vm, vs, vc] 99)).alloc (.cells #[.int .i64 c0, .int .i64 c1, .int .i64 c2, .int .i64 c3] 137)).alloc (.cells #[.int .i64 4, .int .i64 a, .int .i64 rb, .int .i64 m] 72) := ⟨_, rfl⟩
 rw [← hW0]
 obtain ⟨⟨y0, y1, y2, y3, y4, y5⟩, yc, z0, z1, z2, z3, hb0, hsz⟩ := hW0 ▸ boxes3 w vr vg vm vs vc c0 c1 c2 c3 4 a rb m 99 137 72
 have k0 := yc 0 (by omega)
 have k1 := yc 1 (by omega)
 have k2 := yc 2 (by omega)
 have k3 := yc 3 (by omega)
 simp only [List.getD_cons_zero, List.getD_cons_succ] at k0 k1 k2 k3
 clear yc hW0
 have hall : ∀ w' : World, Below W0.heap.size W0 w' → (Below W0.heap.size W0 w' ∧ w'.cell? ⟨w.heap.size, 0, none⟩ = some vr ∧ w'.cell? ⟨w.heap.size, 1, none⟩ = some vg ∧ w'.cell? ⟨w.heap.size, 2, none⟩ = some vm ∧ w'.cell? ⟨w.heap.size, 3, none⟩ = some vs ∧ w'.cell? ⟨w.heap.size, 4, none⟩ = some vc ∧
  w'.cell? ⟨w.heap.size + 1, 0, none⟩ = some (.int .i64 c0) ∧ w'.cell? ⟨w.heap.size + 1, 1, none⟩ = some (.int .i64 c1) ∧ w'.cell? ⟨w.heap.size + 1, 2, none⟩ = some (.int .i64 c2) ∧ w'.cell? ⟨w.heap.size + 1, 3, none⟩ = some (.int .i64 c3) ∧
  w'.cell? ⟨w.heap.size + 1 + 1, 1, none⟩ = some (.int .i64 a) ∧ w'.cell? ⟨w.heap.size + 1 + 1, 2, none⟩ = some (.int .i64 rb) ∧ w'.cell? ⟨w.heap.size + 1 + 1, 3, none⟩ = some (.int .i64 m)) := fun w' h =>
  ⟨h, (h.cell (by simp; omega)).trans y0, (h.cell (by simp; omega)).trans y1, (h.cell (by simp; omega)).trans y2, (h.cell (by simp; omega)).trans y3, (h.cell (by simp; omega)).trans y4, (h.cell (by simp; omega)).trans k0, (h.cell (by simp; omega)).trans k1, (h.cell (by simp; omega)).trans k2, (h.cell (by simp; omega)).trans k3, (h.cell (by simp; omega)).trans z1, (h.cell (by simp; omega)).trans z2, (h.cell (by simp; omega)).trans z3⟩
 have HALL := Hh hall
 clear hall hsz
 go_region_held3 (fun w' => Below W0.heap.size W0 w' ∧ w'.cell? ⟨w.heap.size, 0, none⟩ = some vr ∧ w'.cell? ⟨w.heap.size, 1, none⟩ = some vg ∧ w'.cell? ⟨w.heap.size, 2, none⟩ = some vm ∧ w'.cell? ⟨w.heap.size, 3, none⟩ = some vs ∧ w'.cell? ⟨w.heap.size, 4, none⟩ = some vc ∧
  w'.cell? ⟨w.heap.size + 1, 0, none⟩ = some (.int .i64 c0) ∧ w'.cell? ⟨w.heap.size + 1, 1, none⟩ = some (.int .i64 c1) ∧ w'.cell? ⟨w.heap.size + 1, 2, none⟩ = some (.int .i64 c2) ∧ w'.cell? ⟨w.heap.size + 1, 3, none⟩ = some (.int .i64 c3) ∧
  w'.cell? ⟨w.heap.size + 1 + 1, 1, none⟩ = some (.int .i64 a) ∧ w'.cell? ⟨w.heap.size + 1 + 1, 2, none⟩ = some (.int .i64 rb) ∧ w'.cell? ⟨w.heap.size + 1 + 1, 3, none⟩ = some (.int .i64 m))
  (exact HALL.out _ (bel))
  (first
    | (go_at_call 137; go_split_ands; (with_reducible refine (HV.out _ (Below.next hb0 (by assumption))).mono ?_); rintro e w1 ⟨B, n, l, rfl, hB1, hcnt, hcp, hip, hb1⟩; have hlk := CntAt.look (t := 167) hcnt partKeyed Tryz.underlying167 Tryz.underlying3 (zeroInt _) HK.out; rw [cntV_partV, hcp] at hlk; unfold partV at hlk; rw [HCC.out] at hlk; clear hcp hcnt hip))
 all_goals
  go_wp2
  go_ret
  refine ⟨?_, bel⟩
  rw [← H.out]
  rfl
end
section
variable {b : Bk} {vr vg vm vs vc : Value} {w : World}
theorem recAl_facts {b : Bk} {k a rb m : Int} (h : recAl b ⟨k, a, rb, m⟩ = 0) : (0 ≤ k ∧ k ≤ 5) ∧ (k ≤ 3 → inB a 0 ((b.ss.length : Int) - 1) = true) ∧ (k = 4 → isPart b (a, rb) = true) ∧ (k = 5 → inB a 0 ((b.ms.length : Int) - 1) = true) := by
 unfold recAl at h
 split at h
 ·cases h
 ·rename_i hk
  simp only [Bool.not_eq_false, inB, decide_eq_true_eq] at hk
  refine ⟨hk, ?_⟩
  split at h
  ·cases h
  ·cases hm : most b ⟨k, a, rb, m⟩ with
   | none => rw [hm] at h; cases h
   | some n =>
    unfold most at hm
    dsimp only at hm
    refine ⟨fun hk3 => ?_, fun hk4 => ?_, fun hk5 => ?_⟩
    ·rw [if_pos hk3] at hm
     split at hm
     ·assumption
     ·cases hm
    ·rw [if_neg (by omega), if_pos hk4] at hm
     split at hm
     ·assumption
     ·cases hm
    ·rw [if_neg (by omega), if_neg (by omega)] at hm
     split at hm
     ·assumption
     ·cases hm
theorem wrong_0 (hB : BookAt w b vr vg vm vs vc) (hO : BkOk b) (hK : KindsAt w) {bb cb : Nat} (h5 : Five w bb vr vg vm vs vc) (c0 c1 c2 c3 a rb m : Int) (hc : Came b [c0, c1, c2, c3])
 (k0 : w.cell? ⟨cb, 0, none⟩ = some (.int .i64 c0)) (k1 : w.cell? ⟨cb, 1, none⟩ = some (.int .i64 c1)) (k2 : w.cell? ⟨cb, 2, none⟩ = some (.int .i64 c2)) (k3 : w.cell? ⟨cb, 3, none⟩ = some (.int .i64 c3)) (hcb : cb < w.heap.size)
 (hr : recAl b ⟨0, a, rb, m⟩ = 0) {t : Bool} (h : rightR b [c0, c1, c2, c3] ⟨0, a, rb, m⟩ = t) :
 Calls Tryz.prog 153 #[.agg #[.int .i64 0, .int .i64 a, .int .i64 rb, .int .i64 m], .pointer (some ⟨bb, 0, none⟩), .pointer (some ⟨cb, 0, none⟩)] w fun e w' => e = .returned (.bool (!t)) ∧ Below w.heap.size w w' := by
 have hf := recAl_facts hr
 have HA := Hh (hf.2.1 (by omega))
 obtain ⟨hlt, hK⟩ := hK
 obtain ⟨⟨s, _, g0⟩, g1, g2, g3, g4⟩ := hK 0 (by omega)
 simp [usesB, usesMany, kindMost, kindRight] at g0 g1 g2 g3 g4
 obtain ⟨y0, y1, y2, y3, y4, y5⟩ := h5
 have HB := Hh hB
 have HO := Hh hO
 have HC := Hh hc
 have H := Hh h
 clear hB hO hc h hK hf hr
 go_enter Tryz.func153, Tryz.ntmps153
 go_wp2
 obtain ⟨W0, hW0⟩ : ∃ W0, W0 = w.alloc (.cells #[.int .i64 0, .int .i64 a, .int .i64 rb, .int .i64 m] 72) := ⟨_, rfl⟩
 have hb0 : Below w.heap.size w W0 := by rw [hW0]; (exact bel)
 (refine wp_region_bel (by kernel_rfl) (by kernel_rfl) ?_; (repeat (go_big_quiet_step ((go_at_call 193; with_reducible exact Calls.bel_of (right0 (HB.out.below (Below.next (Below.al (Below.refl _ _) _) (later_below _ _))) HO.out.sl c0 c1 c2 c3 a rb m HA.out H.out))))); refine wpQuiet_nil ?_; rintro _ ⟨xq, rfl⟩)
 go_wp2
 go_ret
 exact ⟨rfl, by have := later_below _ xq; (exact bel)⟩
theorem wrong_1 (hB : BookAt w b vr vg vm vs vc) (hO : BkOk b) (hK : KindsAt w) {bb cb : Nat} (h5 : Five w bb vr vg vm vs vc) (c0 c1 c2 c3 a rb m : Int) (hc : Came b [c0, c1, c2, c3])
 (k0 : w.cell? ⟨cb, 0, none⟩ = some (.int .i64 c0)) (k1 : w.cell? ⟨cb, 1, none⟩ = some (.int .i64 c1)) (k2 : w.cell? ⟨cb, 2, none⟩ = some (.int .i64 c2)) (k3 : w.cell? ⟨cb, 3, none⟩ = some (.int .i64 c3)) (hcb : cb < w.heap.size)
 (hr : recAl b ⟨1, a, rb, m⟩ = 0) {t : Bool} (h : rightR b [c0, c1, c2, c3] ⟨1, a, rb, m⟩ = t) :
 Calls Tryz.prog 153 #[.agg #[.int .i64 1, .int .i64 a, .int .i64 rb, .int .i64 m], .pointer (some ⟨bb, 0, none⟩), .pointer (some ⟨cb, 0, none⟩)] w fun e w' => e = .returned (.bool (!t)) ∧ Below w.heap.size w w' := by
 have hf := recAl_facts hr
 have HA := Hh (hf.2.1 (by omega))
 obtain ⟨hlt, hK⟩ := hK
 obtain ⟨⟨s, _, g0⟩, g1, g2, g3, g4⟩ := hK 1 (by omega)
 simp [usesB, usesMany, kindMost, kindRight] at g0 g1 g2 g3 g4
 obtain ⟨y0, y1, y2, y3, y4, y5⟩ := h5
 have HB := Hh hB
 have HO := Hh hO
 have HC := Hh hc
 have H := Hh h
 clear hB hO hc h hK hf hr
 go_enter Tryz.func153, Tryz.ntmps153
 go_wp2
 obtain ⟨W0, hW0⟩ : ∃ W0, W0 = w.alloc (.cells #[.int .i64 1, .int .i64 a, .int .i64 rb, .int .i64 m] 72) := ⟨_, rfl⟩
 have hb0 : Below w.heap.size w W0 := by rw [hW0]; (exact bel)
 (refine wp_region_bel (by kernel_rfl) (by kernel_rfl) ?_; (repeat (go_big_quiet_step ((go_at_call 194; with_reducible exact Calls.bel_of (right1 (HB.out.below (Below.next (Below.al (Below.refl _ _) _) (later_below _ _))) HO.out.sl c0 c1 c2 c3 a rb m HA.out H.out))))); refine wpQuiet_nil ?_; rintro _ ⟨xq, rfl⟩)
 go_wp2
 go_ret
 exact ⟨rfl, by have := later_below _ xq; (exact bel)⟩
theorem wrong_2 (hB : BookAt w b vr vg vm vs vc) (hO : BkOk b) (hK : KindsAt w) {bb cb : Nat} (h5 : Five w bb vr vg vm vs vc) (c0 c1 c2 c3 a rb m : Int) (hc : Came b [c0, c1, c2, c3])
 (k0 : w.cell? ⟨cb, 0, none⟩ = some (.int .i64 c0)) (k1 : w.cell? ⟨cb, 1, none⟩ = some (.int .i64 c1)) (k2 : w.cell? ⟨cb, 2, none⟩ = some (.int .i64 c2)) (k3 : w.cell? ⟨cb, 3, none⟩ = some (.int .i64 c3)) (hcb : cb < w.heap.size)
 (hr : recAl b ⟨2, a, rb, m⟩ = 0) {t : Bool} (h : rightR b [c0, c1, c2, c3] ⟨2, a, rb, m⟩ = t) :
 Calls Tryz.prog 153 #[.agg #[.int .i64 2, .int .i64 a, .int .i64 rb, .int .i64 m], .pointer (some ⟨bb, 0, none⟩), .pointer (some ⟨cb, 0, none⟩)] w fun e w' => e = .returned (.bool (!t)) ∧ Below w.heap.size w w' := by
 have hf := recAl_facts hr
 have HA := Hh (hf.2.1 (by omega))
 obtain ⟨hlt, hK⟩ := hK
 obtain ⟨⟨s, _, g0⟩, g1, g2, g3, g4⟩ := hK 2 (by omega)
 simp [usesB, usesMany, kindMost, kindRight] at g0 g1 g2 g3 g4
 obtain ⟨y0, y1, y2, y3, y4, y5⟩ := h5
 have HB := Hh hB
 have HO := Hh hO
 have HC := Hh hc
 have H := Hh h
 clear hB hO hc h hK hf hr
 go_enter Tryz.func153, Tryz.ntmps153
 go_wp2
 obtain ⟨W0, hW0⟩ : ∃ W0, W0 = w.alloc (.cells #[.int .i64 2, .int .i64 a, .int .i64 rb, .int .i64 m] 72) := ⟨_, rfl⟩
 have hb0 : Below w.heap.size w W0 := by rw [hW0]; (exact bel)
 (refine wp_region_bel (by kernel_rfl) (by kernel_rfl) ?_; (repeat (go_big_quiet_step ((go_at_call 195; with_reducible exact Calls.bel_of (right2 (HB.out.below (Below.next (Below.al (Below.refl _ _) _) (later_below _ _))) HO.out.sl c0 c1 c2 c3 a rb m HA.out H.out))))); refine wpQuiet_nil ?_; rintro _ ⟨xq, rfl⟩)
 go_wp2
 go_ret
 exact ⟨rfl, by have := later_below _ xq; (exact bel)⟩
theorem wrong_3 (hB : BookAt w b vr vg vm vs vc) (hO : BkOk b) (hK : KindsAt w) {bb cb : Nat} (h5 : Five w bb vr vg vm vs vc) (c0 c1 c2 c3 a rb m : Int) (hc : Came b [c0, c1, c2, c3])
 (k0 : w.cell? ⟨cb, 0, none⟩ = some (.int .i64 c0)) (k1 : w.cell? ⟨cb, 1, none⟩ = some (.int .i64 c1)) (k2 : w.cell? ⟨cb, 2, none⟩ = some (.int .i64 c2)) (k3 : w.cell? ⟨cb, 3, none⟩ = some (.int .i64 c3)) (hcb : cb < w.heap.size)
 (hr : recAl b ⟨3, a, rb, m⟩ = 0) {t : Bool} (h : rightR b [c0, c1, c2, c3] ⟨3, a, rb, m⟩ = t) :
 Calls Tryz.prog 153 #[.agg #[.int .i64 3, .int .i64 a, .int .i64 rb, .int .i64 m], .pointer (some ⟨bb, 0, none⟩), .pointer (some ⟨cb, 0, none⟩)] w fun e w' => e = .returned (.bool (!t)) ∧ Below w.heap.size w w' := by
 have hf := recAl_facts hr
 have HA := Hh (hf.2.1 (by omega))
 obtain ⟨hlt, hK⟩ := hK
 obtain ⟨⟨s, _, g0⟩, g1, g2, g3, g4⟩ := hK 3 (by omega)
 simp [usesB, usesMany, kindMost, kindRight] at g0 g1 g2 g3 g4
 obtain ⟨y0, y1, y2, y3, y4, y5⟩ := h5
 have HB := Hh hB
 have HO := Hh hO
 have HC := Hh hc
 have H := Hh h
 clear hB hO hc h hK hf hr
 go_enter Tryz.func153, Tryz.ntmps153
 go_wp2
 obtain ⟨W0, hW0⟩ : ∃ W0, W0 = w.alloc (.cells #[.int .i64 3, .int .i64 a, .int .i64 rb, .int .i64 m] 72) := ⟨_, rfl⟩
 have hb0 : Below w.heap.size w W0 := by rw [hW0]; (exact bel)
 (refine wp_region_bel (by kernel_rfl) (by kernel_rfl) ?_; (repeat (go_big_quiet_step ((go_at_call 196; with_reducible exact Calls.bel_of (right3 (HB.out.below (Below.next (Below.al (Below.refl _ _) _) (later_below _ _))) HO.out.sl c0 c1 c2 c3 a rb m HA.out H.out))))); refine wpQuiet_nil ?_; rintro _ ⟨xq, rfl⟩)
 go_wp2
 go_ret
 exact ⟨rfl, by have := later_below _ xq; (exact bel)⟩
theorem wrong_4 (hB : BookAt w b vr vg vm vs vc) (hO : BkOk b) (hK : KindsAt w) {bb cb : Nat} (h5 : Five w bb vr vg vm vs vc) (c0 c1 c2 c3 a rb m : Int) (hc : Came b [c0, c1, c2, c3])
 (k0 : w.cell? ⟨cb, 0, none⟩ = some (.int .i64 c0)) (k1 : w.cell? ⟨cb, 1, none⟩ = some (.int .i64 c1)) (k2 : w.cell? ⟨cb, 2, none⟩ = some (.int .i64 c2)) (k3 : w.cell? ⟨cb, 3, none⟩ = some (.int .i64 c3)) (hcb : cb < w.heap.size)
 (hr : recAl b ⟨4, a, rb, m⟩ = 0) {t : Bool} (h : rightR b [c0, c1, c2, c3] ⟨4, a, rb, m⟩ = t) :
 Calls Tryz.prog 153 #[.agg #[.int .i64 4, .int .i64 a, .int .i64 rb, .int .i64 m], .pointer (some ⟨bb, 0, none⟩), .pointer (some ⟨cb, 0, none⟩)] w fun e w' => e = .returned (.bool (!t)) ∧ Below w.heap.size w w' := by
 have hf := recAl_facts hr
 have HA := Hh (hf.2.2.1 rfl)
 obtain ⟨hlt, hK⟩ := hK
 obtain ⟨⟨s, _, g0⟩, g1, g2, g3, g4⟩ := hK 4 (by omega)
 simp [usesB, usesMany, kindMost, kindRight] at g0 g1 g2 g3 g4
 obtain ⟨y0, y1, y2, y3, y4, y5⟩ := h5
 have HB := Hh hB
 have HO := Hh hO
 have HC := Hh hc
 have H := Hh h
 clear hB hO hc h hK hf hr
 go_enter Tryz.func153, Tryz.ntmps153
 go_wp2
 obtain ⟨W0, hW0⟩ : ∃ W0, W0 = w.alloc (.cells #[.int .i64 4, .int .i64 a, .int .i64 rb, .int .i64 m] 72) := ⟨_, rfl⟩
 have hb0 : Below w.heap.size w W0 := by rw [hW0]; (exact bel)
 (refine wp_region_bel (by kernel_rfl) (by kernel_rfl) ?_; (repeat (go_big_quiet_step ((go_at_call 198; with_reducible exact Calls.bel_of (right4 (HB.out.below (Below.next (Below.al (Below.refl _ _) _) (later_below _ _))) HO.out c0 c1 c2 c3 a rb m HC.out HA.out H.out))))); refine wpQuiet_nil ?_; rintro _ ⟨xq, rfl⟩)
 go_wp2
 go_ret
 exact ⟨rfl, by have := later_below _ xq; (exact bel)⟩
theorem wrong_5 (hB : BookAt w b vr vg vm vs vc) (hO : BkOk b) (hK : KindsAt w) {bb cb : Nat} (h5 : Five w bb vr vg vm vs vc) (c0 c1 c2 c3 a rb m : Int) (hc : Came b [c0, c1, c2, c3])
 (k0 : w.cell? ⟨cb, 0, none⟩ = some (.int .i64 c0)) (k1 : w.cell? ⟨cb, 1, none⟩ = some (.int .i64 c1)) (k2 : w.cell? ⟨cb, 2, none⟩ = some (.int .i64 c2)) (k3 : w.cell? ⟨cb, 3, none⟩ = some (.int .i64 c3)) (hcb : cb < w.heap.size)
 (hr : recAl b ⟨5, a, rb, m⟩ = 0) {t : Bool} (h : rightR b [c0, c1, c2, c3] ⟨5, a, rb, m⟩ = t) :
 Calls Tryz.prog 153 #[.agg #[.int .i64 5, .int .i64 a, .int .i64 rb, .int .i64 m], .pointer (some ⟨bb, 0, none⟩), .pointer (some ⟨cb, 0, none⟩)] w fun e w' => e = .returned (.bool (!t)) ∧ Below w.heap.size w w' := by
 have hf := recAl_facts hr
 have HA := Hh (hf.2.2.2 rfl)
 obtain ⟨hlt, hK⟩ := hK
 obtain ⟨⟨s, _, g0⟩, g1, g2, g3, g4⟩ := hK 5 (by omega)
 simp [usesB, usesMany, kindMost, kindRight] at g0 g1 g2 g3 g4
 obtain ⟨y0, y1, y2, y3, y4, y5⟩ := h5
 have HB := Hh hB
 have HO := Hh hO
 have HC := Hh hc
 have H := Hh h
 clear hB hO hc h hK hf hr
 go_enter Tryz.func153, Tryz.ntmps153
 go_wp2
 obtain ⟨W0, hW0⟩ : ∃ W0, W0 = w.alloc (.cells #[.int .i64 5, .int .i64 a, .int .i64 rb, .int .i64 m] 72) := ⟨_, rfl⟩
 have hb0 : Below w.heap.size w W0 := by rw [hW0]; (exact bel)
 (refine wp_region_bel (by kernel_rfl) (by kernel_rfl) ?_; (repeat (go_big_quiet_step ((go_at_call 200; with_reducible exact Calls.bel_of (right5 (HB.out.below (Below.next (Below.al (Below.refl _ _) _) (later_below _ _))) HO.out c0 c1 c2 c3 a rb m HC.out HA.out H.out))))); refine wpQuiet_nil ?_; rintro _ ⟨xq, rfl⟩)
 go_wp2
 go_ret
 exact ⟨rfl, by have := later_below _ xq; (exact bel)⟩
theorem wrong_at (hB : BookAt w b vr vg vm vs vc) (hO : BkOk b) (hK : KindsAt w) {bb cb : Nat} (h5 : Five w bb vr vg vm vs vc) (c0 c1 c2 c3 : Int) (r : Rec) (hc : Came b [c0, c1, c2, c3])
 (k0 : w.cell? ⟨cb, 0, none⟩ = some (.int .i64 c0)) (k1 : w.cell? ⟨cb, 1, none⟩ = some (.int .i64 c1)) (k2 : w.cell? ⟨cb, 2, none⟩ = some (.int .i64 c2)) (k3 : w.cell? ⟨cb, 3, none⟩ = some (.int .i64 c3)) (hcb : cb < w.heap.size)
 (hr : recAl b r = 0) {t : Bool} (h : rightR b [c0, c1, c2, c3] r = t) :
 Calls Tryz.prog 153 #[.agg #[.int .i64 r.k, .int .i64 r.a, .int .i64 r.b, .int .i64 r.m], .pointer (some ⟨bb, 0, none⟩), .pointer (some ⟨cb, 0, none⟩)] w fun e w' => e = .returned (.bool (!t)) ∧ Below w.heap.size w w' := by
 obtain ⟨k, a, rb, m⟩ := r
 have := (recAl_facts hr).1
 have : k = 0 ∨ k = 1 ∨ k = 2 ∨ k = 3 ∨ k = 4 ∨ k = 5 := by omega
 rcases this with rfl | rfl | rfl | rfl | rfl | rfl
 ·exact wrong_0 hB hO hK h5 c0 c1 c2 c3 a rb m hc k0 k1 k2 k3 hcb hr h
 ·exact wrong_1 hB hO hK h5 c0 c1 c2 c3 a rb m hc k0 k1 k2 k3 hcb hr h
 ·exact wrong_2 hB hO hK h5 c0 c1 c2 c3 a rb m hc k0 k1 k2 k3 hcb hr h
 ·exact wrong_3 hB hO hK h5 c0 c1 c2 c3 a rb m hc k0 k1 k2 k3 hcb hr h
 ·exact wrong_4 hB hO hK h5 c0 c1 c2 c3 a rb m hc k0 k1 k2 k3 hcb hr h
 ·exact wrong_5 hB hO hK h5 c0 c1 c2 c3 a rb m hc k0 k1 k2 k3 hcb hr h
end
section
variable {b : Bk} {vr vg vm vs vc : Value} {w : World}
structure Asks (w : World) (b : Bk) (vr vg vm vs vc : Value) (bb cb : Nat) (c0 c1 c2 c3 : Int) : Prop where
 book : BookAt w b vr vg vm vs vc
 kinds : KindsAt w
 five : Five w bb vr vg vm vs vc
 k0 : w.cell? ⟨cb, 0, none⟩ = some (.int .i64 c0)
 k1 : w.cell? ⟨cb, 1, none⟩ = some (.int .i64 c1)
 k2 : w.cell? ⟨cb, 2, none⟩ = some (.int .i64 c2)
 k3 : w.cell? ⟨cb, 3, none⟩ = some (.int .i64 c3)
 lt : cb < w.heap.size
theorem Asks.below {w w' : World} {bb cb : Nat} {c0 c1 c2 c3 : Int} (h : Asks w b vr vg vm vs vc bb cb c0 c1 c2 c3) (hb : Below w.heap.size w w') : Asks w' b vr vg vm vs vc bb cb c0 c1 c2 c3 :=
 ⟨h.book.below hb, h.kinds.below hb, h.five.below hb h.five.lt, (hb.cell h.lt).trans h.k0, (hb.cell h.lt).trans h.k1, (hb.cell h.lt).trans h.k2, (hb.cell h.lt).trans h.k3, Nat.lt_of_lt_of_le h.lt hb.size⟩
theorem wrong_asks {bb cb : Nat} {c0 c1 c2 c3 : Int} (h : Asks w b vr vg vm vs vc bb cb c0 c1 c2 c3) (hO : BkOk b) (hc : Came b [c0, c1, c2, c3]) (r : Rec) (hr : recAl b r = 0) {t : Bool} (hh : (!rightR b [c0, c1, c2, c3] r) = t) :
 Calls Tryz.prog 153 #[.agg #[.int .i64 r.k, .int .i64 r.a, .int .i64 r.b, .int .i64 r.m], .pointer (some ⟨bb, 0, none⟩), .pointer (some ⟨cb, 0, none⟩)] w fun e w' => e = .returned (.bool t) ∧ Below w.heap.size w w' :=
 (wrong_at h.book hO h.kinds h.five c0 c1 c2 c3 r hc h.k0 h.k1 h.k2 h.k3 h.lt hr rfl).mono fun _ _ ⟨e, x⟩ => ⟨hh ▸ e, x⟩
def IdxPost (w : World) (t : Bool) (e : Ending) (w' : World) : Prop := ∃ i : Int, e = .returned (.int .i64 i) ∧ decide (0 ≤ i) = t ∧ Below w.heap.size w w'
theorem index_at {bb cb : Nat} {c0 c1 c2 c3 : Int} {ra : Option Addr} {rc : Nat} (h : Asks w b vr vg vm vs vc bb cb c0 c1 c2 c3) (hO : BkOk b) (hc : Came b [c0, c1, c2, c3]) (hR : RecsAt w ra b.rs) (hl : b.rs.length ≤ 1000000) (hr : ∀ r ∈ b.rs, recAl b r = 0) :
 Calls Tryz.prog 169 #[.slice ra b.rs.length rc, .func (.func 153) #[] #[.pointer (some ⟨bb, 0, none⟩), .pointer (some ⟨cb, 0, none⟩)]] w (IdxPost w (!right b [c0, c1, c2, c3])) := by
 have HA := Hh h
 have HO := Hh hO
 have HC := Hh hc
 have HS := Hh hR
 have HR := Hh hr
 clear h hO hc hR hr
 go_enter Tryz.func169, Tryz.ntmps169
 go_wp2
 go_loopw [8] (fun i wr => ∃ (k : Nat), k ≤ b.rs.length ∧ i = .int .i64 k ∧ Hid (∀ j (h : j < b.rs.length), j < k → rightR b [c0, c1, c2, c3] b.rs[j] = true) ∧ Below w.heap.size w wr) (fun i _ => b.rs.length - (intOf i).toNat)
 case atStart => exact ⟨0, Nat.zero_le _, rfl, fun j _ hj => absurd hj (Nat.not_lt_zero _), Below.refl _ _⟩
 case round =>
  obtain ⟨k, hk, rfl, hG, hW⟩ := hrel
  have hWs := hW.size
  by_cases hlt : k < b.rs.length
  ·obtain ⟨sb, so, rfl, hsb, e0, e1, e2, e3⟩ := HS.out k hlt
   have d0 := (hW.cell hsb).trans e0
   have d1 := (hW.cell hsb).trans e1
   have d2 := (hW.cell hsb).trans e2
   have d3 := (hW.cell hsb).trans e3
   have hrr := HR.out _ (List.getElem_mem hlt)
   clear e0 e1 e2 e3
   generalize hs : b.rs[k] = s at d0 d1 d2 d3 hrr
   have HSS := Hh hs
   have HRR := Hh hrr
   have HAr := Hh (HA.out.below hW)
   obtain ⟨rk, ra, rb, rm⟩ := s
   dsimp only at d0 d1 d2 d3
   clear hs hrr
   cases hx : rightR b [c0, c1, c2, c3] ⟨rk, ra, rb, rm⟩
   ·have HX := Hh (show (!rightR b [c0, c1, c2, c3] ⟨rk, ra, rb, rm⟩) = true by rw [hx]; rfl)
    have HN : Hid (right b [c0, c1, c2, c3] = false) := by
     unfold Hid right
     rw [List.all_eq_false]
     exact ⟨_, List.getElem_mem hlt, by rw [HSS.out, hx]; simp⟩
    clear hx
    go_wp2_with (go_at_call 153; (with_reducible refine (wrong_asks HAr.out HO.out HC.out ⟨rk, ra, rb, rm⟩ HRR.out HX.out).mono ?_); rintro e w1 ⟨rfl, hb1⟩)
    go_ret
    exact ⟨_, rfl, by rw [HN.out]; simp, bel⟩
   ·have HX := Hh (show (!rightR b [c0, c1, c2, c3] ⟨rk, ra, rb, rm⟩) = false by rw [hx]; rfl)
    have HG : Hid (∀ j (h : j < b.rs.length), j < k + 1 → rightR b [c0, c1, c2, c3] b.rs[j] = true) := fun j h hj => by
     by_cases hjk : j < k
     ·exact hG.out j h hjk
     ·obtain rfl : j = k := by omega
      rw [HSS.out, hx]
    clear hx hG
    go_wp2_with (go_at_call 153; (with_reducible refine (wrong_asks HAr.out HO.out HC.out ⟨rk, ra, rb, rm⟩ HRR.out HX.out).mono ?_); rintro e w1 ⟨rfl, hb1⟩)
    go_roundw
    case rel => exact ⟨k + 1, by omega, by go_num, HG, bel⟩
    case measure => simp [intOf]; omega
  ·have HN : Hid (right b [c0, c1, c2, c3] = true) := by
    unfold Hid right
    rw [List.all_eq_true]
    intro r hr
    obtain ⟨j, hj, rfl⟩ := List.getElem_of_mem hr
    exact hG.out j hj (by omega)
   clear hG
   go_wp2
   go_ret
   exact ⟨_, rfl, by rw [HN.out]; rfl, bel⟩
theorem contains_at {bb cb : Nat} {c0 c1 c2 c3 : Int} {ra : Option Addr} {rc : Nat} (h : Asks w b vr vg vm vs vc bb cb c0 c1 c2 c3) (hO : BkOk b) (hc : Came b [c0, c1, c2, c3]) (hR : RecsAt w ra b.rs) (hl : b.rs.length ≤ 1000000) (hr : ∀ r ∈ b.rs, recAl b r = 0) {t : Bool} (ht : (!right b [c0, c1, c2, c3]) = t) :
 Calls Tryz.prog 152 #[.slice ra b.rs.length rc, .func (.func 153) #[] #[.pointer (some ⟨bb, 0, none⟩), .pointer (some ⟨cb, 0, none⟩)]] w fun e w' => e = .returned (.bool t) ∧ Below w.heap.size w w' := by
 have hx := index_at (rc := rc) h hO hc hR hl hr
 rw [ht] at hx
 have HX := Hh hx
 clear h hO hc hR hr ht hx
 go_enter Tryz.func152, Tryz.ntmps152
 go_wp2_with (go_at_call 169; (with_reducible refine HX.out.mono ?_); rintro e w1 ⟨i, rfl, hi, hb1⟩; have HI := Hh hi; clear hi)
 go_ret
 refine ⟨?_, bel⟩
 rw [← HI.out]
 rfl
theorem agrees_at (hB : BookAt w b vr vg vm vs vc) (hK : KindsAt w) (hO : BkOk b) {c : List Int} (hc : Came b c) (hc4 : c.length = 4) (hr : ∀ r ∈ b.rs, recAl b r = 0) {t : Bool} (ht : right b c = t) :
 Calls Tryz.prog 139 #[.agg #[vr, vg, vm, vs, vc], cameV c] w fun e w' => e = .returned (.bool t) ∧ Below w.heap.size w w' := by
 obtain ⟨c0, c1, c2, c3, rfl⟩ := four hc4
 rw [show cameV [c0, c1, c2, c3] = .agg #[.int .i64 c0, .int .i64 c1, .int .i64 c2, .int .i64 c3] from rfl]
 obtain ⟨ra, rc, rfl, hR, hl⟩ := hB.rs
 have hW0 : ∃ W0, W0 = (w.alloc (.cells #[vr, vg, vm, vs, .slice ra b.rs.length rc] 99)).alloc (.cells #[.int .i64 c0, .int .i64 c1, .int .i64 c2, .int .i64 c3] 137) := ⟨_, rfl⟩
 obtain ⟨W0, hW0⟩ := hW0
 have hb0 : Below w.heap.size w W0 := by rw [hW0]; (exact bel)
 have hA : Asks W0 b vr vg vm vs (.slice ra b.rs.length rc) w.heap.size (w.heap.size + 1) c0 c1 c2 c3 := by
  refine ⟨hB.below hb0, hK.below hb0, ?_, ?_, ?_, ?_, ?_, ?_⟩
  ·rw [hW0]
   exact (Five.new w vr vg vm vs (.slice ra b.rs.length rc) _).below (bal _ _) (by simp)
  iterate 4 (rw [hW0, World.cell?_alloc_at _ _ _ _ (by simp)]; rfl)
  ·rw [hW0]; simp
 have hx := contains_at (rc := rc) hA hO hc (hR.below hb0) hl hr rfl
 rw [ht] at hx
 have HX := Hh hx
 have HW0 := Hh hW0
 clear hB hK hO hc hc4 hr ht hx hA hR hW0
 go_enter Tryz.func139, Tryz.ntmps139
 go_wp2_with (rw [← HW0.out]; (go_at_call 152; (with_reducible refine (HX.out).mono ?_); rintro e w1 ⟨rfl, hb1⟩))
 go_ret
 exact ⟨by simp, bel⟩
end
end Go.Proofs.YtbibidfkbdhblaaGreatDoor
