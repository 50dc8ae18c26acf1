/- Leads to StoreAsked of chapter 6: U8 AS4 Law2 AS5. -/
import Derived.Test.YtgemjjdkjmpmlaaGreatDoorAS00
set_option maxHeartbeats 8000000
set_option maxRecDepth 100000
set_option linter.all false
namespace Go.Proofs.YtgemjjdkjmpmlaaGreatDoor
open Go.RowKit Go.Maps Sp
theorem wpl_append0 {P : Program} {w : World} {ops : Array Oper} {rest : List Oper} {o : Oper} {a : Act} {Q : Exit → Act → World → Prop} (hgd : o.guard = none) (s x : Operand) (t : TypeId)
 (ho : o.op = .call { callee := .builtin .append, args := #[s, x], argTypes := #[t, t] }) (e : TypeId) (i : TypeInfo) (ht : P.underlying t = some (.slice e)) (hi : P.info? e = some i)
 (b : Option Addr) (n c : Nat) (hs : a.eval s = .slice b n c) (hle : n ≤ c) (sa : Option Addr) (m sc : Nat) (hm : m = 0) (hx : a.eval x = .slice sa m sc) (h : ∀ v, v = .slice b n c → wpList P ops Q rest (a.put o.dst v) w) : wpList P ops Q (o :: rest) a w :=
 wpList_plain hgd fun K hK => by
  subst hm
  have hr := run_append_nothing w t t o.type e i ht hi b n c hle (.slice sa 0 sc) (by
   cases sa with
   | none => exact Src.ofNil w ht sc
   | some ad => exact Src.ofSlice w ht ad 0 sc [] (by simp) (fun j u h => by simp at h) (fun u h => by cases h))
  unfold Oper.wp execOp
  simp only [ho, resolve, invoke, builtin, Sem.run_bind, Sem.run_pure, Result.andThen_ok, List.map_toArray, List.map_cons, List.map_nil, hs, hx, hr]
  exact hK _ _ (h _ rfl)
theorem known_none {w : World} {b : Bk} {vr vg vm vs vc : Value} {i k : Nat} (hB : BookAt w b vr vg vm vs vc) (hn : b.rs = []) :
 Calls Tryz.prog 76 #[.agg #[vr, vg, vm, vs, vc], .int .i64 i, .int .i64 k] w (KnownRet w b i k vr vg vm vs) := by
 have HB := Hh hB
 obtain ⟨i0, hi, hz0, hz1, hz2⟩ := info_parts recInfo
 obtain ⟨rfl, rfl, ⟨ma, mc, rfl, _, _⟩, ⟨sa, sc, rfl, _, _⟩, ra, rc, rfl, hRR, _⟩ := id hB
 have HN0 := Hh hn
 clear hB hRR hn
 go_enter Tryz.func76, Tryz.ntmps76
 go_wp2_with (first
  | (at_builtin; (refine wpl_append0 rfl _ _ 24 rfl 70 i0 Tryz.underlying24 hi (some ⟨w.heap.size + 1 + 1 + 1, 0, none⟩) 0 0 rfl (Nat.le_refl _) ra b.rs.length rc (by rw [HN0.out]; rfl) rfl ?_); intro v1 hv1; have HV1 := Hh hv1; clear hv1)
  | (at_builtin; go_loud (refine wpList_append_own _ rfl _ _ 24 rfl (w.heap.size + 3) 70 i0 (.agg #[.int .i64 0, .int .i64 0, .int .i64 0, .int .i64 0]) 4 32 Tryz.underlying24 hi hz0 hz1 hz2 rfl (by decide) _ 0 [] rfl (by rw [HV1.out]; exact row_made3.alloc _) ⟨w.heap.size + 1 + 1 + 1 + 1, 0, none⟩ 2 2 [.int .i64 2, .int .i64 i, .int .i64 0, .int .i64 k, .int .i64 3, .int .i64 i, .int .i64 0, .int .i64 k] rfl rfl (cells_new' _ _ _ (by simp)) (by simp [Value.oneCell']) (by unfold maxLen; omega) (by omega) (by first | (simp; done) | (simp; omega)) ?_); intro v2 w6 hown2 hgrow2 _; obtain ⟨g2, cap2, rfl⟩ := ownsRow_succ hown2; have hks := (KS.alloc (fun k => k < w.heap.size + 3) _ _).trans (grow_ks (by rw [HV1.out]; exact row_made3.alloc _) hgrow2); have hs6 : w.heap.size + 1 + 1 + 1 + 1 + 1 ≤ w6.heap.size := (by have := hgrow2.size; simpa using this); obtain ⟨kz, ky, kf, kg⟩ := keep3 hks; have p0 := kz 0 _ rfl; have p1 := kz 1 _ rfl; have p2 := kz 2 _ rfl; have p3 := kz 3 _ rfl; have p4 := kz 4 _ rfl; have z4 := kf 4; have t0 := ky 0 _ rfl; have t1 := ky 1 _ rfl; have t2 := ky 2 _ rfl; have t3 := ky 3 _ rfl; have t4 := ky 4 _ rfl; have f0 := kg 0; have f1 := kg 1; have f2 := kg 2; have f3 := kg 3; have f4 := kg 4; have HKS := Hh hks; have HOWN := Hh hown2; clear hks; have HKEEP := Hh (⟨kz, ky, kf, kg⟩ : _ ∧ _ ∧ _ ∧ _); clear kz ky kf kg))
 have five := Five.put (r := w.heap.size + 1) (v0 := .int .i64 b.room) (v1 := .int .i64 b.gap) (v2 := .slice ma b.ms.length mc) (v3 := .slice sa b.ss.length sc) (v4 := (.slice (some ⟨g2, 0, none⟩) (0 + 1 + 1) cap2)) (w := (w6.setCell ⟨w.heap.size + 1 + 1, 4, none⟩ (.slice (some ⟨g2, 0, none⟩) (0 + 1 + 1) cap2))) (by rw [World.cell?_setCell_other (h := fun e => by injection e with e1 _ _; omega), t0]; rfl) (by rw [World.cell?_setCell_other (h := fun e => by injection e with e1 _ _; omega), t1]; rfl) (by rw [World.cell?_setCell_other (h := fun e => by injection e with e1 _ _; omega), t2]; rfl) (by rw [World.cell?_setCell_other (h := fun e => by injection e with e1 _ _; omega), t3]; rfl) (by rw [World.cell?_setCell_other (h := fun e => by injection e with e1 _ _; omega), t4]; rfl) (by simp; omega)
 obtain ⟨W9, hW9⟩ : ∃ W9, W9 = ((((((w6.setCell ⟨w.heap.size + 1 + 1, 4, none⟩ (.slice (some ⟨g2, 0, none⟩) (0 + 1 + 1) cap2)).setCell ⟨w.heap.size + 1, 0, none⟩ (.int .i64 b.room)).setCell ⟨w.heap.size + 1, 1, none⟩ (.int .i64 b.gap)).setCell ⟨w.heap.size + 1, 2, none⟩ (.slice ma b.ms.length mc)).setCell ⟨w.heap.size + 1, 3, none⟩ (.slice sa b.ss.length sc)).setCell ⟨w.heap.size + 1, 4, none⟩ (.slice (some ⟨g2, 0, none⟩) (0 + 1 + 1) cap2)) := ⟨_, rfl⟩
 have k9 : KS (fun k => k ≠ w.heap.size + 1 ∧ k ≠ w.heap.size + 1 + 1) w6 W9 := by
  rw [hW9]
  exact (((((KS.setCell (by simp) _ _).trans (KS.setCell (by simp) _ _)).trans (KS.setCell (by simp) _ _)).trans (KS.setCell (by simp) _ _)).trans (KS.setCell (by simp) _ _)).trans (KS.setCell (by simp) _ _)
 rw [← hW9] at five ⊢
 obtain ⟨c0, c1, c2, c3, c4, _⟩ := five
 have hbw : Below w.heap.size w W9 := (bel : Below w.heap.size w _).trans ((HKS.out.toBelow (n := w.heap.size) (by simp; omega) (fun k hk => by omega)).trans (k9.toBelow (n := w.heap.size) (by omega) (fun k hk => ⟨by omega, by omega⟩)))
 have hr9 := ownsRow_ks HOWN.out k9 (fun k hk => ⟨by omega, by omega⟩)
 have kf := known_flat b i k
 rw [HN0.out, List.flatMap_nil, List.nil_append] at kf
 rw [List.nil_append, ← kf] at hr9
 have hrr := recs_of_row hr9
 have HBW := Hh hbw
 have HRR := Hh hrr
 clear hW9 k9 hbw hr9 hrr
 refine bodyPost_ret (v := .agg #[.int .i64 b.room, .int .i64 b.gap, .slice ma b.ms.length mc, .slice sa b.ss.length sc, (.slice (some ⟨g2, 0, none⟩) (0 + 1 + 1) cap2)]) (by simp [results, Tryz.results76, go_sem, c0, c1, c2, c3, c4]) rfl ⟨some ⟨g2, 0, none⟩, 0 + 1 + 1, cap2, rfl, ?_, HBW.out⟩
 have hB9 := HB.out.below HBW.out
 have e : (knownB b i k).rs.length = 0 + 1 + 1 := by simp [knownB, HN0.out]
 exact ⟨hB9.room, hB9.gap, hB9.ms, hB9.ss, some ⟨g2, 0, none⟩, cap2, by rw [e], HRR.out, by rw [e]; omega⟩
theorem known_at : KnownC := fun w b vr vg vm vs vc i k hB hl => by
 by_cases h : b.rs = []
 ·exact known_none hB h
 ·exact known_some hB hl (List.length_pos_iff.2 h)
end Go.Proofs.YtgemjjdkjmpmlaaGreatDoor
namespace Go.Proofs.YtgemjjdkjmpmlaaGreatDoor
open Go.RowKit Go.Maps Sp Mt Go.Conc
def UZB (k l i m : Int) (a' : Act) (w2 : World) : Prop := (a'.tmps.size = 137 ∧ a'.defers = [] ∧ a'.tmps[5]? = some (.int .i64 k) ∧ a'.tmps[6]? = some (.int .i64 l) ∧ a'.tmps[12]? = some (.int .i64 i) ∧ a'.tmps[13]? = some (.int .i64 m) ∧ a'.tmps[14]? = some (.bool true)) ∧ KindsAt w2
theorem as_B1 {r0 rg rs r3 r4 r5 s6 r7 f8 r9 r10 r11 f12 r13 r14 r15 : Code} (hc : Tryz.f5.body = some (.seq r0 (.seq (.seq rg (.cond (.tmp 30) (.seq rs .ret) .skip)) (.seq r3 (.seq r4 (.seq (.seq r5 (.cond (.tmp 48) (.seq s6 .ret) .skip)) (.seq (.seq r7 (.cond (.tmp 86) (.seq f8 .ret) .skip)) (.seq (.seq r9 (.cond (.tmp 88) (.seq r10 (.seq r11 (.cond (.tmp 101) (.seq f12 .ret) .skip))) .skip)) (.seq r13 (.seq r14 (.seq r15 .ret))))))))))) {B : Nat} {b : Bk} {s : Int} {vr vg vm vs vc : Value} {w : World} {n m i : Int} (hE : LawAt w B b [] vr vg vm vs vc none) (hS : SmallB b) (hk : bookAl b = 0) (hl5 : b.rs.length + 2 ≤ 5) (hn : 0 < b.ss.length) (hs0 : 0 ≤ s) (hs1 : s ≤ 255)
 (hi : s % (b.ss.length : Int) = i) (hkk : histN b = n) (hn0 : 0 < n) (hm : mostI (pasts b) i.toNat = m) {d15 d16 d17 d18 d19 d20 d21 d22 d23 d24 d25 d26 d27 d28 d29 d32 d33 d34 d35 d36 d37 : Value} :
 wps Tryz.prog [r4, .seq r5 (.cond (.tmp 48) (.seq s6 .ret) .skip), .seq r7 (.cond (.tmp 86) (.seq f8 .ret) .skip), .seq r9 (.cond (.tmp 88) (.seq r10 (.seq r11 (.cond (.tmp 101) (.seq f12 .ret) .skip))) .skip), r13, r14] (fun a' w2 => UZB (-1) n i m a' w2 ∧ Old w w2) ({ tmps := #[.agg #[vr, vg, vm, vs, vc], .int .u8 s, .pointer (some ⟨B, 0, none⟩), U, .bool false, .int .i64 (-1), .int .i64 n, .int .i64 0, U, U, U, U, U, U, U, d15, d16, d17, d18, d19, d20, d21, d22, d23, d24, d25, d26, d27, d28, d29, .bool false, U, d32, d33, d34, d35, d36, d37, U, U, U, U, U, U, U, U, U, U, U, U, U, U, U, U, U, U, U, U, U, U, U, U, U, U, U, U, U, U, U, U, U, U, U, U, U, U, U, U, U, U, U, U, U, U, U, U, U, U, U, U, U, U, U, U, U, U, U, U, U, U, U, U, U, U, U, U, U, U, U, U, U, U, U, U, U, U, U, U, U, U, U, U, U, U, U, U, U, U, U, U, U, U, U, U, U, U, U], defers := [] }) w := by
 simp only [Tryz.f5, Option.some.injEq, Code.seq.injEq, Code.cond.injEq] at hc
 obtain ⟨-, -, h3, h4, ⟨h5, -, ⟨h6, -⟩, -⟩, ⟨h7, -, ⟨h8, -⟩, -⟩, ⟨h9, -, ⟨h10, h11, -, ⟨h12, -⟩, -⟩, -⟩, h13, h14, -⟩ := hc
 clear h3
 have hn20 : b.ss.length ≤ 20 := hS.2.1
 have hi0 : 0 ≤ i := by rw [← hi]; exact Int.emod_nonneg _ (by omega)
 have hi1 : i < (b.ss.length : Int) := by rw [← hi]; exact Int.emod_lt_of_pos _ (by omega)
 obtain ⟨q, rfl⟩ : ∃ q : Nat, i = (q : Int) := ⟨i.toNat, by omega⟩
 rw [Int.toNat_natCast] at hm
 have hq : q < b.ss.length := by omega
 have HS := Hh hS
 have HN := Hh hS.names
 have HAL := Hh hk
 have HKK := Hh hkk
 have HI := Hh hi
 have HM := Hh hm
 have HL5 := Hh hl5
 have HIN := Hh (show inB (-1) (-1) ((b.ss.length : Int) - 1) = true by simp [inB]; omega)
 have HLV := Hh (fun (w : World) (vr vg vm vs vc : Value) (h1 : BookAt w b vr vg vm vs vc) (h2 : KindsAt w) => leaves_at (i := q) known_at h1 hS.names h2 hk hl5 hq)
 have hnz : ((b.ss.length : Int) == 0) = false := by rw [beq_eq_false_iff_ne]; omega
 have e1 : (n == 0) = false := by rw [beq_eq_false_iff_ne]; omega
 have hw1 : IntKind.i64.wrap ((b.ss.length : Int) - 1) = (b.ss.length : Int) - 1 := wrapI (by omega) (by omega)
 have e4 : (n != n) = false := by simp
 clear hS hk hkk hi hm hl5 hn0
 refine wps_nq ?_
 rw [← h4]
 clear h4
 obtain ⟨c0, c1, c2, c3, c4, _, _, _⟩ := id hE
 have HBx := Hh (hE.raw.book HS.out)
 have HKx := Hh hE.kd
 have EE := Hh hE
 clear hE
 have hB0 := lt_of_cell c0
 simp only at hB0
 go_wp2_with (go_at_call 24; (with_reducible refine (histories2_at HBx.out HN.out HKx.out HKK.out HAL.out).mono ?_); rintro e w1 ⟨rfl, hb1⟩)
 refine ⟨rfl, fun X1 t1 => ?_⟩
 have o1 := (Old.ofBelow hb1).twin0 t1
 have E1 := EE.out.old o1
 have OO1 := Hh (o1)
 clear c0 c1 c2 c3 c4 HBx HKx EE hb1 t1 o1 hB0
 refine wps_nq ?_
 rw [← h5, ← h6]
 clear h5 h6
 obtain ⟨c0, c1, c2, c3, c4, _, _, _⟩ := id E1
 have HBx := Hh (E1.raw.book HS.out)
 have HKx := Hh E1.kd
 have EE := Hh E1
 clear E1
 have hB0 := lt_of_cell c0
 simp only at hB0
 go_wp2
 refine ⟨rfl, fun X2 t1 => ?_⟩
 have o1 := (Old.refl _).twin0 t1
 have E2 := EE.out.old o1
 have OO2 := Hh (OO1.out.trans o1)
 clear c0 c1 c2 c3 c4 HBx HKx EE t1 o1 hB0 OO1
 refine wps_nq ?_
 rw [← h7, ← h8]
 clear h7 h8
 obtain ⟨c0, c1, c2, c3, c4, _, _, _⟩ := id E2
 have HBx := Hh (E2.raw.book HS.out)
 have HKx := Hh E2.kd
 have EE := Hh E2
 clear E2
 have hB0 := lt_of_cell c0
 simp only at hB0
 have hrw := EE.out.raw
 obtain ⟨rfl, rfl, ⟨ma, mc, rfl, _⟩, ⟨sa, sc, rfl, _⟩, ra, rc, rfl, _⟩ := hrw
 go_wp2_with (go_at_call 30; (with_reducible refine (rin_at HIN.out).mono ?_); rintro e w' ⟨rfl, rfl⟩)
 refine ⟨rfl, fun X3 t1 => ?_⟩
 have o1 := (Old.refl _).twin0 t1
 have E3 := EE.out.old o1
 have OO3 := Hh (OO2.out.trans o1)
 clear c0 c1 c2 c3 c4 HBx HKx EE t1 o1 hB0 OO2
 refine wps_nq ?_
 rw [← h9, ← h10, ← h11, ← h12]
 clear h9 h10 h11 h12
 obtain ⟨c0, c1, c2, c3, c4, _, _, _⟩ := id E3
 have HBx := Hh (E3.raw.book HS.out)
 have HKx := Hh E3.kd
 have EE := Hh E3
 clear E3
 have hB0 := lt_of_cell c0
 simp only at hB0
 go_wp2
 refine ⟨rfl, fun X4 t1 => ?_⟩
 have o1 := (Old.refl _).twin0 t1
 have E4 := EE.out.old o1
 have OO4 := Hh (OO3.out.trans o1)
 clear c0 c1 c2 c3 c4 HBx HKx EE t1 o1 hB0 OO3
 refine wps_nq ?_
 rw [← h13]
 clear h13
 obtain ⟨c0, c1, c2, c3, c4, _, _, _⟩ := id E4
 have HBx := Hh (E4.raw.book HS.out)
 have HKx := Hh E4.kd
 have EE := Hh E4
 clear E4
 have hB0 := lt_of_cell c0
 simp only at hB0
 go_wp2
 rw [HI.out]
 refine ⟨rfl, fun X5 t1 => ?_⟩
 have o1 := (Old.refl _).twin0 t1
 have E5 := EE.out.old o1
 have OO5 := Hh (OO4.out.trans o1)
 clear c0 c1 c2 c3 c4 HBx HKx EE t1 o1 hB0 OO4
 refine wps_nq ?_
 rw [← h14]
 clear h14
 obtain ⟨c0, c1, c2, c3, c4, _, _, _⟩ := id E5
 have HBx := Hh (E5.raw.book HS.out)
 have HKx := Hh E5.kd
 have EE := Hh E5
 clear E5
 have hB0 := lt_of_cell c0
 simp only at hB0
 go_wp2_with (go_at_call 31; (with_reducible refine (HLV.out _ _ _ _ _ _ HBx.out HKx.out).mono ?_); rintro e w1 ⟨rfl, hb1⟩; rw [HM.out])
 refine ⟨rfl, fun X6 t1 => ?_⟩
 have o1 := (Old.ofBelow hb1).twin0 t1
 have E6 := EE.out.old o1
 have OO6 := Hh (OO5.out.trans o1)
 clear c0 c1 c2 c3 c4 HBx HKx EE hb1 t1 o1 hB0 OO5
 exact ⟨⟨⟨rfl, rfl, rfl, rfl, rfl, rfl, rfl⟩, E6.kd⟩, OO6.out⟩
theorem as_B2 {r0 rg rs r3 r4 r5 s6 r7 f8 r9 r10 r11 f12 r13 r14 r15 : Code} (hc : Tryz.f5.body = some (.seq r0 (.seq (.seq rg (.cond (.tmp 30) (.seq rs .ret) .skip)) (.seq r3 (.seq r4 (.seq (.seq r5 (.cond (.tmp 48) (.seq s6 .ret) .skip)) (.seq (.seq r7 (.cond (.tmp 86) (.seq f8 .ret) .skip)) (.seq (.seq r9 (.cond (.tmp 88) (.seq r10 (.seq r11 (.cond (.tmp 101) (.seq f12 .ret) .skip))) .skip)) (.seq r13 (.seq r14 (.seq r15 .ret))))))))))) {B : Nat} {b : Bk} {s : Int} {vr vg vm vs vc : Value} {w : World} {n m i : Int} {l : Int} {j : Nat} (hE : LawAt w B b [] vr vg vm vs vc none) (hS : SmallB b) (hk : bookAl b = 0) (hl5 : b.rs.length + 2 ≤ 5) (hn : 0 < b.ss.length) (hs0 : 0 ≤ s) (hs1 : s ≤ 255)
 (hi : s % (b.ss.length : Int) = i) (hkk : histN b = n) (hn0 : 0 < n) (hm : mostI (pasts b) i.toNat = m) (hj : j < b.ss.length) (hml : mostI (pasts b) j = l) (hln : l < n) {d15 d16 d17 d18 d19 d20 d21 d22 d23 d24 d25 d26 d27 d28 d29 d32 d33 d34 d35 d36 d37 : Value} :
 wps Tryz.prog [r4, .seq r5 (.cond (.tmp 48) (.seq s6 .ret) .skip), .seq r7 (.cond (.tmp 86) (.seq f8 .ret) .skip), .seq r9 (.cond (.tmp 88) (.seq r10 (.seq r11 (.cond (.tmp 101) (.seq f12 .ret) .skip))) .skip), r13, r14] (fun a' w2 => UZB (j : Int) l i m a' w2 ∧ Old w w2) ({ tmps := #[.agg #[vr, vg, vm, vs, vc], .int .u8 s, .pointer (some ⟨B, 0, none⟩), U, .bool false, .int .i64 (j : Int), .int .i64 l, .int .i64 0, U, U, U, U, U, U, U, d15, d16, d17, d18, d19, d20, d21, d22, d23, d24, d25, d26, d27, d28, d29, .bool false, U, d32, d33, d34, d35, d36, d37, U, U, U, U, U, U, U, U, U, U, U, U, U, U, U, U, U, U, U, U, U, U, U, U, U, U, U, U, U, U, U, U, U, U, U, U, U, U, U, U, U, U, U, U, U, U, U, U, U, U, U, U, U, U, U, U, U, U, U, U, U, U, U, U, U, U, U, U, U, U, U, U, U, U, U, U, U, U, U, U, U, U, U, U, U, U, U, U, U, U, U, U, U, U, U, U, U, U, U], defers := [] }) w := by
 simp only [Tryz.f5, Option.some.injEq, Code.seq.injEq, Code.cond.injEq] at hc
 obtain ⟨-, -, h3, h4, ⟨h5, -, ⟨h6, -⟩, -⟩, ⟨h7, -, ⟨h8, -⟩, -⟩, ⟨h9, -, ⟨h10, h11, -, ⟨h12, -⟩, -⟩, -⟩, h13, h14, -⟩ := hc
 clear h3
 have hn20 : b.ss.length ≤ 20 := hS.2.1
 have hi0 : 0 ≤ i := by rw [← hi]; exact Int.emod_nonneg _ (by omega)
 have hi1 : i < (b.ss.length : Int) := by rw [← hi]; exact Int.emod_lt_of_pos _ (by omega)
 obtain ⟨q, rfl⟩ : ∃ q : Nat, i = (q : Int) := ⟨i.toNat, by omega⟩
 rw [Int.toNat_natCast] at hm
 have hq : q < b.ss.length := by omega
 have HS := Hh hS
 have HN := Hh hS.names
 have HAL := Hh hk
 have HKK := Hh hkk
 have HI := Hh hi
 have HM := Hh hm
 have HL5 := Hh hl5
 have HIN := Hh (show inB (j : Int) (-1) ((b.ss.length : Int) - 1) = true by simp [inB]; omega)
 have HLV := Hh (fun (w : World) (vr vg vm vs vc : Value) (h1 : BookAt w b vr vg vm vs vc) (h2 : KindsAt w) => leaves_at (i := q) known_at h1 hS.names h2 hk hl5 hq)
 have HLJ := Hh (fun (w : World) (vr vg vm vs vc : Value) (h1 : BookAt w b vr vg vm vs vc) (h2 : KindsAt w) => leaves_at (i := j) known_at h1 hS.names h2 hk hl5 hj)
 have HML := Hh hml
 have hnz : ((b.ss.length : Int) == 0) = false := by rw [beq_eq_false_iff_ne]; omega
 have e1 : (n == 0) = false := by rw [beq_eq_false_iff_ne]; omega
 have hw1 : IntKind.i64.wrap ((b.ss.length : Int) - 1) = (b.ss.length : Int) - 1 := wrapI (by omega) (by omega)
 have e2 : decide (n ≤ l) = false := by rw [decide_eq_false_iff_not]; omega
 have e3 : decide ((j : Int) < 0) = false := by rw [decide_eq_false_iff_not]; omega
 have e5 : decide ((0 : Int) ≤ (j : Int)) = true := by rw [decide_eq_true_iff]; omega
 have e6 : (l != l) = false := by simp
 clear hS hk hkk hi hm hl5 hml hn0
 refine wps_nq ?_
 rw [← h4]
 clear h4
 obtain ⟨c0, c1, c2, c3, c4, _, _, _⟩ := id hE
 have HBx := Hh (hE.raw.book HS.out)
 have HKx := Hh hE.kd
 have EE := Hh hE
 clear hE
 have hB0 := lt_of_cell c0
 simp only at hB0
 go_wp2_with (go_at_call 24; (with_reducible refine (histories2_at HBx.out HN.out HKx.out HKK.out HAL.out).mono ?_); rintro e w1 ⟨rfl, hb1⟩)
 refine ⟨rfl, fun X1 t1 => ?_⟩
 have o1 := (Old.ofBelow hb1).twin0 t1
 have E1 := EE.out.old o1
 have OO1 := Hh (o1)
 clear c0 c1 c2 c3 c4 HBx HKx EE hb1 t1 o1 hB0
 refine wps_nq ?_
 rw [← h5, ← h6]
 clear h5 h6
 obtain ⟨c0, c1, c2, c3, c4, _, _, _⟩ := id E1
 have HBx := Hh (E1.raw.book HS.out)
 have HKx := Hh E1.kd
 have EE := Hh E1
 clear E1
 have hB0 := lt_of_cell c0
 simp only at hB0
 go_wp2
 refine ⟨rfl, fun X2 t1 => ?_⟩
 have o1 := (Old.refl _).twin0 t1
 have E2 := EE.out.old o1
 have OO2 := Hh (OO1.out.trans o1)
 clear c0 c1 c2 c3 c4 HBx HKx EE t1 o1 hB0 OO1
 refine wps_nq ?_
 rw [← h7, ← h8]
 clear h7 h8
 obtain ⟨c0, c1, c2, c3, c4, _, _, _⟩ := id E2
 have HBx := Hh (E2.raw.book HS.out)
 have HKx := Hh E2.kd
 have EE := Hh E2
 clear E2
 have hB0 := lt_of_cell c0
 simp only at hB0
 have hrw := EE.out.raw
 obtain ⟨rfl, rfl, ⟨ma, mc, rfl, _⟩, ⟨sa, sc, rfl, _⟩, ra, rc, rfl, _⟩ := hrw
 go_wp2_with (go_at_call 30; (with_reducible refine (rin_at HIN.out).mono ?_); rintro e w' ⟨rfl, rfl⟩)
 refine ⟨rfl, fun X3 t1 => ?_⟩
 have o1 := (Old.refl _).twin0 t1
 have E3 := EE.out.old o1
 have OO3 := Hh (OO2.out.trans o1)
 clear c0 c1 c2 c3 c4 HBx HKx EE t1 o1 hB0 OO2
 refine wps_nq ?_
 rw [← h9, ← h10, ← h11, ← h12]
 clear h9 h10 h11 h12
 obtain ⟨c0, c1, c2, c3, c4, _, _, _⟩ := id E3
 have HBx := Hh (E3.raw.book HS.out)
 have HKx := Hh E3.kd
 have EE := Hh E3
 clear E3
 have hB0 := lt_of_cell c0
 simp only at hB0
 go_wp2_with (go_at_call 31; (with_reducible refine (HLJ.out _ _ _ _ _ _ HBx.out HKx.out).mono ?_); rintro e w1 ⟨rfl, hb1⟩; rw [HML.out])
 refine ⟨rfl, fun X4 t1 => ?_⟩
 have o1 := (Old.ofBelow hb1).twin0 t1
 have E4 := EE.out.old o1
 have OO4 := Hh (OO3.out.trans o1)
 clear c0 c1 c2 c3 c4 HBx HKx EE hb1 t1 o1 hB0 OO3
 refine wps_nq ?_
 rw [← h13]
 clear h13
 obtain ⟨c0, c1, c2, c3, c4, _, _, _⟩ := id E4
 have HBx := Hh (E4.raw.book HS.out)
 have HKx := Hh E4.kd
 have EE := Hh E4
 clear E4
 have hB0 := lt_of_cell c0
 simp only at hB0
 go_wp2
 rw [HI.out]
 refine ⟨rfl, fun X5 t1 => ?_⟩
 have o1 := (Old.refl _).twin0 t1
 have E5 := EE.out.old o1
 have OO5 := Hh (OO4.out.trans o1)
 clear c0 c1 c2 c3 c4 HBx HKx EE t1 o1 hB0 OO4
 refine wps_nq ?_
 rw [← h14]
 clear h14
 obtain ⟨c0, c1, c2, c3, c4, _, _, _⟩ := id E5
 have HBx := Hh (E5.raw.book HS.out)
 have HKx := Hh E5.kd
 have EE := Hh E5
 clear E5
 have hB0 := lt_of_cell c0
 simp only at hB0
 go_wp2_with (go_at_call 31; (with_reducible refine (HLV.out _ _ _ _ _ _ HBx.out HKx.out).mono ?_); rintro e w1 ⟨rfl, hb1⟩; rw [HM.out])
 refine ⟨rfl, fun X6 t1 => ?_⟩
 have o1 := (Old.ofBelow hb1).twin0 t1
 have E6 := EE.out.old o1
 have OO6 := Hh (OO5.out.trans o1)
 clear c0 c1 c2 c3 c4 HBx HKx EE hb1 t1 o1 hB0 OO5
 exact ⟨⟨⟨rfl, rfl, rfl, rfl, rfl, rfl, rfl⟩, E6.kd⟩, OO6.out⟩
end Go.Proofs.YtgemjjdkjmpmlaaGreatDoor
namespace Go.Proofs.YtgemjjdkjmpmlaaGreatDoor
open Go.RowKit Sp Mt Go.Conc
section
variable {P : Program} {b : Frame} {a : Act} {w : World} {k : List Item} {cs : List Frame} {K : Frame → List Frame → World → Prop}
theorem unwanted_u {o ok : Oper} {ops : Array Oper} {tmps : Array Value} {m j : Nat} {want : Bool} (hg : o.guard = some (m, want)) (hk : ops[m]? = some ok) (hd : ok.dst = some j) (hA : tmps[j]? = some undef) : Region.wanted o (yielded ops tmps) = false := by
 unfold Region.wanted yielded
 rw [hg]
 cases want <;> simp [hk, hd, hA] <;> exact fun h => by cases (show (none : Option Bool) = _ from h)
end
end Go.Proofs.YtgemjjdkjmpmlaaGreatDoor
namespace Go.Proofs.YtgemjjdkjmpmlaaGreatDoor
open Go.RowKit Go.Maps Sp Mt Go.Conc
theorem as_leaves {a : Act} {w w0 : World} {k : List Item} (g4 : a.tmps[4]? = some (.bool true)) (df : a.defers = []) (h : Old w0 w) :
 Leaving0 Tryz.prog (fun v w' => v = .bool true ∧ Old w0 w') { (Go.Conc.base 5).at a k with mode := .returning } [] w := by
 refine ⟨rfl, rfl, rfl, df, by kernel_rfl, .bool true, _, Tryz.func5, fun d => ⟨⟨rfl, h.at d⟩, #[], ?_, by simp⟩⟩
 rw [Sem.runT_eq]
 refine Prod.ext ?_ ?_ <;> simp [results, Tryz.results5, go_sem, Frame.at, Go.Conc.base, g4]
theorem asFrame {c : Code} {x0 x1 : Value} (hc : Tryz.f5.body = some c) : Frame.enter Tryz.prog 5 #[x0, x1] .normal = (Go.Conc.base 5).at { tmps := #[x0, x1, U, U, U, U, U, U, U, U, U, U, U, U, U, U, U, U, U, U, U, U, U, U, U, U, U, U, U, U, U, U, U, U, U, U, U, U, U, U, U, U, U, U, U, U, U, U, U, U, U, U, U, U, U, U, U, U, U, U, U, U, U, U, U, U, U, U, U, U, U, U, U, U, U, U, U, U, U, U, U, U, U, U, U, U, U, U, U, U, U, U, U, U, U, U, U, U, U, U, U, U, U, U, U, U, U, U, U, U, U, U, U, U, U, U, U, U, U, U, U, U, U, U, U, U, U, U, U, U, U, U, U, U, U, U, U], defers := [] } [.code c] := by
 rw [Go.Conc.enter_at #[x0, x1] Tryz.func5 hc]
 simp only [Tryz.ntmps5, List.size_toArray, List.length_cons, List.length_nil, Nat.reduceAdd, Nat.reduceSub, Array.replicate_succ, Array.replicate_zero, List.push_toArray, List.append_toArray, List.nil_append, List.cons_append]
theorem stored_leads {w w' : World} (hK : KindsAt w) (t : Twin 0 w w') (c : Frame) (cs : List Frame) : Leads Tryz.prog (fun fr' cs' w1 => ∃ v, fr' = c.finish v ∧ cs' = cs ∧ v = .bool true ∧ Old w w1) (Frame.enter Tryz.prog 14 #[] .normal) (c :: cs) w' := by
 refine (stored_co (t.kinds hK) c cs).mono ?_
 rintro fr' cs' w2 ⟨h1, h2, ho⟩
 exact ⟨_, h1, h2, rfl, t.old0 ho⟩
theorem as_tailA {r0 rg rs r3 r4 r5 s6 r7 f8 r9 r10 r11 f12 r13 r14 r15 : Code} (hc : Tryz.f5.body = some (.seq r0 (.seq (.seq rg (.cond (.tmp 30) (.seq rs .ret) .skip)) (.seq r3 (.seq r4 (.seq (.seq r5 (.cond (.tmp 48) (.seq s6 .ret) .skip)) (.seq (.seq r7 (.cond (.tmp 86) (.seq f8 .ret) .skip)) (.seq (.seq r9 (.cond (.tmp 88) (.seq r10 (.seq r11 (.cond (.tmp 101) (.seq f12 .ret) .skip))) .skip)) (.seq r13 (.seq r14 (.seq r15 .ret))))))))))) {k l i m : Int} {w w0 : World} (hold : Old w0 w) (hK : KindsAt w) (h1 : decide (l < m) = true)
 {a : Act} (sz : a.tmps.size = 137) (df : a.defers = []) (g6 : a.tmps[6]? = some (.int .i64 l)) (g13 : a.tmps[13]? = some (.int .i64 m)) (g14 : a.tmps[14]? = some (.bool true)) :
 LeadsA Tryz.prog (Leaving0 Tryz.prog fun v w' => v = .bool true ∧ Old w0 w') ((Go.Conc.base 5).at a [.code (.seq r15 .ret)]) [] w := by
 have nb : (Go.Conc.base 5).kind = .normal := rfl
 simp only [Tryz.f5, Option.some.injEq, Code.seq.injEq, Code.cond.injEq] at hc
 obtain ⟨-, -, -, -, -, -, -, -, -, h23, -⟩ := hc
 rw [← h23]
 clear h23
 refine all_seq ?_
 refine all_region ?_
 simp only [List.size_toArray, List.length_cons, List.length_nil, Nat.reduceAdd, Nat.zero_add, List.range, List.range.loop]
 refine all_step (.bool true) nb rfl rfl rfl (fun w' => by simp [go_sem, g14]) (fun w' => by simp [go_sem, g14]) sz df (by decide) fun a1 sz df n1 p1 => ?_
 replace g6 := (p1 6 (by decide)).trans g6
 replace g13 := (p1 13 (by decide)).trans g13
 clear g14
 have g114 := n1
 clear n1 p1
 refine all_step (.bool true) nb rfl rfl rfl (fun w' => by simp [go_sem, g114]) (fun w' => by simp [go_sem, g114]) sz df (by decide) fun a1 sz df n1 p1 => ?_
 replace g6 := (p1 6 (by decide)).trans g6
 replace g13 := (p1 13 (by decide)).trans g13
 clear g114
 have g115 := n1
 clear n1 p1
 refine all_step (.int .i64 m) nb rfl rfl (wanted_g rfl rfl rfl g115) (fun w' => by simp [go_sem, g13]) (fun w' => by simp [go_sem, g13]) sz df (by decide) fun a1 sz df n1 p1 => ?_
 replace g6 := (p1 6 (by decide)).trans g6
 replace g115 := (p1 115 (by decide)).trans g115
 clear g13
 have g116 := n1
 clear n1 p1
 refine all_step (.int .i64 l) nb rfl rfl (wanted_g rfl rfl rfl g115) (fun w' => by simp [go_sem, g6]) (fun w' => by simp [go_sem, g6]) sz df (by decide) fun a1 sz df n1 p1 => ?_
 replace g115 := (p1 115 (by decide)).trans g115
 replace g116 := (p1 116 (by decide)).trans g116
 clear g6
 have g117 := n1
 clear n1 p1
 refine all_step (.bool true) nb rfl rfl (wanted_g rfl rfl rfl g115) (fun w' => by simp [go_sem, g116, g117, h1]) (fun w' => by simp [go_sem, g116, g117, h1]) sz df (by decide) fun a1 sz df n1 p1 => ?_
 replace g115 := (p1 115 (by decide)).trans g115
 clear g116 g117
 have g118 := n1
 clear n1 p1
 refine all_step (.bool true) nb rfl rfl (wanted_g rfl rfl rfl g115) (fun w' => by simp [go_sem, g118]) (fun w' => by simp [go_sem, g118]) sz df (by decide) fun a1 sz df n1 p1 => ?_
 replace g115 := (p1 115 (by decide)).trans g115
 clear g118
 have g119 := n1
 clear n1 p1
 refine all_skip rfl rfl (unwanted_g rfl rfl rfl g119) sz df (by decide) fun a1 sz df n1 p1 => ?_
 replace g115 := (p1 115 (by decide)).trans g115
 replace g119 := (p1 119 (by decide)).trans g119
 clear n1 p1
 refine all_skip rfl rfl (unwanted_g rfl rfl rfl g119) sz df (by decide) fun a1 sz df n1 p1 => ?_
 replace g115 := (p1 115 (by decide)).trans g115
 replace g119 := (p1 119 (by decide)).trans g119
 clear n1 p1
 refine all_skip rfl rfl (unwanted_g rfl rfl rfl g119) sz df (by decide) fun a1 sz df n1 p1 => ?_
 replace g115 := (p1 115 (by decide)).trans g115
 replace g119 := (p1 119 (by decide)).trans g119
 clear n1 p1
 refine all_skip rfl rfl (unwanted_g rfl rfl rfl g119) sz df (by decide) fun a1 sz df n1 p1 => ?_
 replace g115 := (p1 115 (by decide)).trans g115
 replace g119 := (p1 119 (by decide)).trans g119
 have g123 := n1
 clear n1 p1
 refine all_skip rfl rfl (unwanted_u rfl rfl rfl g123) sz df (by decide) fun a1 sz df n1 p1 => ?_
 replace g115 := (p1 115 (by decide)).trans g115
 replace g119 := (p1 119 (by decide)).trans g119
 replace g123 := (p1 123 (by decide)).trans g123
 clear n1 p1
 refine all_skip rfl rfl (unwanted_u rfl rfl rfl g123) sz df (by decide) fun a1 sz df n1 p1 => ?_
 replace g115 := (p1 115 (by decide)).trans g115
 replace g119 := (p1 119 (by decide)).trans g119
 replace g123 := (p1 123 (by decide)).trans g123
 clear n1 p1
 refine all_skip rfl rfl (unwanted_u rfl rfl rfl g123) sz df (by decide) fun a1 sz df n1 p1 => ?_
 replace g115 := (p1 115 (by decide)).trans g115
 replace g119 := (p1 119 (by decide)).trans g119
 replace g123 := (p1 123 (by decide)).trans g123
 have g126 := n1
 clear n1 p1
 refine all_skip rfl rfl (unwanted_u rfl rfl rfl g126) sz df (by decide) fun a1 sz df n1 p1 => ?_
 replace g115 := (p1 115 (by decide)).trans g115
 replace g119 := (p1 119 (by decide)).trans g119
 replace g123 := (p1 123 (by decide)).trans g123
 replace g126 := (p1 126 (by decide)).trans g126
 clear n1 p1
 refine all_skip rfl rfl (unwanted_u rfl rfl rfl g126) sz df (by decide) fun a1 sz df n1 p1 => ?_
 replace g115 := (p1 115 (by decide)).trans g115
 replace g119 := (p1 119 (by decide)).trans g119
 replace g123 := (p1 123 (by decide)).trans g123
 replace g126 := (p1 126 (by decide)).trans g126
 clear n1 p1
 refine all_skip rfl rfl (unwanted_u rfl rfl rfl g126) sz df (by decide) fun a1 sz df n1 p1 => ?_
 replace g115 := (p1 115 (by decide)).trans g115
 replace g119 := (p1 119 (by decide)).trans g119
 replace g123 := (p1 123 (by decide)).trans g123
 clear g126
 clear n1 p1
 refine all_skip rfl rfl (unwanted_u rfl rfl rfl g123) sz df (by decide) fun a1 sz df n1 p1 => ?_
 replace g115 := (p1 115 (by decide)).trans g115
 replace g119 := (p1 119 (by decide)).trans g119
 clear g123
 clear n1 p1
 refine all_skip rfl rfl (unwanted_g rfl rfl rfl g119) sz df (by decide) fun a1 sz df n1 p1 => ?_
 replace g115 := (p1 115 (by decide)).trans g115
 replace g119 := (p1 119 (by decide)).trans g119
 have g131 := n1
 clear n1 p1
 refine all_step (.bool true) nb rfl rfl (wanted_g rfl rfl rfl g115) (fun w' => by simp [go_sem, g119, g131]) (fun w' => by simp [go_sem, g119, g131]) sz df (by decide) fun a1 sz df n1 p1 => ?_
 replace g115 := (p1 115 (by decide)).trans g115
 clear g119 g131
 have g132 := n1
 clear n1 p1
 refine all_step (.bool true) nb rfl rfl rfl (fun w' => by simp [go_sem, g115, g132]) (fun w' => by simp [go_sem, g115, g132]) sz df (by decide) fun a1 sz df n1 p1 => ?_
 clear g115 g132
 have g133 := n1
 clear n1 p1
 refine all_step (.bool true) nb rfl rfl rfl (fun w' => by simp [go_sem, g133]) (fun w' => by simp [go_sem, g133]) sz df (by decide) fun a1 sz df n1 p1 => ?_
 clear g133
 have g134 := n1
 clear n1 p1
 refine all_stepc 14 #[] nb rfl rfl (wanted_g rfl rfl rfl g134) (fun w' => by simp [go_sem]) (fun w' => by simp [go_sem]; exact ev_call Tryz.func14 (by kernel_rfl) (by kernel_rfl)) sz df (by decide) (v := .bool true) (fun c w' t => stored_leads hK t _ _) fun a1 wn ho sz df n1 p1 => ?_
 replace hK := ho.kinds hK
 replace hold := hold.trans ho
 clear ho
 replace g134 := (p1 134 (by decide)).trans g134
 have g135 := n1
 clear n1 p1
 refine all_step (.bool true) nb rfl rfl rfl (fun w' => by simp [go_sem, g134, g135]) (fun w' => by simp [go_sem, g134, g135]) sz df (by decide) fun a1 sz df n1 p1 => ?_
 clear g134 g135
 have g136 := n1
 clear n1 p1
 refine all_step (.bool true) nb rfl rfl rfl (fun w' => by simp [go_sem, g136]) (fun w' => by simp [go_sem, g136]) sz df (by decide) fun a1 sz df n1 p1 => ?_
 clear g136
 have g4 := n1
 clear n1 p1
 refine all_end ?_
 refine all_ret ?_
 intro w' t
 exact .done (as_leaves g4 df (hold.twin0 t))
theorem as_tailB {r0 rg rs r3 r4 r5 s6 r7 f8 r9 r10 r11 f12 r13 r14 r15 : Code} (hc : Tryz.f5.body = some (.seq r0 (.seq (.seq rg (.cond (.tmp 30) (.seq rs .ret) .skip)) (.seq r3 (.seq r4 (.seq (.seq r5 (.cond (.tmp 48) (.seq s6 .ret) .skip)) (.seq (.seq r7 (.cond (.tmp 86) (.seq f8 .ret) .skip)) (.seq (.seq r9 (.cond (.tmp 88) (.seq r10 (.seq r11 (.cond (.tmp 101) (.seq f12 .ret) .skip))) .skip)) (.seq r13 (.seq r14 (.seq r15 .ret))))))))))) {k l i m : Int} {w w0 : World} (hold : Old w0 w) (hK : KindsAt w) (h1 : decide (l < m) = false) (h2 : (m == l) = true) (h3 : decide (k < 0) = true)
 {a : Act} (sz : a.tmps.size = 137) (df : a.defers = []) (g5 : a.tmps[5]? = some (.int .i64 k)) (g6 : a.tmps[6]? = some (.int .i64 l)) (g13 : a.tmps[13]? = some (.int .i64 m)) (g14 : a.tmps[14]? = some (.bool true)) :
 LeadsA Tryz.prog (Leaving0 Tryz.prog fun v w' => v = .bool true ∧ Old w0 w') ((Go.Conc.base 5).at a [.code (.seq r15 .ret)]) [] w := by
 have nb : (Go.Conc.base 5).kind = .normal := rfl
 simp only [Tryz.f5, Option.some.injEq, Code.seq.injEq, Code.cond.injEq] at hc
 obtain ⟨-, -, -, -, -, -, -, -, -, h23, -⟩ := hc
 rw [← h23]
 clear h23
 refine all_seq ?_
 refine all_region ?_
 simp only [List.size_toArray, List.length_cons, List.length_nil, Nat.reduceAdd, Nat.zero_add, List.range, List.range.loop]
 refine all_step (.bool true) nb rfl rfl rfl (fun w' => by simp [go_sem, g14]) (fun w' => by simp [go_sem, g14]) sz df (by decide) fun a1 sz df n1 p1 => ?_
 replace g5 := (p1 5 (by decide)).trans g5
 replace g6 := (p1 6 (by decide)).trans g6
 replace g13 := (p1 13 (by decide)).trans g13
 clear g14
 have g114 := n1
 clear n1 p1
 refine all_step (.bool true) nb rfl rfl rfl (fun w' => by simp [go_sem, g114]) (fun w' => by simp [go_sem, g114]) sz df (by decide) fun a1 sz df n1 p1 => ?_
 replace g5 := (p1 5 (by decide)).trans g5
 replace g6 := (p1 6 (by decide)).trans g6
 replace g13 := (p1 13 (by decide)).trans g13
 clear g114
 have g115 := n1
 clear n1 p1
 refine all_step (.int .i64 m) nb rfl rfl (wanted_g rfl rfl rfl g115) (fun w' => by simp [go_sem, g13]) (fun w' => by simp [go_sem, g13]) sz df (by decide) fun a1 sz df n1 p1 => ?_
 replace g5 := (p1 5 (by decide)).trans g5
 replace g6 := (p1 6 (by decide)).trans g6
 replace g13 := (p1 13 (by decide)).trans g13
 replace g115 := (p1 115 (by decide)).trans g115
 have g116 := n1
 clear n1 p1
 refine all_step (.int .i64 l) nb rfl rfl (wanted_g rfl rfl rfl g115) (fun w' => by simp [go_sem, g6]) (fun w' => by simp [go_sem, g6]) sz df (by decide) fun a1 sz df n1 p1 => ?_
 replace g5 := (p1 5 (by decide)).trans g5
 replace g6 := (p1 6 (by decide)).trans g6
 replace g13 := (p1 13 (by decide)).trans g13
 replace g115 := (p1 115 (by decide)).trans g115
 replace g116 := (p1 116 (by decide)).trans g116
 have g117 := n1
 clear n1 p1
 refine all_step (.bool false) nb rfl rfl (wanted_g rfl rfl rfl g115) (fun w' => by simp [go_sem, g116, g117, h1]) (fun w' => by simp [go_sem, g116, g117, h1]) sz df (by decide) fun a1 sz df n1 p1 => ?_
 replace g5 := (p1 5 (by decide)).trans g5
 replace g6 := (p1 6 (by decide)).trans g6
 replace g13 := (p1 13 (by decide)).trans g13
 replace g115 := (p1 115 (by decide)).trans g115
 clear g116 g117
 have g118 := n1
 clear n1 p1
 refine all_step (.bool false) nb rfl rfl (wanted_g rfl rfl rfl g115) (fun w' => by simp [go_sem, g118]) (fun w' => by simp [go_sem, g118]) sz df (by decide) fun a1 sz df n1 p1 => ?_
 replace g5 := (p1 5 (by decide)).trans g5
 replace g6 := (p1 6 (by decide)).trans g6
 replace g13 := (p1 13 (by decide)).trans g13
 replace g115 := (p1 115 (by decide)).trans g115
 clear g118
 have g119 := n1
 clear n1 p1
 refine all_step (.int .i64 m) nb rfl rfl (wanted_g rfl rfl rfl g119) (fun w' => by simp [go_sem, g13]) (fun w' => by simp [go_sem, g13]) sz df (by decide) fun a1 sz df n1 p1 => ?_
 replace g5 := (p1 5 (by decide)).trans g5
 replace g6 := (p1 6 (by decide)).trans g6
 replace g115 := (p1 115 (by decide)).trans g115
 replace g119 := (p1 119 (by decide)).trans g119
 clear g13
 have g120 := n1
 clear n1 p1
 refine all_step (.int .i64 l) nb rfl rfl (wanted_g rfl rfl rfl g119) (fun w' => by simp [go_sem, g6]) (fun w' => by simp [go_sem, g6]) sz df (by decide) fun a1 sz df n1 p1 => ?_
 replace g5 := (p1 5 (by decide)).trans g5
 replace g115 := (p1 115 (by decide)).trans g115
 replace g119 := (p1 119 (by decide)).trans g119
 replace g120 := (p1 120 (by decide)).trans g120
 clear g6
 have g121 := n1
 clear n1 p1
 refine all_step (.bool true) nb rfl rfl (wanted_g rfl rfl rfl g119) (fun w' => by simp [go_sem, g120, g121, h2]) (fun w' => by simp [go_sem, g120, g121, h2]) sz df (by decide) fun a1 sz df n1 p1 => ?_
 replace g5 := (p1 5 (by decide)).trans g5
 replace g115 := (p1 115 (by decide)).trans g115
 replace g119 := (p1 119 (by decide)).trans g119
 clear g120 g121
 have g122 := n1
 clear n1 p1
 refine all_step (.bool true) nb rfl rfl (wanted_g rfl rfl rfl g119) (fun w' => by simp [go_sem, g122]) (fun w' => by simp [go_sem, g122]) sz df (by decide) fun a1 sz df n1 p1 => ?_
 replace g5 := (p1 5 (by decide)).trans g5
 replace g115 := (p1 115 (by decide)).trans g115
 replace g119 := (p1 119 (by decide)).trans g119
 clear g122
 have g123 := n1
 clear n1 p1
 refine all_step (.int .i64 k) nb rfl rfl (wanted_g rfl rfl rfl g123) (fun w' => by simp [go_sem, g5]) (fun w' => by simp [go_sem, g5]) sz df (by decide) fun a1 sz df n1 p1 => ?_
 replace g115 := (p1 115 (by decide)).trans g115
 replace g119 := (p1 119 (by decide)).trans g119
 replace g123 := (p1 123 (by decide)).trans g123
 clear g5
 have g124 := n1
 clear n1 p1
 refine all_step (.bool true) nb rfl rfl (wanted_g rfl rfl rfl g123) (fun w' => by simp [go_sem, g124, h3]) (fun w' => by simp [go_sem, g124, h3]) sz df (by decide) fun a1 sz df n1 p1 => ?_
 replace g115 := (p1 115 (by decide)).trans g115
 replace g119 := (p1 119 (by decide)).trans g119
 replace g123 := (p1 123 (by decide)).trans g123
 clear g124
 have g125 := n1
 clear n1 p1
 refine all_step (.bool true) nb rfl rfl (wanted_g rfl rfl rfl g123) (fun w' => by simp [go_sem, g125]) (fun w' => by simp [go_sem, g125]) sz df (by decide) fun a1 sz df n1 p1 => ?_
 replace g115 := (p1 115 (by decide)).trans g115
 replace g119 := (p1 119 (by decide)).trans g119
 replace g123 := (p1 123 (by decide)).trans g123
 clear g125
 have g126 := n1
 clear n1 p1
 refine all_skip rfl rfl (unwanted_g rfl rfl rfl g126) sz df (by decide) fun a1 sz df n1 p1 => ?_
 replace g115 := (p1 115 (by decide)).trans g115
 replace g119 := (p1 119 (by decide)).trans g119
 replace g123 := (p1 123 (by decide)).trans g123
 replace g126 := (p1 126 (by decide)).trans g126
 clear n1 p1
 refine all_skip rfl rfl (unwanted_g rfl rfl rfl g126) sz df (by decide) fun a1 sz df n1 p1 => ?_
 replace g115 := (p1 115 (by decide)).trans g115
 replace g119 := (p1 119 (by decide)).trans g119
 replace g123 := (p1 123 (by decide)).trans g123
 replace g126 := (p1 126 (by decide)).trans g126
 clear n1 p1
 refine all_skip rfl rfl (unwanted_g rfl rfl rfl g126) sz df (by decide) fun a1 sz df n1 p1 => ?_
 replace g115 := (p1 115 (by decide)).trans g115
 replace g119 := (p1 119 (by decide)).trans g119
 replace g123 := (p1 123 (by decide)).trans g123
 replace g126 := (p1 126 (by decide)).trans g126
 have g129 := n1
 clear n1 p1
 refine all_step (.bool true) nb rfl rfl (wanted_g rfl rfl rfl g123) (fun w' => by simp [go_sem, g126, g129]) (fun w' => by simp [go_sem, g126, g129]) sz df (by decide) fun a1 sz df n1 p1 => ?_
 replace g115 := (p1 115 (by decide)).trans g115
 replace g119 := (p1 119 (by decide)).trans g119
 replace g123 := (p1 123 (by decide)).trans g123
 clear g126 g129
 have g130 := n1
 clear n1 p1
 refine all_step (.bool true) nb rfl rfl (wanted_g rfl rfl rfl g119) (fun w' => by simp [go_sem, g123, g130]) (fun w' => by simp [go_sem, g123, g130]) sz df (by decide) fun a1 sz df n1 p1 => ?_
 replace g115 := (p1 115 (by decide)).trans g115
 replace g119 := (p1 119 (by decide)).trans g119
 clear g123 g130
 have g131 := n1
 clear n1 p1
 refine all_step (.bool true) nb rfl rfl (wanted_g rfl rfl rfl g115) (fun w' => by simp [go_sem, g119, g131]) (fun w' => by simp [go_sem, g119, g131]) sz df (by decide) fun a1 sz df n1 p1 => ?_
 replace g115 := (p1 115 (by decide)).trans g115
 clear g119 g131
 have g132 := n1
 clear n1 p1
 refine all_step (.bool true) nb rfl rfl rfl (fun w' => by simp [go_sem, g115, g132]) (fun w' => by simp [go_sem, g115, g132]) sz df (by decide) fun a1 sz df n1 p1 => ?_
 clear g115 g132
 have g133 := n1
 clear n1 p1
 refine all_step (.bool true) nb rfl rfl rfl (fun w' => by simp [go_sem, g133]) (fun w' => by simp [go_sem, g133]) sz df (by decide) fun a1 sz df n1 p1 => ?_
 clear g133
 have g134 := n1
 clear n1 p1
 refine all_stepc 14 #[] nb rfl rfl (wanted_g rfl rfl rfl g134) (fun w' => by simp [go_sem]) (fun w' => by simp [go_sem]; exact ev_call Tryz.func14 (by kernel_rfl) (by kernel_rfl)) sz df (by decide) (v := .bool true) (fun c w' t => stored_leads hK t _ _) fun a1 wn ho sz df n1 p1 => ?_
 replace hK := ho.kinds hK
 replace hold := hold.trans ho
 clear ho
 replace g134 := (p1 134 (by decide)).trans g134
 have g135 := n1
 clear n1 p1
 refine all_step (.bool true) nb rfl rfl rfl (fun w' => by simp [go_sem, g134, g135]) (fun w' => by simp [go_sem, g134, g135]) sz df (by decide) fun a1 sz df n1 p1 => ?_
 clear g134 g135
 have g136 := n1
 clear n1 p1
 refine all_step (.bool true) nb rfl rfl rfl (fun w' => by simp [go_sem, g136]) (fun w' => by simp [go_sem, g136]) sz df (by decide) fun a1 sz df n1 p1 => ?_
 clear g136
 have g4 := n1
 clear n1 p1
 refine all_end ?_
 refine all_ret ?_
 intro w' t
 exact .done (as_leaves g4 df (hold.twin0 t))
theorem as_tailC {r0 rg rs r3 r4 r5 s6 r7 f8 r9 r10 r11 f12 r13 r14 r15 : Code} (hc : Tryz.f5.body = some (.seq r0 (.seq (.seq rg (.cond (.tmp 30) (.seq rs .ret) .skip)) (.seq r3 (.seq r4 (.seq (.seq r5 (.cond (.tmp 48) (.seq s6 .ret) .skip)) (.seq (.seq r7 (.cond (.tmp 86) (.seq f8 .ret) .skip)) (.seq (.seq r9 (.cond (.tmp 88) (.seq r10 (.seq r11 (.cond (.tmp 101) (.seq f12 .ret) .skip))) .skip)) (.seq r13 (.seq r14 (.seq r15 .ret))))))))))) {k l i m : Int} {w w0 : World} (hold : Old w0 w) (hK : KindsAt w) (h1 : decide (l < m) = false) (h2 : (m == l) = true) (h3 : decide (k < 0) = false) (h4 : decide (k ≤ i) = true)
 {a : Act} (sz : a.tmps.size = 137) (df : a.defers = []) (g5 : a.tmps[5]? = some (.int .i64 k)) (g6 : a.tmps[6]? = some (.int .i64 l)) (g12 : a.tmps[12]? = some (.int .i64 i)) (g13 : a.tmps[13]? = some (.int .i64 m)) (g14 : a.tmps[14]? = some (.bool true)) :
 LeadsA Tryz.prog (Leaving0 Tryz.prog fun v w' => v = .bool true ∧ Old w0 w') ((Go.Conc.base 5).at a [.code (.seq r15 .ret)]) [] w := by
 have nb : (Go.Conc.base 5).kind = .normal := rfl
 simp only [Tryz.f5, Option.some.injEq, Code.seq.injEq, Code.cond.injEq] at hc
 obtain ⟨-, -, -, -, -, -, -, -, -, h23, -⟩ := hc
 rw [← h23]
 clear h23
 refine all_seq ?_
 refine all_region ?_
 simp only [List.size_toArray, List.length_cons, List.length_nil, Nat.reduceAdd, Nat.zero_add, List.range, List.range.loop]
 refine all_step (.bool true) nb rfl rfl rfl (fun w' => by simp [go_sem, g14]) (fun w' => by simp [go_sem, g14]) sz df (by decide) fun a1 sz df n1 p1 => ?_
 replace g5 := (p1 5 (by decide)).trans g5
 replace g6 := (p1 6 (by decide)).trans g6
 replace g12 := (p1 12 (by decide)).trans g12
 replace g13 := (p1 13 (by decide)).trans g13
 clear g14
 have g114 := n1
 clear n1 p1
 refine all_step (.bool true) nb rfl rfl rfl (fun w' => by simp [go_sem, g114]) (fun w' => by simp [go_sem, g114]) sz df (by decide) fun a1 sz df n1 p1 => ?_
 replace g5 := (p1 5 (by decide)).trans g5
 replace g6 := (p1 6 (by decide)).trans g6
 replace g12 := (p1 12 (by decide)).trans g12
 replace g13 := (p1 13 (by decide)).trans g13
 clear g114
 have g115 := n1
 clear n1 p1
 refine all_step (.int .i64 m) nb rfl rfl (wanted_g rfl rfl rfl g115) (fun w' => by simp [go_sem, g13]) (fun w' => by simp [go_sem, g13]) sz df (by decide) fun a1 sz df n1 p1 => ?_
 replace g5 := (p1 5 (by decide)).trans g5
 replace g6 := (p1 6 (by decide)).trans g6
 replace g12 := (p1 12 (by decide)).trans g12
 replace g13 := (p1 13 (by decide)).trans g13
 replace g115 := (p1 115 (by decide)).trans g115
 have g116 := n1
 clear n1 p1
 refine all_step (.int .i64 l) nb rfl rfl (wanted_g rfl rfl rfl g115) (fun w' => by simp [go_sem, g6]) (fun w' => by simp [go_sem, g6]) sz df (by decide) fun a1 sz df n1 p1 => ?_
 replace g5 := (p1 5 (by decide)).trans g5
 replace g6 := (p1 6 (by decide)).trans g6
 replace g12 := (p1 12 (by decide)).trans g12
 replace g13 := (p1 13 (by decide)).trans g13
 replace g115 := (p1 115 (by decide)).trans g115
 replace g116 := (p1 116 (by decide)).trans g116
 have g117 := n1
 clear n1 p1
 refine all_step (.bool false) nb rfl rfl (wanted_g rfl rfl rfl g115) (fun w' => by simp [go_sem, g116, g117, h1]) (fun w' => by simp [go_sem, g116, g117, h1]) sz df (by decide) fun a1 sz df n1 p1 => ?_
 replace g5 := (p1 5 (by decide)).trans g5
 replace g6 := (p1 6 (by decide)).trans g6
 replace g12 := (p1 12 (by decide)).trans g12
 replace g13 := (p1 13 (by decide)).trans g13
 replace g115 := (p1 115 (by decide)).trans g115
 clear g116 g117
 have g118 := n1
 clear n1 p1
 refine all_step (.bool false) nb rfl rfl (wanted_g rfl rfl rfl g115) (fun w' => by simp [go_sem, g118]) (fun w' => by simp [go_sem, g118]) sz df (by decide) fun a1 sz df n1 p1 => ?_
 replace g5 := (p1 5 (by decide)).trans g5
 replace g6 := (p1 6 (by decide)).trans g6
 replace g12 := (p1 12 (by decide)).trans g12
 replace g13 := (p1 13 (by decide)).trans g13
 replace g115 := (p1 115 (by decide)).trans g115
 clear g118
 have g119 := n1
 clear n1 p1
 refine all_step (.int .i64 m) nb rfl rfl (wanted_g rfl rfl rfl g119) (fun w' => by simp [go_sem, g13]) (fun w' => by simp [go_sem, g13]) sz df (by decide) fun a1 sz df n1 p1 => ?_
 replace g5 := (p1 5 (by decide)).trans g5
 replace g6 := (p1 6 (by decide)).trans g6
 replace g12 := (p1 12 (by decide)).trans g12
 replace g115 := (p1 115 (by decide)).trans g115
 replace g119 := (p1 119 (by decide)).trans g119
 clear g13
 have g120 := n1
 clear n1 p1
 refine all_step (.int .i64 l) nb rfl rfl (wanted_g rfl rfl rfl g119) (fun w' => by simp [go_sem, g6]) (fun w' => by simp [go_sem, g6]) sz df (by decide) fun a1 sz df n1 p1 => ?_
 replace g5 := (p1 5 (by decide)).trans g5
 replace g12 := (p1 12 (by decide)).trans g12
 replace g115 := (p1 115 (by decide)).trans g115
 replace g119 := (p1 119 (by decide)).trans g119
 replace g120 := (p1 120 (by decide)).trans g120
 clear g6
 have g121 := n1
 clear n1 p1
 refine all_step (.bool true) nb rfl rfl (wanted_g rfl rfl rfl g119) (fun w' => by simp [go_sem, g120, g121, h2]) (fun w' => by simp [go_sem, g120, g121, h2]) sz df (by decide) fun a1 sz df n1 p1 => ?_
 replace g5 := (p1 5 (by decide)).trans g5
 replace g12 := (p1 12 (by decide)).trans g12
 replace g115 := (p1 115 (by decide)).trans g115
 replace g119 := (p1 119 (by decide)).trans g119
 clear g120 g121
 have g122 := n1
 clear n1 p1
 refine all_step (.bool true) nb rfl rfl (wanted_g rfl rfl rfl g119) (fun w' => by simp [go_sem, g122]) (fun w' => by simp [go_sem, g122]) sz df (by decide) fun a1 sz df n1 p1 => ?_
 replace g5 := (p1 5 (by decide)).trans g5
 replace g12 := (p1 12 (by decide)).trans g12
 replace g115 := (p1 115 (by decide)).trans g115
 replace g119 := (p1 119 (by decide)).trans g119
 clear g122
 have g123 := n1
 clear n1 p1
 refine all_step (.int .i64 k) nb rfl rfl (wanted_g rfl rfl rfl g123) (fun w' => by simp [go_sem, g5]) (fun w' => by simp [go_sem, g5]) sz df (by decide) fun a1 sz df n1 p1 => ?_
 replace g5 := (p1 5 (by decide)).trans g5
 replace g12 := (p1 12 (by decide)).trans g12
 replace g115 := (p1 115 (by decide)).trans g115
 replace g119 := (p1 119 (by decide)).trans g119
 replace g123 := (p1 123 (by decide)).trans g123
 have g124 := n1
 clear n1 p1
 refine all_step (.bool false) nb rfl rfl (wanted_g rfl rfl rfl g123) (fun w' => by simp [go_sem, g124, h3]) (fun w' => by simp [go_sem, g124, h3]) sz df (by decide) fun a1 sz df n1 p1 => ?_
 replace g5 := (p1 5 (by decide)).trans g5
 replace g12 := (p1 12 (by decide)).trans g12
 replace g115 := (p1 115 (by decide)).trans g115
 replace g119 := (p1 119 (by decide)).trans g119
 replace g123 := (p1 123 (by decide)).trans g123
 clear g124
 have g125 := n1
 clear n1 p1
 refine all_step (.bool false) nb rfl rfl (wanted_g rfl rfl rfl g123) (fun w' => by simp [go_sem, g125]) (fun w' => by simp [go_sem, g125]) sz df (by decide) fun a1 sz df n1 p1 => ?_
 replace g5 := (p1 5 (by decide)).trans g5
 replace g12 := (p1 12 (by decide)).trans g12
 replace g115 := (p1 115 (by decide)).trans g115
 replace g119 := (p1 119 (by decide)).trans g119
 replace g123 := (p1 123 (by decide)).trans g123
 clear g125
 have g126 := n1
 clear n1 p1
 refine all_step (.int .i64 k) nb rfl rfl (wanted_g rfl rfl rfl g126) (fun w' => by simp [go_sem, g5]) (fun w' => by simp [go_sem, g5]) sz df (by decide) fun a1 sz df n1 p1 => ?_
 replace g12 := (p1 12 (by decide)).trans g12
 replace g115 := (p1 115 (by decide)).trans g115
 replace g119 := (p1 119 (by decide)).trans g119
 replace g123 := (p1 123 (by decide)).trans g123
 replace g126 := (p1 126 (by decide)).trans g126
 clear g5
 have g127 := n1
 clear n1 p1
 refine all_step (.int .i64 i) nb rfl rfl (wanted_g rfl rfl rfl g126) (fun w' => by simp [go_sem, g12]) (fun w' => by simp [go_sem, g12]) sz df (by decide) fun a1 sz df n1 p1 => ?_
 replace g115 := (p1 115 (by decide)).trans g115
 replace g119 := (p1 119 (by decide)).trans g119
 replace g123 := (p1 123 (by decide)).trans g123
 replace g126 := (p1 126 (by decide)).trans g126
 replace g127 := (p1 127 (by decide)).trans g127
 clear g12
 have g128 := n1
 clear n1 p1
 refine all_step (.bool true) nb rfl rfl (wanted_g rfl rfl rfl g126) (fun w' => by simp [go_sem, g127, g128, h4]) (fun w' => by simp [go_sem, g127, g128, h4]) sz df (by decide) fun a1 sz df n1 p1 => ?_
 replace g115 := (p1 115 (by decide)).trans g115
 replace g119 := (p1 119 (by decide)).trans g119
 replace g123 := (p1 123 (by decide)).trans g123
 replace g126 := (p1 126 (by decide)).trans g126
 clear g127 g128
 have g129 := n1
 clear n1 p1
 refine all_step (.bool true) nb rfl rfl (wanted_g rfl rfl rfl g123) (fun w' => by simp [go_sem, g126, g129]) (fun w' => by simp [go_sem, g126, g129]) sz df (by decide) fun a1 sz df n1 p1 => ?_
 replace g115 := (p1 115 (by decide)).trans g115
 replace g119 := (p1 119 (by decide)).trans g119
 replace g123 := (p1 123 (by decide)).trans g123
 clear g126 g129
 have g130 := n1
 clear n1 p1
 refine all_step (.bool true) nb rfl rfl (wanted_g rfl rfl rfl g119) (fun w' => by simp [go_sem, g123, g130]) (fun w' => by simp [go_sem, g123, g130]) sz df (by decide) fun a1 sz df n1 p1 => ?_
 replace g115 := (p1 115 (by decide)).trans g115
 replace g119 := (p1 119 (by decide)).trans g119
 clear g123 g130
 have g131 := n1
 clear n1 p1
 refine all_step (.bool true) nb rfl rfl (wanted_g rfl rfl rfl g115) (fun w' => by simp [go_sem, g119, g131]) (fun w' => by simp [go_sem, g119, g131]) sz df (by decide) fun a1 sz df n1 p1 => ?_
 replace g115 := (p1 115 (by decide)).trans g115
 clear g119 g131
 have g132 := n1
 clear n1 p1
 refine all_step (.bool true) nb rfl rfl rfl (fun w' => by simp [go_sem, g115, g132]) (fun w' => by simp [go_sem, g115, g132]) sz df (by decide) fun a1 sz df n1 p1 => ?_
 clear g115 g132
 have g133 := n1
 clear n1 p1
 refine all_step (.bool true) nb rfl rfl rfl (fun w' => by simp [go_sem, g133]) (fun w' => by simp [go_sem, g133]) sz df (by decide) fun a1 sz df n1 p1 => ?_
 clear g133
 have g134 := n1
 clear n1 p1
 refine all_stepc 14 #[] nb rfl rfl (wanted_g rfl rfl rfl g134) (fun w' => by simp [go_sem]) (fun w' => by simp [go_sem]; exact ev_call Tryz.func14 (by kernel_rfl) (by kernel_rfl)) sz df (by decide) (v := .bool true) (fun c w' t => stored_leads hK t _ _) fun a1 wn ho sz df n1 p1 => ?_
 replace hK := ho.kinds hK
 replace hold := hold.trans ho
 clear ho
 replace g134 := (p1 134 (by decide)).trans g134
 have g135 := n1
 clear n1 p1
 refine all_step (.bool true) nb rfl rfl rfl (fun w' => by simp [go_sem, g134, g135]) (fun w' => by simp [go_sem, g134, g135]) sz df (by decide) fun a1 sz df n1 p1 => ?_
 clear g134 g135
 have g136 := n1
 clear n1 p1
 refine all_step (.bool true) nb rfl rfl rfl (fun w' => by simp [go_sem, g136]) (fun w' => by simp [go_sem, g136]) sz df (by decide) fun a1 sz df n1 p1 => ?_
 clear g136
 have g4 := n1
 clear n1 p1
 refine all_end ?_
 refine all_ret ?_
 intro w' t
 exact .done (as_leaves g4 df (hold.twin0 t))
theorem as_early2 {r0 rg rs r3 r4 r5 s6 r7 f8 r9 r10 r11 f12 r13 r14 r15 : Code} (hc : Tryz.f5.body = some (.seq r0 (.seq (.seq rg (.cond (.tmp 30) (.seq rs .ret) .skip)) (.seq r3 (.seq r4 (.seq (.seq r5 (.cond (.tmp 48) (.seq s6 .ret) .skip)) (.seq (.seq r7 (.cond (.tmp 86) (.seq f8 .ret) .skip)) (.seq (.seq r9 (.cond (.tmp 88) (.seq r10 (.seq r11 (.cond (.tmp 101) (.seq f12 .ret) .skip))) .skip)) (.seq r13 (.seq r14 (.seq r15 .ret))))))))))) {w w0 : World} (hold : Old w0 w) (hK : KindsAt w) {a : Act} (sz : a.tmps.size = 137) (df : a.defers = [])  {kk : List Item} :
 LeadsA Tryz.prog (Leaving0 Tryz.prog fun v w' => v = .bool true ∧ Old w0 w') ((Go.Conc.base 5).at a (.code (.seq rs .ret) :: kk)) [] w := by
 have nb : (Go.Conc.base 5).kind = .normal := rfl
 simp only [Tryz.f5, Option.some.injEq, Code.seq.injEq, Code.cond.injEq] at hc
 obtain ⟨-, ⟨-, -, ⟨h9, -⟩, -⟩, -⟩ := hc
 rw [← h9]
 clear h9
 refine all_seq ?_
 refine all_region ?_
 simp only [List.size_toArray, List.length_cons, List.length_nil, Nat.reduceAdd, Nat.zero_add, List.range, List.range.loop]
 refine all_stepc 14 #[] nb rfl rfl rfl (fun w' => by simp [go_sem]) (fun w' => by simp [go_sem]; exact ev_call Tryz.func14 (by kernel_rfl) (by kernel_rfl)) sz df (by decide) (v := .bool true) (fun c w' t => stored_leads hK t _ _) fun a1 wn ho sz df n1 p1 => ?_
 replace hK := ho.kinds hK
 replace hold := hold.trans ho
 clear ho
 have g31 := n1
 clear n1 p1
 refine all_step (.bool true) nb rfl rfl rfl (fun w' => by simp [go_sem, g31]) (fun w' => by simp [go_sem, g31]) sz df (by decide) fun a1 sz df n1 p1 => ?_
 clear g31
 have g4 := n1
 clear n1 p1
 refine all_end ?_
 refine all_ret ?_
 intro w' t
 exact .done (as_leaves g4 df (hold.twin0 t))
theorem as_early6 {r0 rg rs r3 r4 r5 s6 r7 f8 r9 r10 r11 f12 r13 r14 r15 : Code} (hc : Tryz.f5.body = some (.seq r0 (.seq (.seq rg (.cond (.tmp 30) (.seq rs .ret) .skip)) (.seq r3 (.seq r4 (.seq (.seq r5 (.cond (.tmp 48) (.seq s6 .ret) .skip)) (.seq (.seq r7 (.cond (.tmp 86) (.seq f8 .ret) .skip)) (.seq (.seq r9 (.cond (.tmp 88) (.seq r10 (.seq r11 (.cond (.tmp 101) (.seq f12 .ret) .skip))) .skip)) (.seq r13 (.seq r14 (.seq r15 .ret))))))))))) {w w0 : World} (hold : Old w0 w) (hK : KindsAt w) {a : Act} (sz : a.tmps.size = 137) (df : a.defers = []) (g7 : a.tmps[7]? = some (.int .i64 10)) (g9 : a.tmps[9]? = some (.int .i64 0)) {kk : List Item} :
 LeadsA Tryz.prog (Leaving0 Tryz.prog fun v w' => v = .bool true ∧ Old w0 w') ((Go.Conc.base 5).at a (.code (.seq s6 .ret) :: kk)) [] w := by
 have nb : (Go.Conc.base 5).kind = .normal := rfl
 simp only [Tryz.f5, Option.some.injEq, Code.seq.injEq, Code.cond.injEq] at hc
 obtain ⟨-, -, -, -, ⟨-, -, ⟨h9, -⟩, -⟩, -⟩ := hc
 rw [← h9]
 clear h9
 refine all_seq ?_
 refine all_region ?_
 simp only [List.size_toArray, List.length_cons, List.length_nil, Nat.reduceAdd, Nat.zero_add, List.range, List.range.loop]
 refine all_step (.int .i64 0) nb rfl rfl rfl (fun w' => by simp [go_sem, g9]) (fun w' => by simp [go_sem, g9]) sz df (by decide) fun a1 sz df n1 p1 => ?_
 replace g7 := (p1 7 (by decide)).trans g7
 clear g9
 have g49 := n1
 clear n1 p1
 refine all_step (.bool true) nb rfl rfl rfl (fun w' => by simp [go_sem, g49]) (fun w' => by simp [go_sem, g49]) sz df (by decide) fun a1 sz df n1 p1 => ?_
 replace g7 := (p1 7 (by decide)).trans g7
 clear g49
 have g50 := n1
 clear n1 p1
 refine all_step (.bool true) nb rfl rfl rfl (fun w' => by simp [go_sem, g50]) (fun w' => by simp [go_sem, g50]) sz df (by decide) fun a1 sz df n1 p1 => ?_
 replace g7 := (p1 7 (by decide)).trans g7
 clear g50
 have g51 := n1
 clear n1 p1
 refine all_step (.int .i64 10) nb rfl rfl (wanted_g rfl rfl rfl g51) (fun w' => by simp [go_sem, g7]) (fun w' => by simp [go_sem, g7]) sz df (by decide) fun a1 sz df n1 p1 => ?_
 replace g51 := (p1 51 (by decide)).trans g51
 clear g7
 have g52 := n1
 clear n1 p1
 refine all_step (.bool true) nb rfl rfl (wanted_g rfl rfl rfl g51) (fun w' => by simp [go_sem, g52]) (fun w' => by simp [go_sem, g52]) sz df (by decide) fun a1 sz df n1 p1 => ?_
 replace g51 := (p1 51 (by decide)).trans g51
 clear g52
 have g53 := n1
 clear n1 p1
 refine all_step (.bool true) nb rfl rfl rfl (fun w' => by simp [go_sem, g51, g53]) (fun w' => by simp [go_sem, g51, g53]) sz df (by decide) fun a1 sz df n1 p1 => ?_
 clear g51 g53
 have g54 := n1
 clear n1 p1
 refine all_step (.bool true) nb rfl rfl rfl (fun w' => by simp [go_sem, g54]) (fun w' => by simp [go_sem, g54]) sz df (by decide) fun a1 sz df n1 p1 => ?_
 clear g54
 have g55 := n1
 clear n1 p1
 refine all_stepc 14 #[] nb rfl rfl (wanted_g rfl rfl rfl g55) (fun w' => by simp [go_sem]) (fun w' => by simp [go_sem]; exact ev_call Tryz.func14 (by kernel_rfl) (by kernel_rfl)) sz df (by decide) (v := .bool true) (fun c w' t => stored_leads hK t _ _) fun a1 wn ho sz df n1 p1 => ?_
 replace hK := ho.kinds hK
 replace hold := hold.trans ho
 clear ho
 replace g55 := (p1 55 (by decide)).trans g55
 have g56 := n1
 clear n1 p1
 refine all_step (.bool true) nb rfl rfl rfl (fun w' => by simp [go_sem, g55, g56]) (fun w' => by simp [go_sem, g55, g56]) sz df (by decide) fun a1 sz df n1 p1 => ?_
 clear g55 g56
 have g57 := n1
 clear n1 p1
 refine all_step (.bool true) nb rfl rfl rfl (fun w' => by simp [go_sem, g57]) (fun w' => by simp [go_sem, g57]) sz df (by decide) fun a1 sz df n1 p1 => ?_
 clear g57
 have g4 := n1
 clear n1 p1
 refine all_end ?_
 refine all_ret ?_
 intro w' t
 exact .done (as_leaves g4 df (hold.twin0 t))
end Go.Proofs.YtgemjjdkjmpmlaaGreatDoor
