/- Leads to StoreAnyOrder of chapter 6: AO3 AO4 AO5. -/
import Derived.Test.YtgemjjdkjmpmlaaGreatDoorAO00
set_option maxHeartbeats 8000000
set_option maxRecDepth 100000
set_option linter.all false
namespace Go.Proofs.YtgemjjdkjmpmlaaGreatDoor
open Go.RowKit Go.Maps Sp Mt Go.Conc
theorem revmap_snoc {α β : Type} (f : α → β) (l : List α) (j : Nat) (h : j < l.length) : (l.reverse.map f).take (j + 1) = (l.reverse.map f).take j ++ [f (l[l.length - 1 - j]'(by omega))] := by
 rw [← List.map_take, rev_snoc l j h, List.map_append, List.map_take]
 rfl
def AL2 (B O : Nat) (b : Bk) (s : Int) (vr vg vm vs vc : Value) (W : World) : Exit → Act → World → Prop
 | .normal, a', w2 => ∃ d7 d8 d9 d23 d24 d25 d26 d27 d28 d29 d30 d33 d34 d35 d36 d37 d38 d39 d40 d41 d42 d43 d44 d45 d46 d47 d48 d49 d50 d51 d52 d53 d54 d55 d56 d57 d58 d59 d60 d61 d62 d63 d64 d65 d66 d67 d68 d69 d70 d71 d72 d73 d74 d75 d76 d77 d78 d79 d80 d81 d82 d83 d84 d85 d86 d87, a' = { tmps := #[.agg #[vr, vg, vm, vs, vc], .int .u8 s, .pointer (some ⟨B, 0, none⟩), U, .bool false, .pointer (some ⟨O, 0, none⟩), .int .i64 (b.ss.length : Int), d7, d8, d9, U, U, U, U, U, U, U, U, U, U, U, U, U, d23, d24, d25, d26, d27, d28, d29, d30, .bool false, U, d33, d34, d35, d36, d37, d38, d39, d40, d41, d42, d43, d44, d45, d46, d47, d48, d49, d50, d51, d52, d53, d54, d55, d56, d57, d58, d59, d60, d61, d62, d63, d64, d65, d66, d67, d68, d69, d70, d71, d72, d73, d74, d75, d76, d77, d78, d79, d80, d81, d82, d83, d84, d85, d86, d87, U, U, U, U, U, U, U, U, U, U, U, U, U, U, U, U, U, U, U, U, U, U, U, U, U, U, U, U, U, U, U, U, U, U, U, U, U, U, U, U, U, U, U, U, U, U, U, U, U, U, U, U, U, U, U, U, U, U, U, U, U, U, U, U, U, U, U, U, U, U, U, U, U], defers := [] } ∧ ∃ a c, w2.cell? ⟨O, 4, none⟩ = some (.slice a b.rs.length c) ∧ w2.frozen? ⟨O, 4, none⟩ = false ∧ w2.ownsRow W.heap.size 70 4 (.slice a b.rs.length c) b.rs.length ((b.rs.reverse.map (turnR b.ss.length)).flatMap cellsR) ∧ KS (fun k => k < W.heap.size ∧ k ≠ O) W w2 ∧ Hid (∀ k, k ≠ 4 → w2.cell? ⟨O, k, none⟩ = W.cell? ⟨O, k, none⟩ ∧ w2.frozen? ⟨O, k, none⟩ = W.frozen? ⟨O, k, none⟩)
 | _, _, _ => False
theorem ao_L2 {r0 rg rs r3 r4 r5 L1 r9 L2 r16 r17 r18 r19 r20 r21 r22 r23 : Code} (hc : Tryz.f7.body = some (.seq r0 (.seq (.seq rg (.cond (.tmp 31) (.seq rs .ret) .skip)) (.seq r3 (.seq r4 (.seq (.seq r5 L1) (.seq (.seq r9 L2) (.seq r16 (.seq r17 (.seq r18 (.seq r19 (.seq r20 (.seq r21 (.seq r22 (.seq r23 .ret))))))))))))))) {B O : Nat} {b : Bk} {s : Int} {vr vg vm vs vc : Value} {w : World} {W : World} {ra : Option Addr} {rc : Nat} (hRR : RecsAt w ra b.rs) (hRO : ∀ r ∈ b.rs, recAl b r = 0) (hbw : Old w W) (hB4 : W.cell? ⟨B, 4, none⟩ = some (.slice ra b.rs.length rc)) (hBw : B < w.heap.size) (hOw : w.heap.size ≤ O) (hO : W.cell? ⟨O, 4, none⟩ = some (.slice none 0 0)) (hOf : W.frozen? ⟨O, 4, none⟩ = false) (hs4 : b.ss.length ≤ 4) (hr5 : b.rs.length ≤ 5) {d7 d23 d24 d25 d26 d27 d28 d29 d30 d33 d34 d35 d36 d37 d38 d39 d40 d41 d42 d43 d44 d45 d46 d47 d48 d49 d50 d51 d52 d53 d54 : Value} :
 (Code.seq r9 L2).wp Tryz.prog (AL2 B O b s vr vg vm vs vc W) ({ tmps := #[.agg #[vr, vg, vm, vs, vc], .int .u8 s, .pointer (some ⟨B, 0, none⟩), U, .bool false, .pointer (some ⟨O, 0, none⟩), .int .i64 (b.ss.length : Int), d7, U, U, U, U, U, U, U, U, U, U, U, U, U, U, U, d23, d24, d25, d26, d27, d28, d29, d30, .bool false, U, d33, d34, d35, d36, d37, d38, d39, d40, d41, d42, d43, d44, d45, d46, d47, d48, d49, d50, d51, d52, d53, d54, U, U, U, U, U, U, U, U, U, U, U, U, U, U, U, U, U, U, U, U, U, U, U, U, U, U, U, U, U, U, U, U, U, U, U, U, U, U, U, U, U, U, U, U, U, U, U, U, U, U, U, U, U, U, U, U, U, U, U, U, U, U, U, U, U, U, U, U, U, U, U, U, U, U, U, U, U, U, U, U, U, U, U, U, U, U, U, U, U, U, U, U, U, U, U, U, U, U, U, U, U, U, U, U, U, U], defers := [] }) W := by
 simp only [Tryz.f7, Option.some.injEq, Code.seq.injEq, Code.cond.injEq] at hc
 obtain ⟨rfl, ⟨rfl, -, ⟨rfl, -⟩, -⟩, rfl, rfl, ⟨rfl, rfl⟩, ⟨rfl, rfl⟩, rfl, rfl, rfl, rfl, rfl, rfl, rfl, rfl, -⟩ := hc
 have HRR := Hh hRR
 have HRO := Hh hRO
 have HBW := Hh hbw
 have hOl := lt_of_cell hO
 simp only at hOl
 have hBl : B < W.heap.size := Nat.lt_of_lt_of_le hBw hbw.size
 have hwr : IntKind.i64.wrap ((b.rs.length : Int) - 1) = (b.rs.length : Int) - 1 := wrapI (by omega) (by omega)
 obtain ⟨i0, hi, hz0, hz1, hz2⟩ := info_parts recInfo
 clear hRR hRO hbw
 go_wp2
 go_loopw [8] (fun i wr => ∃ (j : Nat) (a : Option Addr) (c : Nat), j ≤ b.rs.length ∧ i = .int .i64 ((b.rs.length : Int) - 1 - j) ∧ wr.cell? ⟨O, 4, none⟩ = some (.slice a j c) ∧ wr.frozen? ⟨O, 4, none⟩ = false ∧ wr.ownsRow W.heap.size 70 4 (.slice a j c) j (((b.rs.reverse.map (turnR b.ss.length)).take j).flatMap cellsR) ∧ KS (fun k => k < W.heap.size ∧ k ≠ O) W wr ∧ Hid (∀ k, k ≠ 4 → wr.cell? ⟨O, k, none⟩ = W.cell? ⟨O, k, none⟩ ∧ wr.frozen? ⟨O, k, none⟩ = W.frozen? ⟨O, k, none⟩)) (fun i _ => (intOf i + 1).toNat)
 case atStart => exact ⟨0, none, 0, Nat.zero_le _, by simp, hO, hOf, by simpa using World.ownsRow_nil _ _ _ _, KS.refl _ _, fun _ _ => ⟨rfl, rfl⟩⟩
 case round =>
  obtain ⟨j, a, c, hj, rfl, h1, h2, hrow, hW, hQ⟩ := hrel
  have hWs := hW.size
  by_cases hlt : j < b.rs.length
  ·obtain ⟨sb, so, rfl, hsb, e0, e1, e2, e3⟩ := HRR.out (b.rs.length - 1 - j) (by omega)
   have hsn := revmap_snoc (turnR b.ss.length) b.rs j hlt
   have hal := HRO.out _ (List.getElem_mem (show b.rs.length - 1 - j < b.rs.length by omega))
   have hkk := recAl_kind hal
   have haa := recAl_a hal
   have g3 := (hW.cell (x := ⟨B, 4, none⟩) hBl (by simp; omega)).trans hB4
   have hsbW := Nat.lt_of_lt_of_le hsb HBW.out.size
   have g0 := (hW.cell (x := ⟨sb, so + (b.rs.length - 1 - j) * 4, none⟩) hsbW (by simp; omega)).trans ((HBW.out.cell hsb).trans e0)
   have g1 := (hW.cell (x := ⟨sb, so + (b.rs.length - 1 - j) * 4 + 1, none⟩) hsbW (by simp; omega)).trans ((HBW.out.cell hsb).trans e1)
   have g2 := (hW.cell (x := ⟨sb, so + (b.rs.length - 1 - j) * 4 + 2, none⟩) hsbW (by simp; omega)).trans ((HBW.out.cell hsb).trans e2)
   have g4 := (hW.cell (x := ⟨sb, so + (b.rs.length - 1 - j) * 4 + 3, none⟩) hsbW (by simp; omega)).trans ((HBW.out.cell hsb).trans e3)
   generalize b.rs[b.rs.length - 1 - j] = r at g0 g1 g2 g4 hsn e0 e1 e2 e3 hkk haa hal
   obtain ⟨rk, rA, rb, rm⟩ := r
   simp only at g0 g1 g2 g4 hkk haa
   have HROW := Hh hrow
   have HW := Hh hW
   have hge : (0 : Int) ≤ (b.rs.length : Int) - 1 - (j : Int) := by omega
   have hle : (b.rs.length : Int) - 1 - (j : Int) < (b.rs.length : Int) := by omega
   have hnat : ((b.rs.length : Int) - 1 - (j : Int)).toNat = b.rs.length - 1 - j := by omega
   have hw9 : IntKind.i64.wrap ((b.rs.length : Int) - 1 - (j : Int) - 1) = (b.rs.length : Int) - 1 - (j : Int) - 1 := wrapI (by omega) (by omega)
   have hOr : O < wr.heap.size := by omega
   have hBr : B < wr.heap.size := by omega
   have hsbr : sb < wr.heap.size := by omega
   by_cases hk : rk = 4 ∨ rk = 5
   ·have e : turnR b.ss.length ⟨rk, rA, rb, rm⟩ = ⟨rk, rA, rb, rm⟩ := if_pos hk
    rw [e] at hsn
    have HSN := Hh hsn
    clear e0 e1 e2 e3 hsn hrow hW hal hkk haa e
    rcases hk with rfl | rfl
    all_goals
    go_wp2_with (at_builtin; go_loud (refine wpList_append_own _ rfl _ _ 24 rfl W.heap.size 70 i0 (.agg #[.int .i64 0, .int .i64 0, .int .i64 0, .int .i64 0]) 4 32 Tryz.underlying24 hi hz0 hz1 hz2 rfl (by decide) _ _ _ rfl ((HROW.out.alloc _).alloc _) ⟨wr.heap.size + 1, 0, none⟩ 1 1 [.int .i64 _, .int .i64 rA, .int .i64 rb, .int .i64 rm] rfl rfl (cells_new' _ _ _ (by simp)) (by simp [Value.oneCell']) (by unfold maxLen; omega) (by omega) (by simp; omega) ?_; intro v' w5 hown' hgrow _; obtain ⟨g', cap', rfl⟩ := ownsRow_succ hown'; have hks := grow_ks ((HROW.out.alloc _).alloc _) hgrow; have q1 := (hks.cell (x := ⟨O, 4, none⟩) (by simp; omega) (by simp; omega)); have q2 := (hks.frozen (x := ⟨O, 4, none⟩) (by simp; omega) (by simp; omega)); rw [World.cell?_alloc_past _ _ _ (by simp; omega), World.cell?_alloc_past _ _ _ (by omega), h1] at q1; rw [World.frozen?_alloc_past _ _ _ (by simp; omega), World.frozen?_alloc_past _ _ _ (by omega), h2] at q2))
    have h8 : KS (fun k => k < W.heap.size) wr w5 := ((KS.alloc (fun k => k < W.heap.size) wr _).trans (KS.alloc _ _ _)).trans hks
    have h9 : KS (fun k => k ≠ O) w5 (w5.setCell ⟨O, 4, none⟩ (.slice (some ⟨g', 0, none⟩) (j + 1) cap')) := KS.setCell (by simp) _ _
    go_roundw
    case rel =>
     refine ⟨j + 1, some ⟨g', 0, none⟩, cap', by omega, int_eq (by omega), ?_, ?_, ?_, ?_, fun k hk => ?_⟩
     ·exact World.cell?_setCell_same' _ _ _ (by rw [q1]; rfl)
     ·rw [World.frozen?_setCell]; exact q2
     ·rw [HSN.out, List.flatMap_append]
      exact ownsRow_ks hown' h9 (fun k hk => by show k ≠ O; omega)
     ·exact HW.out.trans ((h8.mono fun k _ h => h.1).trans (h9.mono fun k _ h => h.2))
     ·rw [World.cell?_setCell_other (h := fun e => by injection e with _ e _; exact hk e.symm), World.frozen?_setCell]
      exact ⟨(h8.cell (x := ⟨O, k, none⟩) hOr hOl).trans (hQ.out k hk).1, (h8.frozen (x := ⟨O, k, none⟩) hOr hOl).trans (hQ.out k hk).2⟩
    case measure => simp [intOf]; omega
   ·have hk3 : rk ≤ 3 := by omega
    obtain ⟨ha0, ha1⟩ := haa hk3
    have e : turnR b.ss.length ⟨rk, rA, rb, rm⟩ = ⟨rk, (b.ss.length : Int) - 1 - rA, rb, rm⟩ := if_neg hk
    rw [e] at hsn
    have HSN := Hh hsn
    have k4 : (rk != 4) = true := by simp; omega
    have k5 : (rk != 5) = true := by simp; omega
    have hwn : IntKind.i64.wrap ((b.ss.length : Int) - 1) = (b.ss.length : Int) - 1 := wrapI (by omega) (by omega)
    have hwa : IntKind.i64.wrap ((b.ss.length : Int) - 1 - rA) = (b.ss.length : Int) - 1 - rA := wrapI (by omega) (by omega)
    clear e0 e1 e2 e3 hsn hrow hW hal hkk haa e hk
    go_wp2_with (at_builtin; go_loud (refine wpList_append_own _ rfl _ _ 24 rfl W.heap.size 70 i0 (.agg #[.int .i64 0, .int .i64 0, .int .i64 0, .int .i64 0]) 4 32 Tryz.underlying24 hi hz0 hz1 hz2 rfl (by decide) _ _ _ rfl ((HROW.out.alloc _).alloc _) ⟨wr.heap.size + 1, 0, none⟩ 1 1 [.int .i64 rk, .int .i64 ((b.ss.length : Int) - 1 - rA), .int .i64 rb, .int .i64 rm] rfl rfl (cells_new' _ _ _ (by simp)) (by simp [Value.oneCell']) (by unfold maxLen; omega) (by omega) (by simp; omega) ?_; intro v' w5 hown' hgrow _; obtain ⟨g', cap', rfl⟩ := ownsRow_succ hown'; have hks := grow_ks ((HROW.out.alloc _).alloc _) hgrow; have q1 := (hks.cell (x := ⟨O, 4, none⟩) (by simp; omega) (by simp; omega)); have q2 := (hks.frozen (x := ⟨O, 4, none⟩) (by simp; omega) (by simp; omega)); rw [World.cell?_alloc_past _ _ _ (by simp; omega), World.cell?_alloc_past _ _ _ (by omega), h1] at q1; rw [World.frozen?_alloc_past _ _ _ (by simp; omega), World.frozen?_alloc_past _ _ _ (by omega), h2] at q2))
    have h8 : KS (fun k => k < W.heap.size) wr w5 := ((KS.alloc (fun k => k < W.heap.size) wr _).trans (KS.alloc _ _ _)).trans hks
    have h9 : KS (fun k => k ≠ O) w5 (w5.setCell ⟨O, 4, none⟩ (.slice (some ⟨g', 0, none⟩) (j + 1) cap')) := KS.setCell (by simp) _ _
    go_roundw
    case rel =>
     refine ⟨j + 1, some ⟨g', 0, none⟩, cap', by omega, int_eq (by omega), ?_, ?_, ?_, ?_, fun k hk => ?_⟩
     ·exact World.cell?_setCell_same' _ _ _ (by rw [q1]; rfl)
     ·rw [World.frozen?_setCell]; exact q2
     ·rw [HSN.out, List.flatMap_append]
      exact ownsRow_ks hown' h9 (fun k hk => by show k ≠ O; omega)
     ·exact HW.out.trans ((h8.mono fun k _ h => h.1).trans (h9.mono fun k _ h => h.2))
     ·rw [World.cell?_setCell_other (h := fun e => by injection e with _ e _; exact hk e.symm), World.frozen?_setCell]
      exact ⟨(h8.cell (x := ⟨O, k, none⟩) hOr hOl).trans (hQ.out k hk).1, (h8.frozen (x := ⟨O, k, none⟩) hOr hOl).trans (hQ.out k hk).2⟩
    case measure => simp [intOf]; omega
  ·obtain rfl : j = b.rs.length := by omega
   have HROW := Hh hrow
   have HW := Hh hW
   clear hrow hW
   go_wp2
   refine ⟨_, _, _, _, _, _, _, _, _, _, _, _, _, _, _, _, _, _, _, _, _, _, _, _, _, _, _, _, _, _, _, _, _, _, _, _, _, _, _, _, _, _, _, _, _, _, _, _, _, _, _, _, _, _, _, _, _, _, _, _, _, _, _, _, _, _, rfl, a, c, h1, h2, ?_, HW.out, hQ⟩
   have := HROW.out
   rwa [List.take_of_length_le (by simp)] at this
def AR3 (B : Nat) (b : Bk) (s : Int) (vr vg vm vs vc : Value) (w : World) : Exit → Act → World → Prop
 | .normal, a', w2 => ∃ d23 d24 d25 d26 d27 d28 d29 d30 d33 d34 d35 d36, a' = { tmps := #[.agg #[vr, vg, vm, vs, vc], .int .u8 s, .pointer (some ⟨B, 0, none⟩), U, .bool false, .pointer (some ⟨w.heap.size, 0, none⟩), .int .i64 (b.ss.length : Int), U, U, U, U, U, U, U, U, U, U, U, U, U, U, U, U, d23, d24, d25, d26, d27, d28, d29, d30, .bool false, U, d33, d34, d35, d36, U, U, U, U, U, U, U, U, U, U, U, U, U, U, U, U, U, U, U, U, U, U, U, U, U, U, U, U, U, U, U, U, U, U, U, U, U, U, U, U, U, U, U, U, U, U, U, U, U, U, U, U, U, U, U, U, U, U, U, U, U, U, U, U, U, U, U, U, U, U, U, U, U, U, U, U, U, U, U, U, U, U, U, U, U, U, U, U, U, U, U, U, U, U, U, U, U, U, U, U, U, U, U, U, U, U, U, U, U, U, U, U, U, U, U, U, U, U, U, U, U, U, U, U], defers := [] } ∧ Below w.heap.size w w2 ∧ w2.heap.size = w.heap.size + 1 ∧ Five w2 w.heap.size vr vg vm vs vc ∧ ∀ k, w2.frozen? ⟨w.heap.size, k, none⟩ = false
 | _, _, _ => False
theorem ao_r3 {r0 rg rs r3 r4 r5 L1 r9 L2 r16 r17 r18 r19 r20 r21 r22 r23 : Code} (hc : Tryz.f7.body = some (.seq r0 (.seq (.seq rg (.cond (.tmp 31) (.seq rs .ret) .skip)) (.seq r3 (.seq r4 (.seq (.seq r5 L1) (.seq (.seq r9 L2) (.seq r16 (.seq r17 (.seq r18 (.seq r19 (.seq r20 (.seq r21 (.seq r22 (.seq r23 .ret))))))))))))))) {B : Nat} {b : Bk} {s : Int} {vr vg vm vs vc : Value} {w : World} (hB : BookAt w b vr vg vm vs vc) (x0 : w.cell? ⟨B, 0, none⟩ = some vr) (x1 : w.cell? ⟨B, 1, none⟩ = some vg) (x2 : w.cell? ⟨B, 2, none⟩ = some vm) (x3 : w.cell? ⟨B, 3, none⟩ = some vs) (x4 : w.cell? ⟨B, 4, none⟩ = some vc) {d23 d24 d25 d26 d27 d28 d29 d30 : Value} :
 r3.wp Tryz.prog (AR3 B b s vr vg vm vs vc w) ({ tmps := #[.agg #[vr, vg, vm, vs, vc], .int .u8 s, .pointer (some ⟨B, 0, none⟩), U, .bool false, U, U, U, U, U, U, U, U, U, U, U, U, U, U, U, U, U, U, d23, d24, d25, d26, d27, d28, d29, d30, .bool false, U, U, U, U, U, U, U, U, U, U, U, U, U, U, U, U, U, U, U, U, U, U, U, U, U, U, U, U, U, U, U, U, U, U, U, U, U, U, U, U, U, U, U, U, U, U, U, U, U, U, U, U, U, U, U, U, U, U, U, U, U, U, U, U, U, U, U, U, U, U, U, U, U, U, U, U, U, U, U, U, U, U, U, U, U, U, U, U, U, U, U, U, U, U, U, U, U, U, U, U, U, U, U, U, U, U, U, U, U, U, U, U, U, U, U, U, U, U, U, U, U, U, U, U, U, U, U, U, U], defers := [] }) w := by
 simp only [Tryz.f7, Option.some.injEq, Code.seq.injEq, Code.cond.injEq] at hc
 obtain ⟨rfl, ⟨rfl, -, ⟨rfl, -⟩, -⟩, rfl, rfl, ⟨rfl, rfl⟩, ⟨rfl, rfl⟩, rfl, rfl, rfl, rfl, rfl, rfl, rfl, rfl, -⟩ := hc
 have hB0 := lt_of_cell x0
 simp only at hB0
 obtain ⟨rfl, rfl, ⟨ma, mc, rfl, _⟩, ⟨sa, sc, rfl, _⟩, ra, rc, rfl, _⟩ := hB
 have five := Five.new w (.int .i64 b.room) (.int .i64 b.gap) (.slice ma b.ms.length mc) (.slice sa b.ss.length sc) (.slice ra b.rs.length rc) 26
 have hbw : Below w.heap.size w (w.alloc (.cells #[.int .i64 b.room, .int .i64 b.gap, .slice ma b.ms.length mc, .slice sa b.ss.length sc, .slice ra b.rs.length rc] 26)).drew := bel
 have HF := Hh five
 have HW := Hh hbw
 clear five hbw
 go_region
 all_goals exact ⟨_, _, _, _, _, _, _, _, _, _, _, _, rfl, HW.out, by simp, ⟨(World.cell?_drew _ _).trans HF.out.c0, (World.cell?_drew _ _).trans HF.out.c1, (World.cell?_drew _ _).trans HF.out.c2, (World.cell?_drew _ _).trans HF.out.c3, (World.cell?_drew _ _).trans HF.out.c4, by simp⟩, fun k => by rw [World.frozen?_drew, World.frozen?_alloc_at _ _ _ _ rfl]⟩
def AZ3 (B : Nat) (b : Bk) (s : Int) (vr vg vm vs vc : Value) (a' : Act) (w2 : World) : Prop := ∃ O sa sc ra rc, (∃ d7 d8 d9 d23 d24 d25 d26 d27 d28 d29 d30 d33 d34 d35 d36 d37 d38 d39 d40 d41 d42 d43 d44 d45 d46 d47 d48 d49 d50 d51 d52 d53 d54 d55 d56 d57 d58 d59 d60 d61 d62 d63 d64 d65 d66 d67 d68 d69 d70 d71 d72 d73 d74 d75 d76 d77 d78 d79 d80 d81 d82 d83 d84 d85 d86 d87, a' = { tmps := #[.agg #[vr, vg, vm, vs, vc], .int .u8 s, .pointer (some ⟨B, 0, none⟩), U, .bool false, .pointer (some ⟨O, 0, none⟩), .int .i64 (b.ss.length : Int), d7, d8, d9, U, U, U, U, U, U, U, U, U, U, U, U, U, d23, d24, d25, d26, d27, d28, d29, d30, .bool false, U, d33, d34, d35, d36, d37, d38, d39, d40, d41, d42, d43, d44, d45, d46, d47, d48, d49, d50, d51, d52, d53, d54, d55, d56, d57, d58, d59, d60, d61, d62, d63, d64, d65, d66, d67, d68, d69, d70, d71, d72, d73, d74, d75, d76, d77, d78, d79, d80, d81, d82, d83, d84, d85, d86, d87, U, U, U, U, U, U, U, U, U, U, U, U, U, U, U, U, U, U, U, U, U, U, U, U, U, U, U, U, U, U, U, U, U, U, U, U, U, U, U, U, U, U, U, U, U, U, U, U, U, U, U, U, U, U, U, U, U, U, U, U, U, U, U, U, U, U, U, U, U, U, U, U, U], defers := [] }) ∧ LawAt w2 B b [] vr vg vm vs vc none ∧ Five w2 O vr vg vm (.slice sa b.ss.length sc) (.slice ra b.rs.length rc) ∧ BookAt w2 (turnB b) vr vg vm (.slice sa b.ss.length sc) (.slice ra b.rs.length rc)
theorem ao_A {r0 rg rs r3 r4 r5 L1 r9 L2 r16 r17 r18 r19 r20 r21 r22 r23 : Code} (hc : Tryz.f7.body = some (.seq r0 (.seq (.seq rg (.cond (.tmp 31) (.seq rs .ret) .skip)) (.seq r3 (.seq r4 (.seq (.seq r5 L1) (.seq (.seq r9 L2) (.seq r16 (.seq r17 (.seq r18 (.seq r19 (.seq r20 (.seq r21 (.seq r22 (.seq r23 .ret))))))))))))))) {B : Nat} {b : Bk} {s : Int} {vr vg vm vs vc : Value} {w : World} (hE : LawAt w B b [] vr vg vm vs vc none) (hS : SmallB b) (hk : bookAl b = 0) {d23 d24 d25 d26 d27 d28 d29 d30 : Value} : wps Tryz.prog [r3, r4, .seq r5 L1, .seq r9 L2] (fun a' w2 => AZ3 B b s vr vg vm vs vc a' w2 ∧ Old w w2) ({ tmps := #[.agg #[vr, vg, vm, vs, vc], .int .u8 s, .pointer (some ⟨B, 0, none⟩), U, .bool false, U, U, U, U, U, U, U, U, U, U, U, U, U, U, U, U, U, U, d23, d24, d25, d26, d27, d28, d29, d30, .bool false, U, U, U, U, U, U, U, U, U, U, U, U, U, U, U, U, U, U, U, U, U, U, U, U, U, U, U, U, U, U, U, U, U, U, U, U, U, U, U, U, U, U, U, U, U, U, U, U, U, U, U, U, U, U, U, U, U, U, U, U, U, U, U, U, U, U, U, U, U, U, U, U, U, U, U, U, U, U, U, U, U, U, U, U, U, U, U, U, U, U, U, U, U, U, U, U, U, U, U, U, U, U, U, U, U, U, U, U, U, U, U, U, U, U, U, U, U, U, U, U, U, U, U, U, U, U, U, U, U], defers := [] }) w := by
 have hc0 := hc
 simp only [Tryz.f7, Option.some.injEq, Code.seq.injEq, Code.cond.injEq] at hc
 obtain ⟨-, -, -, h4, -⟩ := hc
 have hrw := hE.raw
 have hBk := hrw.book hS
 have HE := Hh hE
 obtain ⟨x0, x1, x2, x3, x4, _, _, _⟩ := hE
 have HB := Hh hBk
 have hB0 := lt_of_cell x0
 simp only at hB0
 have hs4 := (bookAl_ok hk).1.sl
 have hr5 := recs_len hk
 have HRO := Hh (bookAl_ok hk).2
 have HC0 := Hh hc0
 clear hc0
 obtain ⟨rfl, rfl, ⟨ma, mc, rfl, _⟩, ⟨sa, sc, rfl, hSS, _⟩, ra, rc, rfl, hRR, _⟩ := id hBk
 have HSS := Hh hSS
 have HRR := Hh hRR
 clear hrw hBk hSS hRR hk hS
 refine wps_nq (Code.wp_mono (fun e a' w1 h => ?_) (ao_r3 HC0.out HB.out x0 x1 x2 x3 x4))
 cases e <;> try exact h.elim
 obtain ⟨c23, c24, c25, c26, c27, c28, c29, c30, c33, c34, c35, c36, rfl, hbw, hs1', hf1, hz1⟩ := h
 refine ⟨rfl, fun X1 t1 => ?_⟩
 obtain ⟨O, hOe⟩ : ∃ O, O = w.heap.size := ⟨_, rfl⟩
 have hf := t1.five hf1
 have fz : ∀ k, X1.frozen? ⟨O, k, none⟩ = false := fun k => (t1.frozen _).trans (by rw [hOe]; exact hz1 k)
 have ho1 : Old w X1 := (Old.ofBelow hbw).twin0 t1
 have hs1 : w.heap.size < X1.heap.size := by rw [t1.size]; omega
 have hO1 : O < X1.heap.size := by omega
 have hOw : w.heap.size ≤ O := by omega
 rw [← hOe] at hf ⊢
 obtain ⟨c0, c1, c2, c3, c4, _⟩ := hf
 have z3 := fz 3
 have z4 := fz 4
 have HT1 := Hh t1
 have HF := Hh (⟨c0, c1, c2⟩ : _ ∧ _ ∧ _)
 have HFZ := Hh fz
 have HO1 := Hh ho1
 have hBX := ho1.cell2 x3
 have hBY := ho1.cell2 x4
 have HBX := Hh (⟨hBX, hBY⟩ : _ ∧ _)
 clear t1 fz hbw ho1 hOe hf1 hz1 hs1' x0 x1 x2 x3 x4 hBX hBY
 refine wps_nq ?_
 rw [← h4]
 clear h4
 go_wp2
 refine ⟨rfl, fun X2 t2 => ?_⟩
 have k2 : KS (fun k => k < X1.heap.size ∧ k ≠ O) X1 ((X1.setCell ⟨O, 3, none⟩ (.slice none 0 0)).setCell ⟨O, 4, none⟩ (.slice none 0 0)) := (KS.setCell (by simp) _ _).trans (KS.setCell (by simp) _ _)
 have ho2 : Old w X2 := (HO1.out.ks hOw k2).twin0 t2
 have hs2 : O < X2.heap.size := by rw [t2.size]; exact Nat.lt_of_lt_of_le hO1 k2.size
 have g : ∀ k, k ≠ 3 → k ≠ 4 → X2.cell? ⟨O, k, none⟩ = X1.cell? ⟨O, k, none⟩ := fun k h3 h4 => (t2.cell _).trans (by rw [World.cell?_setCell_other (h := fun e => by injection e with _ e _; exact h4 e.symm), World.cell?_setCell_other (h := fun e => by injection e with _ e _; exact h3 e.symm)])
 have g3 : X2.cell? ⟨O, 3, none⟩ = some (.slice none 0 0) := (t2.cell _).trans (by rw [World.cell?_setCell_other (h := fun e => by injection e with _ e _; omega)]; exact World.cell?_setCell_same' _ _ _ (by rw [c3]; rfl))
 have g4 : X2.cell? ⟨O, 4, none⟩ = some (.slice none 0 0) := (t2.cell _).trans (World.cell?_setCell_same' _ _ _ (by rw [World.cell?_setCell_other (h := fun e => by injection e with _ e _; omega), c4]; rfl))
 have gz : ∀ k, X2.frozen? ⟨O, k, none⟩ = false := fun k => (t2.frozen _).trans (by rw [World.frozen?_setCell, World.frozen?_setCell]; exact HFZ.out k)
 have hb3 : X2.cell? ⟨B, 3, none⟩ = _ := (t2.cell _).trans ((k2.cell (x := ⟨B, 3, none⟩) (by simp; omega) (by simp; omega)).trans HBX.out.1)
 have hb4 : X2.cell? ⟨B, 4, none⟩ = _ := (t2.cell _).trans ((k2.cell (x := ⟨B, 4, none⟩) (by simp; omega) (by simp; omega)).trans HBX.out.2)
 refine wps_nq (Code.wp_mono (fun e a' w3 h => ?_) (ao_L1 HC0.out (w := w) HSS.out ho2 hb3 hB0 hOw g3 (gz 3) hs4))
 cases e <;> try exact h.elim
 obtain ⟨e7, e23, e24, e25, e26, e27, e28, e29, e30, e33, e34, e35, e36, e37, e38, e39, e40, e41, e42, e43, e44, e45, e46, e47, e48, e49, e50, e51, e52, e53, e54, rfl, a1, k1, ws, p3, z3', r1, sv, ks1, q1⟩ := h
 refine ⟨rfl, fun X3 t3 => ?_⟩
 have ho3 : Old w X3 := (ho2.ks hOw ks1).twin0 t3
 have hs3 := ks1.size
 have m4 : X3.cell? ⟨O, 4, none⟩ = some (.slice none 0 0) := (t3.cell _).trans ((q1.out 4 (by omega)).1.trans g4)
 have mz : X3.frozen? ⟨O, 4, none⟩ = false := (t3.frozen _).trans ((q1.out 4 (by omega)).2.trans (gz 4))
 have hb5 : X3.cell? ⟨B, 4, none⟩ = _ := (t3.cell _).trans ((ks1.cell (x := ⟨B, 4, none⟩) (by simp; omega) (by simp; omega)).trans hb4)
 refine wps_nq (Code.wp_mono (fun e a' w4 h => ?_) (ao_L2 HC0.out (w := w) HRR.out HRO.out ho3 hb5 hB0 hOw m4 mz hs4 hr5))
 cases e <;> try exact h.elim
 obtain ⟨u7, u8, u9, u23, u24, u25, u26, u27, u28, u29, u30, u33, u34, u35, u36, u37, u38, u39, u40, u41, u42, u43, u44, u45, u46, u47, u48, u49, u50, u51, u52, u53, u54, u55, u56, u57, u58, u59, u60, u61, u62, u63, u64, u65, u66, u67, u68, u69, u70, u71, u72, u73, u74, u75, u76, u77, u78, u79, u80, u81, u82, u83, u84, u85, u86, u87, rfl, a2, k9, p4, z4', r2, ks2, q2⟩ := h
 refine ⟨rfl, fun X4 t4 => ?_⟩
 have ho4 : Old w X4 := (ho3.ks hOw ks2).twin0 t4
 have hs4' := ks2.size
 have r1' := row_keep' (row_twin r1 t3) ks2 fun g hg => by
  have := ownBlock_row (row_twin r1 t3) g hg
  exact ⟨this.2, by omega⟩
 have R1 := row_twin r1' t4
 have R2 := row_twin r2 t4
 have v3 : X4.cell? ⟨O, 3, none⟩ = _ := (t4.cell _).trans ((q2.out 3 (by omega)).1.trans ((t3.cell _).trans p3))
 have v4 : X4.cell? ⟨O, 4, none⟩ = _ := (t4.cell _).trans p4
 have vk : ∀ k, k ≠ 3 → k ≠ 4 → X4.cell? ⟨O, k, none⟩ = X1.cell? ⟨O, k, none⟩ := fun k h3 h4 => (t4.cell _).trans ((q2.out k h4).1.trans ((t3.cell _).trans ((q1.out k h3).1.trans (g k h3 h4))))
 refine ⟨⟨O, a1, k1, a2, k9, ⟨_, _, _, _, _, _, _, _, _, _, _, _, _, _, _, _, _, _, _, _, _, _, _, _, _, _, _, _, _, _, _, _, _, _, _, _, _, _, _, _, _, _, _, _, _, _, _, _, _, _, _, _, _, _, _, _, _, _, _, _, _, _, _, _, _, _, rfl⟩, HE.out.old ho4, ⟨(vk 0 (by omega) (by omega)).trans HF.out.1, (vk 1 (by omega) (by omega)).trans HF.out.2.1, (vk 2 (by omega) (by omega)).trans HF.out.2.2, v3, v4, by have e1 := t4.size; have e2 := t3.size; omega⟩, book_turn HB.out ho4 R1 sv R2⟩, ho4⟩
structure ASt (w : World) (B O : Nat) (b : Bk) (vr vg vm vs vc vs' vc' : Value) : Prop where
 law : LawAt w B b [] vr vg vm vs vc none
 five : Five w O vr vg vm vs' vc'
 tb : BookAt w (turnB b) vr vg vm vs' vc'
theorem ASt.old {w w1 : World} {B O : Nat} {b : Bk} {vr vg vm vs vc vs' vc' : Value} (h : ASt w B O b vr vg vm vs vc vs' vc') (t : Old w w1) : ASt w1 B O b vr vg vm vs vc vs' vc' :=
 ⟨h.law.old t, ⟨t.cell2 h.five.c0, t.cell2 h.five.c1, t.cell2 h.five.c2, t.cell2 h.five.c3, t.cell2 h.five.c4, Nat.lt_of_lt_of_le h.five.lt t.size⟩, t.book h.tb⟩
def AZ4 (k u t : Int) (q : List Int) (l : List Prt) (a' : Act) (w2 : World) : Prop := ∃ xa xc ya yc pa pc ra rc, (a'.tmps.size = 161 ∧ a'.defers = [] ∧ a'.tmps[11]? = some (.int .i64 k) ∧ a'.tmps[12]? = some (.int .i64 0) ∧ a'.tmps[13]? = some (.int .i64 k) ∧ a'.tmps[14]? = some (.int .i64 0) ∧ a'.tmps[15]? = some (.slice xa q.length xc) ∧ a'.tmps[16]? = some (.int .i64 u) ∧ a'.tmps[17]? = some (.slice ya q.length yc) ∧ a'.tmps[18]? = some (.int .i64 u) ∧ a'.tmps[19]? = some (.slice pa l.length pc) ∧ a'.tmps[20]? = some (.int .i64 t) ∧ a'.tmps[21]? = some (.slice ra l.length rc) ∧ a'.tmps[22]? = some (.int .i64 t)) ∧ IntsAt w2 xa q ∧ IntsAt w2 ya q ∧ PartsAt w2 pa l ∧ PartsAt w2 ra l ∧ KindsAt w2
theorem ao_B {r0 rg rs r3 r4 r5 L1 r9 L2 r16 r17 r18 r19 r20 r21 r22 r23 : Code} (hc : Tryz.f7.body = some (.seq r0 (.seq (.seq rg (.cond (.tmp 31) (.seq rs .ret) .skip)) (.seq r3 (.seq r4 (.seq (.seq r5 L1) (.seq (.seq r9 L2) (.seq r16 (.seq r17 (.seq r18 (.seq r19 (.seq r20 (.seq r21 (.seq r22 (.seq r23 .ret))))))))))))))) {B O : Nat} {b : Bk} {s : Int} {vr vg vm vs vc : Value} {w : World} {vs' vc' : Value} {i k u t : Int} {q : List Int} {l : List Prt} (hE : ASt w B O b vr vg vm vs vc vs' vc') (hS : SmallB b) (hk : bookAl b = 0) (hn : 0 < b.ss.length) (hs0 : 0 ≤ s) (hs1 : s ≤ 255)
 (hi : s % (b.ss.length : Int) = i) (hkk : histN b = k) (hq : thr b i = q) (hu : throughAl b i = u) (hl : miss b = l) (ht : openAl b 0 = t) {d7 d8 d9 d23 d24 d25 d26 d27 d28 d29 d30 d33 d34 d35 d36 d37 d38 d39 d40 d41 d42 d43 d44 d45 d46 d47 d48 d49 d50 d51 d52 d53 d54 d55 d56 d57 d58 d59 d60 d61 d62 d63 d64 d65 d66 d67 d68 d69 d70 d71 d72 d73 d74 d75 d76 d77 d78 d79 d80 d81 d82 d83 d84 d85 d86 d87 : Value} :
 wps Tryz.prog [r16, r17, r18, r19, r20, r21, r22] (fun a' w2 => AZ4 k u t q l a' w2 ∧ Old w w2) ({ tmps := #[.agg #[vr, vg, vm, vs, vc], .int .u8 s, .pointer (some ⟨B, 0, none⟩), U, .bool false, .pointer (some ⟨O, 0, none⟩), .int .i64 (b.ss.length : Int), d7, d8, d9, U, U, U, U, U, U, U, U, U, U, U, U, U, d23, d24, d25, d26, d27, d28, d29, d30, .bool false, U, d33, d34, d35, d36, d37, d38, d39, d40, d41, d42, d43, d44, d45, d46, d47, d48, d49, d50, d51, d52, d53, d54, d55, d56, d57, d58, d59, d60, d61, d62, d63, d64, d65, d66, d67, d68, d69, d70, d71, d72, d73, d74, d75, d76, d77, d78, d79, d80, d81, d82, d83, d84, d85, d86, d87, U, U, U, U, U, U, U, U, U, U, U, U, U, U, U, U, U, U, U, U, U, U, U, U, U, U, U, U, U, U, U, U, U, U, U, U, U, U, U, U, U, U, U, U, U, U, U, U, U, U, U, U, U, U, U, U, U, U, U, U, U, U, U, U, U, U, U, U, U, U, U, U, U], defers := [] }) w := by
 simp only [Tryz.f7, Option.some.injEq, Code.seq.injEq, Code.cond.injEq] at hc
 obtain ⟨-, -, -, -, -, -, h16, h17, h18, h19, h20, h21, h22, -⟩ := hc
 have hn20 : b.ss.length ≤ 20 := hS.2.1
 have hi0 : 0 ≤ i := by rw [← hi]; exact Int.emod_nonneg _ (by omega)
 have hi1 : i < (b.ss.length : Int) := by rw [← hi]; exact Int.emod_lt_of_pos _ (by omega)
 have HS := Hh hS
 have HN := Hh hS.names
 have HNT := Hh (small_turn hS).names
 have HAL := Hh hk
 have HALT := Hh (bookAl_turn hk)
 have HKK := Hh hkk
 have HKKT := Hh ((histN_turn hk).trans hkk)
 have HQ := Hh hq
 have HU := Hh hu
 have HQT := Hh ((thr_turn hk hi0 (by omega)).trans hq)
 have HUT := Hh ((throughAl_turn hk hi0 (by omega)).trans hu)
 have HL := Hh hl
 have HT := Hh ht
 have HLT := Hh ((miss_turn hk).trans hl)
 have HTT := Hh ((openAl_turn hk 0).trans ht)
 have HI := Hh hi
 have hnz : ((b.ss.length : Int) == 0) = false := by rw [beq_eq_false_iff_ne]; omega
 have hw1 : IntKind.i64.wrap ((b.ss.length : Int) - 1) = (b.ss.length : Int) - 1 := wrapI (by omega) (by omega)
 have hw2 : IntKind.i64.wrap ((b.ss.length : Int) - 1 - i) = (b.ss.length : Int) - 1 - i := wrapI (by omega) (by omega)
 clear hS hk hkk hq hu hl ht hi
 refine wps_nq ?_
 rw [← h16]
 clear h16
 have HE0 := Hh hE
 clear hE
 go_wp2
 rw [HI.out]
 refine ⟨rfl, fun X0 t0 => ?_⟩
 have o0 := (Old.refl w).twin0 t0
 have E0 := HE0.out.old o0
 have OO0 := Hh o0
 clear o0 t0 HE0
 refine wps_nq ?_
 rw [← h17]
 clear h17
 obtain ⟨c0, c1, c2, c3, c4, _, _, _⟩ := E0.law
 have HBx := Hh (E0.law.raw.book HS.out)
 have HKx := Hh E0.law.kd
 have EE := Hh E0
 clear E0
 have hB0 := lt_of_cell c0
 simp only at hB0
 go_wp2_with (go_at_call 24; (with_reducible refine (histories2_at HBx.out HN.out HKx.out HKK.out HAL.out).mono ?_); rintro e w1 ⟨rfl, hb1⟩)
 refine ⟨rfl, fun X1 t1 => ?_⟩
 have o1 := (Old.ofBelow hb1).twin0 t1
 have E1 := EE.out.old o1
 have OO1 := Hh (OO0.out.trans o1)
 clear c0 c1 c2 c3 c4 HBx HKx EE hb1 t1 o1 OO0 hB0
 refine wps_nq ?_
 rw [← h18]
 clear h18
 obtain ⟨c0, c1, c2, c3, c4, hlt⟩ := E1.five
 have HBx := Hh E1.tb
 have HKx := Hh E1.law.kd
 have EE := Hh E1
 clear E1
 have hB0 := lt_of_cell c0
 simp only at hB0
 go_wp2_with (go_at_call 24; (with_reducible refine (histories2_at HBx.out HNT.out HKx.out HKKT.out HALT.out).mono ?_); rintro e w1 ⟨rfl, hb1⟩)
 refine ⟨rfl, fun X2 t1 => ?_⟩
 have o1 := (Old.ofBelow hb1).twin0 t1
 have E2 := EE.out.old o1
 have OO2 := Hh (OO1.out.trans o1)
 clear c0 c1 c2 c3 c4 HBx HKx EE hb1 t1 o1 OO1 hB0 hlt
 refine wps_nq ?_
 rw [← h19]
 clear h19
 obtain ⟨c0, c1, c2, c3, c4, _, _, _⟩ := E2.law
 have HBx := Hh (E2.law.raw.book HS.out)
 have HKx := Hh E2.law.kd
 have EE := Hh E2
 clear E2
 have hB0 := lt_of_cell c0
 simp only at hB0
 go_wp2_with (go_at_call 40; (with_reducible refine (through2_at HBx.out HN.out HKx.out HQ.out HU.out).mono ?_); rintro e w1 ⟨xa, xc, rfl, hx1, hb1⟩)
 refine ⟨rfl, fun X3 t1 => ?_⟩
 have o1 := (Old.ofBelow hb1).twin0 t1
 have E3 := EE.out.old o1
 have OO3 := Hh (OO2.out.trans o1)
 have QX3 := Hh (t1.ints hx1)
 clear c0 c1 c2 c3 c4 HBx HKx EE hb1 t1 o1 OO2 hB0 hx1
 refine wps_nq ?_
 rw [← h20]
 clear h20
 obtain ⟨c0, c1, c2, c3, c4, hlt⟩ := E3.five
 have HBx := Hh E3.tb
 have HKx := Hh E3.law.kd
 have EE := Hh E3
 clear E3
 have hB0 := lt_of_cell c0
 simp only at hB0
 go_wp2_with (go_at_call 40; (with_reducible refine (through2_at HBx.out HNT.out HKx.out HQT.out HUT.out).mono ?_); rintro e w1 ⟨ya, yc, rfl, hx1, hb1⟩)
 refine ⟨rfl, fun X4 t1 => ?_⟩
 have o1 := (Old.ofBelow hb1).twin0 t1
 have E4 := EE.out.old o1
 have OO4 := Hh (OO3.out.trans o1)
 have QX4 := Hh (o1.ints QX3.out)
 have QY4 := Hh (t1.ints hx1)
 clear c0 c1 c2 c3 c4 HBx HKx EE hb1 t1 o1 OO3 hB0 hlt hx1 QX3
 refine wps_nq ?_
 rw [← h21]
 clear h21
 obtain ⟨c0, c1, c2, c3, c4, _, _, _⟩ := E4.law
 have HBx := Hh (E4.law.raw.book HS.out)
 have HKx := Hh E4.law.kd
 have EE := Hh E4
 clear E4
 have hB0 := lt_of_cell c0
 simp only at hB0
 go_wp2_with (go_at_call 17; (with_reducible refine (missing2_at HBx.out HN.out HKx.out HL.out HT.out).mono ?_); rintro e w1 ⟨pa, pc, rfl, hx1, hb1⟩)
 refine ⟨rfl, fun X5 t1 => ?_⟩
 have o1 := (Old.ofBelow hb1).twin0 t1
 have E5 := EE.out.old o1
 have OO5 := Hh (OO4.out.trans o1)
 have QX5 := Hh (o1.ints QX4.out)
 have QY5 := Hh (o1.ints QY4.out)
 have QP5 := Hh (t1.parts hx1)
 clear c0 c1 c2 c3 c4 HBx HKx EE hb1 t1 o1 OO4 hB0 hx1 QX4 QY4
 refine wps_nq ?_
 rw [← h22]
 clear h22
 obtain ⟨c0, c1, c2, c3, c4, hlt⟩ := E5.five
 have HBx := Hh E5.tb
 have HKx := Hh E5.law.kd
 have EE := Hh E5
 clear E5
 have hB0 := lt_of_cell c0
 simp only at hB0
 go_wp2_with (go_at_call 17; (with_reducible refine (missing2_at HBx.out HNT.out HKx.out HLT.out HTT.out).mono ?_); rintro e w1 ⟨ra, rc, rfl, hx1, hb1⟩)
 refine ⟨rfl, fun X6 t1 => ?_⟩
 have o1 := (Old.ofBelow hb1).twin0 t1
 have E6 := EE.out.old o1
 have OO6 := Hh (OO5.out.trans o1)
 have QX6 := Hh (o1.ints QX5.out)
 have QY6 := Hh (o1.ints QY5.out)
 have QP6 := Hh (o1.parts QP5.out)
 have QR6 := Hh (t1.parts hx1)
 clear c0 c1 c2 c3 c4 HBx HKx EE hb1 t1 o1 OO5 hB0 hlt hx1 QX5 QY5 QP5
 exact ⟨⟨xa, xc, ya, yc, pa, pc, ra, rc, ⟨rfl, rfl, rfl, rfl, rfl, rfl, rfl, rfl, rfl, rfl, rfl, rfl, rfl, rfl⟩, QX6.out, QY6.out, QP6.out, QR6.out, E6.law.kd⟩, OO6.out⟩
end Go.Proofs.YtgemjjdkjmpmlaaGreatDoor
