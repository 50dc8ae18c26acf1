/- Leads to StoreHistories of chapter 6: V14 V15 V16. -/
import Derived.Test.YtbibidfkbdhblaaGreatDoorM48
import Derived.Test.YtbibidfkbdhblaaGreatDoorRows
import Derived.LaidMore
import Derived.ProofKit
set_option maxHeartbeats 4000000
set_option maxRecDepth 100000
set_option linter.all false
namespace Go.Proofs.YtbibidfkbdhblaaGreatDoor
open Go.RowKit Go.Maps Sp Mt Go.Conc
theorem old_at {w w1 : World} {d : Nat} (h : Old (w.at d) w1) : Old w w1 := ⟨h.os, h.output, h.size, h.block⟩
theorem lh_leaves {t0 t1 t2 t3 t4 t5 : Value} {l : List Value} {w w0 : World} {k : List Item} (h : Old w0 w) :
 Leaving0 Tryz.prog (fun v w' => v = .bool true ∧ Old w0 w') { (Go.Conc.base 5).at { tmps := (t0 :: t1 :: t2 :: t3 :: t4 :: t5 :: .bool true :: l).toArray, defers := [] } k with mode := .returning } [] w := by
 refine ⟨rfl, rfl, rfl, rfl, by kernel_rfl, .bool true, _, Tryz.func5, fun d => ⟨⟨rfl, h.at d⟩, #[], ?_, by simp⟩⟩
 rw [Sem.runT_eq]
 refine Prod.ext ?_ ?_ <;> simp [results, Tryz.results5, go_sem, Frame.at, Go.Conc.base]
theorem lhFrame {c : Code} {x0 x1 x2 : Value} (hc : Tryz.f5.body = some c) : Frame.enter Tryz.prog 5 #[x0, x1, x2] .normal = (Go.Conc.base 5).at { tmps := #[x0, x1, x2, U, U, U, U, U, U, U, U, U, U, U, U, U, U, U, U, U, U, U, U, U, U, U, U, U, U, U, U, U, U, U, U, U, U, U, U, U, U, U, U, U, U, U, U, U, U, U, U, U, U, U, U, U, U, U, U, U, U, U, U, U, U, U, U, U, U, U, U, U, U, U, U, U, U, U, U, U, U, U, U, U, U, U, U, U, U, U, U], defers := [] } [.code c] := by
 rw [Go.Conc.enter_at #[x0, x1, x2] Tryz.func5 hc]
 simp only [Tryz.ntmps5, List.size_toArray, List.length_cons, List.length_nil, Nat.reduceAdd, Nat.reduceSub, Array.replicate_succ, Array.replicate_zero, List.push_toArray, List.append_toArray, List.nil_append, List.cons_append]
theorem lh_13 {r0 rg rs r3 r4 r5 r7 r8 r9 r11 r12 r13 : Code} (hc : Tryz.f5.body = some (.seq r0 (.seq (.seq rg (.cond (.tmp 21) (.seq rs .ret) .skip)) (.seq r3 (.seq r4 (.seq r5 (.seq r7 (.seq r8 (.seq r9 (.seq r11 (.seq r12 (.seq r13 (.ret))))))))))))) {B : Nat} {b : Bk} {l : List Int} {s : Int} {vr vg vm vs vc : Value} {la : Option Addr} {lc : Nat} {d15 d16 d17 d18 d19 d20 : Value} {i : Bool} {h : Int} {k : Int} {n : Int} {q : List Int} {u : Int} {pa : Option Addr} {pc : Nat} {xa : Option Addr} {xc : Nat} {w : World} (hq : IntsAt w pa q) (hx : IntsAt w xa q) (hql : q.length ≤ 1000000) (hK : KindsAt w) {R : Code} {cs : List Frame} {K : Frame → List Frame → World → Prop}
 (hk : ∀ a w', (∃ t0 t1 t2 t3 t4 t5 tl, a = ({ tmps := (t0 :: t1 :: t2 :: t3 :: t4 :: t5 :: .bool true :: tl).toArray, defers := [] } : Act)) → Old w w' → Leads Tryz.prog K ((Go.Conc.base 5).at a [.code R]) cs w') :
 Leads Tryz.prog K ((Go.Conc.base 5).at (LA12 B b l s vr vg vm vs vc la lc d15 d16 d17 d18 d19 d20 i h k n q u pa pc xa xc) (.code r13 :: [.code R])) cs w := by
 have nb : (Go.Conc.base 5).kind = .normal := rfl
 simp only [Tryz.f5, Option.some.injEq, Code.seq.injEq] at hc
 obtain ⟨-, -, -, -, -, -, -, -, -, -, h9, -⟩ := hc
 rw [← h9]
 clear h9
 unfold LA12
 refine leads_region fun d => ?_
 simp only [List.size_toArray, List.length_cons, List.length_nil, Nat.reduceAdd, Nat.zero_add, List.range, List.range.loop]
 refine leads_op (.slice pa q.length pc) nb rfl rfl (fun d => by simp [go_sem]) (fun d => by simp [go_sem]) fun d1 => ?_
 go_simp
 refine leads_op (.slice xa q.length xc) nb rfl rfl (fun d => by simp [go_sem]) (fun d => by simp [go_sem]) fun d2 => ?_
 go_simp
 refine leads_call (f := 12) (args := #[.slice pa q.length pc, .slice xa q.length xc]) (Z := fun v w1 => v = .bool true ∧ Old w w1) nb rfl rfl (fun d => by simp [go_sem]) (fun d => by simp [go_sem]; exact ev_call Tryz.func12 (by kernel_rfl) (by kernel_rfl)) (fun d3 => ?_) ?_
 ·refine (calls_co (w := (((w.at d).at d1).at d2).at d3) (Z := fun v _ => v = .bool true) (fun v w1 w2 ht h => h) fun W hW => ?_).mono ?_
  ·have hT : Twin w.heap.size w W := hW.unat.unat.unat.unat
   refine (sameNums_at (hT.ints hq) (hT.ints hx) rfl rfl hql hql (t := true) (by simp)).mono ?_
   rintro e w' ⟨rfl, hb⟩
   exact ⟨_, rfl, rfl, hb⟩
  ·rintro fr' cs' w1 ⟨v, h1, h2, rfl, ho⟩
   exact ⟨_, h1, h2, rfl, old_at (old_at (old_at (old_at ho)))⟩
 rintro v w1 ⟨rfl, ho1⟩
 go_simp
 have hK1 := ho1.kinds hK
 refine leads_op (.bool true) nb rfl rfl (fun d => by simp [go_sem]) (fun d => by simp [go_sem]) fun e3 => ?_
 go_simp
 refine leads_op (.int .i64 u) nb rfl rfl (fun d => by simp [go_sem]) (fun d => by simp [go_sem]) fun e4 => ?_
 go_simp
 refine leads_op (.int .i64 u) nb rfl rfl (fun d => by simp [go_sem]) (fun d => by simp [go_sem]) fun e5 => ?_
 go_simp
 refine leads_op (.bool true) nb rfl rfl (fun d => by simp [go_sem]) (fun d => by simp [go_sem]) fun e6 => ?_
 go_simp
 refine leads_op (.bool true) nb rfl rfl (fun d => by simp [go_sem]) (fun d => by simp [go_sem]) fun e7 => ?_
 go_simp
 refine leads_op (.bool true) nb rfl rfl (fun d => by simp [go_sem]) (fun d => by simp [go_sem]) fun e8 => ?_
 go_simp
 refine leads_call (f := 9) (args := #[]) (Z := fun v w2 => v = .bool true ∧ Old w w2) nb rfl rfl (fun d => by simp [go_sem]) (fun d => by simp [go_sem]; exact ev_call Tryz.func9 (by kernel_rfl) (by kernel_rfl)) (fun d3 => ?_) ?_
 ·refine (stored_co (w := ((((((w1.at e3).at e4).at e5).at e6).at e7).at e8).at d3) ((show Twin 0 w1 (((((((w1.at e3).at e4).at e5).at e6).at e7).at e8).at d3) from ⟨rfl, rfl, rfl, fun _ => rfl, fun _ => rfl, fun _ _ => rfl⟩).kinds hK1) _ _).mono ?_
  rintro fr' cs' w2 ⟨h1, h2, ho⟩
  exact ⟨_, h1, h2, rfl, ho1.trans ⟨ho.os, ho.output, ho.size, ho.block⟩⟩
 rintro v w2 ⟨rfl, ho2⟩
 go_simp
 refine leads_op (.bool true) nb rfl rfl (fun d => by simp [go_sem]) (fun d => by simp [go_sem]) fun d => ?_
 go_simp
 refine leads_op (.bool true) nb rfl rfl (fun d => by simp [go_sem]) (fun d => by simp [go_sem]) fun d => ?_
 go_simp
 refine leads_inRegion fun d => ?_
 exact hk _ _ ⟨_, _, _, _, _, _, _, rfl⟩ ⟨ho2.os, ho2.output, ho2.size, ho2.block⟩
theorem law5_co {w : World} {b : Bk} {l : List Int} {s : Int} {vr vg vm vs vc : Value} {la : Option Addr} {lc : Nat} (hR : RawAt w b vr vg vm vs vc) (hK : KindsAt w) (hL : IntsAt w la l) :
 Leads Tryz.prog (Leaving0 Tryz.prog fun v w' => v = .bool true ∧ Old w w') (Frame.enter Tryz.prog 5 #[.agg #[vr, vg, vm, vs, vc], .slice la l.length lc, .int .i64 s] .normal) [] w := by
 obtain ⟨r0, rg, rs, r3, r4, r5, r7, r8, r9, r11, r12, r13, hc⟩ := lhBody_eq
 have hok := progOk.code _ _ Tryz.func5 _ hc
 simp only [codeOk, Bool.and_eq_true] at hok
 obtain ⟨k0, ⟨kg, _⟩, k3, k4, k5, k7, k8, k9, k11, k12, _⟩ := hok
 have hsc : ∃ rs0, rs = .region 2 rs0 false := by
  have hc2 := hc
  simp only [Tryz.f5, Option.some.injEq, Code.seq.injEq, Code.cond.injEq] at hc2
  obtain ⟨-, ⟨-, -, ⟨h9, -⟩, -⟩, -⟩ := hc2
  exact ⟨_, h9.symm⟩
 rw [lhFrame hc]
 have nb : (Go.Conc.base 5).kind = .normal := rfl
 have nd : MarksOnly [] := fun d hd => by cases hd
 refine piece_step k0 nb nd (Z := LZ0 b l s vr vg vm vs vc la lc) (fun a w1 w2 ht h => by obtain ⟨B, h1, h2⟩ := h; exact ⟨B, h1, h2.twin ht⟩) (fun W hW => lh_0 hc (hW.raw hR) (hW.kinds hK) (hW.ints hL)) fun a0 w0 hz ho0 => ?_
 obtain ⟨B, rfl, hE⟩ := hz
 obtain ⟨x, hx⟩ : ∃ x : Bool, (x = true ↔ ¬ (SmallB b ∧ l.length ≤ 20)) := by
  by_cases h : SmallB b ∧ l.length ≤ 20
  ·exact ⟨false, by simp [h]⟩
  ·exact ⟨true, by simp only [true_iff]; exact h⟩
 refine leads_seq fun d => ?_
 have hE := hE.twin (on_at w0 d)
 have ho0 := ho0.at d
 refine piece_step kg nb nd (Z := LZ1 B b l s vr vg vm vs vc la lc x) (fun a w1 w2 ht h => h) (fun W hW => lh_1 hc (hE.twin hW) hx) fun a1 w1 hz ho => ?_
 obtain ⟨d15, d16, d17, d18, d19, d20, rfl⟩ := hz
 have hE := hE.old ho
 have ho1 := ho0.trans ho
 clear ho
 cases x with
 | true =>
  refine leads_cond (t := true) (by simp [LA1, go_sem]) fun da => ?_
  simp only [if_true]
  have hc2 := hc
  simp only [Tryz.f5, Option.some.injEq, Code.seq.injEq, Code.cond.injEq] at hc2
  obtain ⟨-, ⟨-, -, ⟨h9, -⟩, -⟩, -⟩ := hc2
  rw [← h9]
  clear h9
  unfold LA1
  refine leads_seq fun db => ?_
  refine leads_region fun dc => ?_
  simp only [List.size_toArray, List.length_cons, List.length_nil, Nat.reduceAdd, Nat.zero_add, List.range, List.range.loop]
  refine leads_call (f := 9) (args := #[]) (Z := fun v w2 => v = .bool true ∧ Old w w2) nb rfl rfl (fun d => by simp [go_sem]) (fun d => by simp [go_sem]; exact ev_call Tryz.func9 (by kernel_rfl) (by kernel_rfl)) (fun d3 => ?_) ?_
  ·refine (stored_co (w := (((w1.at da).at db).at dc).at d3) (Twin.kinds (n := 0) (w := w1) ⟨rfl, rfl, rfl, fun _ => rfl, fun _ => rfl, fun _ _ => rfl⟩ hE.kd) _ _).mono ?_
   rintro fr' cs' w2 ⟨h1, h2, ho⟩
   exact ⟨_, h1, h2, rfl, ho1.trans ⟨ho.os, ho.output, ho.size, ho.block⟩⟩
  rintro v w2 ⟨rfl, ho2⟩
  go_simp
  refine leads_op (.bool true) nb rfl rfl (fun d => by simp [go_sem]) (fun d => by simp [go_sem]) fun d => ?_
  go_simp
  refine leads_inRegion fun d => ?_
  refine leads_ret fun d => ?_
  exact .done (lh_leaves ⟨ho2.os, ho2.output, ho2.size, ho2.block⟩)
 | false =>
  have hS : SmallB b ∧ l.length ≤ 20 := Classical.byContradiction fun h => by have := hx.2 h; cases this
  refine leads_cond (t := false) (by simp [LA1, go_sem]) fun dd => ?_
  simp only [Bool.false_eq_true, if_false]
  refine leads_skip fun dd2 => ?_
  have hE := (hE.twin (on_at w1 dd)).twin (on_at (w1.at dd) dd2)
  have ho1 := (ho1.at dd).at dd2
  generalize (w1.at dd).at dd2 = w2 at hE ho1
  have ho2 := ho1
  clear ho1
  refine piece_step k3 nb nd (Z := LZ3 B b l s vr vg vm vs vc la lc d15 d16 d17 d18 d19 d20 (isHist b l) (isHistAl b l)) (fun a w1 w2 ht h => h) (fun W hW => lh_3 hc (hE.twin hW) hS rfl rfl) fun a3 w3 hz ho => ?_
  obtain rfl := hz
  have hE := hE.old ho
  have ho3 := ho2.trans ho
  clear ho
  refine piece_step k4 nb nd (Z := LZ4 B b l s vr vg vm vs vc la lc d15 d16 d17 d18 d19 d20 (isHist b l) (isHistAl b l)) (fun a w1 w2 ht h => h) (fun W hW => lh_4 hc (hE.twin hW) hS rfl rfl) fun a4 w4 hz ho => ?_
  obtain rfl := hz
  have hE := hE.old ho
  have ho4 := ho3.trans ho
  clear ho
  refine piece_step k5 nb nd (Z := LZ5 B b l s vr vg vm vs vc la lc d15 d16 d17 d18 d19 d20 (isHist b l) (isHistAl b l) (bookAl b)) (fun a w1 w2 ht h => h) (fun W hW => lh_5 hc (hE.twin hW) hS rfl) fun a5 w5 hz ho => ?_
  obtain rfl := hz
  have hE := hE.old ho
  have ho5 := ho4.trans ho
  clear ho
  refine piece_step k7 nb nd (Z := LZ7 B b l s vr vg vm vs vc la lc d15 d16 d17 d18 d19 d20 (isHist b l) (isHistAl b l) (bookAl b) (histN b)) (fun a w1 w2 ht h => h) (fun W hW => lh_7 hc (hE.twin hW) hS rfl rfl) fun a7 w7 hz ho => ?_
  obtain rfl := hz
  have hE := hE.old ho
  have ho7 := ho5.trans ho
  clear ho
  refine piece_step k8 nb nd (Z := LZ8 B b l s vr vg vm vs vc la lc d15 d16 d17 d18 d19 d20 (isHist b l) (isHistAl b l) (bookAl b) (histN b)) (fun a w1 w2 ht h => h) (fun W hW => lh_8 hc (hE.twin hW) hS rfl rfl) fun a8 w8 hz ho => ?_
  obtain rfl := hz
  have hE := hE.old ho
  have ho8 := ho7.trans ho
  clear ho
  refine piece_step k9 nb nd (Z := LZ9 B b l s vr vg vm vs vc la lc d15 d16 d17 d18 d19 d20 (isHist b l) (isHistAl b l) (bookAl b) (histN b)) (fun a w1 w2 ht h => h) (fun W hW => lh_9 hc (hE.twin hW) hS) fun a9 w9 hz ho => ?_
  obtain rfl := hz
  have hE := hE.old ho
  have ho9 := ho8.trans ho
  clear ho
  refine piece_step k11 nb nd (Z := LZ11 B b l s vr vg vm vs vc la lc d15 d16 d17 d18 d19 d20 (isHist b l) (isHistAl b l) (bookAl b) (histN b) (thr b s) (throughAl b s)) (fun a w1 w2 ht h => by obtain ⟨pa, pc, h1, h2⟩ := h; exact ⟨pa, pc, h1, ht.ints h2⟩) (fun W hW => lh_11 hc (hE.twin hW) hS rfl rfl) fun a11 w11 hz ho => ?_
  obtain ⟨pa, pc, rfl, hp⟩ := hz
  have hE := hE.old ho
  have ho11 := ho9.trans ho
  clear ho
  refine piece_step k12 nb nd (Z := LZ12 B b l s vr vg vm vs vc la lc d15 d16 d17 d18 d19 d20 (isHist b l) (isHistAl b l) (bookAl b) (histN b) (thr b s) (throughAl b s) pa pc) (fun a w1 w2 ht h => by obtain ⟨xa, xc, h1, h2⟩ := h; exact ⟨xa, xc, h1, ht.ints h2⟩) (fun W hW => lh_12 hc (hE.twin hW) hS rfl rfl) fun a12 w12 hz ho => ?_
  obtain ⟨xa, xc, rfl, hxx⟩ := hz
  have hp := ho.ints hp
  have hE := hE.old ho
  have ho12 := ho11.trans ho
  clear ho
  refine leads_seq fun d => ?_
  refine lh_13 hc ((on_at w12 d).ints hp) ((on_at w12 d).ints hxx) (thr_len hS.1.2.2.2.2) ((on_at w12 d).kinds hE.kd) fun a w13 ha ho => ?_
  obtain ⟨_, _, _, _, _, _, _, rfl⟩ := ha
  refine leads_ret fun d => ?_
  exact .done (lh_leaves ((ho12.trans (old_at ho)).at d))
end Go.Proofs.YtbibidfkbdhblaaGreatDoor
namespace Go.Proofs.YtbibidfkbdhblaaGreatDoor
open Go.RowKit Sp
theorem cellsStr : Tryz.prog.cellsOf 9 = 1 := by kernel_rfl
theorem cellsInt : Tryz.prog.cellsOf 3 = 1 := by kernel_rfl
theorem cellsKd : Tryz.prog.cellsOf 70 = 1 := by kernel_rfl
theorem cellsBook : Tryz.prog.cellsOf 26 = 5 := by kernel_rfl
theorem cellsMsg : Tryz.prog.cellsOf 88 = 3 := by kernel_rfl
theorem cellsSes : Tryz.prog.cellsOf 40 = 1 := by kernel_rfl
theorem cellsPart : Tryz.prog.cellsOf 85 = 2 := by kernel_rfl
theorem cellsRec : Tryz.prog.cellsOf 72 = 4 := by kernel_rfl
theorem cellsParts : Tryz.prog.cellsOf 38 = 1 := by kernel_rfl
theorem cellsMsgs : Tryz.prog.cellsOf 22 = 1 := by kernel_rfl
theorem cellsSess : Tryz.prog.cellsOf 23 = 1 := by kernel_rfl
theorem cellsRecs : Tryz.prog.cellsOf 24 = 1 := by kernel_rfl
theorem addr_plus (b o k : Nat) : Addr.add ⟨b, o, none⟩ k = ⟨b, o + k, none⟩ := by
 unfold Addr.add
 split
 ·rename_i h; subst h; rfl
 ·rfl
theorem spot_of {w : World} {base : Nat} {a : Addr} {k q : Nat} {cs : List Value} (h : w.cells? base (a.add (0 * q)) k = some cs) (hk : 0 < k) : a.spot = none := by
 obtain ⟨_, hl, hc⟩ := World.cells?_some h
 have := hc 0 hk
 rw [List.getElem?_eq_getElem (by omega)] at this
 simpa [Addr.add] using World.cell?_spot this
section
variable {H : Type} {enc : TypeId × Value → H} {w : World} {base : Nat} {sp : Nat → Bool} {held : Bool} {n : Nat} {cs : List Value} {y : DataW H × List MemPlace}
theorem open_msg (h : DataW.trod enc Tryz.prog w base sp held n 88 cs = some y) : ∃ m : Msg, cs = [.string m.name, .int .i64 m.groups, .int .i64 m.due] := by
 obtain ⟨xs, k, _, _, hl, hx, hf⟩ := DataW.trod_struct Tryz.underlying88 h
 rw [cellsMsg] at hl
 have hx3 : xs.length = 3 := hx
 have h0 := hf 0 _ rfl
 have h1 := hf 1 _ rfl
 have h2 := hf 2 _ rfl
 match cs, hl, xs, hx3 with
 | [a, b, c], _, [x0, x1, x2], _ =>
  simp [cellsStr, cellsInt] at h0 h1 h2
  obtain ⟨s, e0, _⟩ := DataW.trod_string Tryz.underlying9 h0
  obtain ⟨g, e1, _⟩ := DataW.trod_int Tryz.underlying3 h1
  obtain ⟨d, e2, _⟩ := DataW.trod_int Tryz.underlying3 h2
  cases e0; cases e1; cases e2
  exact ⟨⟨s, g, d⟩, rfl⟩
theorem open_part (h : DataW.trod enc Tryz.prog w base sp held n 85 cs = some y) : ∃ m : Prt, cs = [.int .i64 m.1, .int .i64 m.2] := by
 obtain ⟨xs, k, _, _, hl, hx, hf⟩ := DataW.trod_struct Tryz.underlying85 h
 rw [cellsPart] at hl
 have hx3 : xs.length = 2 := hx
 have h0 := hf 0 _ rfl
 have h1 := hf 1 _ rfl
 match cs, hl, xs, hx3 with
 | [a, b], _, [x0, x1], _ =>
  simp [cellsInt] at h0 h1
  obtain ⟨g, e1, _⟩ := DataW.trod_int Tryz.underlying3 h0
  obtain ⟨d, e2, _⟩ := DataW.trod_int Tryz.underlying3 h1
  cases e1; cases e2
  exact ⟨(g, d), rfl⟩
theorem open_rec (h : DataW.trod enc Tryz.prog w base sp held n 72 cs = some y) : ∃ m : Rec, cs = [.int .i64 m.k, .int .i64 m.a, .int .i64 m.b, .int .i64 m.m] := by
 obtain ⟨xs, k, _, _, hl, hx, hf⟩ := DataW.trod_struct Tryz.underlying72 h
 rw [cellsRec] at hl
 have hx3 : xs.length = 4 := hx
 have h0 := hf 0 _ rfl
 have h1 := hf 1 _ rfl
 have h2 := hf 2 _ rfl
 have h3 := hf 3 _ rfl
 match cs, hl, xs, hx3 with
 | [a, b, c, d], _, [x0, x1, x2, x3], _ =>
  simp [cellsInt, cellsKd] at h0 h1 h2 h3
  obtain ⟨q0, e0, _⟩ := DataW.trod_int Tryz.underlying70 h0
  obtain ⟨q1, e1, _⟩ := DataW.trod_int Tryz.underlying3 h1
  obtain ⟨q2, e2, _⟩ := DataW.trod_int Tryz.underlying3 h2
  obtain ⟨q3, e3, _⟩ := DataW.trod_int Tryz.underlying3 h3
  cases e0; cases e1; cases e2; cases e3
  exact ⟨⟨q0, q1, q2, q3⟩, rfl⟩
instance : Inhabited Msg := ⟨⟨ByteArray.empty, 0, 0⟩⟩
instance : Inhabited Rec := ⟨⟨0, 0, 0, 0⟩⟩
theorem open_msgs (h : DataW.trod enc Tryz.prog w base (fun _ => true) held n 22 cs = some y) : ∃ a l c, cs = [.slice a (List.length l) c] ∧ MsgsAt w a l := by
 rcases Deep.open_slice Tryz.underlying22 h with ⟨hcs, _⟩ | ⟨a, len, cap, m, k, D, Pl, hcs, hb, hl, hm, hmm, _, hx⟩
 ·exact ⟨none, [], 0, hcs, fun i hi => absurd hi (Nat.not_lt_zero _)⟩
 ·rw [cellsMsg] at hx
  simp only [if_true] at hmm
  obtain ⟨M, hM⟩ := Deep.choose_lt (α := Msg) (p := fun i m => w.cells? base (a.add (i * 3)) 3 = some [.string m.name, .int .i64 m.groups, .int .i64 m.due]) (fun i hi => by
   obtain ⟨cs', h1, h2⟩ := hx i (show i < m from hi)
   obtain ⟨q, rfl⟩ := open_msg h2
   exact ⟨q, h1⟩)
  refine ⟨some a, (List.range len).map M, cap, by rw [hcs]; simp, fun i hi => ?_⟩
  have hi2 : i < len := by simpa using hi
  have hs := spot_of (hM 0 (by omega)) (by decide)
  obtain ⟨b, o, spot⟩ := a
  simp only at hs
  subst hs
  obtain ⟨_, _, hc⟩ := World.cells?_some (hM i (by omega))
  have c0 := hc 0 (by decide)
  have c1 := hc 1 (by decide)
  have c2 := hc 2 (by decide)
  simp only [addr_plus, Nat.add_zero, List.getElem?_cons_zero, List.getElem?_cons_succ] at c0 c1 c2
  refine ⟨b, o, rfl, lt_of_cell c0, ?_, ?_, ?_⟩ <;> simp only [List.getElem_map, List.getElem_range] <;> assumption
theorem open_parts (h : DataW.trod enc Tryz.prog w base (fun _ => true) held n 38 cs = some y) : ∃ a l c, cs = [.slice a (List.length l) c] ∧ List.length l ≤ c ∧ PartsAt w a l := by
 rcases Deep.open_slice Tryz.underlying38 h with ⟨hcs, _⟩ | ⟨a, len, cap, m, k, D, Pl, hcs, hb, hl, hm, hmm, _, hx⟩
 ·exact ⟨none, [], 0, hcs, Nat.le_refl _, fun i hi => absurd hi (Nat.not_lt_zero _)⟩
 ·rw [cellsPart] at hx
  simp only [if_true] at hmm
  obtain ⟨M, hM⟩ := Deep.choose_lt (α := Prt) (p := fun i m => w.cells? base (a.add (i * 2)) 2 = some [.int .i64 m.1, .int .i64 m.2]) (fun i hi => by
   obtain ⟨cs', h1, h2⟩ := hx i (show i < m from hi)
   obtain ⟨q, rfl⟩ := open_part h2
   exact ⟨q, h1⟩)
  refine ⟨some a, (List.range len).map M, cap, by rw [hcs]; simp, by simpa using hl, fun i hi => ?_⟩
  have hi2 : i < len := by simpa using hi
  have hs := spot_of (hM 0 (by omega)) (by decide)
  obtain ⟨b, o, spot⟩ := a
  simp only at hs
  subst hs
  obtain ⟨_, _, hc⟩ := World.cells?_some (hM i (by omega))
  have c0 := hc 0 (by decide)
  have c1 := hc 1 (by decide)
  simp only [addr_plus, Nat.add_zero, List.getElem?_cons_zero, List.getElem?_cons_succ] at c0 c1
  refine ⟨b, o, rfl, lt_of_cell c0, ?_, ?_⟩ <;> simp only [List.getElem_map, List.getElem_range] <;> assumption
theorem open_recs (h : DataW.trod enc Tryz.prog w base (fun _ => true) held n 24 cs = some y) : ∃ a l c, cs = [.slice a (List.length l) c] ∧ RecsAt w a l := by
 rcases Deep.open_slice Tryz.underlying24 h with ⟨hcs, _⟩ | ⟨a, len, cap, m, k, D, Pl, hcs, hb, hl, hm, hmm, _, hx⟩
 ·exact ⟨none, [], 0, hcs, fun i hi => absurd hi (Nat.not_lt_zero _)⟩
 ·rw [cellsRec] at hx
  simp only [if_true] at hmm
  obtain ⟨M, hM⟩ := Deep.choose_lt (α := Rec) (p := fun i m => w.cells? base (a.add (i * 4)) 4 = some [.int .i64 m.k, .int .i64 m.a, .int .i64 m.b, .int .i64 m.m]) (fun i hi => by
   obtain ⟨cs', h1, h2⟩ := hx i (show i < m from hi)
   obtain ⟨q, rfl⟩ := open_rec h2
   exact ⟨q, h1⟩)
  refine ⟨some a, (List.range len).map M, cap, by rw [hcs]; simp, fun i hi => ?_⟩
  have hi2 : i < len := by simpa using hi
  have hs := spot_of (hM 0 (by omega)) (by decide)
  obtain ⟨b, o, spot⟩ := a
  simp only at hs
  subst hs
  obtain ⟨_, _, hc⟩ := World.cells?_some (hM i (by omega))
  have c0 := hc 0 (by decide)
  have c1 := hc 1 (by decide)
  have c2 := hc 2 (by decide)
  have c3 := hc 3 (by decide)
  simp only [addr_plus, Nat.add_zero, List.getElem?_cons_zero, List.getElem?_cons_succ] at c0 c1 c2 c3
  refine ⟨b, o, rfl, lt_of_cell c0, ?_, ?_, ?_, ?_⟩ <;> simp only [List.getElem_map, List.getElem_range] <;> assumption
theorem open_sess (h : DataW.trod enc Tryz.prog w base (fun _ => true) held n 23 cs = some y) : ∃ a l c, cs = [.slice a (List.length l) c] ∧ SesRaw w a l := by
 rcases Deep.open_slice Tryz.underlying23 h with ⟨hcs, _⟩ | ⟨a, len, cap, m, k, D, Pl, hcs, hb, hl, hm, hmm, _, hx⟩
 ·exact ⟨none, [], 0, hcs, fun i hi => absurd hi (Nat.not_lt_zero _)⟩
 ·rw [cellsSes] at hx
  simp only [if_true] at hmm
  obtain ⟨M, hM⟩ := Deep.choose_lt (α := List Prt) (p := fun i m => ∃ pa pc, w.cells? base (a.add (i * 1)) 1 = some [.slice pa m.length pc] ∧ m.length ≤ pc ∧ PartsAt w pa m) (fun i hi => by
   obtain ⟨cs', h1, h2⟩ := hx i (show i < m from hi)
   obtain ⟨xs, k', _, _, hl2, hx2, hf⟩ := DataW.trod_struct Tryz.underlying40 h2
   rw [cellsSes] at hl2
   have hx3 : xs.length = 1 := hx2
   have h0 := hf 0 _ rfl
   match cs', hl2, xs, hx3 with
   | [v], _, [x0], _ =>
    simp [cellsParts] at h0
    obtain ⟨pa, q, pc, e, hq, hp⟩ := open_parts h0
    cases e
    exact ⟨q, pa, pc, h1, hq, hp⟩)
  refine ⟨some a, (List.range len).map M, cap, by rw [hcs]; simp, fun i hi => ?_⟩
  have hi2 : i < len := by simpa using hi
  obtain ⟨_, _, hM0, _⟩ := hM 0 (by omega)
  have hs := spot_of hM0 (by decide)
  obtain ⟨b, o, spot⟩ := a
  simp only at hs
  subst hs
  obtain ⟨pa, pc, hMi, hq, hp⟩ := hM i (by omega)
  obtain ⟨_, _, hc⟩ := World.cells?_some hMi
  have c0 := hc 0 (by decide)
  simp only [addr_plus, Nat.add_zero, Nat.mul_one, List.getElem?_cons_zero] at c0
  refine ⟨b, o, rfl, lt_of_cell c0, pa, pc, ?_, ?_, ?_⟩ <;> simp only [List.getElem_map, List.getElem_range] <;> assumption
theorem open_nums (h : DataW.trod enc Tryz.prog w base (fun _ => true) held n 27 cs = some y) : ∃ a l c, cs = [.slice a (List.length l) c] ∧ IntsAt w a l := by
 rcases Deep.open_slice1 Tryz.underlying27 cellsInt h with ⟨hcs, _⟩ | ⟨a, len, cap, m, k, V, D, Pl, hcs, hb, hl, hm, hmm, _, hx⟩
 ·exact ⟨none, [], 0, hcs, fun i hi => absurd hi (Nat.not_lt_zero _)⟩
 ·simp only [if_true] at hmm
  obtain ⟨M, hM⟩ := Deep.choose_lt (α := Int) (p := fun i m => w.cell? (a.add i) = some (.int .i64 m)) (fun i hi => by
   obtain ⟨h1, h2⟩ := hx i (show i < m from hi)
   obtain ⟨q, e, _⟩ := DataW.trod_int Tryz.underlying3 h2
   exact ⟨q, h1.trans (congrArg some (List.cons.inj e).1)⟩)
  refine ⟨some a, (List.range len).map M, cap, by rw [hcs]; simp, fun i hi => ?_⟩
  have hi2 : i < len := by simpa using hi
  have hs : a.spot = none := by simpa [Addr.add] using World.cell?_spot (hM 0 (by omega))
  obtain ⟨b, o, spot⟩ := a
  simp only at hs
  subst hs
  have c0 := hM i (by omega)
  simp only [addr_plus] at c0
  refine ⟨b, o, rfl, lt_of_cell c0, ?_⟩
  simp only [List.getElem_map, List.getElem_range]
  exact c0
theorem open_book {v : Value} (h : DataW.trod enc Tryz.prog w base (fun _ => true) held n 26 v.cells.toList = some y) : ∃ b vr vg vm vs vc, v = .agg #[vr, vg, vm, vs, vc] ∧ RawAt w b vr vg vm vs vc := by
 obtain ⟨xs, k, _, _, hl, hx, hf⟩ := DataW.trod_struct Tryz.underlying26 h
 rw [cellsBook] at hl
 obtain ⟨c, rfl⟩ : ∃ c, v = .agg c := by
  cases v <;> first | exact ⟨_, rfl⟩ | (simp [Value.cells] at hl)
 simp only [Value.cells] at hl hf
 have hx3 : xs.length = 5 := hx
 have h0 := hf 0 _ rfl
 have h1 := hf 1 _ rfl
 have h2 := hf 2 _ rfl
 have h3 := hf 3 _ rfl
 have h4 := hf 4 _ rfl
 obtain ⟨c⟩ := c
 simp only at hl h0 h1 h2 h3 h4
 match c, hl, xs, hx3 with
 | [a0, a1, a2, a3, a4], _, [x0, x1, x2, x3, x4], _ =>
  simp [cellsInt, cellsMsgs, cellsSess, cellsRecs] at h0 h1 h2 h3 h4
  obtain ⟨q0, e0, _⟩ := DataW.trod_int Tryz.underlying3 h0
  obtain ⟨q1, e1, _⟩ := DataW.trod_int Tryz.underlying3 h1
  obtain ⟨ma, ml, mc, e2, hm⟩ := open_msgs h2
  obtain ⟨sa, sl, sc, e3, hs⟩ := open_sess h3
  obtain ⟨ra, rl, rc, e4, hr⟩ := open_recs h4
  cases e0; cases e1; cases e2; cases e3; cases e4
  exact ⟨⟨q0, q1, ml, sl, rl⟩, _, _, _, _, _, rfl, rfl, rfl, ⟨_, _, rfl, hm⟩, ⟨_, _, rfl, hs⟩, _, _, rfl, hr⟩
end
theorem trod_array {H : Type} {enc : TypeId × Value → H} {P : Program} {w : World} {base : Nat} {spare : Nat → Bool} {held : Bool} {fuel n : Nat} {t e : TypeId} {cs : List Value} {x : DataW H × List MemPlace} (ht : P.underlying t = some (.array n e)) (h : DataW.trod enc P w base spare held fuel t cs = some x) :
 ∃ (xs : List (DataW H × List MemPlace)) (m : Nat), x = (.agg (xs.map (·.1)), xs.flatMap (·.2)) ∧ cs.length = P.cellsOf t ∧ xs.length = n ∧
  ∀ (i : Nat), i < n → DataW.trod enc P w base spare held m e ((cs.drop (i * P.cellsOf e)).take (P.cellsOf e)) = xs[i]? := by
 cases fuel with
 | zero => simp [DataW.trod] at h
 | succ m =>
  unfold DataW.trod at h
  rw [ht] at h
  split at h <;> simp_all
  obtain ⟨hl, xs, hp, hd⟩ := h
  exact ⟨xs, hd.symm, by simpa using mapM_some_length hp, m, fun i hi => mapM_some_get hp i i (List.getElem?_range hi)⟩
theorem cellsKindRow : Tryz.prog.cellsOf 188 = 5 := by kernel_rfl
theorem cellsW : Tryz.prog.cellsOf 9 = 1 := by kernel_rfl
theorem cellsB : Tryz.prog.cellsOf 4 = 1 := by kernel_rfl
theorem cellsF1 : Tryz.prog.cellsOf 185 = 1 := by kernel_rfl
theorem cellsF2 : Tryz.prog.cellsOf 186 = 1 := by kernel_rfl
theorem kind_row {w : World} {sp : Nat → Bool} {n : Nat} {cs : List Value} {wd : List UInt8} {ub um : Bool} {b1 b2 : UInt8} {r1 r2 : List UInt8} {f1 f2 : FuncId} {q : List MemPlace}
 (h : DataW.trod (funcToken Tryz.prog) Tryz.prog w 0 sp true n 188 cs = some (.agg [.lit (.string wd), .lit (.bool ub), .lit (.bool um), .held (b1 :: r1), .held (b2 :: r2)], q))
 (h1 : ((List.range Tryz.prog.funcs.size).filter fun f => (Tryz.prog.funcs[f]?).any (·.name.toUTF8.data.toList == b1 :: r1)) = [f1])
 (h2 : ((List.range Tryz.prog.funcs.size).filter fun f => (Tryz.prog.funcs[f]?).any (·.name.toUTF8.data.toList == b2 :: r2)) = [f2]) :
 ∃ s : ByteArray, s.data.toList = wd ∧ cs = [.string s, .bool ub, .bool um, .func (.func f1) #[] #[], .func (.func f2) #[] #[]] := by
 obtain ⟨xs, k, _, he, hl, hx, hf⟩ := DataW.trod_struct Tryz.underlying188 h
 rw [cellsKindRow] at hl
 have hx3 : xs.length = 5 := hx
 have g0 := hf 0 _ rfl
 have g1 := hf 1 _ rfl
 have g2 := hf 2 _ rfl
 have g3 := hf 3 _ rfl
 have g4 := hf 4 _ rfl
 match cs, hl, xs, hx3 with
 | [a0, a1, a2, a3, a4], _, [⟨x0, p0⟩, ⟨x1, p1⟩, ⟨x2, p2⟩, ⟨x3, p3⟩, ⟨x4, p4⟩], _ =>
  simp only [List.map_cons, List.map_nil, Prod.mk.injEq, DataW.agg.injEq, List.cons.injEq, and_true] at he
  obtain ⟨⟨e0, e1, e2, e3, e4⟩, _⟩ := he
  subst e0 e1 e2 e3 e4
  simp [cellsW, cellsB, cellsF1, cellsF2] at g0 g1 g2 g3 g4
  obtain ⟨s, c0, d0, _⟩ := DataW.trod_string Tryz.underlying9 g0
  obtain ⟨u, c1, d1⟩ := DataW.trod_bool Tryz.underlying4 g1
  obtain ⟨v, c2, d2⟩ := DataW.trod_bool Tryz.underlying4 g2
  have c3 := func_of_trod Tryz.underlying185 h1 g3
  have c4 := func_of_trod Tryz.underlying186 h2 g4
  cases c0; cases c1; cases c2
  simp only [Prod.mk.injEq, DataW.lit.injEq, Lit.string.injEq, Lit.bool.injEq, and_true] at d0 d1 d2
  obtain ⟨rfl, _⟩ := d1
  obtain ⟨rfl, _⟩ := d2
  subst c3; subst c4
  exact ⟨s, d0.1.symm, rfl⟩
theorem five_at {l : List Value} {k : Nat} {a b c d e : Value} (h : (l.drop k).take 5 = [a, b, c, d, e]) : l[k]? = some a ∧ l[k + 1]? = some b ∧ l[k + 2]? = some c ∧ l[k + 3]? = some d ∧ l[k + 4]? = some e := by
 have g : ∀ j, j < 5 → l[k + j]? = [a, b, c, d, e][j]? := fun j hj => by
  rw [← h, List.getElem?_take, if_pos hj, List.getElem?_drop]
 exact ⟨g 0 (by decide), g 1 (by decide), g 2 (by decide), g 3 (by decide), g 4 (by decide)⟩
theorem gKinds : Tryz.prog.globalNamed "baudot/store.kinds" = some 0 := by kernel_rfl
theorem tKinds : (Tryz.prog.globals[0]?).map (·.type) = some 189 := by kernel_rfl
theorem kinds_of_laid {W : World} (h : laidMetH Tryz.prog [("baudot/store.kinds", Rows.laid_baudot_store_kinds)] W) : KindsAt W := by
 obtain ⟨g, t, cs, fuel, p, hg, ht, hv, hd⟩ := h.funcs (List.mem_singleton.2 rfl)
 obtain rfl := Option.some.inj (gKinds.symm.trans hg)
 obtain rfl := Option.some.inj (tKinds.symm.trans ht)
 obtain ⟨xs, m, he, _, hx, hel⟩ := trod_array Tryz.underlying189 hd
 have hcell : ∀ i, W.cell? ⟨0, i, none⟩ = cs.toList[i]? := fun i => by
  rw [World.var?_cell hg hv i]; simp
 rw [cellsKindRow] at hel
 have e0 := hel 0 (by decide)
 have e1 := hel 1 (by decide)
 have e2 := hel 2 (by decide)
 have e3 := hel 3 (by decide)
 have e4 := hel 4 (by decide)
 have e5 := hel 5 (by decide)
 match xs, hx with
 | [⟨x0, p0⟩, ⟨x1, p1⟩, ⟨x2, p2⟩, ⟨x3, p3⟩, ⟨x4, p4⟩, ⟨x5, p5⟩], _ =>
  have hes : [x0, x1, x2, x3, x4, x5] = _ := (DataW.agg.inj (congrArg Prod.fst he)).symm
  simp only [List.getElem?_cons_zero, List.getElem?_cons_succ] at e0 e1 e2 e3 e4 e5
  injection hes with h0 hes
  injection hes with h1 hes
  injection hes with h2 hes
  injection hes with h3 hes
  injection hes with h4 hes
  injection hes with h5 hes
  subst h0 h1 h2 h3 h4 h5
  obtain ⟨s0, w0, c0⟩ := kind_row (f1 := kindMost 0) (f2 := kindRight 0) e0 (by kernel_rfl) (by kernel_rfl)
  obtain ⟨s1, w1, c1⟩ := kind_row (f1 := kindMost 1) (f2 := kindRight 1) e1 (by kernel_rfl) (by kernel_rfl)
  obtain ⟨s2, w2, c2⟩ := kind_row (f1 := kindMost 2) (f2 := kindRight 2) e2 (by kernel_rfl) (by kernel_rfl)
  obtain ⟨s3, w3, c3⟩ := kind_row (f1 := kindMost 3) (f2 := kindRight 3) e3 (by kernel_rfl) (by kernel_rfl)
  obtain ⟨s4, w4, c4⟩ := kind_row (f1 := kindMost 4) (f2 := kindRight 4) e4 (by kernel_rfl) (by kernel_rfl)
  obtain ⟨s5, w5, c5⟩ := kind_row (f1 := kindMost 5) (f2 := kindRight 5) e5 (by kernel_rfl) (by kernel_rfl)
  have z0 := five_at c0
  have z1 := five_at c1
  have z2 := five_at c2
  have z3 := five_at c3
  have z4 := five_at c4
  have z5 := five_at c5
  refine ⟨lt_of_cell ((hcell 0).trans z0.1), fun i hi => ?_⟩
  match i, hi with
  | 0, _ => exact ⟨⟨s0, w0, (hcell _).trans z0.1⟩, (hcell _).trans z0.2.1, (hcell _).trans z0.2.2.1, (hcell _).trans z0.2.2.2.1, (hcell _).trans z0.2.2.2.2⟩
  | 1, _ => exact ⟨⟨s1, w1, (hcell _).trans z1.1⟩, (hcell _).trans z1.2.1, (hcell _).trans z1.2.2.1, (hcell _).trans z1.2.2.2.1, (hcell _).trans z1.2.2.2.2⟩
  | 2, _ => exact ⟨⟨s2, w2, (hcell _).trans z2.1⟩, (hcell _).trans z2.2.1, (hcell _).trans z2.2.2.1, (hcell _).trans z2.2.2.2.1, (hcell _).trans z2.2.2.2.2⟩
  | 3, _ => exact ⟨⟨s3, w3, (hcell _).trans z3.1⟩, (hcell _).trans z3.2.1, (hcell _).trans z3.2.2.1, (hcell _).trans z3.2.2.2.1, (hcell _).trans z3.2.2.2.2⟩
  | 4, _ => exact ⟨⟨s4, w4, (hcell _).trans z4.1⟩, (hcell _).trans z4.2.1, (hcell _).trans z4.2.2.1, (hcell _).trans z4.2.2.2.1, (hcell _).trans z4.2.2.2.2⟩
  | 5, _ => exact ⟨⟨s5, w5, (hcell _).trans z5.1⟩, (hcell _).trans z5.2.1, (hcell _).trans z5.2.2.1, (hcell _).trans z5.2.2.2.1, (hcell _).trans z5.2.2.2.2⟩
  | i + 6, h => omega
end Go.Proofs.YtbibidfkbdhblaaGreatDoor
