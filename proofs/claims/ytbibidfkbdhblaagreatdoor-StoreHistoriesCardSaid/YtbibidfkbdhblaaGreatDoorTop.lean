/- Leads to StoreHistories of chapter 6: V17. -/
import Derived.Test.YtbibidfkbdhblaaGreatDoorM49
import Derived.Test.YtbibidfkbdhblaaGreatDoorCards
import Derived.Test.YtbibidfkbdhblaaGreatDoorTie
import Derived.Conc.Holds
set_option maxHeartbeats 200000
set_option maxRecDepth 100000
set_option linter.all false
namespace Go.Proofs.YtbibidfkbdhblaaGreatDoor
open Go.ChangeShapes Go.WideShapes Go.ChangeAt Go.RowKit Go.Conc Mt
theorem ownNone : ownKnob Tryz.prog.godebug = none := by kernel_rfl
theorem laidOutAll : laidOutB Tryz.prog = true := by kernel_rfl
theorem door_met (os : Os) (args : Array Value) : laidMetH Tryz.prog [("baudot/store.kinds", Rows.laid_baudot_store_kinds)] ((World.doorLaid Tryz.prog 20 os).forCall (fun _ _ => 0) ⟨#[], args, []⟩).memory :=
 laidMetH_of_parts3 (fuel := 8) (laidMet_of_run' 8 (by kernel_rfl) (by kernel_rfl)) (by kernel_rfl) (by kernel_rfl)
theorem arg_stays {H : Type} {enc : TypeId × Value → H} {t : TypeId} (hr : Tryz.prog.readableRec t = true) (hrow : t < Tryz.prog.types.size) {W W' : World} {v : Value} {d : DataW H} {ps : List MemPlace}
 (h : DataW.Trod enc Tryz.prog W 0 (fun _ => true) true t v d ps) (ho : Old W W') (hlt : ∀ x ∈ ps, x.block < W.heap.size) :
 DataW.Trod enc Tryz.prog W' 0 (fun b => decide (b < W.heap.size)) true t v d ps :=
 DataW.Trod.of_heap (w := W'.on W.tape 0) (by rfl) (Below.trod laidOutAll hr hrow h ho.below hlt)
theorem kept_old {W W' : World} (ho : Old W W') (may : MemPlace → Prop) : W.keptBut W' may := ho.below.frame may
theorem histories_lifted (os : Os) (started : os.Started) (H : Type) (enc : TypeId × Value → H) :
 ReturnsInLeavingWide {} Tryz.checked os 5 .any (fun w args => (Rows.storeHistoriesSpec.pre enc Tryz.prog Tryz.f5 [] false w args ∧ laidMetH Tryz.prog [("baudot/store.kinds", Rows.laid_baudot_store_kinds)] w) ∧ sizedMet enc Tryz.prog Tryz.f5 (OpenSpec.ofChange Rows.storeHistoriesSpec) false w args)
  (Rows.storeHistoriesSpec.post enc Tryz.prog Tryz.f5 false true false false) := by
 refine returnsInLeavingWide_of_good (C := Tryz.checked) ownNone started
  (ChangeSpec.witness_shaped (enc := enc) (C := Tryz.checked) (os := os) (X := fun w _ => laidMetH Tryz.prog [("baudot/store.kinds", Rows.laid_baudot_store_kinds)] w) false (World.doorLaid Tryz.prog 20 os) #[.agg #[.int .i64 0, .int .i64 0, .slice none 0 0, .slice none 0 0, .slice none 0 0], .slice none 0 0, .int .i64 0] 8 rfl (World.shaped_of_RefB (by kernel_rfl) (by kernel_rfl)) (by kernel_rfl) (by kernel_rfl) (by kernel_rfl) (door_met os _)) ?_
 intro w tape i _ _ _ hok hpre _
 obtain ⟨_, _, _, fn', hfn', _, _, _, _, hval0⟩ := hok
 have e : fn' = Tryz.f5 := Option.some.inj (hfn'.symm.trans Tryz.func5)
 subst e
 obtain ⟨⟨⟨ds, gs, before, hw, _⟩, hx⟩, _⟩ := hpre
 have hW := DataW.Whole.of_heap (w' := w.forCall tape i) (by rfl) hw
 have hL := hx.of_heap (w' := w.forCall tape i) (by rfl)
 generalize hWe : w.forCall tape i = W at hval0 hW hL ⊢
 generalize i.args = args at hval0 hW ⊢
 generalize w.heap.size = base at hval0
 clear hw hx hWe
 have hval : ∀ (j : Nat) t v, Tryz.f5.params[j]? = some t → args[j]? = some v → Value.okWide Tryz.prog W .any base t v := hval0
 have hW' := hW
 obtain ⟨p, q, hA0, hV, rfl, _, _⟩ := hW
 have hA : DataW.TrodAll enc Tryz.prog W 0 (fun _ => true) true Tryz.f5.params.toList args.toList ds p := hA0
 rw [Tryz.params5] at hA hval
 obtain ⟨v0, v1, v2, d0, d1, d2, p0, p1, p2, rfl, rfl, rfl, h0, h1, h2⟩ := trodAll_three hA
 obtain ⟨rfl, rfl⟩ := trodVars_none hV
 obtain ⟨sx, rfl, rfl, rfl, _⟩ := open_int Tryz.underlying3 (hval 2 _ v2 rfl rfl) h2
 obtain ⟨a1, n1, c1, rfl⟩ := okWide_slice Tryz.underlying27 (hval 1 _ v1 rfl rfl)
 have h0k := h0
 have h1k := h1
 obtain ⟨f0, hf0⟩ := h0
 obtain ⟨f1, hf1⟩ := h1
 obtain ⟨b, vr, vg, vm, vs, vc, rfl, hR⟩ := open_book hf0
 obtain ⟨la, l, lc, e1, hI⟩ := open_nums hf1
 obtain ⟨rfl, rfl, rfl⟩ : a1 = la ∧ n1 = l.length ∧ c1 = lc := by simpa [Value.cells] using e1
 have hK := kinds_of_laid hL
 clear hA0 hval0
 simp only [List.append_nil] at hW'
 have hlt : ∀ x ∈ p0 ++ p1, x.block < W.heap.size := fun x hx => by simpa using hW'.lt x hx
 obtain ⟨M, last, o, w', t', g1, g2, g3, g4⟩ := ends_good (law5_co (s := sx) (lc := c1) hR hK hI)
 obtain ⟨v, g5, ⟨rfl, ho⟩, g6⟩ := g4
 refine ⟨M, last, o, w', t', g1, g2, g3, _, g5, ?_, g6⟩
 refine ChangeSpec.post_blind ?_
 refine ⟨_, _, _, [], p0 ++ p1, [], hW', ?_, ?_, rfl, kept_old ho _, fun h => by cases h⟩
 ·exact trodAll_mk1 (shut_bool Tryz.underlying4 _)
 ·have k0 := arg_stays (by kernel_rfl) (of_decide_eq_true (by kernel_rfl)) h0k ho (fun x hx => hlt x (List.mem_append_left _ hx))
  have k1 := arg_stays (by kernel_rfl) (of_decide_eq_true (by kernel_rfl)) h1k ho (fun x hx => hlt x (List.mem_append_right _ hx))
  have k2 := arg_stays (ps := []) (by kernel_rfl) (of_decide_eq_true (by kernel_rfl)) h2 ho (fun x hx => by cases hx)
  have k3 := trodAll_mk3 k0 k1 k2
  rw [List.append_nil] at k3
  exact k3
theorem histories_holds : Rows.StoreHistoriesSaid :=
 OpenClaim.holds_of_wide_leaving 5 Tryz.f5 rfl rfl rfl rfl rfl rfl rfl ⟨rfl, rfl, rfl, rfl, rfl⟩ rfl rfl rfl rfl rfl (by kernel_rfl) Tryz.func5 (by kernel_rfl)
  (of_decide_eq_true (by kernel_rfl)) (by unfold Func.isWrapper; first | (rw [if_pos (by decide +kernel)]; kernel_rfl) | (rw [if_neg (by decide +kernel)]; exact ⟨rfl, rfl⟩))
  (fun os started H enc _ => histories_lifted os started H enc)
theorem histories_card : Rows.StoreHistoriesCardSaid := by
 have hl : ∀ f fn, Tryz.pinned.checked.prog.funcNamed Rows.storeHistoriesRow.func = some f → Tryz.pinned.checked.prog.funcs[f]? = some fn → false = Tryz.pinned.checked.prog.looks [] ∧ ∀ (j : Nat) t, fn.params[j]? = some t → Tryz.pinned.checked.prog.wantsStandIn t = false := fun f fn hf hfn => by
  obtain rfl : f = 5 := Option.some.inj ((show Tryz.prog.funcNamed "baudot/baudotlaw06.StoreHistories" = some 5 by kernel_rfl).symm.trans hf) |>.symm
  obtain rfl : fn = Tryz.f5 := (Option.some.inj (Tryz.func5.symm.trans hfn)).symm
  refine ⟨by kernel_rfl, fun j t ht => ?_⟩
  rw [Tryz.params5] at ht
  have h1 : Tryz.prog.wantsStandIn 26 = false := by kernel_rfl
  have h2 : Tryz.prog.wantsStandIn 27 = false := by kernel_rfl
  have h3 : Tryz.prog.wantsStandIn 3 = false := by kernel_rfl
  match j, ht with
  | 0, ht => exact (Option.some.inj ht) ▸ h1
  | 1, ht => exact (Option.some.inj ht) ▸ h2
  | 2, ht => exact (Option.some.inj ht) ▸ h3
  | j + 3, ht => simp at ht
 have h6 : Claim7.isSixth { stood := { row := Rows.storeHistoriesRow, standIns := [], harness := (true, "80f0bdbc9bf992028bfd482152e4034f37ff3a4b20325f8fd80dfa374d571712"), looks := false }, kinds := [] } = false := by simp [Claim7.isSixth]
 exact ⟨Claim7.tied_new_at .later [.funcsDeep] true (Claim7.new_of_sixth histories_holds (true, "80f0bdbc9bf992028bfd482152e4034f37ff3a4b20325f8fd80dfa374d571712") false rfl ⟨rfl, rfl⟩ (by kernel_rfl) h6 hl) (by kernel_rfl), (fun _ h => by cases h), storeHistories_row_tie, (fun h => by cases h), (by kernel_rfl)⟩
#print axioms histories_card
end Go.Proofs.YtbibidfkbdhblaaGreatDoor
