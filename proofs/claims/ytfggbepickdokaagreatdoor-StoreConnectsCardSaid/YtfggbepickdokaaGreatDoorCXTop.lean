/- Leads to StoreConnects of chapter 6: CX7. -/
import Derived.Test.YtfggbepickdokaaGreatDoorCX04
import Derived.Test.YtfggbepickdokaaGreatDoorCards
import Derived.Test.YtfggbepickdokaaGreatDoorTie
set_option maxHeartbeats 200000
set_option maxRecDepth 100000
set_option linter.all false
namespace Go.Proofs.YtfggbepickdokaaGreatDoor
open Go.ChangeShapes Go.WideShapes Go.ChangeAt Go.RowKit Go.Conc Mt
theorem storeConnects_lifted (os:Os) (started:os.Started) (H:Type) (enc:TypeId × Value→H) :
 ReturnsInLeavingWide {} Tryz.checked os 5 .any (fun w args=>(Rows.storeConnectsSpec.pre enc Tryz.prog Tryz.f5 [] false w args∧laidMetH Tryz.prog [("baudot/store.kinds",Rows.laid_baudot_store_kinds)] w)∧sizedMet enc Tryz.prog Tryz.f5 (OpenSpec.ofChange Rows.storeConnectsSpec) false w args)
  (Rows.storeConnectsSpec.post enc Tryz.prog Tryz.f5 false true false false):=by
 refine returnsInLeavingWide_of_good (C:=Tryz.checked) ownNone started
  (ChangeSpec.witness_shaped (enc:=enc) (C:=Tryz.checked) (os:=os) (X:=fun w _=>laidMetH Tryz.prog [("baudot/store.kinds",Rows.laid_baudot_store_kinds)] w) false (World.doorLaid Tryz.prog 20 os) #[.agg #[.int .i64 0,.int .i64 0,.slice none 0 0,.slice none 0 0,.slice none 0 0],.agg #[.slice none 0 0]] 8 rfl (World.shaped_of_RefB (by kernel_rfl) (by kernel_rfl)) (by kernel_rfl) (by kernel_rfl) (by kernel_rfl) (door_met os _)) ?_
 intro w tape i _ _ _ hok hpre _
 obtain ⟨_,_,_,fn',hfn',_,_,_,_,hval0⟩:=hok
 have e:fn'=Tryz.f5:=Option.some.inj (hfn'.symm.trans Tryz.func5)
 subst e
 obtain ⟨⟨⟨ds,gs,before,hw,_⟩,hx⟩,_⟩:=hpre
 have hW:=DataW.Whole.of_heap (w':=w.forCall tape i) (by rfl) hw
 have hL:=hx.of_heap (w':=w.forCall tape i) (by rfl)
 generalize hWe:w.forCall tape i=W at hval0 hW hL ⊢
 generalize i.args=args at hval0 hW ⊢
 generalize w.heap.size=base at hval0
 clear hw hx hWe
 have hval:∀ (j:Nat) t v,Tryz.f5.params[j]? = some t→args[j]? = some v→Value.okWide Tryz.prog W .any base t v:=hval0
 have hW':=hW
 obtain ⟨p,q,hA0,hV,rfl,_,_⟩:=hW
 have hA:DataW.TrodAll enc Tryz.prog W 0 (fun _=>true) true Tryz.f5.params.toList args.toList ds p:=hA0
 rw [Tryz.params5] at hA hval
 obtain ⟨v0,v1,d0,d1,p0,p1,rfl,rfl,rfl,h0,h1⟩:=trodAll_two hA
 obtain ⟨rfl,rfl⟩:=trodVars_none hV
 have h1k:=h1
 obtain ⟨f1,hf1⟩:=h1
 obtain ⟨a1,l1,lc1,rfl,hle1,hI1⟩:=open_sesv (okWide_struct Tryz.underlying40 (hval 1 _ v1 rfl rfl)) hf1
 have h0k:=h0
 obtain ⟨f0,hf0⟩:=h0
 obtain ⟨b,vr,vg,vm,vs,vc,rfl,hR⟩:=open_book hf0
 have hK:=kinds_of_laid hL
 clear hA0 hval0
 simp only [List.append_nil] at hW'
 have hlt:∀ x∈p0 ++ p1,x.block < W.heap.size:=fun x hx=>by simpa using hW'.lt x hx
 obtain ⟨M,last,o,w',t',g1,g2,g3,g4⟩:=ends_good (cx_co hR hK hI1 hle1)
 obtain ⟨v,g5,⟨rfl,ho⟩,g6⟩:=g4
 refine ⟨M,last,o,w',t',g1,g2,g3,_,g5,?_,g6⟩
 refine ChangeSpec.post_blind ?_
 refine ⟨_,_,_,[],p0 ++ p1,[],hW',?_,?_,rfl,kept_old ho _,fun h=>by cases h⟩
 ·exact trodAll_mk1 (shut_bool Tryz.underlying4 _)
 ·have k0:=arg_stays (by kernel_rfl) (of_decide_eq_true (by kernel_rfl)) h0k ho (fun x hx=>hlt x (List.mem_append_left _ hx))
  have k1:=arg_stays (by kernel_rfl) (of_decide_eq_true (by kernel_rfl)) h1k ho (fun x hx=>hlt x (List.mem_append_right _ hx))
  have k9:=trodAll_mk2 k0 k1
  try simp only [List.append_nil] at k9
  exact k9
theorem storeConnects_holds:Rows.StoreConnectsSaid :=
 OpenClaim.holds_of_wide_leaving 5 Tryz.f5 rfl rfl rfl rfl rfl rfl rfl ⟨rfl,rfl,rfl,rfl,rfl⟩ rfl rfl rfl rfl rfl (by kernel_rfl) Tryz.func5 (by kernel_rfl)
  (of_decide_eq_true (by kernel_rfl)) (by unfold Func.isWrapper;first | (rw [if_pos (by decide +kernel)];kernel_rfl) | (rw [if_neg (by decide +kernel)];exact ⟨rfl,rfl⟩))
  (fun os started H enc _=>storeConnects_lifted os started H enc)
theorem storeConnects_card:Rows.StoreConnectsCardSaid:=by
 have hl:∀ f fn,Tryz.pinned.checked.prog.funcNamed Rows.storeConnectsRow.func=some f→Tryz.pinned.checked.prog.funcs[f]? = some fn→false=Tryz.pinned.checked.prog.looks []∧∀ (j:Nat) t,fn.params[j]? = some t→Tryz.pinned.checked.prog.wantsStandIn t=false:=fun f fn hf hfn=>by
  obtain rfl:f=5:=Option.some.inj ((show Tryz.prog.funcNamed "baudot/baudotlaw06.StoreConnects"=some 5 by kernel_rfl).symm.trans hf) |>.symm
  obtain rfl:fn=Tryz.f5:=(Option.some.inj (Tryz.func5.symm.trans hfn)).symm
  refine ⟨by kernel_rfl,fun j t ht=>?_⟩
  rw [Tryz.params5] at ht
  have h0:Tryz.prog.wantsStandIn 26=false:=by kernel_rfl
  have h1:Tryz.prog.wantsStandIn 40=false:=by kernel_rfl
  match j,ht with
  | 0,ht=>exact (Option.some.inj ht) ▸ h0
  | 1,ht=>exact (Option.some.inj ht) ▸ h1
  | j+2,ht=>simp at ht
 have h6:Claim7.isSixth { stood:={ row:=Rows.storeConnectsRow,standIns:=[],harness:=(true, "ab52456662b607c1ba14e5e563122c39f0fc147070ddfbd73bca45774a4728a2"),looks:=false },kinds:=[] }=false:=by simp [Claim7.isSixth]
 exact ⟨Claim7.tied_new_at .later [.funcsDeep] true (Claim7.new_of_sixth storeConnects_holds (true, "ab52456662b607c1ba14e5e563122c39f0fc147070ddfbd73bca45774a4728a2") false rfl ⟨rfl,rfl⟩ (by kernel_rfl) h6 hl) (by kernel_rfl),(fun _ h=>by cases h),storeConnects_row_tie,(fun h=>by cases h),(by kernel_rfl)⟩
#print axioms storeConnects_card
end Go.Proofs.YtfggbepickdokaaGreatDoor
