/- Leads to StoreNoted of chapter 6: NO7. -/
import Derived.Test.YtfggbepickdokaaGreatDoorNO04
import Derived.Test.YtfggbepickdokaaGreatDoorCards
import Derived.Test.YtfggbepickdokaaGreatDoorTie
set_option maxHeartbeats 200000
set_option maxRecDepth 100000
set_option linter.all false
namespace Go.Proofs.YtfggbepickdokaaGreatDoor
open Go.ChangeShapes Go.WideShapes Go.ChangeAt Go.RowKit Go.Conc Mt
theorem u8_bd {n:Int} (h:(Lit.int .u8 n).wf=true):0≤n∧n≤255:=by
 simp [Lit.wf,IntKind.min,IntKind.max,IntKind.signed,IntKind.bits] at h
 omega
theorem storeNoted_lifted (os:Os) (started:os.Started) (H:Type) (enc:TypeId × Value→H) :
 ReturnsInLeavingWide {} Tryz.checked os 4 .any (fun w args=>(Rows.storeNotedSpec.pre enc Tryz.prog Tryz.f4 [] false w args∧laidMetH Tryz.prog [("baudot/store.kinds",Rows.laid_baudot_store_kinds)] w)∧sizedMet enc Tryz.prog Tryz.f4 (OpenSpec.ofChange Rows.storeNotedSpec) false w args)
  (Rows.storeNotedSpec.post enc Tryz.prog Tryz.f4 false true false false):=by
 refine returnsInLeavingWide_of_good (C:=Tryz.checked) ownNone started
  (ChangeSpec.witness_shaped (enc:=enc) (C:=Tryz.checked) (os:=os) (X:=fun w _=>laidMetH Tryz.prog [("baudot/store.kinds",Rows.laid_baudot_store_kinds)] w) false (World.doorLaid Tryz.prog 20 os) #[.agg #[.int .i64 0,.int .i64 0,.slice none 0 0,.slice none 0 0,.slice none 0 0],.agg #[.int .i64 0,.int .i64 0,.int .i64 0,.int .i64 0],.int .u8 0,.int .u8 0] 8 rfl (World.shaped_of_RefB (by kernel_rfl) (by kernel_rfl)) (by kernel_rfl) (by kernel_rfl) (by kernel_rfl) (door_met os _)) ?_
 intro w tape i _ _ _ hok hpre _
 obtain ⟨_,_,_,fn',hfn',_,_,_,_,hval0⟩:=hok
 have e:fn'=Tryz.f4:=Option.some.inj (hfn'.symm.trans Tryz.func4)
 subst e
 obtain ⟨⟨⟨ds,gs,before,hw,_⟩,hx⟩,_⟩:=hpre
 have hW:=DataW.Whole.of_heap (w':=w.forCall tape i) (by rfl) hw
 have hL:=hx.of_heap (w':=w.forCall tape i) (by rfl)
 generalize hWe:w.forCall tape i=W at hval0 hW hL ⊢
 generalize i.args=args at hval0 hW ⊢
 generalize w.heap.size=base at hval0
 clear hw hx hWe
 have hval:∀ (j:Nat) t v,Tryz.f4.params[j]? = some t→args[j]? = some v→Value.okWide Tryz.prog W .any base t v:=hval0
 have hW':=hW
 obtain ⟨p,q,hA0,hV,rfl,_,_⟩:=hW
 have hA:DataW.TrodAll enc Tryz.prog W 0 (fun _=>true) true Tryz.f4.params.toList args.toList ds p:=hA0
 rw [Tryz.params4] at hA hval
 obtain ⟨v0,v1,v2,v3,d0,d1,d2,d3,p0,p1,p2,p3,rfl,rfl,rfl,h0,h1,h2,h3⟩:=trodAll_four hA
 obtain ⟨rfl,rfl⟩:=trodVars_none hV
 have h1k:=h1
 obtain ⟨f1,hf1⟩:=h1
 obtain ⟨r1,rfl⟩:=open_recv hf1
 obtain ⟨s2,rfl,rfl,rfl,wf2⟩:=open_int Tryz.underlying5 (hval 2 _ v2 rfl rfl) h2
 obtain ⟨s3,rfl,rfl,rfl,wf3⟩:=open_int Tryz.underlying5 (hval 3 _ v3 rfl rfl) h3
 have h0k:=h0
 obtain ⟨f0,hf0⟩:=h0
 obtain ⟨b,vr,vg,vm,vs,vc,rfl,hR⟩:=open_book hf0
 have hK:=kinds_of_laid hL
 clear hA0 hval0
 simp only [List.append_nil] at hW'
 have hlt:∀ x∈p0 ++ p1,x.block < W.heap.size:=fun x hx=>by simpa using hW'.lt x hx
 obtain ⟨M,last,o,w',t',g1,g2,g3,g4⟩:=ends_good (no_co hR hK  (u8_bd wf2).1 (u8_bd wf2).2 (u8_bd wf3).1 (u8_bd wf3).2)
 obtain ⟨v,g5,⟨rfl,ho⟩,g6⟩:=g4
 refine ⟨M,last,o,w',t',g1,g2,g3,_,g5,?_,g6⟩
 refine ChangeSpec.post_blind ?_
 refine ⟨_,_,_,[],p0 ++ p1,[],hW',?_,?_,rfl,kept_old ho _,fun h=>by cases h⟩
 ·exact trodAll_mk1 (shut_bool Tryz.underlying4 _)
 ·have k0:=arg_stays (by kernel_rfl) (of_decide_eq_true (by kernel_rfl)) h0k ho (fun x hx=>hlt x (List.mem_append_left _ hx))
  have k1:=arg_stays (by kernel_rfl) (of_decide_eq_true (by kernel_rfl)) h1k ho (fun x hx=>hlt x (List.mem_append_right _ hx))
  have k2:=arg_stays (ps:=[]) (by kernel_rfl) (of_decide_eq_true (by kernel_rfl)) h2 ho (fun x hx=>by cases hx)
  have k3:=arg_stays (ps:=[]) (by kernel_rfl) (of_decide_eq_true (by kernel_rfl)) h3 ho (fun x hx=>by cases hx)
  have k9:=trodAll_mk4 k0 k1 k2 k3
  try simp only [List.append_nil] at k9
  exact k9
theorem storeNoted_holds:Rows.StoreNotedSaid :=
 OpenClaim.holds_of_wide_leaving 4 Tryz.f4 rfl rfl rfl rfl rfl rfl rfl ⟨rfl,rfl,rfl,rfl,rfl⟩ rfl rfl rfl rfl rfl (by kernel_rfl) Tryz.func4 (by kernel_rfl)
  (of_decide_eq_true (by kernel_rfl)) (by unfold Func.isWrapper;first | (rw [if_pos (by decide +kernel)];kernel_rfl) | (rw [if_neg (by decide +kernel)];exact ⟨rfl,rfl⟩))
  (fun os started H enc _=>storeNoted_lifted os started H enc)
theorem storeNoted_card:Rows.StoreNotedCardSaid:=by
 have hl:∀ f fn,Tryz.pinned.checked.prog.funcNamed Rows.storeNotedRow.func=some f→Tryz.pinned.checked.prog.funcs[f]? = some fn→false=Tryz.pinned.checked.prog.looks []∧∀ (j:Nat) t,fn.params[j]? = some t→Tryz.pinned.checked.prog.wantsStandIn t=false:=fun f fn hf hfn=>by
  obtain rfl:f=4:=Option.some.inj ((show Tryz.prog.funcNamed "baudot/baudotlaw06.StoreNoted"=some 4 by kernel_rfl).symm.trans hf) |>.symm
  obtain rfl:fn=Tryz.f4:=(Option.some.inj (Tryz.func4.symm.trans hfn)).symm
  refine ⟨by kernel_rfl,fun j t ht=>?_⟩
  rw [Tryz.params4] at ht
  have h0:Tryz.prog.wantsStandIn 26=false:=by kernel_rfl
  have h1:Tryz.prog.wantsStandIn 49=false:=by kernel_rfl
  have h2:Tryz.prog.wantsStandIn 5=false:=by kernel_rfl
  have h3:Tryz.prog.wantsStandIn 5=false:=by kernel_rfl
  match j,ht with
  | 0,ht=>exact (Option.some.inj ht) ▸ h0
  | 1,ht=>exact (Option.some.inj ht) ▸ h1
  | 2,ht=>exact (Option.some.inj ht) ▸ h2
  | 3,ht=>exact (Option.some.inj ht) ▸ h3
  | j+4,ht=>simp at ht
 have h6:Claim7.isSixth { stood:={ row:=Rows.storeNotedRow,standIns:=[],harness:=(true, "ab52456662b607c1ba14e5e563122c39f0fc147070ddfbd73bca45774a4728a2"),looks:=false },kinds:=[] }=false:=by simp [Claim7.isSixth]
 exact ⟨Claim7.tied_new_at .later [.funcsDeep] true (Claim7.new_of_sixth storeNoted_holds (true, "ab52456662b607c1ba14e5e563122c39f0fc147070ddfbd73bca45774a4728a2") false rfl ⟨rfl,rfl⟩ (by kernel_rfl) h6 hl) (by kernel_rfl),(fun _ h=>by cases h),storeNoted_row_tie,(fun h=>by cases h),(by kernel_rfl)⟩
#print axioms storeNoted_card
end Go.Proofs.YtfggbepickdokaaGreatDoor
