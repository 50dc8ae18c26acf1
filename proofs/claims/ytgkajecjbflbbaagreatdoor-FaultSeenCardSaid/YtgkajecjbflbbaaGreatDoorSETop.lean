/- FaultSeen -/
import Derived.Test.YtgkajecjbflbbaaGreatDoorSE03
import Derived.Test.YtgkajecjbflbbaaGreatDoorCards
import Derived.Test.YtgkajecjbflbbaaGreatDoorTie
set_option maxHeartbeats 200000
set_option maxRecDepth 100000
set_option linter.all false
namespace Go.Proofs.YtgkajecjbflbbaaGreatDoor
section
open Go.ChangeShapes Go.WideShapes Go.ChangeAt Go.RowKit Go.Conc Mt
theorem u8_bd {n:Int} (h:(Lit.int .u8 n).wf=true):0<=n/\n<=255:=by
 simp [Lit.wf,IntKind.min,IntKind.max,IntKind.signed,IntKind.bits] at h;omega
theorem faultSeen_lifted (os:Os) (started:os.Started) (H:Type) (enc:TypeId × Value->H) (F:Stop.Interp) :
 ReturnsInLeavingWide { calm:=true } Tryz.checked os 14 .any (fun w args=>(Rows.faultSeenSpec.pre enc Tryz.prog Tryz.f14 [] false w args/\laidMetH Tryz.prog [("baudot/fault.acts",Rows.laid_baudot_fault_acts)] w)/\sizedMet enc Tryz.prog Tryz.f14 (OpenSpec.ofChange Rows.faultSeenSpec) false w args)
  ((OpenSpec.ofChange Rows.faultSeenSpec).postWith enc Tryz.prog Tryz.f14 F (outsideKept [.timePasses]) false true false):=by
 refine returnsInLeavingWide_of_good (C:=Tryz.checked) ownNone started
  (witness_calm (enc:=enc) (C:=Tryz.checked) (os:=os) (X:=fun w _=>laidMetH Tryz.prog [("baudot/fault.acts",Rows.laid_baudot_fault_acts)] w) (World.doorLaid Tryz.prog 20 os) #[.agg #[.int .i64 0,.slice none 0 0,.slice none 0 0],.slice none 0 0,.int .u8 0,.bool false] 8 rfl (World.shaped_of_RefB (by kernel_rfl) (by kernel_rfl)) (by kernel_rfl) (by kernel_rfl) (by kernel_rfl) (door_met os _)) ?_
 intro w tape i _ _ _ hok hpre _;obtain ⟨_,_,_,fn',hfn',_,_,_,_,hval0⟩:=hok;have e:fn'=Tryz.f14:=Option.some.inj (hfn'.symm.trans Tryz.func14);subst e;obtain ⟨⟨⟨ds,gs,before,hw,_⟩,hx⟩,_⟩:=hpre;have hW:=DataW.Whole.of_heap (w':=w.forCall tape i) (by rfl) hw;have hL:=hx.of_heap (w':=w.forCall tape i) (by rfl);generalize hWe:w.forCall tape i=W at hval0 hW hL ⊢;generalize i.args=args at hval0 hW ⊢;generalize w.heap.size=base at hval0;clear hw hx hWe;have hval:∀ (j:Nat) t v,Tryz.f14.params[j]? = some t->args[j]? = some v->Value.okWide Tryz.prog W .any base t v:=hval0;have hW':=hW;obtain ⟨p,q,hA0,hV,rfl,_,_⟩:=hW;have hA:DataW.TrodAll enc Tryz.prog W 0 (fun _=>true) true Tryz.f14.params.toList args.toList ds p:=hA0;rw [Tryz.params14] at hA hval;obtain ⟨v0,v1,v2,v3,d0,d1,d2,d3,p0,p1,p2,p3,rfl,rfl,rfl,h0,h1,h2,h3⟩:=trodAll_four hA;obtain ⟨rfl,rfl⟩:=trodVars_none hV;obtain ⟨a1,n1,c1,rfl⟩:=okWide_slice Tryz.underlying42 (hval 1 _ v1 rfl rfl);have h1k:=h1;obtain ⟨f1,hf1⟩:=h1;obtain ⟨la1,l1,lc1,e1,hc1,hI1⟩:=bp hf1;obtain ⟨rfl,rfl,rfl⟩:a1=la1/\n1=l1.length/\c1=lc1:=by simpa [Value.cells] using e1
 obtain ⟨s2,rfl,rfl,rfl,wf2⟩:=open_int Tryz.underlying5 (hval 2 _ v2 rfl rfl) h2;obtain ⟨k2,rfl⟩:=Int.eq_ofNat_of_zero_le (u8_bd wf2).1;obtain ⟨s3,rfl,rfl,rfl⟩:=open_bool Tryz.underlying4 (hval 3 _ v3 rfl rfl) h3;have h0k:=h0;obtain ⟨f0,hf0⟩:=h0;obtain ⟨b,vm,vd,vt,rfl,hR⟩:=open_fbook hf0;have hK:=acts_of_laid hL;clear hA0 hval0;simp only [List.append_nil] at hW';have hlt:∀ x∈p0 ++ p1,x.block < W.heap.size:=fun x hx=>by simpa using hW'.lt x hx
 obtain ⟨M,last,o,w',t',g1,g2,g3,g4⟩:=ends_good (cM hR hK hI1 hc1 (Int.ofNat_le.1 (u8_bd wf2).2));obtain ⟨v,g5,⟨D,v',hv,hD,rfl,ho0⟩,g6⟩:=g4;have hs:=ho0.view hv hD;have ho:Old W { w' with os:=W.os }:=⟨rfl,hs.output,hs.size,hs.block⟩;refine ⟨M,last,o,w',t',g1,g2,g3,_,g5,?_,g6⟩;refine postWith_blind (postWith_of_post ?_ hs.os);refine ⟨_,_,_,[],p0 ++ p1,[],hW',?_,?_,rfl,kept_old ho _,fun h=>by cases h⟩
 ·exact trodAll_mk1 (shut_bool Tryz.underlying4 _)
 ·have k0:=arg_stays (by kernel_rfl) (of_decide_eq_true (by kernel_rfl)) h0k ho (fun x hx=>hlt x (List.mem_append_left _ hx));have k1:=arg_stays (by kernel_rfl) (of_decide_eq_true (by kernel_rfl)) h1k ho (fun x hx=>hlt x (List.mem_append_right _ hx));have k2:=arg_stays (ps:=[]) (by kernel_rfl) (of_decide_eq_true (by kernel_rfl)) h2 ho (fun x hx=>by cases hx);have k3:=arg_stays (ps:=[]) (by kernel_rfl) (of_decide_eq_true (by kernel_rfl)) h3 ho (fun x hx=>by cases hx);have k9:=trodAll_mk4 k0 k1 k2 k3
  try simp only [List.append_nil] at k9
  first | exact k9 | (rw [List.append_assoc];exact k9)
theorem faultSeen_holds:Rows.FaultSeenSaid :=
 OpenClaim.holds_of_wide_leaving_time 14 Tryz.f14 rfl rfl rfl rfl rfl rfl rfl ⟨rfl,rfl,rfl,rfl,rfl⟩ rfl rfl rfl rfl rfl (by kernel_rfl) Tryz.func14 (by kernel_rfl)
  (of_decide_eq_true (by kernel_rfl)) (by unfold Func.isWrapper;first | (rw [if_pos (by decide +kernel)];kernel_rfl) | (rw [if_neg (by decide +kernel)];exact ⟨rfl,rfl⟩))
  (fun os started H enc _ F=>faultSeen_lifted os started H enc F)
theorem faultSeen_card:Rows.FaultSeenCardSaid:=by
 have hl:∀ f fn,Tryz.pinned.checked.prog.funcNamed Rows.faultSeenRow.func=some f->Tryz.pinned.checked.prog.funcs[f]? = some fn->false=Tryz.pinned.checked.prog.looks []/\∀ (j:Nat) t,fn.params[j]? = some t->Tryz.pinned.checked.prog.wantsStandIn t=false:=fun f fn hf hfn=>by
  obtain rfl:f=14:=Option.some.inj ((show Tryz.prog.funcNamed "baudot/baudotlaw08.FaultSeen"=some 14 by kernel_rfl).symm.trans hf) |>.symm;obtain rfl:fn=Tryz.f14:=(Option.some.inj (Tryz.func14.symm.trans hfn)).symm;refine ⟨by kernel_rfl,fun j t ht=>?_⟩;rw [Tryz.params14] at ht;have h0:Tryz.prog.wantsStandIn 25=false:=by kernel_rfl
  have h1:Tryz.prog.wantsStandIn 42=false:=by kernel_rfl
  have h2:Tryz.prog.wantsStandIn 5=false:=by kernel_rfl
  have h3:Tryz.prog.wantsStandIn 4=false:=by kernel_rfl
  match j,ht with
  | 0,ht=>exact (Option.some.inj ht) ▸ h0
  | 1,ht=>exact (Option.some.inj ht) ▸ h1
  | 2,ht=>exact (Option.some.inj ht) ▸ h2
  | 3,ht=>exact (Option.some.inj ht) ▸ h3
  | j+4,ht=>simp at ht
 have h6:Claim7.isSixth { stood:={ row:=Rows.faultSeenRow,standIns:=[],harness:=(true, "0a7d70fdbfcbbb1d425ec39d4c059be565bd5ef97e35811f2c4ce0947ae35331"),looks:=false },kinds:=[] }=false:=by simp [Claim7.isSixth]
 exact ⟨Claim7.tied_new_at .later [.funcs] true (Claim7.new_of_sixth faultSeen_holds (true, "0a7d70fdbfcbbb1d425ec39d4c059be565bd5ef97e35811f2c4ce0947ae35331") false rfl ⟨rfl,rfl⟩ (by kernel_rfl) h6 hl) (by kernel_rfl),(fun _ h=>by cases h),faultSeen_row_tie,(fun h=>by cases h),(by kernel_rfl)⟩
#print axioms faultSeen_card
end
end Go.Proofs.YtgkajecjbflbbaaGreatDoor
