/- StoreLoaded -/
import Derived.Test.YtdjnkplgllakcaaGreatDoorSL31
import Derived.Test.YtdjnkplgllakcaaGreatDoorCards
import Derived.Test.YtdjnkplgllakcaaGreatDoorTie
set_option maxHeartbeats 200000
set_option maxRecDepth 100000
set_option linter.all false
namespace Go.Proofs.YtdjnkplgllakcaaGreatDoor
section
open Go.ChangeShapes Go.WideShapes Go.ChangeAt Go.RowKit Go.Conc Mt
theorem u8_bd {n:Int} (h:(Lit.int .u8 n).wf=true):0<=n/\n<=255:=by
 simp [Lit.wf,IntKind.min,IntKind.max,IntKind.signed,IntKind.bits] at h;omega
section
variable {H:Type} {enc:TypeId × Value->H} {P:Program} {w:World} {base:Nat} {spare:Nat->Bool} {held:Bool}
theorem trodAll_five {t t' t'' t3 t4:TypeId} {args:Array Value} {ds:List (DataW H)} {ps:List MemPlace} (h:DataW.TrodAll enc P w base spare held [t,t',t'',t3,t4] args.toList ds ps) :
 ∃ v v' v'' v3 v4 d d' d'' d3 d4 p p' p'' p3 p4,args=#[v,v',v'',v3,v4]/\ds=[d,d',d'',d3,d4]/\ps=p ++ p' ++ p'' ++ p3 ++ p4/\DataW.Trod enc P w base spare held t v d p/\DataW.Trod enc P w base spare held t' v' d' p'/\DataW.Trod enc P w base spare held t'' v'' d'' p''/\DataW.Trod enc P w base spare held t3 v3 d3 p3/\DataW.Trod enc P w base spare held t4 v4 d4 p4:=by
 obtain ⟨v,vs,d,ds',p,q,hargs,rfl,rfl,hd,hrest⟩:=trodAll_cons h;obtain ⟨v',vs',d',ds'',p',q',rfl,rfl,rfl,hd',hrest'⟩:=trodAll_cons hrest;obtain ⟨v'',vs'',d'',ds''',p'',q'',rfl,rfl,rfl,hd'',hrest''⟩:=trodAll_cons hrest';obtain ⟨v3,vs3,d3,ds3,p3,q3,rfl,rfl,rfl,hd3,hrest3⟩:=trodAll_cons hrest'';obtain ⟨v4,vs4,d4,ds4,p4,q4,rfl,rfl,rfl,hd4,hrest4⟩:=trodAll_cons hrest3;obtain ⟨rfl,rfl,rfl⟩:=trodAll_nil hrest4;exact ⟨v,v',v'',v3,v4,d,d',d'',d3,d4,p,p',p'',p3,p4,by cases args;simp_all,rfl,by simp,hd,hd',hd'',hd3,hd4⟩
theorem trodAll_mk5 {t t' t'' t3 t4:TypeId} {v v' v'' v3 v4:Value} {d d' d'' d3 d4:DataW H} {p p' p'' p3 p4:List MemPlace} (h:DataW.Trod enc P w base spare held t v d p) (h':DataW.Trod enc P w base spare held t' v' d' p')
 (h'':DataW.Trod enc P w base spare held t'' v'' d'' p'') (h3:DataW.Trod enc P w base spare held t3 v3 d3 p3) (h4:DataW.Trod enc P w base spare held t4 v4 d4 p4):DataW.TrodAll enc P w base spare held [t,t',t'',t3,t4] [v,v',v'',v3,v4] [d,d',d'',d3,d4] (p ++ (p' ++ (p'' ++ (p3 ++ p4)))):=⟨p,p' ++ (p'' ++ (p3 ++ p4)),h,trodAll_mk4 h' h'' h3 h4,rfl⟩
end
theorem storeLoaded_lifted (os:Os) (started:os.Started) (H:Type) (enc:TypeId × Value->H) :
 ReturnsInLeavingWide {} Tryz.checked os 3 .any (fun w args=>(Rows.storeLoadedSpec.pre enc Tryz.prog Tryz.f3 [] false w args/\laidMetH Tryz.prog [("baudot/store.kinds",Rows.laid_baudot_store_kinds)] w)/\sizedMet enc Tryz.prog Tryz.f3 (OpenSpec.ofChange Rows.storeLoadedSpec) false w args)
  (Rows.storeLoadedSpec.post enc Tryz.prog Tryz.f3 false true false false):=by
 refine returnsInLeavingWide_of_good (C:=Tryz.checked) ownNone started
  (ChangeSpec.witness_shaped (enc:=enc) (C:=Tryz.checked) (os:=os) (X:=fun w _=>laidMetH Tryz.prog [("baudot/store.kinds",Rows.laid_baudot_store_kinds)] w) false (World.doorLaid Tryz.prog 20 os) #[.agg #[.int .i64 0,.int .i64 0,.slice none 0 0,.slice none 0 0,.slice none 0 0],.slice none 0 0,.int .u16 0,.int .u8 0,.int .u8 0] 8 rfl (World.shaped_of_RefB (by kernel_rfl) (by kernel_rfl)) (by kernel_rfl) (by kernel_rfl) (by kernel_rfl) (door_met os _)) ?_
 intro w tape i _ _ _ hok hpre _;obtain ⟨_,_,_,fn',hfn',_,_,_,_,hval0⟩:=hok;have e:fn'=Tryz.f3:=Option.some.inj (hfn'.symm.trans Tryz.func3);subst e;obtain ⟨⟨⟨ds,gs,before,hw,_⟩,hx⟩,_⟩:=hpre;have hW:=DataW.Whole.of_heap (w':=w.forCall tape i) (by rfl) hw;have hL:=hx.of_heap (w':=w.forCall tape i) (by rfl);generalize hWe:w.forCall tape i=W at hval0 hW hL ⊢;generalize i.args=args at hval0 hW ⊢;generalize w.heap.size=base at hval0;clear hw hx hWe;have hval:∀ (j:Nat) t v,Tryz.f3.params[j]? = some t->args[j]? = some v->Value.okWide Tryz.prog W .any base t v:=hval0;have hW':=hW;obtain ⟨p,q,hA0,hV,rfl,_,_⟩:=hW;have hA:DataW.TrodAll enc Tryz.prog W 0 (fun _=>true) true Tryz.f3.params.toList args.toList ds p:=hA0;rw [Tryz.params3] at hA hval;obtain ⟨v0,v1,v2,v3,v4,d0,d1,d2,d3,d4,p0,p1,p2,p3,p4,rfl,rfl,rfl,h0,h1,h2,h3,h4⟩:=trodAll_five hA;obtain ⟨rfl,rfl⟩:=trodVars_none hV;obtain ⟨a1,n1,c1,rfl⟩:=okWide_slice Tryz.underlying27 (hval 1 _ v1 rfl rfl);have h1k:=h1;obtain ⟨f1,hf1⟩:=h1;obtain ⟨la1,l1,lc1,e1,hI1⟩:=open_u16s hf1;obtain ⟨rfl,rfl,rfl⟩:a1=la1/\n1=l1.length/\c1=lc1:=by simpa [Value.cells] using e1
 obtain ⟨s2,rfl,rfl,rfl,wf2⟩:=open_int Tryz.underlying28 (hval 2 _ v2 rfl rfl) h2;obtain ⟨s3,rfl,rfl,rfl,wf3⟩:=open_int Tryz.underlying5 (hval 3 _ v3 rfl rfl) h3;obtain ⟨s4,rfl,rfl,rfl,wf4⟩:=open_int Tryz.underlying5 (hval 4 _ v4 rfl rfl) h4;have h0k:=h0;obtain ⟨f0,hf0⟩:=h0;obtain ⟨b,vr,vg,vm,vs,vc,rfl,hR⟩:=open_book hf0;have hK:=kinds_of_laid hL;clear hA0 hval0;simp only [List.append_nil] at hW';have hlt:∀ x∈p0 ++ p1,x.block < W.heap.size:=fun x hx=>by simpa using hW'.lt x hx
 obtain ⟨M,last,o,w',t',g1,g2,g3,g4⟩:=ends_good (ld_co hR hK hI1 (u16_bd wf2).1 (u16_bd wf2).2 (u8_bd wf3).1 (u8_bd wf3).2 (u8_bd wf4).1 (u8_bd wf4).2);obtain ⟨v,g5,⟨rfl,ho⟩,g6⟩:=g4;refine ⟨M,last,o,w',t',g1,g2,g3,_,g5,?_,g6⟩;refine ChangeSpec.post_blind ?_;refine ⟨_,_,_,[],p0 ++ p1,[],hW',?_,?_,rfl,kept_old ho _,fun h=>by cases h⟩
 ·exact trodAll_mk1 (shut_bool Tryz.underlying4 _)
 ·have k0:=arg_stays (by kernel_rfl) (of_decide_eq_true (by kernel_rfl)) h0k ho (fun x hx=>hlt x (List.mem_append_left _ hx));have k1:=arg_stays (by kernel_rfl) (of_decide_eq_true (by kernel_rfl)) h1k ho (fun x hx=>hlt x (List.mem_append_right _ hx));have k2:=arg_stays (ps:=[]) (by kernel_rfl) (of_decide_eq_true (by kernel_rfl)) h2 ho (fun x hx=>by cases hx);have k3:=arg_stays (ps:=[]) (by kernel_rfl) (of_decide_eq_true (by kernel_rfl)) h3 ho (fun x hx=>by cases hx);have k4:=arg_stays (ps:=[]) (by kernel_rfl) (of_decide_eq_true (by kernel_rfl)) h4 ho (fun x hx=>by cases hx);have k9:=trodAll_mk5 k0 k1 k2 k3 k4
  try simp only [List.append_nil] at k9
  first | exact k9 | (rw [List.append_assoc];exact k9)
theorem storeLoaded_holds:Rows.StoreLoadedSaid :=
 OpenClaim.holds_of_wide_leaving 3 Tryz.f3 rfl rfl rfl rfl rfl rfl rfl ⟨rfl,rfl,rfl,rfl,rfl⟩ rfl rfl rfl rfl rfl (by kernel_rfl) Tryz.func3 (by kernel_rfl)
  (of_decide_eq_true (by kernel_rfl)) (by unfold Func.isWrapper;first | (rw [if_pos (by decide +kernel)];kernel_rfl) | (rw [if_neg (by decide +kernel)];exact ⟨rfl,rfl⟩))
  (fun os started H enc _=>storeLoaded_lifted os started H enc)
theorem storeLoaded_card:Rows.StoreLoadedCardSaid:=by
 have hl:∀ f fn,Tryz.pinned.checked.prog.funcNamed Rows.storeLoadedRow.func=some f->Tryz.pinned.checked.prog.funcs[f]? = some fn->false=Tryz.pinned.checked.prog.looks []/\∀ (j:Nat) t,fn.params[j]? = some t->Tryz.pinned.checked.prog.wantsStandIn t=false:=fun f fn hf hfn=>by
  obtain rfl:f=3:=Option.some.inj ((show Tryz.prog.funcNamed "baudot/baudotlaw06.StoreLoaded"=some 3 by kernel_rfl).symm.trans hf) |>.symm;obtain rfl:fn=Tryz.f3:=(Option.some.inj (Tryz.func3.symm.trans hfn)).symm;refine ⟨by kernel_rfl,fun j t ht=>?_⟩;rw [Tryz.params3] at ht;have h0:Tryz.prog.wantsStandIn 26=false:=by kernel_rfl
  have h1:Tryz.prog.wantsStandIn 27=false:=by kernel_rfl
  have h2:Tryz.prog.wantsStandIn 28=false:=by kernel_rfl
  have h3:Tryz.prog.wantsStandIn 5=false:=by kernel_rfl
  have h4:Tryz.prog.wantsStandIn 5=false:=by kernel_rfl
  match j,ht with
  | 0,ht=>exact (Option.some.inj ht) ▸ h0
  | 1,ht=>exact (Option.some.inj ht) ▸ h1
  | 2,ht=>exact (Option.some.inj ht) ▸ h2
  | 3,ht=>exact (Option.some.inj ht) ▸ h3
  | 4,ht=>exact (Option.some.inj ht) ▸ h4
  | j+5,ht=>simp at ht
 have h6:Claim7.isSixth { stood:={ row:=Rows.storeLoadedRow,standIns:=[],harness:=(true, "97efc0858248f0f29e66bab1aaa9b4ca74099b229965dc7dd4604d69fd83285b"),looks:=false },kinds:=[] }=false:=by simp [Claim7.isSixth]
 exact ⟨Claim7.tied_new_at .later [.funcsDeep] true (Claim7.new_of_sixth storeLoaded_holds (true, "97efc0858248f0f29e66bab1aaa9b4ca74099b229965dc7dd4604d69fd83285b") false rfl ⟨rfl,rfl⟩ (by kernel_rfl) h6 hl) (by kernel_rfl),(fun _ h=>by cases h),storeLoaded_row_tie,(fun h=>by cases h),(by kernel_rfl)⟩
#print axioms storeLoaded_card
end
end Go.Proofs.YtdjnkplgllakcaaGreatDoor
