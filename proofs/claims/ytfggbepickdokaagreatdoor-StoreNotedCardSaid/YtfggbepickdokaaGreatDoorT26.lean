/- Leads to the Store laws of chapter 6: Farm5 Farm6 Farm7 Farm8 Farm9 Farm10 Farm11. -/
import Derived.Test.YtfggbepickdokaaGreatDoorT25
set_option maxHeartbeats 200000
set_option maxRecDepth 100000
set_option linter.all false
namespace Go.Proofs.YtfggbepickdokaaGreatDoor.Mt
open Go Go.Conc
open Go.ConcN (sumTo upd sumTo_upd upd_ne upd_same sumTo_congr)
variable {F:Farm} {M:Master F} {gs:Array Goroutine} {w w':World} {t:Trace} {q:Nat→Nat} {m:Nat} {ph:Nat→Ph} {mp:MPh} {own:Nat→Hold}
def meeting (x c s:Nat) (f1 f2:FuncId) (p1 p2:String):List MemOp :=
 [{ g:=x,fn:=f1,pos:=p1,act:=.send c s },{ g:=0,fn:=f2,pos:=p2,act:=.recv c s 0 },{ g:=x,fn:=f1,pos:=p1,act:=.sendDone c s },{ g:=0,fn:=f2,pos:=p2,act:=.recvDone c s }]
theorem meeting_calm {x c s:Nat} {f1 f2:FuncId} {p1 p2:String} {B:Nat} (h:c < B):∀ y∈meeting x c s f1 f2 p1 p2,Calm y∧y.act.low B:=fun y hy=>by
 simp only [meeting,List.mem_cons,List.not_mem_nil,or_false] at hy
 rcases hy with rfl | rfl | rfl | rfl <;> exact ⟨⟨rfl,by simp,by simp⟩,h⟩
theorem upd_self {α:Type} (f:Nat→α) (x:Nat):upd f x (f x)=f:=funext fun y=>by
 by_cases e:y=x
 ·subst e;rw [upd_same]
 ·rw [upd_ne _ _ e]
theorem Core.meet {Act:Nat→Prop} (h:Core F Act w t own) {x y c s:Nat} {tm:Bool} {es:Array Event} (hx:Act x) (hc:c=F.cO∨c=F.cD) (hes:∀ e∈es,EvOwn (own x) F.ro e) (hch:w.heap[c]? = some (.chan 0 #[] false s s tm)) (d:Nat) (fn f1 f2:FuncId) (pos p1 p2:String) :
 Core F Act ((w.at d).setChan c 0 #[] false (s+1) (s+1) tm) (t ++ (MemOp.ofEvents x fn pos es ++ (meeting y c s f1 f2 p1 p2).toArray)) own:=by
 have h1:=h.turn hx (own':=own x) (w':=w) (es:=es) ⟨h.meets x hx,Nat.le_refl _,fun _ _ _=>rfl,⟨rfl,rfl,rfl⟩,fun _ h=>.inl h,hes⟩ fn pos
 rw [upd_self] at h1
 rw [← Array.append_assoc]
 exact (h1.calm _ (meeting_calm (Array.getElem?_eq_some_iff.1 hch).1)).passed hc d
theorem deaf_meet {x y c s i:Nat} {es:Array Event} (hes:∀ e∈es,e.loc≠.mark .disable∧e.loc≠.mark .enable) (fn f1 f2:FuncId) (pos p1 p2:String):Deaf (t ++ (MemOp.ofEvents x fn pos es ++ (meeting y c s f1 f2 p1 p2).toArray)) i=Deaf t i:=by
 rw [← Array.append_assoc,deaf_calm i _ fun z hz=>(meeting_calm (B:=c+1) (Nat.lt_succ_self c) z hz).1]
 by_cases e:i=x
 ·subst e;rw [Deaf_own,deafBehind_still hes]
 ·exact Deaf_other t (g:=i) (g':=x) (Ne.symm e) _ fun op hop=>by obtain ⟨e,_,rfl⟩:=Go.Conc.mem_ofEvents hop;rfl
theorem Inv0.arrays (h:Inv0 M gs w t q m ph mp own) {j:Nat} (hj:j < m) (gw gm:Goroutine) :
 ((gs.setIfInBounds (F.b+j) gw).setIfInBounds 0 gm)[0]? = some gm∧((gs.setIfInBounds (F.b+j) gw).setIfInBounds 0 gm)[F.b+j]? = some gw∧∀ i,i≠0→i≠F.b+j→((gs.setIfInBounds (F.b+j) gw).setIfInBounds 0 gm)[i]? = gs[i]? := by
 have hb:=h.base
 have hs:=h.size
 refine ⟨by rw [Array.getElem?_setIfInBounds_self_of_lt (by simp;omega)],by rw [Array.getElem?_setIfInBounds_ne (by omega),Array.getElem?_setIfInBounds_self_of_lt (by omega)],fun i h0 h1=>by rw [Array.getElem?_setIfInBounds_ne (Ne.symm h0),Array.getElem?_setIfInBounds_ne (Ne.symm h1)]⟩
theorem Inv0.meetOut (h:Inv0 M gs w t q m ph mp own) {j x s k d:Nat} {tm:Bool} {mp':MPh} {gw gm:Goroutine} {es:Array Event} (hj:j < m) (hd:(ph j).done=false) (hx:x=0∨x=F.b+j) (hes:∀ e∈es,EvOwn (own x) F.ro e)
 (hch:w.heap[F.cO]? = some (.chan 0 #[] false s s tm)) (hw:WOk F j (.calc1 k) gw (own (F.b+j))) (hm:MOk M (upd ph j (.calc1 k)) mp' m gm (own 0)) (fn f1 f2:FuncId) (pos p1 p2:String) :
 Inv0 M ((gs.setIfInBounds (F.b+j) gw).setIfInBounds 0 gm) ((w.at d).setChan F.cO 0 #[] false (s+1) (s+1) tm) (t ++ (MemOp.ofEvents x fn pos es ++ (meeting (F.b+j) F.cO s f1 f2 p1 p2).toArray)) q m (upd ph j (.calc1 k)) mp' own:=by
 obtain ⟨a0,aj,ao⟩:=h.arrays hj gw gm
 have hb:=h.base
 have hax:ActW F ph m x:=hx.elim .inl fun e=>.inr ⟨j,hj,e,hd⟩
 have hcore:=h.core.meet (y:=F.b+j) hax (.inl rfl) hes hch d fn f1 f2 pos p1 p2
 have hdeaf:=fun i=>deaf_meet (t:=t) (x:=x) (y:=F.b+j) (c:=F.cO) (s:=s) (i:=i) (fun e he=>(hes e he).calm) fn f1 f2 pos p1 p2
 refine ⟨by simp [h.size],hb,fun i y hi hib hy=>?_,fun i hi=>?_,⟨gm,a0,hm⟩,hcore.congr (act_congr fun i hi=>?_),fun i hi=>by rw [hdeaf];exact h.deaf i hi⟩
 ·rw [ao i (by omega) (by omega)] at hy
  rw [hdeaf];exact h.old i y hi hib hy
 ·by_cases e:i=j
  ·subst e;exact ⟨gw,aj,by rw [upd_same];exact hw⟩
  ·obtain ⟨y,hy,hwy⟩:=h.work i hi
   exact ⟨y,by rw [ao _ (by omega) (by omega)];exact hy,by rw [upd_ne _ _ e];exact hwy⟩
 ·by_cases e:i=j
  ·subst e;rw [upd_same,hd];rfl
  ·rw [upd_ne _ _ e]
theorem Inv0.meetSign (h:Inv0 M gs w t q m ph mp own) {j x s k d:Nat} {tm:Bool} {mp':MPh} {gw gm:Goroutine} {es:Array Event} (hj:j < m) (hd:(ph j).done=false) (hx:x=0∨x=F.b+j) (hes:∀ e∈es,EvOwn (own x) F.ro e)
 (hch:w.heap[F.cD]? = some (.chan 0 #[] false s s tm)) (hw:WOk F j (.quit k) gw (own (F.b+j))) (hm:MOk M (upd ph j (.quit k)) mp' m gm (own 0)) (fn f1 f2:FuncId) (pos p1 p2:String) :
 Inv0 M ((gs.setIfInBounds (F.b+j) gw).setIfInBounds 0 gm) ((w.at d).setChan F.cD 0 #[] false (s+1) (s+1) tm) (t ++ (MemOp.ofEvents x fn pos es ++ (meeting (F.b+j) F.cD s f1 f2 p1 p2).toArray)) q m (upd ph j (.quit k)) mp' own:=by
 obtain ⟨a0,aj,ao⟩:=h.arrays hj gw gm
 have hb:=h.base
 have haj:ActW F ph m (F.b+j):=.inr ⟨j,hj,rfl,hd⟩
 have hax:ActW F ph m x:=hx.elim .inl fun e=>e ▸ haj
 have hcore:=h.core.meet (y:=F.b+j) hax (.inr rfl) hes hch d fn f1 f2 pos p1 p2
 have hdeaf:=fun i=>deaf_meet (t:=t) (x:=x) (y:=F.b+j) (c:=F.cD) (s:=s) (i:=i) (fun e he=>(hes e he).calm) fn f1 f2 pos p1 p2
 have hret:=hcore.trace.retire (j:=F.b+j) fun i a ha hgi=>by
  rw [← Array.append_assoc] at ha hgi ⊢
  have hcalm:∀ z∈meeting (F.b+j) F.cD s f1 f2 p1 p2,Calm z:=fun z hz=>(meeting_calm (B:=F.cD+1) (Nat.lt_succ_self _) z hz).1
  obtain ⟨ha',hlt⟩:=old_touch hcalm ha
  obtain ⟨op,ho,_⟩:=touch_of ha'
  have hog:op.g=F.b+j:=by
   rw [g?_old hlt] at hgi
   simpa [Trace.g?,ho] using hgi
  have hk:Knows (t ++ MemOp.ofEvents x fn pos es) (F.b+j) i:=by have:=knows_own ho;rw [hog] at this;exact this
  have hdd:∀ z,ActW F ph m z→Deaf (t ++ MemOp.ofEvents x fn pos es) z=0:=fun z hz=>by
   by_cases e:z=x
   ·subst e;rw [Deaf_own,deafBehind_still fun e he=>(hes e he).calm];exact h.core.trace.hears z hz
   ·rw [Deaf_other t (g:=z) (g':=x) (Ne.symm e) _ fun op hop=>by obtain ⟨e,_,rfl⟩:=Go.Conc.mem_ofEvents hop;rfl];exact h.core.trace.hears z hz
  exact knows_over hcalm (j:=0) (k:=3) (x:={ g:=F.b+j,fn:=f1,pos:=p1,act:=.send F.cD s }) (y:={ g:=0,fn:=f2,pos:=p2,act:=.recvDone F.cD s }) rfl rfl rfl rfl (hdd _ haj) (hdd 0 (.inl rfl)) hk
 have hact:∀ g,ActW F (upd ph j (.quit k)) m g↔(ActW F ph m g∧g≠F.b+j):=fun g=>by
  constructor
  ·rintro (h0 | ⟨i,hi,rfl,hdi⟩)
   ·exact ⟨.inl h0,by omega⟩
   ·by_cases e:i=j
    ·subst e;rw [upd_same] at hdi;cases hdi
    ·rw [upd_ne _ _ e] at hdi;exact ⟨.inr ⟨i,hi,rfl,hdi⟩,by omega⟩
  ·rintro ⟨h0 | ⟨i,hi,rfl,hdi⟩,hne⟩
   ·exact .inl h0
   ·exact .inr ⟨i,hi,rfl,by rw [upd_ne _ _ (by omega)];exact hdi⟩
 refine ⟨by simp [h.size],hb,fun i y hi hib hy=>?_,fun i hi=>?_,⟨gm,a0,hm⟩,(hcore.less (fun g hg=>hg.1) hret).congr hact,fun i hi=>by rw [hdeaf];exact h.deaf i hi⟩
 ·rw [ao i (by omega) (by omega)] at hy
  rw [hdeaf];exact h.old i y hi hib hy
 ·by_cases e:i=j
  ·subst e;exact ⟨gw,aj,by rw [upd_same];exact hw⟩
  ·obtain ⟨y,hy,hwy⟩:=h.work i hi
   exact ⟨y,by rw [ao _ (by omega) (by omega)];exact hy,by rw [upd_ne _ _ e];exact hwy⟩
variable {F:Farm} {M:Master F} {gs:Array Goroutine} {w w':World} {t:Trace} {q:Nat→Nat} {m:Nat} {ph:Nat→Ph} {mp:MPh} {own:Nat→Hold}
theorem Inv0.spawn (h:Inv0 M gs w t q m ph mp own) {gm child:Goroutine} {es:Array Event} {own' H:Hold} {k:Nat} {mp':MPh} (hes:∀ e∈es,EvOwn (own 0) F.ro e)
 (h1:∀ r o,own' r=some o→own 0 r=some o) (h2:∀ r o,H r=some o→own 0 r=some o) (h3:∀ r,keyOf own' r→¬ keyOf H r) (hw:WOk F m (.calc0 k) child H) (hm:MOk M (upd ph m (.calc0 k)) mp' (m+1) gm own') (fn f1 f2:FuncId) (pos p1 p2:String) :
 Inv0 M ((gs.setIfInBounds 0 gm).push child) w (t ++ (MemOp.ofEvents 0 fn pos es ++ ([{ g:=0,fn:=f1,pos:=p1,act:=.go (F.b+m) },{ g:=F.b+m,fn:=f2,pos:=p2,act:=.start }]:List MemOp).toArray)) q (m+1) (upd ph m (.calc0 k)) mp' (upd (upd own 0 own') (F.b+m) H):=by
 have hb:=h.base
 have hs:=h.size
 have hnew:¬ ActW F ph m (F.b+m):=by
  rintro (h0 | ⟨i,hi,e,_⟩) <;> omega
 have hact:∀ g,ActW F (upd ph m (.calc0 k)) (m+1) g↔(ActW F ph m g∨g=F.b+m):=fun g=>by
  constructor
  ·rintro (h0 | ⟨i,hi,rfl,hdi⟩)
   ·exact .inl (.inl h0)
   ·by_cases e:i=m
    ·exact .inr (by omega)
    ·rw [upd_ne _ _ e] at hdi;exact .inl (.inr ⟨i,by omega,rfl,hdi⟩)
  ·rintro ((h0 | ⟨i,hi,rfl,hdi⟩) | rfl)
   ·exact .inl h0
   ·exact .inr ⟨i,by omega,rfl,by rw [upd_ne _ _ (by omega)];exact hdi⟩
   ·exact .inr ⟨m,by omega,rfl,by rw [upd_same];rfl⟩
 have c1:=h.core.turn (.inl rfl) (own':=own 0) (w':=w) (es:=es) ⟨h.core.meets 0 (.inl rfl),Nat.le_refl _,fun _ _ _=>rfl,⟨rfl,rfl,rfl⟩,fun _ h=>.inl h,hes⟩ fn pos
 rw [upd_self] at c1
 have hdE:∀ x,x≠0→Deaf (t ++ MemOp.ofEvents 0 fn pos es) x=Deaf t x:=fun x hx=>Deaf_other t (g:=x) (g':=0) (Ne.symm hx) _ fun op hop=>by obtain ⟨e,_,rfl⟩:=Go.Conc.mem_ofEvents hop;rfl
 have hf:=c1.trace.fork (.inl rfl) hnew (by rw [hdE _ (by omega)];exact h.deaf _ (by omega)) (H:=H) (K:=own') (fun r ⟨o,ho⟩=>⟨o,h2 r o ho⟩) (fun r ⟨o,ho⟩=>⟨o,h1 r o ho⟩) f1 f2 p1 p2
 rw [← Array.append_assoc]
 have hcalm:∀ y∈([{ g:=0,fn:=f1,pos:=p1,act:=.go (F.b+m) },{ g:=F.b+m,fn:=f2,pos:=p2,act:=.start }]:List MemOp),Calm y:=fun y hy=>by
  simp only [List.mem_cons,List.not_mem_nil,or_false] at hy
  rcases hy with rfl | rfl <;> exact ⟨rfl,by simp,by simp⟩
 have hdeaf:∀ x,x≠0→Deaf (t ++ MemOp.ofEvents 0 fn pos es ++ ([{ g:=0,fn:=f1,pos:=p1,act:=.go (F.b+m) },{ g:=F.b+m,fn:=f2,pos:=p2,act:=.start }]:List MemOp).toArray) x=Deaf t x:=fun x hx=>(deaf_calm x _ hcalm).trans (hdE x hx)
 have own_of:∀ g r,(ActW F ph m g∨g=F.b+m)→keyOf (upd (upd own 0 own') (F.b+m) H g) r→(g=F.b+m∧keyOf H r)∨(g=0∧keyOf own' r)∨(g≠0∧g≠F.b+m∧ActW F ph m g∧keyOf (own g) r):=fun g r hg hk=>by
  by_cases e:g=F.b+m
  ·subst e;rw [upd_same] at hk;exact .inl ⟨rfl,hk⟩
  ·rw [upd_ne _ _ e] at hk
   by_cases e0:g=0
   ·subst e0;rw [upd_same] at hk;exact .inr (.inl ⟨rfl,hk⟩)
   ·rw [upd_ne _ _ e0] at hk;exact .inr (.inr ⟨e0,e,hg.resolve_right e,hk⟩)
 have to0:∀ r,keyOf H r→keyOf (own 0) r:=fun r ⟨o,ho⟩=>⟨o,h2 r o ho⟩
 have to0':∀ r,keyOf own' r→keyOf (own 0) r:=fun r ⟨o,ho⟩=>⟨o,h1 r o ho⟩
 have m0:=h.core.meets 0 (.inl rfl)
 have hcore:Core F (fun x=>ActW F ph m x∨x=F.b+m) w (t ++ MemOp.ofEvents 0 fn pos es ++ ([{ g:=0,fn:=f1,pos:=p1,act:=.go (F.b+m) },{ g:=F.b+m,fn:=f2,pos:=p2,act:=.start }]:List MemOp).toArray) (upd (upd own 0 own') (F.b+m) H):=by
  refine ⟨hf,fun a c r ha hc hka hkc=>?_,fun g hg=>?_,h.core.chans,h.core.two,fun g hg=>?_,h.core.roFree,h.core.rest⟩
  ·rcases own_of a r ha hka with ⟨rfl,ka⟩ | ⟨rfl,ka⟩ | ⟨na0,nan,aa,ka⟩ <;> rcases own_of c r hc hkc with ⟨rfl,kc⟩ | ⟨rfl,kc⟩ | ⟨nc0,ncn,ac,kc⟩
   ·rfl
   ·exact absurd ka (h3 r kc)
   ·exact absurd (h.core.sep 0 c r (.inl rfl) ac (to0 r ka) kc).symm nc0
   ·exact absurd kc (h3 r ka)
   ·rfl
   ·exact absurd (h.core.sep 0 c r (.inl rfl) ac (to0' r ka) kc).symm nc0
   ·exact absurd (h.core.sep a 0 r aa (.inl rfl) ka (to0 r kc)) na0
   ·exact absurd (h.core.sep a 0 r aa (.inl rfl) ka (to0' r kc)) na0
   ·exact h.core.sep a c r aa ac ka kc
  ·by_cases e:g=F.b+m
   ·subst e;rw [upd_same];exact ⟨fun r o hr=>m0.mine r o (h2 r o hr),m0.shared,fun r o hr=>m0.apart r o (h2 r o hr)⟩
   ·rw [upd_ne _ _ e]
    by_cases e0:g=0
    ·subst e0;rw [upd_same];exact ⟨fun r o hr=>m0.mine r o (h1 r o hr),m0.shared,fun r o hr=>m0.apart r o (h1 r o hr)⟩
    ·rw [upd_ne _ _ e0];exact h.core.meets g (hg.resolve_right e)
  ·have f0:=h.core.free 0 (.inl rfl)
   by_cases e:g=F.b+m
   ·subst e;rw [upd_same]
    exact ⟨key_none fun ⟨o,ho⟩=>(by have:=h2 _ o ho;rw [f0.1] at this;cases this),key_none fun ⟨o,ho⟩=>(by have:=h2 _ o ho;rw [f0.2] at this;cases this)⟩
   ·rw [upd_ne _ _ e]
    by_cases e0:g=0
    ·subst e0;rw [upd_same]
     exact ⟨key_none fun ⟨o,ho⟩=>(by have:=h1 _ o ho;rw [f0.1] at this;cases this),key_none fun ⟨o,ho⟩=>(by have:=h1 _ o ho;rw [f0.2] at this;cases this)⟩
    ·rw [upd_ne _ _ e0];exact h.core.free g (hg.resolve_right e)
 have hget:∀ i,i≠0→i≠F.b+m→((gs.setIfInBounds 0 gm).push child)[i]? = gs[i]? := fun i h0 hi=>by
  rw [Array.getElem?_push]
  rw [if_neg (by simp;omega),Array.getElem?_setIfInBounds_ne (Ne.symm h0)]
 refine ⟨by simp [hs];omega,hb,fun i x hi hib hx=>?_,fun i hi=>?_,⟨gm,by rw [Array.getElem?_push,if_neg (by simp;omega),Array.getElem?_setIfInBounds_self_of_lt (by omega)],by rw [upd_ne _ _ (by omega),upd_same];exact hm⟩,hcore.congr hact,fun i hi=>by rw [hdeaf i (by omega)];exact h.deaf i hi⟩
 ·rw [hget i (by omega) (by omega)] at hx
  rw [hdeaf i (by omega)];exact h.old i x hi hib hx
 ·by_cases e:i=m
  ·subst e
   exact ⟨child,by rw [Array.getElem?_push,if_pos (by simp [hs])],by rw [upd_same,upd_same];exact hw⟩
  ·obtain ⟨x,hx,hwx⟩:=h.work i (by omega)
   exact ⟨x,by rw [hget _ (by omega) (by omega)];exact hx,by rw [upd_ne _ _ e,upd_ne _ _ (by omega),upd_ne _ _ (by omega)];exact hwx⟩
variable {F:Farm} {M:Master F} {gs:Array Goroutine} {w w':World} {t:Trace} {q:Nat→Nat} {m:Nat} {ph:Nat→Ph} {mp:MPh} {own:Nat→Hold}
theorem not_off_running {j:Nat} {p:Ph} {g:Goroutine} {o:Hold} (h:WOk F j p g o) (hp:p.off=false):g.status≠.blocked:=by
 cases p with
 | calc0 k=>rw [walk_running (fun g own x=>x.1.1) h];simp
 | calc1 k=>rw [walk_running (fun g own x=>x.1.1) h];simp
 | off0=>cases hp
 | off1=>cases hp
 | quit k=>rcases QuitsD.status (QuitsD.of_quitsIn h) with e | e <;> rw [e] <;> simp
theorem Inv0.who (h:Inv0 M gs w t q m ph mp own) {i:Nat} {x:Goroutine} (hx:gs[i]? = some x):i=0∨(0 < i∧i < F.b∧QuitsD F.P (q i) (Deaf t i) x)∨∃ j,j < m∧i=F.b+j∧WOk F j (ph j) x (own (F.b+j)):=by
 rcases Nat.eq_zero_or_pos i with rfl | hpos
 ·exact .inl rfl
 ·rcases Nat.lt_or_ge i F.b with hlt | hge
  ·exact .inr (.inl ⟨hpos,hlt,h.old i x hpos hlt hx⟩)
  ·have hlt:i < gs.size:=(Array.getElem?_eq_some_iff.1 hx).1
   rw [h.size] at hlt
   obtain ⟨g,hg,hw⟩:=h.work (i - F.b) (by omega)
   rw [show F.b+(i - F.b)=i by omega] at hg
   rw [hg] at hx;cases hx
   exact .inr (.inr ⟨i - F.b,by omega,by omega,hw⟩)
theorem Inv0.no_recv (h:Inv0 M gs w t q m ph mp own) {i:Nat} {x:Goroutine} (hx:gs[i]? = some x) (hi:i≠0) (c:Nat):offersAt x c false=[]:=by
 rcases h.who hx with h0 | ⟨_,_,hq⟩ | ⟨j,hj,rfl,hw⟩
 ·exact absurd h0 hi
 ·exact offersAt_of_not_blocked (by rcases hq.status with e | e <;> rw [e] <;> simp) c false
 ·cases hp:ph j with
  | off0=>rw [hp] at hw;obtain ⟨g0,rfl,_⟩:=hw;exact offersAt_parked_send' _ _ _ _ _ _
  | off1=>rw [hp] at hw;obtain ⟨g0,rfl,_⟩:=hw;exact offersAt_parked_send' _ _ _ _ _ _
  | _=>exact offersAt_of_not_blocked (not_off_running (p:=ph j) hw (by rw [hp];rfl)) c false
theorem Inv0.sends (h:Inv0 M gs w t q m ph mp own) {i k c:Nat} {x:Goroutine} (hx:gs[i]? = some x) (hi:i≠0) (hk:k∈offersAt x c true) :
 k=0∧∃ j,j < m∧i=F.b+j∧((c=F.cO∧ph j=.off0∧∃ g0,x=parked g0 #[scase F.cO (F.v j) F.zs] .send∧After0 F g0 (own (F.b+j)))∨(c=F.cD∧ph j=.off1∧∃ g0,x=parked g0 #[scase F.cD sgn F.zs] .send∧After1 F g0)):=by
 rcases h.who hx with h0 | ⟨_,_,hq⟩ | ⟨j,hj,rfl,hw⟩
 ·exact absurd h0 hi
 ·rw [offersAt_of_not_blocked (by rcases hq.status with e | e <;> rw [e] <;> simp) c true] at hk;cases hk
 ·cases hp:ph j with
  | off0 =>
   rw [hp] at hw
   obtain ⟨g0,rfl,ha⟩:=hw
   rw [offersAt_parked_send] at hk
   split at hk
   ·rename_i e
    simp at hk
    exact ⟨hk,j,hj,rfl,.inl ⟨e.symm,hp,g0,rfl,ha⟩⟩
   ·cases hk
  | off1 =>
   rw [hp] at hw
   obtain ⟨g0,rfl,ha⟩:=hw
   rw [offersAt_parked_send] at hk
   split at hk
   ·rename_i e
    simp at hk
    exact ⟨hk,j,hj,rfl,.inr ⟨e.symm,hp,g0,rfl,ha⟩⟩
   ·cases hk
  | _=>rw [offersAt_of_not_blocked (not_off_running (p:=ph j) hw (by rw [hp];rfl)) c true] at hk;cases hk
variable {F:Farm} {M:Master F} {gs:Array Goroutine} {w w':World} {t:Trace} {q:Nat→Nat} {m:Nat} {ph:Nat→Ph} {mp:MPh} {own:Nat→Hold}
theorem doneOf_upd {j:Nat} (hj:j < m) (k:Nat) (hd:(ph j).done=false):doneOf (upd ph j (.quit k)) m=doneOf ph m+1:=by
 have:=sumTo_upd ph (.quit k) (fun p=>if p.done then 1 else 0) hj
 simp only [hd,Bool.false_eq_true,if_false] at this
 show sumTo m (fun a=>if (upd ph j (.quit k) a).done then 1 else 0)=sumTo m (fun a=>if (ph a).done then 1 else 0)+1
 have e:(if (Ph.quit k).done then 1 else 0)=1:=rfl
 rw [e] at this
 omega
theorem doneOf_same {j:Nat} (k:Nat) (hd:(ph j).done=false):doneOf (upd ph j (.calc1 k)) m=doneOf ph m:=doneOf_congr fun i hi=>by
 by_cases e:i=j
 ·subst e;rw [upd_same,hd];rfl
 ·rw [upd_ne _ _ e]
theorem doneOf_le:doneOf ph m≤m:=by
 have:∀ m,doneOf ph m≤m:=fun m=>by
  induction m with
  | zero=>exact Nat.le_refl _
  | succ m ih =>
   show sumTo m _+(if (ph m).done then 1 else 0)≤m+1
   have:sumTo m (fun j=>if (ph j).done then 1 else 0)≤m:=ih
   split <;> omega
 exact this m
theorem doneOf_all:∀ {m:Nat},doneOf ph m=m→∀ i,i < m→(ph i).done=true:=by
 intro m
 induction m with
 | zero=>intro _ i hi;omega
 | succ m ih =>
  intro h i hi
  have h':sumTo m (fun j=>if (ph j).done then 1 else 0)+(if (ph m).done then 1 else 0)=m+1:=h
  have hle:sumTo m (fun j=>if (ph j).done then 1 else 0)≤m:=doneOf_le (ph:=ph) (m:=m)
  by_cases hd:(ph m).done=true
  ·rw [if_pos hd] at h'
   rcases Nat.lt_or_ge i m with hlt | hge
   ·exact ih (show doneOf ph m=m from by show sumTo m _=m;omega) i hlt
   ·obtain rfl:i=m:=by omega
    exact hd
  ·rw [if_neg hd] at h';omega
theorem got_value {σ:Nat→Bool} {g:Goroutine} {j:Nat} (hm:m=F.n) (hlt:doneOf ph m < F.n) (hσ:∀ i,i < m→σ i=(ph i).sent) (hM:M.MR σ (doneOf ph m) g (own 0)) (hj:j < m) (hs:(ph j).sent=false) (hd:(ph j).done=false) (kw:Nat) :
 ∃ k,MOk M (upd ph j (.calc1 kw)) (.recv k) m (g.finishComm F.P F.cases .select (0:Nat) (F.v j) true) (own 0):=by
 obtain ⟨k,hk⟩:=M.onOut σ _ g (own 0) j hM (by omega) (by rw [hσ j hj];exact hs)
 refine ⟨k,hm,by rw [doneOf_same kw hd];exact hlt,upd σ j true,fun i hi=>?_,by rw [doneOf_same kw hd];exact hk⟩
 by_cases e:i=j
 ·subst e;rw [upd_same,upd_same];rfl
 ·rw [upd_ne _ _ e,upd_ne _ _ e];exact hσ i hi
theorem got_sign {σ:Nat→Bool} {g:Goroutine} {j:Nat} (hm:m=F.n) (hlt:doneOf ph m < F.n) (hσ:∀ i,i < m→σ i=(ph i).sent) (hM:M.MR σ (doneOf ph m) g (own 0)) (hj:j < m) (hs:(ph j).sent=true) (hd:(ph j).done=false) (kw:Nat) :
 ∃ mp',MOk M (upd ph j (.quit kw)) mp' m (g.finishComm F.P F.cases .select (1:Nat) sgn true) (own 0):=by
 have hdo:=doneOf_upd hj kw hd
 have hσ':∀ i,i < m→σ i=(upd ph j (.quit kw) i).sent:=fun i hi=>by
  by_cases e:i=j
  ·subst e;rw [upd_same,hσ i hi,hs];rfl
  ·rw [upd_ne _ _ e];exact hσ i hi
 rcases Nat.lt_or_ge (doneOf ph m+1) F.n with hlt2 | hge
 ·obtain ⟨k,hk⟩:=M.onSign σ _ g (own 0) hM hlt2
  exact ⟨.recv k,hm,by rw [hdo];exact hlt2,σ,hσ',by rw [hdo];exact hk⟩
 ·have hall:∀ i,i < m→(upd ph j (.quit kw) i).done=true:=doneOf_all (by rw [hdo];omega)
  obtain ⟨k,hk⟩:=M.onLast σ _ g (own 0) hM (by omega) fun i hi=>by
   rw [hσ' i (by omega)]
   have:=hall i (by omega)
   cases hp:upd ph j (.quit kw) i <;> simp_all [Ph.done,Ph.sent]
  exact ⟨.last k,hm,hall,hk⟩
variable {F:Farm} {M:Master F} {gs:Array Goroutine} {w w':World} {t:Trace} {q:Nat→Nat} {m:Nat} {ph:Nat→Ph} {mp:MPh} {own:Nat→Hold}
theorem finish_of_parked {P:Program} {g g0:Goroutine} {cs cs0 cs2:Array CommCase} {sh sh0 sh2:CommShape} {k:Int} {v:Value} {b:Bool} (h:parked g cs sh=parked g0 cs0 sh0):g.finishComm P cs2 sh2 k v b=g0.finishComm P cs2 sh2 k v b:=by
 rw [← finishComm_parked P g cs2 cs sh2 sh,h,finishComm_parked]
theorem meets_upd {p:Ph} {j:Nat} (hj:j < m) (hlt:p.meets < (ph j).meets):sumTo m (fun i=>(upd ph j p i).meets) < sumTo m (fun i=>(ph i).meets):=by
 have:=sumTo_upd ph p (fun x=>x.meets) hj
 omega
theorem Inv0.select (h:Inv0 M gs w t q m ph mp own) {g:Goroutine} (hg:gs[0]? = some g) {σ:Nat→Bool} (hm:m=F.n) (hlt:doneOf ph m < F.n) (hσ:∀ i,i < m→σ i=(ph i).sent) (hM:M.MR σ (doneOf ph m) g (own 0)) (sl:Option (Nat × Nat)) :
 ∃ gs' w' u ph' mp',runT F.P (crowd gs w sl) 0=(.next (crowd gs' w' sl),u)∧Inv0 M gs' w' (t ++ u) q m ph' mp' own∧((mp'=.wait∧ph'=ph)∨sumTo m (fun i=>(ph' i).meets) < sumTo m (fun i=>(ph i).meets)):=by
 obtain ⟨hrun,hcomm⟩:=M.atSel σ _ g (own 0) hM
 obtain ⟨es,hs,hes⟩:=hcomm w (h.core.meets 0 (.inl rfl))
 obtain ⟨⟨sO,tmO,hO⟩,sD,tmD,hD⟩:=h.core.chans
 have hin:∀ c j k,(j,k)∈partners (gs.setIfInBounds 0 Go.Conc.ph) c true→j≠0∧∃ x,gs[j]? = some x∧k∈offersAt x c true:=fun c j k hjk=>by
  obtain ⟨x,hx,hk⟩:=mem_partners.1 hjk
  rcases getElem?_stand gs 0 j x hx with ⟨_,rfl⟩ | ⟨h0,hx⟩
  ·rw [offersAt_ph] at hk;cases hk
  ·exact ⟨h0,x,hx,hk⟩
 by_cases hne:partners (gs.setIfInBounds 0 Go.Conc.ph) F.cO true≠[]∨partners (gs.setIfInBounds 0 Go.Conc.ph) F.cD true≠[]
 ·obtain ⟨kk,c,s,r,tm,jx,gj,vj,zj,shj,d,hkk,hj0,hjx,hr⟩:=sel2_meets (sl:=sl) hg (show stepG F.P (0 == 0) g w=_ from hs) hO hD hne fun c j k hjk _=>by
   obtain ⟨h0,x,hx,hk⟩:=hin c j k hjk
   obtain ⟨hk0,j',hj',rfl,(⟨rfl,_,g0,rfl,_⟩ | ⟨rfl,_,g0,rfl,_⟩)⟩:=h.sends hx h0 hk
   ·exact ⟨hk0,h0,g0,_,_,_,hx⟩
   ·exact ⟨hk0,h0,g0,_,_,_,hx⟩
  have hoff:0∈offersAt (parked gj #[scase c vj zj] shj) c true:=by rw [offersAt_parked_send,if_pos rfl];simp
  obtain ⟨_,j,hj,rfl,hwhat⟩:=h.sends hjx hj0 hoff
  rcases hkk with ⟨rfl,rfl,rfl,rfl,rfl⟩ | ⟨rfl,rfl,rfl,rfl,rfl⟩
  ·rcases hwhat with ⟨_,hp,g0,hpk,kw,hwalk⟩ | ⟨e,_⟩
   ·have hoffers:=congrArg Goroutine.offers hpk
    simp [parked,scase] at hoffers
    obtain ⟨⟨rfl,rfl⟩,rfl⟩:=hoffers
    have hd:(ph j).done=false:=by rw [hp];rfl
    have hsn:(ph j).sent=false:=by rw [hp];rfl
    obtain ⟨k,hmok⟩:=got_value (g:=g) hm hlt hσ hM hj hsn hd kw
    refine ⟨_,_,_,upd ph j (.calc1 kw),.recv k,hr,h.meetOut hj hd (.inl rfl) hes hO ?_ hmok _ _ _ _ _ _,.inr (meets_upd hj (by rw [hp];show 1 < 2;decide))⟩
    rw [finish_of_parked hpk]
    exact hwalk
   ·exact absurd e h.core.two
  ·rcases hwhat with ⟨e,_⟩ | ⟨_,hp,g0,hpk,kw,hq⟩
   ·exact absurd e.symm h.core.two
   ·have hoffers:=congrArg Goroutine.offers hpk
    simp [parked,scase] at hoffers
    obtain ⟨⟨rfl,rfl⟩,rfl⟩:=hoffers
    have hd:(ph j).done=false:=by rw [hp];rfl
    have hsn:(ph j).sent=true:=by rw [hp];rfl
    obtain ⟨mp',hmok⟩:=got_sign (g:=g) hm hlt hσ hM hj hsn hd kw
    refine ⟨_,_,_,upd ph j (.quit kw),mp',hr,h.meetSign hj hd (.inl rfl) hes hD ?_ hmok _ _ _ _ _ _,.inr (meets_upd hj (by rw [hp];show 0 < 1;decide))⟩
    rw [finish_of_parked hpk]
    exact hq
 ·have hno:partners (gs.setIfInBounds 0 Go.Conc.ph) F.cO true=[]∧partners (gs.setIfInBounds 0 Go.Conc.ph) F.cD true=[]:=by
   constructor
   ·exact Classical.byContradiction fun e=>hne (.inl e)
   ·exact Classical.byContradiction fun e=>hne (.inr e)
  have hr:=crowd_waits (sl:=sl) hg (show stepG F.P (0 == 0) g w=_ from hs) (fun cc hcc=>by
   simp [Farm.cases] at hcc
   rcases hcc with rfl | rfl
   ·exact ways_recv_none hO hno.1
   ·exact ways_recv_none hD hno.2)
  have hset:=h.setMain (g:=g) (g':=parked g F.cases .select) (own':=own 0) (w':=w) (es:=es) (mp':=.wait) hg ⟨h.core.meets 0 (.inl rfl),Nat.le_refl _,fun _ _ _=>rfl,⟨rfl,rfl,rfl⟩,fun _ h=>.inl h,hes⟩ ⟨hm,hlt,σ,g,hσ,rfl,hM,fun i hi=>?_⟩ g.frame.fn g.frame.place
  ·rw [upd_self] at hset
   exact ⟨_,_,_,ph,.wait,hr,hset,.inl ⟨rfl,rfl⟩⟩
  ·obtain ⟨x,hx,hw⟩:=h.work i hi
   have hb:=h.base
   have key:∀ c,(0∈offersAt x c true)→(F.b+i,0)∈partners (gs.setIfInBounds 0 Go.Conc.ph) c true:=fun c hc=>mem_partners.2 ⟨x,by rw [Array.getElem?_setIfInBounds_ne (by omega)];exact hx,hc⟩
   constructor
   ·intro e
    rw [e] at hw
    obtain ⟨g0,rfl,_⟩:=hw
    have:=key F.cO (by rw [offersAt_parked_send,if_pos rfl];simp)
    rw [hno.1] at this;cases this
   ·intro e
    rw [e] at hw
    obtain ⟨g0,rfl,_⟩:=hw
    have:=key F.cD (by rw [offersAt_parked_send,if_pos rfl];simp)
    rw [hno.2] at this;cases this
variable {F:Farm} {M:Master F} {gs:Array Goroutine} {w w':World} {t:Trace} {q:Nat→Nat} {m:Nat} {ph:Nat→Ph} {mp:MPh} {own:Nat→Hold}
theorem Inv0.master (h:Inv0 M gs w t q m ph mp own) (hfin:∀ g own,M.Fin g own→g.status=.running):∃ g,gs[0]? = some g∧MOk M ph mp m g (own 0)∧(mp≠.wait→g.status=.running):=by
 obtain ⟨g,hg,hm⟩:=h.main
 refine ⟨g,hg,hm,fun hw=>?_⟩
 cases mp with
 | start j k=>obtain ⟨rfl,h1,_,h2⟩:=hm;exact walk_running (fun g own x=>(M.onSpawn _ g own x h1).1) h2
 | recv k=>obtain ⟨_,_,σ,_,h2⟩:=hm;exact walk_running (fun g own x=>(M.atSel _ _ g own x).1) h2
 | last k=>obtain ⟨_,_,h2⟩:=hm;exact walk_running hfin h2
 | wait=>exact absurd rfl hw
theorem Inv0.alone (h:Inv0 M gs w t q m ph mp own) (hfin:∀ g own,M.Fin g own→g.status=.running) (hw:mp≠.wait) (i c:Nat):partners (gs.setIfInBounds i Go.Conc.ph) c false=[] :=
 partners_nil fun k x hx=>by
  rcases getElem?_stand gs i k x hx with ⟨_,rfl⟩ | ⟨_,hx⟩
  ·exact offersAt_ph _ _
  ·by_cases h0:k=0
   ·subst h0
    obtain ⟨g,hg,_,hr⟩:=h.master hfin
    rw [hg] at hx;cases hx
    exact offersAt_of_not_blocked (by rw [hr hw];simp) c false
   ·exact h.no_recv hx h0 c
theorem Inv0.waiting (h:Inv0 M gs w t q m ph mp own) {g0:Goroutine} (hg:gs[0]? = some (parked g0 F.cases .select)) {i:Nat} (hi:i≠0) {k c:Nat} (hk:offersAt (parked g0 F.cases .select) c false=[k]):partners (gs.setIfInBounds i Go.Conc.ph) c false=[(0,k)]:=by
 rw [partners_one (j:=0) (g:=parked g0 F.cases .select) (by rw [Array.getElem?_setIfInBounds_ne hi];exact hg) fun y x hy hx=>?_,hk]
 ·rfl
 ·rcases getElem?_stand gs i y x hx with ⟨_,rfl⟩ | ⟨_,hx⟩
  ·exact offersAt_ph _ _
  ·exact h.no_recv hx hy c
theorem Inv0.offersO (h:Inv0 M gs w t q m ph mp own) (g0:Goroutine):offersAt (parked g0 F.cases .select) F.cO false=[0] :=
 offersAt_parked_at (k:=0) rfl fun n cc hn hcc=>by
  rcases n with _ | _ | n
  ·exact absurd rfl hn
  ·simp [Farm.cases] at hcc;subst hcc;simp [rcase];exact fun e=>h.core.two e.symm
  ·simp [Farm.cases] at hcc
theorem Inv0.offersD (h:Inv0 M gs w t q m ph mp own) (g0:Goroutine):offersAt (parked g0 F.cases .select) F.cD false=[1] :=
 offersAt_parked_at (k:=1) rfl fun n cc hn hcc=>by
  rcases n with _ | _ | n
  ·simp [Farm.cases] at hcc;subst hcc;simp [rcase];exact h.core.two
  ·exact absurd rfl hn
  ·simp [Farm.cases] at hcc
variable {F:Farm} {M:Master F} {gs:Array Goroutine} {w w':World} {t:Trace} {q:Nat→Nat} {m:Nat} {ph:Nat→Ph} {mp:MPh} {own:Nat→Hold}
theorem set_comm (gs:Array Goroutine) {i j:Nat} (h:i≠j) (x y:Goroutine):(gs.setIfInBounds i x).setIfInBounds j y=(gs.setIfInBounds j y).setIfInBounds i x:=Array.setIfInBounds_comm x y h
theorem Inv0.park (h:Inv0 M gs w t q m ph mp own) (hfin:∀ g own,M.Fin g own→g.status=.running) (hw:mp≠.wait) {j:Nat} (hj:j < m) {g:Goroutine} (hg:gs[F.b+j]? = some g) (hd:(ph j).done=false) {c s:Nat} {tm:Bool} {v:Value} {p':Ph} {es:Array Event}
 (hch:w.heap[c]? = some (.chan 0 #[] false s s tm)) (hs:stepG F.P (F.b+j == 0) g w=.comm g #[scase c v F.zs] true .send w es) (hes:∀ e∈es,EvOwn (own (F.b+j)) F.ro e)
 (h1:p'.sent=(ph j).sent) (h2:p'.done=(ph j).done) (hp:WOk F j p' (parked g #[scase c v F.zs] .send) (own (F.b+j))) (sl:Option (Nat × Nat)) :
 runT F.P (crowd gs w sl) (F.b+j)=(.next (crowd (gs.setIfInBounds (F.b+j) (parked g #[scase c v F.zs] .send)) w sl),MemOp.ofEvents (F.b+j) g.frame.fn g.frame.place es) ∧
  Inv0 M (gs.setIfInBounds (F.b+j) (parked g #[scase c v F.zs] .send)) w (t ++ MemOp.ofEvents (F.b+j) g.frame.fn g.frame.place es) q m (upd ph j p') mp own:=by
 refine ⟨crowd_waits hg hs fun cc hcc=>?_,?_⟩
 ·simp at hcc
  subst hcc
  exact ways_send_none hch (by simp) (h.alone hfin hw _ _)
 ·have:=h.setWork (g:=g) (p':=p') (own':=own (F.b+j)) (w':=w) (es:=es) hj hg hd h1 h2 (fun e=>absurd e hw) ⟨h.core.meets _ (.inr ⟨j,hj,rfl,hd⟩),Nat.le_refl _,fun _ _ _=>rfl,⟨rfl,rfl,rfl⟩,fun _ h=>.inl h,hes⟩ hp g.frame.fn g.frame.place
  rw [upd_self] at this
  exact this
theorem main_false {F:Farm} (hb:0 < F.b) (j:Nat):(F.b+j == 0)=false:=by simp;omega
theorem Inv0.send0 (h:Inv0 M gs w t q m ph mp own) (hfin:∀ g own,M.Fin g own→g.status=.running) {j k:Nat} (hj:j < m) {g:Goroutine} (hg:gs[F.b+j]? = some g) (hp:ph j=.calc0 k) (hS:S0 F j g (own (F.b+j))) (sl:Option (Nat × Nat)) :
 ∃ gs' w' u ph' mp',runT F.P (crowd gs w sl) (F.b+j)=(.next (crowd gs' w' sl),u)∧Inv0 M gs' w' (t ++ u) q m ph' mp' own∧((mp'=mp∧ph'=upd ph j .off0)∨sumTo m (fun i=>(ph' i).meets) < sumTo m (fun i=>(ph i).meets)):=by
 obtain ⟨⟨hrun,hcomm⟩,kw,hwalk⟩:=hS
 have hd:(ph j).done=false:=by rw [hp];rfl
 have hb:=h.base
 obtain ⟨es,hs,hes⟩:=hcomm w (h.core.meets _ (.inr ⟨j,hj,rfl,hd⟩))
 rw [← main_false hb j] at hs
 obtain ⟨⟨sO,tmO,hO⟩,sD,tmD,hD⟩:=h.core.chans
 by_cases hw:mp=.wait
 ·subst hw
  obtain ⟨gm,hgm,hm,hlt,σ,g0,hσ,rfl,hM,hno⟩:=h.main
  have hr:=crowd_send_meets_sel (sl:=sl) (j:=0) (k:=0) hg hs hO (by omega) hgm (show F.cases[0]? = some (rcase F.cO F.zO) from rfl) (h.waiting hgm (by omega) (h.offersO g0))
  obtain ⟨k',hmok⟩:=got_value (g:=g0) hm hlt hσ hM hj (by rw [hp];rfl) hd kw
  rw [set_comm _ (by omega)] at hr
  exact ⟨_,_,_,upd ph j (.calc1 kw),.recv k',hr,h.meetOut (d:=w.drawn) hj hd (.inr rfl) hes hO hwalk hmok _ _ _ _ _ _,.inr (meets_upd hj (by rw [hp];show 1 < 2;decide))⟩
 ·obtain ⟨hr,hi⟩:=h.park hfin hw hj hg hd (p':=.off0) hO hs hes (by rw [hp];rfl) (by rw [hp];rfl) ⟨g,rfl,kw,hwalk⟩ sl
  exact ⟨_,_,_,_,mp,hr,hi,.inl ⟨rfl,rfl⟩⟩
theorem Inv0.send1 (h:Inv0 M gs w t q m ph mp own) (hfin:∀ g own,M.Fin g own→g.status=.running) {j k:Nat} (hj:j < m) {g:Goroutine} (hg:gs[F.b+j]? = some g) (hp:ph j=.calc1 k) (hS:S1 F g (own (F.b+j))) (sl:Option (Nat × Nat)) :
 ∃ gs' w' u ph' mp',runT F.P (crowd gs w sl) (F.b+j)=(.next (crowd gs' w' sl),u)∧Inv0 M gs' w' (t ++ u) q m ph' mp' own∧((mp'=mp∧ph'=upd ph j .off1)∨sumTo m (fun i=>(ph' i).meets) < sumTo m (fun i=>(ph i).meets)):=by
 obtain ⟨⟨hrun,hcomm⟩,kw,hq⟩:=hS
 have hd:(ph j).done=false:=by rw [hp];rfl
 have hb:=h.base
 obtain ⟨es,hs,hes⟩:=hcomm w (h.core.meets _ (.inr ⟨j,hj,rfl,hd⟩))
 rw [← main_false hb j] at hs
 obtain ⟨⟨sO,tmO,hO⟩,sD,tmD,hD⟩:=h.core.chans
 by_cases hw:mp=.wait
 ·subst hw
  obtain ⟨gm,hgm,hm,hlt,σ,g0,hσ,rfl,hM,hno⟩:=h.main
  have hr:=crowd_send_meets_sel (sl:=sl) (j:=0) (k:=1) hg hs hD (by omega) hgm (show F.cases[1]? = some (rcase F.cD F.zD) from rfl) (h.waiting hgm (by omega) (h.offersD g0))
  obtain ⟨mp',hmok⟩:=got_sign (g:=g0) hm hlt hσ hM hj (by rw [hp];rfl) hd kw
  rw [set_comm _ (by omega)] at hr
  exact ⟨_,_,_,upd ph j (.quit kw),mp',hr,h.meetSign (d:=w.drawn) hj hd (.inr rfl) hes hD hq hmok _ _ _ _ _ _,.inr (meets_upd hj (by rw [hp];show 0 < 1;decide))⟩
 ·obtain ⟨hr,hi⟩:=h.park hfin hw hj hg hd (p':=.off1) hD hs hes (by rw [hp];rfl) (by rw [hp];rfl) ⟨g,rfl,kw,hq⟩ sl
  exact ⟨_,_,_,_,mp,hr,hi,.inl ⟨rfl,rfl⟩⟩
end Go.Proofs.YtfggbepickdokaaGreatDoor.Mt
