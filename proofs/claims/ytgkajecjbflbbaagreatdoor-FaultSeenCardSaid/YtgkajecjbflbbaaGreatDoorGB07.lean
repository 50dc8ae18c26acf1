/- the fault laws -/
import Derived.Test.YtgkajecjbflbbaaGreatDoorGB06
import Derived.Conc.WgGenW
set_option maxHeartbeats 200000
set_option maxRecDepth 100000
set_option linter.all false
namespace Go.Proofs.YtgkajecjbflbbaaGreatDoor
namespace Mt
open Go Go.Conc Mob
open Go.ConcN (sumTo upd sumTo_upd upd_ne upd_same sumTo_congr)
section
variable {F:Mill} {Fin:Goroutine->Hold->Prop} {gs:Array Goroutine} {w w':World} {t:Trace} {c:Gh} {j d:Nat} {T T':Th} {s':Mob.Sh} {es:Array Event} {own':Hold} {g g':Goroutine} {σ sig:Nat->Bool}
theorem fuel_upd (b:Bool) (hj:j < c.m) (p:Ph):sumTo c.m (fun i=>(upd (fun i=>wk b (c.ph i)) j p i).fuel)+(c.ph j).fuel=sumTo c.m (fun i=>(c.ph i).fuel)+p.fuel:=by
 have e:=sumTo_upd (fun i=>wk b (c.ph i)) p (·.fuel) hj;simp only [wk_fuel] at e;exact e
theorem Inv1.ownW (h:Inv1 F Fin gs w t c) (hj:j < c.m) (hi:gs[F.b+j]? = some g) {p':Ph} (hst:stepG F.P false g w=.go g' w' es) (hpb:p'≠.blk) (hlt:p'.fuel < (c.ph j).fuel)
 (hcore:∀ (q:Nat->Nat) (M:MTh) (ph:Nat->Ph) (mp:Ph),M=c.M->Core F ⟨q,c.m,c.th,c.s,M,upd c.own (F.b+j) own',ph,mp⟩ w' (t ++ MemOp.ofEvents (F.b+j) g.frame.fn g.frame.place es))
 (hdf:(c.th j).pc≠.quit->Deaf (t ++ MemOp.ofEvents (F.b+j) g.frame.fn g.frame.place es) (F.b+j)=deaf (c.th j))
 (hw:WOk F (c.mea F) j (c.th j) (sigOf c.m c.th) (Deaf (t ++ MemOp.ofEvents (F.b+j) g.frame.fn g.frame.place es) (F.b+j)) p' g' own') (sl:Option (Nat × Nat)):Goes1 F Fin gs w t c sl (F.b+j):=by
 have hb:=h.base;have hr:=runT_crowd_go (P:=F.P) (sl:=sl) (i:=F.b+j) hi (by rw [main_false' hb j];exact hst);have hset:=h.setW (w':=w') (es:=es) (g:=g) (g':=g') (T':=c.th j) (s':=c.s) (own':=own') (p':=p') hj hi (by rw [upd_self'];exact h.auto) (by rw [upd_self'];exact Nat.le_refl _) (fun i _ _ _=>by rw [upd_self']) (h.oldc j hj) g.frame.fn g.frame.place
  (by rw [upd_self'];exact hw) (by unfold Gh.setW;rw [upd_self'];exact hcore _ _ _ _ rfl) hdf (fun _ x=>x) (fun _ x=>x) (fun e=>absurd e hpb)
 refine ⟨_,_,_,hr,.inr ⟨_,hset,.inr ⟨?_,.inl ?_⟩⟩⟩
 ·show Mob.mea F.n c.m (upd c.th j (c.th j)) c.s c.M=_;rw [upd_self'];rfl
 ·have e1:=fuel_upd (c:=c) (wakes F.P g g') hj p';simp only [m3,Gh.setW,wk_fuel];omega
theorem deaf_calmE {x:Nat} (hc:∀ e∈es,e.loc≠.mark .disable/\e.loc≠.mark .enable) (fn:FuncId) (pos:String):Deaf (t ++ MemOp.ofEvents x fn pos es) x=Deaf t x:=by
 rw [Deaf_own,deafBehind_still hc]
theorem Inv1.stepWork (h:Inv1 F Fin gs w t c) (hj:j < c.m) (hi:gs[F.b+j]? = some g) (hg:g.status=.running) (sl:Option (Nat × Nat)):Goes1 F Fin gs w t c sl (F.b+j):=by
 obtain ⟨x,hx,hw⟩:=h.work j hj;rw [hi] at hx;cases hx
 cases hp:c.ph j with
 | walk k =>
  rw [hp] at hw;obtain ⟨d,σ,hμ,hσ,hT,hw⟩:=hw;by_cases hm:mute (c.th j)=true
  ·rw [if_pos hm] at hw;have stop:AtD F (d+1) j (c.th j) σ g none_->Goes1 F Fin gs w t c sl (F.b+j):=fun hS=>h.stopW hj hi hμ hσ hT (by rw [if_pos hm]) hS hp rfl sl
   cases k with
   | zero=>exact stop hw
   | succ k =>
    rcases hw with hS | ⟨_,hw⟩
    ·exact stop hS
    ·obtain ⟨g',hst,hk⟩:=hw w ⟨_,h.core.sh⟩;refine h.ownW (es:=#[]) (own':=c.own (F.b+j)) (p':=.walk k) hj hi hst (by simp) (by rw [hp];exact Nat.lt_succ_self k) (fun q M ph mp hM=>?_) (fun _=>?_) ⟨d,σ,hμ,hσ,hT,by rw [if_pos hm];exact hk⟩ sl
     ·rw [upd_self'];exact h.core.mutes (by simp) _ _
     ·rw [ofEvents_none,Array.append_empty];exact h.deafW j hj hT
  ·rw [if_neg hm] at hw;have hact:ActM F c.m c.th (F.b+j):=.inr ⟨j,hj,rfl,by simpa using hm⟩;have stop:AtD F (d+1) j (c.th j) σ g (c.own (F.b+j))->Goes1 F Fin gs w t c sl (F.b+j):=fun hS=>h.stopW hj hi hμ hσ hT (by rw [if_neg hm]) hS hp rfl sl
   cases k with
   | zero=>exact stop hw
   | succ k =>
    rcases hw with hS | ⟨_,hw⟩
    ·exact stop hS
    ·obtain ⟨g',w',es,own',hst,ht,_,hk⟩:=hw w (h.core.meets _ hact) ⟨_,h.core.sh⟩;refine h.ownW (es:=es) (own':=own') (p':=.walk k) hj hi hst (by simp) (by rw [hp];exact Nat.lt_succ_self k) (fun q M ph mp hM=>h.core.turn hact ht _ _) (fun _=>?_) ⟨d,σ,hμ,hσ,hT,by rw [if_neg hm];exact hk⟩ sl;rw [deaf_calmE fun e he=>(ht.evs e he).calm];exact h.deafW j hj hT
 | blk =>
  rw [hp] at hw;obtain ⟨d,σ,g0,_,_,rfl,_⟩:=hw;cases hg
 | quit q =>
  rw [hp] at hw;obtain ⟨hT,hq⟩:=hw
  cases q with
  | zero=>rw [hq.1] at hg;cases hg
  | succ k =>
   rcases hq with ⟨hf,_⟩ | ⟨_,g',es,hm,hstp,hq'⟩
   ·rw [hf] at hg;cases hg
   refine h.ownW (es:=es) (own':=c.own (F.b+j)) (p':=.quit k) hj hi (hstp w) (by simp) (by rw [hp];exact Nat.lt_succ_self k) (fun q M ph mp hM=>?_) (fun e=>absurd hT e) ⟨hT,?_⟩ sl
   ·rw [upd_self'];exact h.core.mutes hm _ _
   ·rw [Deaf_own];exact hq'
theorem Inv1.slipOld (h:Inv1 F Fin gs w t c) {i:Nat} (hi0:0 < i) (hib:i < F.b) (hi:gs[i]? = some g) (hg:g.status=.running) (sl:Option (Nat × Nat)):Goes1 F Fin gs w t c sl i:=by
 have hq:=h.old i g hi0 hib hi;have hb0:(i == 0)=false:=by simp;omega
 cases hqi:c.q i with
 | zero=>rw [hqi] at hq;rw [hq.1] at hg;cases hg
 | succ k =>
  rw [hqi] at hq;rcases hq with ⟨hf,_⟩ | ⟨_,g',es,hm,hstp,hq'⟩
  ·rw [hf] at hg;cases hg
  have hr:=runT_crowd_go (P:=F.P) (sl:=sl) (i:=i) hi (by rw [hb0];exact hstp w);refine ⟨_,_,_,hr,.inr ⟨_,h.setQ (k:=k) hi0 hib hi hm g.frame.fn g.frame.place (by rw [Deaf_own];exact hq'),.inr ⟨rfl,.inl ?_⟩⟩⟩;have:=sumTo_upd c.q k id hib;simp only [id,hqi] at this;have e:sumTo F.b (upd c.q i k)=sumTo F.b (fun a=>upd c.q i k a):=rfl;have e2:sumTo F.b c.q=sumTo F.b (fun a=>c.q a):=rfl;simp only [m3,Gh.setQ,wk_fuel];omega
end
theorem mvM_nil {M:MTh} {s:Mob.Sh} (h:mvM M s=[]):M.pc=.go\/M.pc=.fin\/(M.pc=.w3/\s.ws=0):=by
 obtain ⟨pc,vo⟩:=M;cases pc <;> simp only [mvM] at h <;> (try (repeat' split at h)) <;> simp_all
theorem mvM_fin {M M':MTh} {s s':Mob.Sh} (hm:(M',s')∈mvM M s) (h:M.pc≠.aq):M'.pc≠.fin:=by
 obtain ⟨pc,vo⟩:=M;cases pc <;> simp only [mvM] at hm
 case aq=>exact absurd rfl h
 all_goals (repeat' split at hm)
 all_goals simp only [List.mem_singleton,List.not_mem_nil,Prod.mk.injEq] at hm
 all_goals first
  | exact hm.elim
  | (obtain ⟨rfl,rfl⟩:=hm;simp [mat];done)
  | (obtain ⟨rfl,rfl⟩:=hm;split <;> simp [mat])
section
variable {F:Mill} {Fin:Goroutine->Hold->Prop} {gs:Array Goroutine} {w w':World} {t:Trace} {c:Gh} {j d:Nat} {M':MTh} {s':Mob.Sh} {es:Array Event} {own':Hold} {g g':Goroutine}
theorem all_quit {n m:Nat} {th:Nat->Th} {s:Mob.Sh} {M:MTh} (h:InvW n m th s M) (hM:M.pc=.aq):m=n/\∀ i,i < m->(th i).pc=.quit:=by
 unfold InvW at h;rw [hM] at h;obtain ⟨h1,_,h2,_,_,h3,h4⟩:=h;refine ⟨h1,fun i hi=>?_⟩;have a1:=cnt_zero h2 hi;have a2:=cnt_zero h3 hi;have a3:=cnt_zero h4 hi;generalize th i=T at *;obtain ⟨pc,old,aw,sv,it,ws⟩:=T;cases pc <;> simp_all [fP,fD,fE]
theorem Inv1.ownM (h:Inv1 F Fin gs w t c) (hi:gs[0]? = some g) {p':Ph} (hst:stepG F.P true g w=.go g' w' es) (hpb:p'≠.blk) (hlt:p'.fuel < c.mp.fuel) (ht:Turn F.ro (c.own 0) own' w w' es)
 (hw:MOk F Fin (c.mea F) c.m c.M p' g' own') (sl:Option (Nat × Nat)):Goes1 F Fin gs w t c sl 0:=by
 have hr:=runT_crowd_go (P:=F.P) (sl:=sl) (i:=0) hi (show stepG F.P (0 == 0) g w=_ from hst);have hset:=h.setM (w':=w') (es:=es) (g:=g) (g':=g') (s':=c.s) (M':=c.M) (own':=own') (p':=p') hi h.auto (Nat.le_refl _) h.mvo g.frame.fn g.frame.place hw (h.core.turn (.inl rfl) ht _ _)
  (by rw [deaf_calmE fun e he=>(ht.evs e he).calm];exact h.deaf0) (fun _ x=>x) (fun e=>absurd e hpb)
 refine ⟨_,_,_,hr,.inr ⟨_,hset,.inr ⟨rfl,.inl ?_⟩⟩⟩;simp only [m3,Gh.setM,wk_fuel];omega
theorem Inv1.stopM (h:Inv1 F Fin gs w t c) (hi:gs[0]? = some g) (hμ:c.mea F<=d) (hM:c.M.pc≠.fin) (hgo:c.M.pc≠.go) (hS:AtM F Fin (d+1) c.m c.M g (c.own 0)) {k:Nat} (hp:c.mp=.walk k) (sl:Option (Nat × Nat)):Goes1 F Fin gs w t c sl 0:=by
 have hb:=h.base;have hS:StpM F Fin (AtM F Fin d) d c.m c.M g (c.own 0):=hS;have hmeets:=h.core.meets 0 (.inl rfl);have hfit:=h.auto.fitM h.mvo;by_cases hmv:mvM c.M c.s=[]
 ·
  have hst:=hS.blk hgo w c.s hmeets h.core.sh hfit hmv;obtain ⟨hs1,hws0⟩:=((mvM_nil hmv).resolve_left hgo).resolve_left hM;have hr:=runT_crowd_go (P:=F.P) (sl:=sl) (i:=0) hi (show stepG F.P (0 == 0) g w=_ from hst);have hwk:wakes F.P g (stop g)=false:=by unfold wakes stop;simp
  have hset:=h.setM (w':=w) (es:=#[]) (g:=g) (g':=stop g) (s':=c.s) (M':=c.M) (own':=c.own 0) (p':=.blk) hi h.auto (Nat.le_refl _) h.mvo g.frame.fn g.frame.place ⟨d,g,hμ,hs1,rfl,hS⟩ (by
   unfold Gh.setM;rw [upd_self'];exact h.core.mutes (by simp) _ _) (by rw [ofEvents_none,Array.append_empty];exact h.deaf0) (fun _ x=>x) (fun _=>hws0)
  refine ⟨_,_,_,hr,.inr ⟨_,hset,.inr ⟨rfl,?_⟩⟩⟩;have hwk':∀ x,wk (wakes F.P g (stop g)) x=x:=fun x=>by rw [hwk];cases x <;> rfl
  simp only [m3,Gh.setM,hwk',hp,Ph.fuel,Ph.tries];omega
 ·obtain ⟨⟨M',s'⟩,hm,g',w',es,hst,hsh,hef,hev,haf⟩:=hS.go hgo w c.s hmeets h.core.sh hfit hmv;simp only at hsh hev haf;have hmlt:=main_mea h.auto hm;have hd1:∃ d',d=d'+1/\Mob.mea F.n c.m c.th s' M'<=d':=⟨d - 1,by have:Mob.mea F.n c.m c.th s' M' < c.mea F:=hmlt;omega,by have:Mob.mea F.n c.m c.th s' M' < c.mea F:=hmlt;omega⟩;obtain ⟨d',rfl,hd'⟩:=hd1;have hr:=runT_crowd_go (P:=F.P) (sl:=sl) (i:=0) hi (show stepG F.P (0 == 0) g w=_ from hst);have hauto:=h.auto.main hm;by_cases haq:c.M.pc=.aq
  ·
   have hm2:=hm;unfold mvM at hm2;rw [haq] at hm2;simp only [List.mem_singleton,Prod.mk.injEq] at hm2;obtain ⟨rfl,rfl⟩:=hm2;obtain ⟨hmn,hq⟩:=all_quit h.auto.group haq;have hfree:freeOf c.m c.th:=fun i hi=>by simp [holds,hq i hi]
   obtain ⟨⟨o,ho,hk⟩,hnC⟩:=h.core.cont hfree;have hsg:sigOf c.m c.th=fun j=>decide (j < F.n):=by
    funext i;unfold sigOf;by_cases hi:i < c.m
    ·simp [hi,past,hq i hi,<- hmn]
    ·simp [hi,<- hmn]
   rw [hsg] at hk;have hA:∀ x,ActM F c.m c.th x->x=0:=fun x hx=>by
    rcases hx with e | ⟨i,h1,_,h3⟩
    ·exact e
    ·simp [mute,hq i h1] at h3
   have hev':es=#[⟨.mark (.acquire (at0 F.Wg)),false,true⟩]:=by simpa only [EvStopM,haq] using hev
   subst hev';have haf':Fin g' ((c.own 0).set F.C o):=by
    simp only [ContM,haq] at haf;exact haf o ho hk
   have hd0:Deaf t 0=0:=by rw [h.deaf0];simp [deafM,haq]
   obtain ⟨htr,hkn⟩:=h.core.trace.join h.core.apt h.core.dead hA (.inl rfl) (z:={ g:=0,fn:=g.frame.fn,pos:=g.frame.place,act:=.mark (.acquire (at0 F.Wg)) }) rfl rfl hd0 h.core.lt.2;have hpast:=past_of_known htr.clean hkn (by rw [Deaf_push];unfold deafStep;simp [hd0]) htr.seen;have hC:w'.heap[F.C]? = w.heap[F.C]? := hef.block _ h.core.two.1 h.core.two.2.1;have hlt:0 < gs.size:=(Array.getElem?_eq_some_iff.1 hi).1;refine ⟨_,_,_,hr,.inl ⟨⟨g',_,by rw [Array.getElem?_setIfInBounds_self_of_lt (by simpa using hlt)],haf',?_⟩,⟨fun i=>if i < F.b then c.q i else (c.ph (i - F.b)).fuel,fun i x hi0 hx=>?_,fun i hi'=>?_⟩,?_,⟨hef.tape.trans h.core.rest.1,hef.output.trans h.core.rest.2.1,by rw [hef.size];exact h.core.rest.2.2.1⟩,fun r o hr=>(hef.block r (h.core.kept.2 r ⟨o,hr⟩).1 (h.core.kept.2 r ⟨o,hr⟩).2.1).trans (h.core.kept.1 r o hr),⟨_,hsh⟩⟩⟩
   ·have base:=hmeets.eff hef (h.core.ownS 0 (.inl rfl)) ⟨h.core.roS.1,h.core.roS.2.1⟩;refine ⟨fun r o' hr=>?_,base.shared,fun r o' hr=>?_⟩
    ·by_cases er:r=F.C
     ·subst er;rw [Hold.set_same] at hr;cases hr;exact hC.trans ho
     ·rw [Hold.set_ne _ _ er] at hr;exact base.mine r o' hr
    ·by_cases er:r=F.C
     ·subst er;exact h.core.roS.2.2
     ·rw [Hold.set_ne _ _ er] at hr;exact base.apart r o' hr
   ·rw [get_map (by omega)] at hx;obtain ⟨y,hy,rfl⟩:=Option.map_eq_some_iff.1 hx;rw [deaf_else _ _ (by omega)];rcases h.who hy with h0 | ⟨_,hib,hq'⟩ | ⟨i',hi',rfl,hw⟩
    ·omega
    ·rw [woken_quitsD hq'];simp only [hib,if_true];exact hq'
    ·have hpc:=hq i' hi';simp only [show ¬ (F.b+i' < F.b) by omega,if_false,Nat.add_sub_cancel_left]
     cases hpi:c.ph i' with
     | walk k=>rw [hpi] at hw;obtain ⟨_,_,_,_,hne,_⟩:=hw;exact absurd hpc hne
     | blk=>rw [hpi] at hw;obtain ⟨_,_,_,_,hs1,_⟩:=hw;rw [hpc] at hs1;cases hs1
     | quit q =>
      rw [hpi] at hw;rw [woken_quitsD hw.2];exact hw.2
   ·have:F.b+c.m<=i:=by rw [<- h.size];simpa using hi'
    rw [deaf_else _ _ (by omega)];exact h.above i this
   ·rw [mark_ofEvents,hef.size];exact hpast
  ·have hev':(∀ e∈es,Bk F.Mu F.Wg true e)/\deafBehind (deafM c.M) es=deafM M':=by
    unfold EvStopM at hev;split at hev <;> first | contradiction | exact hev
   have haf':∃ k,Walk F.P true F.ro F.E (AtM F Fin (d'+1) c.m M') k g' (c.own 0):=by
    unfold ContM at haf;split at haf <;> first | contradiction | exact haf
   obtain ⟨k',hk'⟩:=haf';have hset:=h.setM (w':=w') (es:=es) (g:=g) (g':=g') (s':=s') (M':=M') (own':=c.own 0) (p':=.walk k') hi hauto (Nat.le_of_lt hmlt) (main_vo hm h.mvo hfit.v) g.frame.fn g.frame.place ⟨d',hd',mvM_fin hm haq,hk'⟩ (by
    unfold Gh.setM;rw [upd_self']
    exact h.core.book hb (.inl rfl) (fun i _=>⟨rfl,rfl,rfl⟩) hev'.1 (fun hna=>absurd (.inl rfl) hna) hsh hef _ _) (by rw [Deaf_own,h.deaf0];exact hev'.2) (fun _ x=>by rw [(step_main h.auto.group hm).2.2];exact x) (fun e=>by cases e)
   exact ⟨_,_,_,hr,.inr ⟨_,hset,.inl hmlt⟩⟩
end
section
variable {F:Mill} {Fin:Goroutine->Hold->Prop} {gs:Array Goroutine} {w w':World} {t:Trace} {c:Gh} {j d:Nat} {es:Array Event} {own' H:Hold} {g g' child:Goroutine}
def Gh.born (c:Gh) (b n:Nat) (own' H:Hold) (kw km:Nat):Gh :=
 ⟨c.q,c.m+1,upd c.th c.m (at_ .ld),c.s,behindGo n c.m,upd (upd c.own 0 own') (b+c.m) H,upd c.ph c.m (.walk kw),.walk km⟩
theorem born_act (h:∀ i,i < c.m->True) (hb:0 < F.b) (g:Nat):ActM F (c.m+1) (upd c.th c.m (at_ .ld)) g↔(ActM F c.m c.th g\/g=F.b+c.m):=by
 constructor
 ·rintro (e | ⟨i,h1,h2,h3⟩)
  ·exact .inl (.inl e)
  ·by_cases e:i=c.m
   ·exact .inr (by omega)
   ·rw [upd_ne _ _ e] at h3;exact .inl (.inr ⟨i,by omega,h2,h3⟩)
 ·rintro ((e | ⟨i,h1,h2,h3⟩) | rfl)
  ·exact .inl e
  ·exact .inr ⟨i,by omega,h2,by rw [upd_ne _ _ (by omega)];exact h3⟩
  ·exact .inr ⟨c.m,by omega,rfl,by rw [upd_same];rfl⟩
theorem born_st (g:Nat):StM F (c.m+1) g↔(StM F c.m g\/g=F.b+c.m):=by
 constructor
 ·rintro (e | ⟨i,h1,h2⟩)
  ·exact .inl (.inl e)
  ·by_cases e:i=c.m
   ·exact .inr (by omega)
   ·exact .inl (.inr ⟨i,by omega,h2⟩)
 ·rintro ((e | ⟨i,h1,h2⟩) | rfl)
  ·exact .inl e
  ·exact .inr ⟨i,by omega,h2⟩
  ·exact .inr ⟨c.m,by omega,rfl⟩
theorem Inv1.spawn (h:Inv1 F Fin gs w t c) (hi:gs[0]? = some g) (hμ:c.mea F<=d) (hgo:c.M.pc=.go) (hS:AtM F Fin (d+1) c.m c.M g (c.own 0)) (sl:Option (Nat × Nat)):Goes1 F Fin gs w t c sl 0:=by
 have hb:=h.base;have hs:=h.size;have hS:StpM F Fin (AtM F Fin d) d c.m c.M g (c.own 0):=hS;have m0:=h.core.meets 0 (.inl rfl);have hlt:c.m < F.n:=by have:=h.auto.group;unfold InvW at this;rw [hgo] at this;exact this.1
 obtain ⟨g',child,es,own',H,hst,hes,h1,h2,h3,⟨kw,hkw⟩,km,hkm⟩:=hS.spawn hgo hlt w c.s m0 h.core.sh;have hmlt:Mob.mea F.n (c.m+1) (upd c.th c.m (at_ .ld)) c.s (behindGo F.n c.m) < c.mea F:=spawn_mea h.auto hgo;obtain ⟨d',rfl,hd'⟩:∃ d',d=d'+1/\Mob.mea F.n (c.m+1) (upd c.th c.m (at_ .ld)) c.s (behindGo F.n c.m)<=d':=⟨d - 1,by omega,by omega⟩;have hr:=runT_crowd_spawn (P:=F.P) (sl:=sl) (i:=0) hi (show stepG F.P (0 == 0) g w=_ from hst);rw [hs] at hr;have hnew:¬ StM F c.m (F.b+c.m):=by
  rintro (h0 | ⟨i,hi,e⟩) <;> omega
 have hdg:Deaf t 0=0:=by rw [h.deaf0];simp [deafM,hgo]
 have c1:=h.core.turn (.inl rfl) (own':=c.own 0) (w':=w) (es:=es) ⟨m0,Nat.le_refl _,fun _ _ _=>rfl,⟨rfl,rfl,rfl⟩,fun _ h=>.inl h,hes⟩ g.frame.fn g.frame.place (q:=c.q) (M:=c.M) (ph:=c.ph) (mp:=c.mp);rw [upd_self'] at c1;have hd0:Deaf (t ++ MemOp.ofEvents 0 g.frame.fn g.frame.place es) 0=0:=(deaf_calmE (fun e he=>(hes e he).calm) _ _).trans hdg;have hdn:Deaf (t ++ MemOp.ofEvents 0 g.frame.fn g.frame.place es) (F.b+c.m)=0:=(deaf_else _ _ (by omega)).trans (h.above _ (Nat.le_refl _));have to0:∀ r,keyOf H r->keyOf (c.own 0) r:=fun r ⟨o,ho⟩=>⟨o,h2 r o ho⟩;have to0':∀ r,keyOf own' r->keyOf (c.own 0) r:=fun r ⟨o,ho⟩=>⟨o,h1 r o ho⟩;have hf:=c1.trace.fork c1.apt (.inl rfl) hnew hd0 hdn (H:=H) (K:=own') to0 to0' g.frame.fn child.frame.fn g.frame.place g.frame.place;have hu:((MemOp.ofEvents 0 g.frame.fn g.frame.place es).push { g:=0,fn:=g.frame.fn,pos:=g.frame.place,act:=.go (F.b+c.m) }).push { g:=F.b+c.m,fn:=child.frame.fn,pos:=g.frame.place,act:=.start } =
  MemOp.ofEvents 0 g.frame.fn g.frame.place es ++ forkOps (F.b+c.m) g.frame.fn child.frame.fn g.frame.place g.frame.place:=by
  apply Array.ext';simp [forkOps]
 have hdeaf:∀ x,Deaf (t ++ MemOp.ofEvents 0 g.frame.fn g.frame.place es ++ forkOps (F.b+c.m) g.frame.fn child.frame.fn g.frame.place g.frame.place) x=Deaf (t ++ MemOp.ofEvents 0 g.frame.fn g.frame.place es) x:=fun x=>by
  have e:forkOps (F.b+c.m) g.frame.fn child.frame.fn g.frame.place g.frame.place=#[{ g:=0,fn:=g.frame.fn,pos:=g.frame.place,act:=.go (F.b+c.m) }] ++ #[{ g:=F.b+c.m,fn:=child.frame.fn,pos:=g.frame.place,act:=.start }]:=rfl;rw [e,<- Array.append_assoc,Deaf_push,Deaf_push];rfl
 have hact:=born_act (F:=F) (c:=c) (fun _ _=>trivial) hb;have hact2:ActM F (c.m+1) (upd c.th c.m (at_ .ld))=fun x=>ActM F c.m c.th x\/x=F.b+c.m:=funext fun x=>propext (hact x);have hst2:StM F (c.m+1)=fun x=>StM F c.m x\/x=F.b+c.m:=funext fun x=>propext (born_st x);have hfo:freeOf (c.m+1) (upd c.th c.m (at_ .ld))↔freeOf c.m c.th:=by
  constructor
  ·intro x i hi;have:=x i (by omega);rw [upd_ne _ _ (by omega)] at this;exact this
  ·intro x i hi;by_cases e:i=c.m
   ·subst e;rw [upd_same];rfl
   ·rw [upd_ne _ _ e];exact x i (by omega)
 have hfb:freeB (c.m+1) (upd c.th c.m (at_ .ld))=freeB c.m c.th:=by
  cases e1:freeB c.m c.th with
  | true=>exact free_iff.2 (hfo.2 (free_iff.1 e1))
  | false =>
   cases e2:freeB (c.m+1) (upd c.th c.m (at_ .ld)) with
   | false=>rfl
   | true=>rw [free_iff.2 (hfo.1 (free_iff.1 e2))] at e1;cases e1
 have hsg:sigOf (c.m+1) (upd c.th c.m (at_ .ld))=sigOf c.m c.th:=by
  funext i;unfold sigOf;by_cases e:i=c.m
  ·subst e;rw [upd_same];simp [past,at_]
  ·rw [upd_ne _ _ e];by_cases hl:i < c.m
   ·simp [hl,Nat.lt_succ_of_lt hl]
   ·simp [hl,show ¬ i < c.m+1 by omega]
 have own_of:∀ x r,(ActM F c.m c.th x\/x=F.b+c.m)->keyOf (upd (upd c.own 0 own') (F.b+c.m) H x) r->(x=F.b+c.m/\keyOf H r)\/(x=0/\keyOf own' r)\/(x≠0/\x≠F.b+c.m/\ActM F c.m c.th x/\keyOf (c.own x) r):=fun x r hg hk=>by
  by_cases e:x=F.b+c.m
  ·subst e;rw [upd_same] at hk;exact .inl ⟨rfl,hk⟩
  ·rw [upd_ne _ _ e] at hk;by_cases e0:x=0
   ·subst e0;rw [upd_same] at hk;exact .inr (.inl ⟨rfl,hk⟩)
   ·rw [upd_ne _ _ e0] at hk;exact .inr (.inr ⟨e0,e,hg.resolve_right e,hk⟩)
 have sub:∀ x,(ActM F c.m c.th x\/x=F.b+c.m)->(∃ y,ActM F c.m c.th y/\∀ r o,upd (upd c.own 0 own') (F.b+c.m) H x r=some o->c.own y r=some o):=fun x hx=>by
  by_cases e:x=F.b+c.m
  ·subst e;exact ⟨0,.inl rfl,fun r o hr=>by rw [upd_same] at hr;exact h2 r o hr⟩
  ·by_cases e0:x=0
   ·subst e0;exact ⟨0,.inl rfl,fun r o hr=>by rw [upd_ne _ _ e,upd_same] at hr;exact h1 r o hr⟩
   ·exact ⟨x,hx.resolve_right e,fun r o hr=>by rw [upd_ne _ _ e,upd_ne _ _ e0] at hr;exact hr⟩
 have hcore:Core F (c.born F.b F.n own' H kw km) w (t ++ MemOp.ofEvents 0 g.frame.fn g.frame.place es ++ forkOps (F.b+c.m) g.frame.fn child.frame.fn g.frame.place g.frame.place):=by
  refine ⟨?_,fun a b r ha hc hka hkc=>?_,fun x hx=>?_,fun x hx=>?_,h.core.roS,h.core.two,h.core.dead,h.core.sh,fun hf=>?_,h.core.rest,by simp only [Array.size_append];have:=h.core.t0;omega,h.core.kept.1,fun r hr=>⟨(h.core.kept.2 r hr).1,(h.core.kept.2 r hr).2.1,(h.core.kept.2 r hr).2.2.1,fun x hx=>?_⟩⟩
  ·show MT F.Mu F.Wg F.C F.D F.T0 _ w.heap.size (StM F (c.m+1)) (ActM F (c.m+1) (upd c.th c.m (at_ .ld))) _ F.ro (freeB (c.m+1) (upd c.th c.m (at_ .ld)));rw [hact2,hst2,hfb];exact hf
  ·have ha:=(hact a).1 ha;have hc:=(hact b).1 hc;rcases own_of a r ha hka with ⟨rfl,ka⟩ | ⟨rfl,ka⟩ | ⟨na0,nan,aa,ka⟩ <;> rcases own_of b r hc hkc with ⟨rfl,kc⟩ | ⟨rfl,kc⟩ | ⟨nc0,ncn,ac,kc⟩
   ·rfl
   ·exact absurd ka (h3 r kc)
   ·exact absurd (h.core.sep 0 b r (.inl rfl) ac (to0 r ka) kc).symm nc0
   ·exact absurd kc (h3 r ka)
   ·rfl
   ·exact absurd (h.core.sep 0 b r (.inl rfl) ac (to0' r ka) kc).symm nc0
   ·exact absurd (h.core.sep a 0 r aa (.inl rfl) ka (to0 r kc)) na0
   ·exact absurd (h.core.sep a 0 r aa (.inl rfl) ka (to0' r kc)) na0
   ·exact h.core.sep a b r aa ac ka kc
  ·obtain ⟨y,hy,hs⟩:=sub x ((hact x).1 hx);exact ⟨fun r o hr=>(h.core.meets y hy).mine r o (hs r o hr),(h.core.meets y hy).shared,fun r o hr=>(h.core.meets y hy).apart r o (hs r o hr)⟩
  ·obtain ⟨y,hy,hs⟩:=sub x ((hact x).1 hx);have hy2:=h.core.ownS y hy;exact ⟨key_none fun ⟨o,ho⟩=>not_key hy2.1 ⟨o,hs _ o ho⟩,key_none fun ⟨o,ho⟩=>not_key hy2.2 ⟨o,hs _ o ho⟩⟩
  ·obtain ⟨⟨o,ho,hk⟩,hn⟩:=h.core.cont (hfo.1 hf);refine ⟨⟨o,ho,by show F.KI (sigOf (c.m+1) (upd c.th c.m (at_ .ld))) o;rw [hsg];exact hk⟩,fun x hx=>?_⟩;obtain ⟨y,hy,hs⟩:=sub x ((hact x).1 hx);exact key_none fun ⟨o,ho⟩=>not_key (hn y hy) ⟨o,hs _ o ho⟩
  ·obtain ⟨y,hy,hs⟩:=sub x ((hact x).1 hx);exact key_none fun ⟨o,ho⟩=>not_key ((h.core.kept.2 r hr).2.2.2 y hy) ⟨o,hs _ o ho⟩
 have hget:∀ i,i≠0->i≠F.b+c.m->((gs.setIfInBounds 0 g').push child)[i]? = gs[i]? := fun i h0 hi=>by
  rw [Array.getElem?_push];rw [if_neg (by simp;omega),Array.getElem?_setIfInBounds_ne (Ne.symm h0)]
 have hdo:∀ x,x≠0->Deaf (t ++ MemOp.ofEvents 0 g.frame.fn g.frame.place es ++ forkOps (F.b+c.m) g.frame.fn child.frame.fn g.frame.place g.frame.place) x=Deaf t x:=fun x hx=>(hdeaf x).trans (deaf_else _ _ hx);refine ⟨_,_,_,hr,.inr ⟨c.born F.b F.n own' H kw km,?_,.inl hmlt⟩⟩;rw [hu,<- Array.append_assoc];refine ⟨by simp [hs,Gh.born];omega,hb,fun i x hi0 hib hx=>?_,h.auto.spawn hgo,fun i hi'=>?_,?_,fun i hi'=>?_,⟨g',by rw [Array.getElem?_push,if_neg (by simp;omega),Array.getElem?_setIfInBounds_self_of_lt (by omega)],?_⟩,hcore,fun i hi' hq=>?_,?_,fun i hi'=>?_,fun i hi' hq=>?_,fun hq=>by cases hq⟩
 ·rw [hget i (by omega) (by omega)] at hx;rw [hdo i (by omega)];exact h.old i x hi0 hib hx
 ·have hi':i < c.m+1:=hi';show (upd c.th c.m (at_ .ld) i).old.c<=_;by_cases e:i=c.m
  ·subst e;rw [upd_same];exact Nat.zero_le _
  ·rw [upd_ne _ _ e];exact h.oldc i (by omega)
 ·show (behindGo F.n c.m).vo<=_;exact Nat.zero_le _
 ·have hi':i < c.m+1:=hi';by_cases e:i=c.m
  ·subst e;refine ⟨child,by rw [Array.getElem?_push,if_pos (by simp [hs])],?_⟩;simp only [Gh.born,upd_same];exact ⟨d',_,hd',(fun e=>by cases e),by simp [at_],by rw [if_neg (by simp [mute,at_])];exact hkw⟩
  ·obtain ⟨y,hy,hwy⟩:=h.work i (by omega);refine ⟨y,by rw [hget _ (by omega) (by omega)];exact hy,?_⟩;simp only [Gh.born,upd_ne _ _ e,upd_ne _ _ (show F.b+i≠F.b+c.m by omega),upd_ne _ _ (show F.b+i≠0 by omega)];exact hwy.low (Nat.le_of_lt hmlt) (fun _=>hsg) (hdo _ (by omega))
 ·simp only [Gh.born,upd_ne _ _ (show 0≠F.b+c.m by omega),upd_same];refine ⟨d',hd',?_,hkm⟩;unfold behindGo;split <;> simp [mat]
 ·have hi':i < c.m+1:=hi';rw [hdo _ (by omega)];by_cases e:i=c.m
  ·subst e;simp only [Gh.born,upd_same];rw [h.above _ (Nat.le_refl _)];rfl
  ·simp only [Gh.born,upd_ne _ _ e] at hq ⊢;exact h.deafW i (by omega) hq
 ·rw [hdeaf,hd0];show 0=deafM (behindGo F.n c.m);unfold behindGo;split <;> rfl
 ·have hi':F.b+(c.m+1)<=i:=hi';rw [hdo i (by omega)];exact h.above i (by omega)
 ·have hi':i < c.m+1:=hi';by_cases e:i=c.m
  ·subst e;simp only [Gh.born,upd_same] at hq;cases hq
  ·simp only [Gh.born,upd_ne _ _ e] at hq;exact h.blkW i (by omega) hq
theorem Inv1.stepMain (h:Inv1 F Fin gs w t c) (hi:gs[0]? = some g) (hg:g.status=.running) (sl:Option (Nat × Nat)):Goes1 F Fin gs w t c sl 0:=by
 obtain ⟨x,hx,hw⟩:=h.main;rw [hi] at hx;cases hx
 cases hp:c.mp with
 | walk k =>
  rw [hp] at hw;obtain ⟨d,hμ,hM,hw⟩:=hw;have stop:AtM F Fin (d+1) c.m c.M g (c.own 0)->Goes1 F Fin gs w t c sl 0:=fun hS=>by
   by_cases hgo:c.M.pc=.go
   ·exact h.spawn hi hμ hgo hS sl
   ·exact h.stopM hi hμ hM hgo hS hp sl
  cases k with
  | zero=>exact stop hw
  | succ k =>
   rcases hw with hS | ⟨_,hw⟩
   ·exact stop hS
   ·obtain ⟨g',w',es,own',hst,ht,_,hk⟩:=hw w (h.core.meets _ (.inl rfl)) ⟨_,h.core.sh⟩;exact h.ownM (p':=.walk k) hi hst (by simp) (by rw [hp];exact Nat.lt_succ_self k) ht ⟨d,hμ,hM,hk⟩ sl
 | blk=>rw [hp] at hw;obtain ⟨d,g0,_,_,rfl,_⟩:=hw;cases hg
 | quit q=>rw [hp] at hw;exact hw.elim
theorem Inv1.somebody (h:Inv1 F Fin gs w t c):∃ (i:Nat) (g:Goroutine),gs[i]? = some g/\g.status=.running:=by
 refine Classical.byContradiction fun hno=>?_;have no:∀ (i:Nat) (g:Goroutine),gs[i]? = some g->g.status≠.running:=fun i g hg hr=>hno ⟨i,g,hg,hr⟩;obtain ⟨g,hg,hm⟩:=h.main;have hM:c.M.pc=.w3/\c.s.ws=0:=by
  cases hp:c.mp with
  | walk k=>rw [hp] at hm;obtain ⟨d,_,_,hm⟩:=hm;exact absurd (walk_running (fun g o x=>x.run) hm) (no 0 g hg)
  | blk=>rw [hp] at hm;obtain ⟨d,g0,_,h1,_⟩:=hm;exact ⟨h1,h.blkM hp⟩
  | quit q=>rw [hp] at hm;exact hm.elim
 refine absurd hM.2 (h.auto.alive (fun i hi=>?_) hM.1);obtain ⟨x,hx,hw⟩:=h.work i hi
 cases hp:c.ph i with
 | walk k =>
  rw [hp] at hw;obtain ⟨d,σ,_,_,_,hw⟩:=hw;by_cases hmt:mute (c.th i)=true
  ·rw [if_pos hmt] at hw;exact absurd (swalk_running (fun g x=>x.run) hw) (no _ x hx)
  ·rw [if_neg hmt] at hw;exact absurd (walk_running (fun g o x=>x.run) hw) (no _ x hx)
 | blk=>rw [hp] at hw;obtain ⟨d,σ,g0,_,h1,_⟩:=hw;exact .inr ⟨h1,h.blkW i hi hp⟩
 | quit q=>rw [hp] at hw;exact .inl hw.1
theorem Inv1.at (h:Inv1 F Fin gs w t c) (d:Nat):Inv1 F Fin gs (w.at d) t c:=⟨h.size,h.base,h.old,h.auto,h.oldc,h.mvo,h.work,h.main,h.core.at d,h.deafW,h.deaf0,h.above,h.blkW,h.blkM⟩
theorem Inv1.step (h:Inv1 F Fin gs w t c) (sl:Option (Nat × Nat)):∃ gs' w' sl' u,stepT F.P (crowd gs w sl)=(.next (crowd gs' w' sl'),u)/\(Over F Fin gs' w' (t ++ u)\/∃ c',Inv1 F Fin gs' w' (t ++ u) c'/\Less3 (m3 F c') (m3 F c)):=by
 obtain ⟨i,g,d,sl',hi,hg,hst⟩:=crowd_pick (P:=F.P) (w:=w) (sl:=sl) (fun x hx=>by
  obtain ⟨i,hi,rfl⟩:=Array.mem_iff_getElem.1 hx
  exact seen_awake (h.all i _ (Array.getElem?_eq_getElem hi))) h.somebody
 have hd:=h.at d;have key:Goes1 F Fin gs (w.at d) t c sl' i:=by
  rcases h.who hi with rfl | ⟨h0,hb,_⟩ | ⟨j,hj,rfl,_⟩
  ·exact hd.stepMain hi hg sl'
  ·exact hd.slipOld h0 hb hi hg sl'
  ·exact hd.stepWork hj hi hg sl'
 obtain ⟨gs',w',u,a,b⟩:=key;exact ⟨gs',w',sl',u,hst.trans a,b⟩
theorem less3_wf:WellFounded Less3:=by
 have h:Less3=(fun a b=>Prod.Lex (· < ·) (Prod.Lex (· < ·) (· < ·)) a b):=by
  funext a b;obtain ⟨a1,a2,a3⟩:=a;obtain ⟨b1,b2,b3⟩:=b;apply propext;constructor
  ·rintro (h | ⟨h1,h | ⟨h2,h⟩⟩)
   ·exact .left _ _ h
   ·simp only at h1;subst h1;exact .right _ (.left _ _ h)
   ·simp only at h1 h2;subst h1 h2;exact .right _ (.right _ h)
  ·intro h
   cases h with
   | left _ _ h=>exact .inl h
   | right _ h =>
    cases h with
    | left _ _ h=>exact .inr ⟨rfl,.inl h⟩
    | right _ h=>exact .inr ⟨rfl,.inr ⟨rfl,h⟩⟩
 rw [h];exact (Prod.lex Nat.lt_wfRel (Prod.lex Nat.lt_wfRel Nat.lt_wfRel)).wf
theorem Inv1.run:∀ (μ:Nat × Nat × Nat) (gs:Array Goroutine) (w:World) (sl:Option (Nat × Nat)) (t:Trace) (c:Gh),Inv1 F Fin gs w t c->m3 F c=μ ->
 ∃ N gs' w' sl' t',runNT F.P N (crowd gs w sl) t=(.next (crowd gs' w' sl'),t')/\Over F Fin gs' w' t':=by
 intro μ
 induction μ using less3_wf.induction with
 | _ μ ih =>
  intro gs w sl t c h hμ;obtain ⟨gs',w',sl',u,hs,ho | ⟨c',hi,hl⟩⟩:=h.step sl
  ·exact ⟨1,gs',w',sl',t ++ u,by simp only [runNT,hs],ho⟩
  ·obtain ⟨N,gs2,w2,sl2,t2,hr,hF⟩:=ih _ (hμ ▸ hl) gs' w' sl' (t ++ u) c' hi rfl;exact ⟨N+1,gs2,w2,sl2,t2,by simp only [runNT,hs];exact hr,hF⟩
end
theorem own_evok {own ro:Hold} {D:Nat->Prop} {B:Nat} {e:Event} (h:EvOwn own ro e) (h1:∀ r,keyOf own r->r < B/\¬ D r) (h2:∀ r,keyOf ro r->r < B/\¬ D r):EvOk D B e:=by
 obtain ⟨loc,wr,sy⟩:=e
 cases loc with
 | cell a =>
  obtain ⟨_,h⟩:=h;rcases h with h | ⟨_,h⟩
  ·exact h1 _ h
  ·exact h2 _ h
 | obj r =>
  obtain ⟨hs,h⟩:=h;rcases h with h | ⟨_,h⟩
  ·exact (h1 _ h).1
  ·exact (h2 _ h).1
 | mark m=>exact h
 | _=>exact h.elim
theorem walk_leadsR {P:Program} {L:Nat} {D:Nat->Prop} {ro:Hold} {Z:Goroutine->Hold->Prop} (hZ:∀ g own,Z g own->IsG g) (hro:∀ r,keyOf ro r->¬ D r):∀ (k:Nat) (fr:Frame) (cs:List Frame) (own:Hold) (w:World),Walk P true ro (fun _=>True) Z k (G fr cs) own->Meets w own ro->(∀ r,keyOf own r->¬ D r)->(∀ r,D r->r < w.heap.size) ->
 LeadsR P L D (fun D' fr' cs' w'=>D'=D/\Tos w.tape w.os w'/\w'.output=w.output/\(∀ r,D r->w'.heap[r]? = w.heap[r]?)/\∃ own',Meets w' own' ro/\(∀ r,keyOf own' r->¬ D r)/\Z (G fr' cs') own') fr cs w:=by
 intro k
 induction k with
 | zero=>intro fr cs own w h hm ho hd;exact .done ⟨rfl,Tos.refl _,rfl,fun _ _=>rfl,own,hm,ho,h⟩
 | succ k ih =>
  intro fr cs own w h hm ho hd;rcases h with h | ⟨_,h⟩
  ·exact .done ⟨rfl,Tos.refl _,rfl,fun _ _=>rfl,own,hm,ho,h⟩
  ·refine .step fun d=>?_;obtain ⟨g',w',es,own',hst,ht,⟨fr1,cs1,rfl⟩,hk⟩:=h (w.at d) ⟨hm.mine,hm.shared,hm.apart⟩ trivial;have ho':∀ r,keyOf own' r->¬ D r:=fun r hr hD=>by
    rcases ht.keys r hr with h1 | h1
    ·exact ho r h1 hD
    ·have:=hd r hD;have h1:w.heap.size<=r:=h1;omega
   refine ⟨fr1,cs1,w',es,hst,fun e he=>own_evok (ht.evs e he) (fun r hr=>⟨ht.holds.mine.lt hr,ho' r hr⟩) (fun r hr=>⟨ht.holds.shared.lt hr,hro r hr⟩),ht.size,?_⟩;have hkd:∀ r,D r->w'.heap[r]? = w.heap[r]? := fun r hr=>ht.kept r (hd r hr) fun hk=>ho r hk hr;refine (ih fr1 cs1 own' w' hk ht.holds ho' fun r hr=>Nat.lt_of_lt_of_le (hd r hr) ht.size).mono fun D' fr' cs' w2 ⟨e,e1,e2,e3,e4⟩=>⟨e,e1.trans (Tos.same ht.rest.2.1 ht.rest.1),e2.trans ht.rest.2.2,fun r hr=>(e3 r hr).trans (hkd r hr),e4⟩
theorem mill_leadsR {F:Mill} {L:Nat} (hL:L<=F.Wg) {Fin:Goroutine->Hold->Prop} {D:Nat->Prop} {fr:Frame} {cs:List Frame} {w:World} {own0:Hold} {o:Obj}
 (hZ:∀ g own,Fin g own->IsG g) (hD:F.D=fun r=>D r\/r=F.Wg)
 (hW:∀ b T0 d,∃ k,Walk F.P true F.ro F.E (AtM { F with b:=b,T0:=T0 } Fin (d+1) 0 (mat (if 0 < F.n then .kd else .wd))) k (G fr cs) own0)
 (hm:Meets w own0 F.ro) (hsh:F.Sh w sh0) (two:F.C≠F.Mu/\F.C≠F.Wg/\F.Mu≠F.Wg) (free:own0 F.Mu=none/\own0 F.Wg=none/\own0 F.C=none) (roS:F.ro F.Mu=none/\F.ro F.Wg=none/\F.ro F.C=none)
 (hC:w.heap[F.C]? = some o) (hk:F.KI (fun _=>false) o) (rest:(w.tape=F.tape/\w.os=F.os)/\w.output=F.out/\F.lo<=w.heap.size)
 (hd1:∀ r,keyOf own0 r->¬ D r) (hd2:∀ r,keyOf F.ro r->¬ D r) (hd3:¬ D F.Mu/\¬ D F.Wg/\¬ D F.C) (hke:F.keep=fun r=>@ite _ (D r) (Classical.propDecidable _) w.heap[r]? none) (hlo:F.lo=w.heap.size) (hDlt:∀ r,D r->r < w.heap.size) :
 LeadsR F.P L D (fun D' fr' cs' w'=>D'=(fun r=>D r\/r=F.Wg)/\Tos w.tape w.os w'/\w'.output=w.output/\(∀ r,D r->w'.heap[r]? = w.heap[r]?)/\F.E w'/\∃ own',Meets w' own' F.ro/\Fin (G fr' cs') own') fr cs w:=by
 intro gs sl t q hc;have hlt:0 < gs.size:=(Array.getElem?_eq_some_iff.1 hc.at0).1
 let F':Mill:={ F with b:=gs.size,T0:=t.size }
 let M0:MTh:=mat (if 0 < F.n then .kd else .wd)
 obtain ⟨k,hk0⟩:=hW gs.size t.size (Mob.mea F.n 0 (fun _=>at_ .ld) sh0 M0);have hact:ActM F' 0 (fun _=>at_ .ld)=fun g=>g=0:=by
  funext g;apply propext;constructor
  ·rintro (h | ⟨j,hj,_⟩)
   ·exact h
   ·omega
  ·exact .inl
 have hst:StM F' 0=fun g=>g=0:=by
  funext g;apply propext;constructor
  ·rintro (h | ⟨j,hj,_⟩)
   ·exact h
   ·omega
  ·exact .inl
 have hkeyD:∀ r,keyOf F.keep r->D r:=fun r ⟨o,ho⟩=>by
  rw [hke] at ho;simp only at ho;by_cases h:D r
  ·exact h
  ·rw [if_neg h] at ho;cases ho
 have hcore:Core F' ⟨q,0,fun _=>at_ .ld,sh0,M0,fun _=>own0,fun _=>.blk,.walk k⟩ w t:=by
  refine ⟨?_,fun a b r ha hb _ _=>?_,fun g _=>hm,fun g _=>⟨free.1,free.2.1⟩,roS,two,?_,hsh,fun _=>⟨⟨o,hC,?_⟩,fun g _=>free.2.2⟩,⟨⟨rest.1.1,rest.1.2 ▸ ConcM.OsLater.refl _⟩,rest.2.1,rest.2.2,(Array.getElem?_eq_some_iff.1 hC).1⟩,Nat.le_refl _,fun r o hr=>?_,fun r hr=>⟨fun e=>hd3.1 (e ▸ hkeyD r hr),fun e=>hd3.2.1 (e ▸ hkeyD r hr),fun e=>hd3.2.2 (e ▸ hkeyD r hr),fun g _=>key_none fun hk=>hd1 r hk (hkeyD r hr)⟩⟩
  ·show MT F.Mu F.Wg F.C F.D t.size t w.heap.size (StM F' 0) (ActM F' 0 (fun _=>at_ .ld)) (fun _=>own0) F.ro (freeB 0 fun _=>at_ .ld);rw [hact,hst,hD];exact MT.begin hc.past (fun r hr=>.inl hr) hd1 hd2 hd3.1 hd3.2.1 hd3.2.2
  ·rw [hact] at ha hb;exact ha.trans hb.symm
  ·show F.D F.Wg;rw [hD];exact .inr rfl
  ·have:sigOf 0 (fun _=>at_ .ld)=fun _=>false:=by funext i;simp [sigOf]
   rw [this];exact hk
  ·have hr:F.keep r=some o:=hr;rw [hke] at hr;simp only at hr;by_cases h:D r
   ·rw [if_pos h] at hr;exact hr
   ·rw [if_neg h] at hr;cases hr
 have hinv:Inv1 F' Fin gs w t ⟨q,0,fun _=>at_ .ld,sh0,M0,fun _=>own0,fun _=>.blk,.walk k⟩:=by
  refine ⟨rfl,hlt,fun i g hi hb hx=>hc.leav.old i g hi hx,Mob.Inv.start _ _,fun i hi=>absurd hi (Nat.not_lt_zero _),Nat.zero_le _,fun j hj=>absurd hj (Nat.not_lt_zero _),⟨_,hc.at0,Mob.mea F.n 0 (fun _=>at_ .ld) sh0 M0,Nat.le_refl _,?_,hk0⟩,hcore,fun j hj=>absurd hj (Nat.not_lt_zero _),?_,fun j hj=>hc.leav.above j hj,fun j hj=>absurd hj (Nat.not_lt_zero _),fun e=>by cases e⟩
  ·show M0.pc≠.fin;simp only [M0];split <;> simp [mat]
  ·rw [hc.past.hears];show 0=deafM M0;simp only [M0];split <;> rfl
 obtain ⟨N,gs',w',sl',t',hr,ho⟩:=Inv1.run _ gs w sl t _ hinv rfl;obtain ⟨g,own',hg,hF,hmt⟩:=ho.main;obtain ⟨fr',cs',rfl⟩:=hZ _ _ hF;obtain ⟨q',hlv⟩:=ho.leav;have hpast:Past (shunD (fun r=>D r\/r=F.Wg)) w'.heap.size t':=by
  have h:Past (shunD F.D) w'.heap.size t':=ho.past;rw [hD] at h;exact h
 have hlow:F.lo<=w'.heap.size:=ho.rest.2.2;rw [hlo] at hlow;have ht:Tos w.tape w.os w'/\w'.output=w.output:=⟨(by have:=(show Tos F.tape F.os w' from ho.rest.1);rw [rest.1.1,rest.1.2];exact this),(show w'.output=F.out from ho.rest.2.1).trans rest.2.1.symm⟩;refine ⟨N,gs',w',sl',t',q',fr',cs',_,hr,⟨hg,hlv,hpast⟩,⟨hlow,fun r (hx:D r\/r=F.Wg)=>hx.imp_right fun e=>by rw [e];exact hL⟩,rfl,ht.1,ht.2,fun r hr=>?_,ho.sh,own',hmt,hF⟩;have hrl:=hDlt r hr;have hkr:F.keep r=w.heap[r]? := by rw [hke];simp [hr]
 rw [Array.getElem?_eq_getElem hrl] at hkr ⊢;exact ho.kept r _ hkr
end Mt
namespace Mt
open Go Go.Conc Mob
theorem put_at {a:Act} {j:Nat} {v:Value} (h:j < a.tmps.size):(a.put (some j) v).tmps[j]? = some v:=by
 show (a.tmps.setIfInBounds j v)[j]? = some v;simp [h]
theorem put_keep {a:Act} {j i:Nat} {v:Value} (hne:i≠j):(a.put (some j) v).tmps[i]? = a.tmps[i]? := by
 show (a.tmps.setIfInBounds j v)[i]? = a.tmps[i]?;rw [Array.getElem?_setIfInBounds_ne (by omega)]
theorem wanted_g {o ok:Oper} {ops:Array Oper} {tmps:Array Value} {m j:Nat} {want:Bool} (hg:o.guard=some (m,want)) (hk:ops[m]? = some ok) (hd:ok.dst=some j) (hA:tmps[j]? = some (.bool want)):Region.wanted o (yielded ops tmps)=true:=by
 unfold Region.wanted yielded;rw [hg];simp [hk,hd,hA]
def KnL (a:Act):List (Nat × Value)->Prop
 | []=>True
 | x::l=>a.tmps[x.1]? = some x.2/\KnL a l
structure Kn (a:Act) (n:Nat) (l:List (Nat × Value)):Prop where
 sz:a.tmps.size=n
 kn:KnL a l
theorem KnL.get {a:Act} {j:Nat} {v:Value}:∀ {l:List (Nat × Value)},KnL a l->l.lookup j=some v->a.tmps[j]? = some v
 | [],_,e=>by simp at e
 | (i,u)::l,h,e=>by
  rw [List.lookup_cons] at e;by_cases hji:j=i
  ·subst hji;simp at e;rw [<- e];exact h.1
  ·rw [beq_eq_false_iff_ne.2 hji] at e;exact KnL.get h.2 e
theorem KnL.put {a:Act} {j:Nat} {v:Value}:∀ {l:List (Nat × Value)},KnL a l->KnL (a.put (some j) v) (l.filter fun x=>x.1 != j)
 | [],_=>trivial
 | x::l,h=>by
  rw [List.filter_cons];split
  ·rename_i e
   exact ⟨(put_keep (by simpa using e)).trans h.1,KnL.put h.2⟩
  ·exact KnL.put h.2
theorem KnL.keep {a:Act} {p:Nat × Value->Bool}:∀ {l:List (Nat × Value)},KnL a l->KnL a (l.filter p)
 | [],_=>trivial
 | x::l,h=>by
  rw [List.filter_cons];split
  ·exact ⟨h.1,KnL.keep h.2⟩
  ·exact KnL.keep h.2
theorem KnL.same {a a1:Act} (e:a1.tmps=a.tmps):∀ {l:List (Nat × Value)},KnL a l->KnL a1 l
 | [],_=>trivial
 | x::l,h=>⟨by rw [e];exact h.1,KnL.same e h.2⟩
section
variable {a:Act} {n:Nat} {l:List (Nat × Value)}
theorem Kn.g (q:Kn a n l) (j:Nat) {v:Value} (e:l.lookup j=some v):a.tmps[j]? = some v:=q.kn.get e
theorem Kn.cons (q:Kn a n l) {j:Nat} (hj:j < n) (v:Value):Kn (a.put (some j) v) n ((j,v)::l.filter fun x=>x.1 != j):=⟨(Array.size_setIfInBounds).trans q.sz,put_at (by rw [q.sz];exact hj),q.kn.put⟩
theorem Kn.keep (q:Kn a n l) (js:List Nat):Kn a n (l.filter fun x=>js.contains x.1):=⟨q.sz,q.kn.keep⟩
end
def Closed (P:Program) (main:Bool) (E:World->Prop) (W:Goroutine->Prop):Prop :=
 ∀ fr cs fr1 cs1,(∀ w,E w->stepG P main (G fr cs) w=.go (G fr1 cs1) w #[])->W (G fr1 cs1)->W (G fr cs)
theorem closed_walk {P:Program} {main:Bool} {ro:Hold} {E:World->Prop} {Stop:Goroutine->Hold->Prop} {own:Hold}:Closed P main E fun g=>∃ k,Walk P main ro E Stop k g own:=by
 rintro fr cs fr1 cs1 h ⟨k,hk⟩;exact ⟨k+1,.inr ⟨rfl,fun w hm hE=>⟨_,w,#[],own,h w hE,.idle hm,⟨_,_,rfl⟩,hk⟩⟩⟩
theorem closed_quits {P:Program} {d:Nat}:Closed P false (fun _=>True) fun g=>∃ q,QuitsD P q d g:=by
 rintro fr cs fr1 cs1 h ⟨q,hq⟩;exact ⟨q+1,QuitsD.ctl rfl (fun w=>h w trivial) hq⟩
section
variable {P:Program} {main:Bool} {E:World->Prop} {W:Goroutine->Prop} {b:Frame} {a:Act} {k:List Item} {cs:List Frame} {n:Nat} {l:List (Nat × Value)}
theorem cl_seq (hW:Closed P main E W) {x y:Code} (h:W (G (b.at a (.code x::.code y::k)) cs)):W (G (b.at a (.code (.seq x y)::k)) cs):=hW _ _ _ _ (fun w _=>stepG_seq) h
theorem cl_block (hW:Closed P main E W) {id:Nat} {x:Code} (h:W (G (b.at a (.code x::.inBlock id::k)) cs)):W (G (b.at a (.code (.block id x)::k)) cs):=hW _ _ _ _ (fun w _=>stepG_block) h
theorem cl_inBlock (hW:Closed P main E W) {id:Nat} (h:W (G (b.at a k) cs)):W (G (b.at a (.inBlock id::k)) cs):=hW _ _ _ _ (fun w _=>stepG_inBlock) h
theorem cl_loop (hW:Closed P main E W) {x:Code} (h:W (G (b.at a (.code x::.inLoop x::k)) cs)):W (G (b.at a (.code (.loop x)::k)) cs):=hW _ _ _ _ (fun w _=>stepG_loop) h
theorem cl_inLoop (hW:Closed P main E W) {x:Code} (h:W (G (b.at a (.code x::.inLoop x::k)) cs)):W (G (b.at a (.inLoop x::k)) cs):=hW _ _ _ _ (fun w _=>stepG_inLoop) h
theorem cl_exit (hW:Closed P main E W) {id:Nat} {k':List Item} (e:exitTo id k=some k') (h:W (G (b.at a k') cs)):W (G (b.at a (.code (.exit id)::k)) cs):=hW _ _ _ _ (fun w _=>stepG_exit e) h
theorem cl_region (hW:Closed P main E W) {id:Nat} {ops:Array Oper} (h:W (G (b.at a (.inRegion ops (List.range ops.size)::k)) cs)):W (G (b.at a (.code (.region id ops false)::k)) cs):=hW _ _ _ _ (fun w _=>stepG_region) h
theorem cl_regend (hW:Closed P main E W) {ops:Array Oper} (h:W (G (b.at a k) cs)):W (G (b.at a (.inRegion ops []::k)) cs):=hW _ _ _ _ (fun w _=>stepG_region_end) h
theorem cl_cond (hW:Closed P main E W) {c:Operand} {x y:Code} (t:Bool) (e:a.eval c=.bool t) (h:W (G (b.at a (.code (if t then x else y)::k)) cs)):W (G (b.at a (.code (.cond c x y)::k)) cs):=hW _ _ _ _ (fun w _=>stepG_cond e) h
theorem cl_ret (hW:Closed P main E W) (h:W (G { b.at a (.code .ret::k) with mode:=.returning } cs)):W (G (b.at a (.code .ret::k)) cs):=hW _ _ _ _ (fun w _=>stepG_ret') h
theorem cl_end (hW:Closed P main E W) (h:W (G { b.at a [] with mode:=.returning } cs)):W (G (b.at a []) cs):=hW _ _ _ _ (fun w _=>stepG_end) h
theorem cl_reg (hW:Closed P main E W) {id:Nat} {ops:Array Oper} (L:List Nat) (e:List.range ops.size=L) (h:W (G (b.at a (.inRegion ops L::k)) cs)):W (G (b.at a (.code (.region id ops false)::k)) cs):=cl_region hW (e ▸ h)
theorem cl_condF (hW:Closed P main E W) {c:Operand} {x y:Code} (e:a.eval c=.bool false) (h:W (G (b.at a (.code y::k)) cs)):W (G (b.at a (.code (.cond c x y)::k)) cs):=cl_cond hW false e h
theorem Kn.ev (q:Kn a n l) (j:Nat) {v:Value} (e:l.lookup j=some v):a.eval (.tmp j)=v:=by
 have:=q.g j e;simp [Act.eval,this]
theorem cl_op (hW:Closed P main E W) {ops:Array Oper} {i j:Nat} {rest:List Nat} (v:Value) (hb:b.kind≠.early) {o:Oper} (ho:ops[i]? = some o) (hd:o.dst=some j) (hw:Region.wanted o (yielded ops a.tmps)=true)
 (hx:∀ w,E w->(execOp a.eval o).run P w=.ok (.value v) w/\listed P b.fn a o w=#[]) (q:Kn a n l) (hj:j < n)
 (h:∀ a1,a1.defers=a.defers->Kn a1 n ((j,v)::l.filter fun x=>x.1 != j)->W (G (b.at a1 (.inRegion ops rest::k)) cs)):W (G (b.at a (.inRegion ops (i::rest)::k)) cs):=by
 refine hW _ _ _ _ (fun w hE=>?_) (h (a.put (some j) v) rfl (q.cons hj v));rw [stepG_value ho hw hb (hx w hE).1,hd,(hx w hE).2]
def Sil (P:Program) (main:Bool) (E:World->Prop) (b:Frame) (cs:List Frame) (x:Code) (a:Act) (Q:Act->Prop):Prop :=
 ∀ W,Closed P main E W->∀ k,(∀ a1,Q a1->W (G (b.at a1 k) cs))->W (G (b.at a (.code x::k)) cs)
theorem cl_sil (hW:Closed P main E W) {x:Code} (Q:Act->Prop) (hx:Sil P main E b cs x a Q) (h:∀ a1,Q a1->W (G (b.at a1 k) cs)):W (G (b.at a (.code x::k)) cs):=hx W hW k h
theorem cl_call (hW:Closed P main E W) {ops:Array Oper} {i:Nat} {rest:List Nat} {o:Oper} {f:FuncId} {fn:Func} {c:Code} {args:Array Operand} {ats:Array TypeId} (hb:b.kind≠.early) (ho:ops[i]? = some o) (hw:Region.wanted o (yielded ops a.tmps)=true)
 (hop:o.op=.call { callee:=.value (.func f),args,argTypes:=ats }) (hf:P.funcs[f]? = some fn) (hname:(fn.name == "runtime.NumGoroutine")=false) (hc:fn.body=some c)
 (h:∀ a1:Act,a1.defers=[]->a1.tmps=args.map a.eval ++ Array.replicate (fn.ntmps - (args.map a.eval).size) undef->W (G ((base f).at a1 [.code c]) (b.at a (.inRegion ops (i::rest)::k)::cs))):W (G (b.at a (.inRegion ops (i::rest)::k)) cs):=by
 have hb':fn.body.isNone=false:=by rw [hc];rfl
 refine hW _ _ _ _ (fun w _=>?_) (h ⟨args.map a.eval ++ Array.replicate (fn.ntmps - (args.map a.eval).size) U,[]⟩ rfl rfl);rw [stepG_enter ho hw hb (run_call_body hop hf hname hb'),enter_at _ hf hc];have:listed P b.fn a o w=#[]:=by unfold listed;rw [events_call_body hop hf hname hb'];exact seen_none P _
 rw [this]
theorem cl_leave0 (hW:Closed P main E W) {fn:Func} {todo:List Item} {b₀:Frame} {a₀:Act} {ops:Array Oper} {i:Nat} {rest:List Nat} {n₀ j:Nat} {l₀:List (Nat × Value)} (hn:b.kind=.normal) (hd:a.defers=[]) (hf:P.funcs[b.fn]? = some fn) (hr:fn.results=#[])
 (hd0:(ops[i]?).bind (·.dst)=some j) (q:Kn a₀ n₀ l₀) (hj:j < n₀) (h:∀ a1,a1.defers=a₀.defers->Kn a1 n₀ ((j,.tuple #[])::l₀.filter fun x=>x.1 != j)->W (G (b₀.at a1 (.inRegion ops rest::k)) cs)) :
 W (G { b.at a todo with mode:=.returning } (b₀.at a₀ (.inRegion ops (i::rest)::k)::cs)):=by
 refine hW _ _ _ _ (fun w _=>?_) (h (a₀.put (some j) (.tuple #[])) rfl (q.cons hj _));rw [stepG_leave hn hd hf (results_none hr _ P w) (events_results_none hr _ _),Frame.finish_at,hd0]
theorem cl_leave1 (hW:Closed P main E W) {fn:Func} {todo:List Item} {b₀:Frame} {a₀:Act} {ops:Array Oper} {i:Nat} {rest:List Nat} {n₀ j t:Nat} {v:Value} {l₀:List (Nat × Value)} (hn:b.kind=.normal) (hd:a.defers=[]) (hf:P.funcs[b.fn]? = some fn) (hr:fn.results=#[.tmp t])
 (hv:a.tmps[t]? = some v) (hd0:(ops[i]?).bind (·.dst)=some j) (q:Kn a₀ n₀ l₀) (hj:j < n₀) (h:∀ a1,a1.defers=a₀.defers->Kn a1 n₀ ((j,v)::l₀.filter fun x=>x.1 != j)->W (G (b₀.at a1 (.inRegion ops rest::k)) cs)) :
 W (G { b.at a todo with mode:=.returning } (b₀.at a₀ (.inRegion ops (i::rest)::k)::cs)):=by
 refine hW _ _ _ _ (fun w _=>?_) (h (a₀.put (some j) v) rfl (q.cons hj _));rw [stepG_leave hn hd hf (results_tmp hr _ P w) (events_results_tmp hr _ _),Frame.finish_at,hd0];have:a.tmps.getD t undef=v:=by rw [Array.getD_eq_getD_getElem?,hv];rfl
 rw [this]
theorem cl_pure (hW:Closed P main E W) {ops:Array Oper} {i j:Nat} {rest:List Nat} {o:Oper} {f:FuncId} {fn:Func} {args:Array Operand} {ats:Array TypeId} (v:Value) (hb:b.kind≠.early) (ho:ops[i]? = some o) (hd:o.dst=some j) (hw:Region.wanted o (yielded ops a.tmps)=true)
 (hop:o.op=.call { callee:=.value (.func f),args,argTypes:=ats }) (hf:P.funcs[f]? = some fn) (hname:(fn.name == "runtime.NumGoroutine")=false) (hbd:fn.body.isNone=true) (hn:Extern.findNext fn=none) (he:Extern.find fn=some (fun _=>pure v))
 (q:Kn a n l) (hj:j < n) (h:∀ a1,a1.defers=a.defers->Kn a1 n ((j,v)::l.filter fun x=>x.1 != j)->W (G (b.at a1 (.inRegion ops rest::k)) cs)):W (G (b.at a (.inRegion ops (i::rest)::k)) cs):=by
 refine hW _ _ _ _ (fun w _=>?_) (h (a.put (some j) v) rfl (q.cons hj v));rw [stepG_entry_pure v ho hw hb hop hf hname hbd hn he,hd]
end
theorem muI_inj {a b:Wd} (h:muI a=muI b):a=b:=by
 obtain ⟨L,W,S,c⟩:=a;obtain ⟨L',W',S',c'⟩:=b;unfold muI at h;simp only at h;cases L <;> cases W <;> cases S <;> cases L' <;> cases W' <;> cases S' <;> simp at h ⊢ <;> omega
theorem wgI_inj {v v':Nat} {b b':Bool} (h:wgI v b=wgI v' b'):v=v'/\b=b':=by
 unfold wgI at h;cases b <;> cases b' <;> simp at h ⊢ <;> omega
section
variable {F:Mill} {w:World} {s:Mob.Sh}
theorem Mill.Sh.mu0 (h:F.Sh w s):w.cell? ⟨F.Mu,0,none⟩=some (.int .i32 (muI s.mu)):=by simp [World.cell?,h.1,muObj]
theorem Mill.Sh.mu1 (h:F.Sh w s):w.cell? ⟨F.Mu,1,none⟩=some (.int .u32 s.ms):=by simp [World.cell?,h.1,muObj]
theorem Mill.Sh.wg0 (h:F.Sh w s):w.cell? ⟨F.Wg,0,none⟩=some (.int .u64 (wgI s.v s.wt)):=by simp [World.cell?,h.2,wgObj]
theorem Mill.Sh.wg1 (h:F.Sh w s):w.cell? ⟨F.Wg,1,none⟩=some (.int .u32 s.ws):=by simp [World.cell?,h.2,wgObj]
theorem Mill.Sh.muF (h:F.Sh w s) (k:Nat):w.frozen? ⟨F.Mu,k,none⟩=false:=by simp [World.frozen?,h.1,muObj]
theorem Mill.Sh.wgF (h:F.Sh w s) (k:Nat):w.frozen? ⟨F.Wg,k,none⟩=false:=by simp [World.frozen?,h.2,wgObj]
theorem set_same {r k:Nat} {c:Array Value} {t:TypeId} {f:Nat × Nat} {v:Value} (h:w.heap[r]? = some (.cells c t f)):(w.setCell ⟨r,k,none⟩ v).heap[r]? = some (.cells (c.setIfInBounds k v) t f):=setCell_block h
theorem set_else {r k x:Nat} {v:Value} (h:x≠r):(w.setCell ⟨r,k,none⟩ v).heap[x]? = w.heap[x]? := setCell_other h
theorem setCell_rest {r k:Nat} {v:Value}:(w.setCell ⟨r,k,none⟩ v).tape=w.tape/\(w.setCell ⟨r,k,none⟩ v).output=w.output/\(w.setCell ⟨r,k,none⟩ v).heap.size=w.heap.size:=by
 exact ⟨rfl,rfl,by simp [World.setCell]⟩
theorem Eff.set {Mu Wg r k:Nat} {v:Value} (h:r=Mu\/r=Wg):Eff Mu Wg w (w.setCell ⟨r,k,none⟩ v) :=
 ⟨Tos.same setCell_rest.1 rfl,setCell_rest.2.1,setCell_rest.2.2,fun x h1 h2=>set_else (by rcases h with rfl | rfl <;> assumption)⟩
theorem Mill.Sh.setMu (two:F.Mu≠F.Wg) (h:F.Sh w s) (x:Wd):F.Sh (w.setCell ⟨F.Mu,0,none⟩ (.int .i32 (muI x))) { s with mu:=x }:=⟨(set_same h.1).trans (by simp [muObj]),(set_else two.symm).trans h.2⟩
theorem Mill.Sh.setMs (two:F.Mu≠F.Wg) (h:F.Sh w s) (n:Nat):F.Sh (w.setCell ⟨F.Mu,1,none⟩ (.int .u32 n)) { s with ms:=n }:=⟨(set_same h.1).trans (by simp [muObj]),(set_else two.symm).trans h.2⟩
theorem Mill.Sh.setV (two:F.Mu≠F.Wg) (h:F.Sh w s) (v:Nat) (b:Bool):F.Sh (w.setCell ⟨F.Wg,0,none⟩ (.int .u64 (wgI v b))) { s with v:=v,wt:=b }:=⟨(set_else two).trans h.1,(set_same h.2).trans (by simp [wgObj])⟩
theorem Mill.Sh.setWs (two:F.Mu≠F.Wg) (h:F.Sh w s) (n:Nat):F.Sh (w.setCell ⟨F.Wg,1,none⟩ (.int .u32 n)) { s with ws:=n }:=⟨(set_else two).trans h.1,(set_same h.2).trans (by simp [wgObj])⟩
end
def XF (P:Program) (f:FuncId) (e:Array Value->Sem Value):Prop:=∃ fn,P.funcs[f]? = some fn/\(fn.name == "runtime.NumGoroutine")=false/\fn.body.isNone=true/\Extern.findNext fn=none/\Extern.find fn=some e
def XN (P:Program) (f:FuncId) (e:Array Value->Sem Value):Prop:=∃ fn,P.funcs[f]? = some fn/\(fn.name == "runtime.NumGoroutine")=false/\fn.body.isNone=true/\Extern.findNext fn=none/\Extern.find fn=some e/\fn.norace=true
def Stands (b:Frame) (a:Act) (ops:Array Oper) (i:Nat) (f:FuncId) (ys:Array Operand) (j:Nat):Prop :=
 b.kind≠.early/\∃ (o:Oper) (ats:Array TypeId),ops[i]? = some o/\o.dst=some j/\Region.wanted o (yielded ops a.tmps)=true/\o.op=.call { callee:=.value (.func f),args:=ys,argTypes:=ats }
section
variable {P:Program} {main:Bool} {b:Frame} {a:Act} {kk:List Item} {cs:List Frame} {w:World} {f:FuncId} {ops:Array Oper} {i j:Nat} {rest:List Nat} {ys:Array Operand} {x y z:Operand} {ad:Addr} {v n:Int} {k:IntKind}
theorem Stands.mark0 (S:Stands b a ops i f ys j) (m:Mark) (hm:∀ g,m≠.extern g) (X:XF P f (fun _=>do mark m;pure Extern.Race.none_)) :
 stepG P main (G (b.at a (.inRegion ops (i::rest)::kk)) cs) w=.go (G (b.at (a.put (some j) (.tuple #[])) (.inRegion ops rest::kk)) cs) w #[⟨.mark m,false,true⟩]:=by
 obtain ⟨hk,o,ats,ho,hd,hw,hop⟩:=S;obtain ⟨fn,h1,h2,h3,h4,h5⟩:=X;rw [stepG_mark0 m hm ho hw hk hop h1 h2 h3 h4 h5,hd]
theorem Stands.markAt (S:Stands b a ops i f #[x] j) (mk:Addr->Mark) (hm:∀ ad g,mk ad≠.extern g) (X:XF P f (Extern.Race.marked mk)) (hx:a.eval x=.pointer (some ad)) :
 stepG P main (G (b.at a (.inRegion ops (i::rest)::kk)) cs) w=.go (G (b.at (a.put (some j) (.tuple #[])) (.inRegion ops rest::kk)) cs) w #[⟨.mark (mk ad),false,true⟩]:=by
 obtain ⟨hk,o,ats,ho,hd,hw,hop⟩:=S;obtain ⟨fn,h1,h2,h3,h4,h5⟩:=X;rw [stepG_markAt mk hm ho hw hk hop h1 h2 h3 h4 h5 (ad:=ad) (by simp [hx]),hd]
theorem Stands.sem (S:Stands b a ops i f ys j) (X:XF P f Extern.Sync.semacquire) (hx:(ys.map a.eval)[0]? = some (.pointer (some ad))) (hc:w.cell? ad=some (.int .u32 n)) (hn0:n≠0) (hz:w.frozen? ad=false) :
 stepG P main (G (b.at a (.inRegion ops (i::rest)::kk)) cs) w=.go (G (b.at (a.put (some j) (.tuple #[])) (.inRegion ops rest::kk)) cs) (w.setCell ad (.int .u32 (n - 1))) (semEvents ad):=by
 obtain ⟨hk,o,ats,ho,hd,hw,hop⟩:=S;obtain ⟨fn,h1,h2,h3,h4,h5⟩:=X;rw [stepG_semacquire ho hw hk hop h1 h2 h3 h4 h5 hx hc hn0 hz,hd]
theorem Stands.semWait (S:Stands b a ops i f ys j) (X:XF P f Extern.Sync.semacquire) (hx:(ys.map a.eval)[0]? = some (.pointer (some ad))) (hc:w.cell? ad=some (.int .u32 0)) :
 stepG P main (G (b.at a (.inRegion ops (i::rest)::kk)) cs) w=.go { G (b.at a (.inRegion ops (i::rest)::kk)) cs with status:=.blocked } w #[]:=by
 obtain ⟨hk,o,ats,ho,hd,hw,hop⟩:=S;obtain ⟨fn,h1,h2,h3,h4,h5⟩:=X;exact stepG_semacquire_wait ho hw hop h1 h2 h3 h4 h5 hx hc
theorem Stands.semRel (S:Stands b a ops i f ys j) (X:XF P f Extern.Sync.semrelease) (hx:(ys.map a.eval)[0]? = some (.pointer (some ad))) (hc:w.cell? ad=some (.int .u32 n)) (hz:w.frozen? ad=false) :
 stepG P main (G (b.at a (.inRegion ops (i::rest)::kk)) cs) w=.go (G (b.at (a.put (some j) (.tuple #[])) (.inRegion ops rest::kk)) cs) (w.setCell ad (.int .u32 (IntKind.u32.wrap (n+1)))) (semEvents ad):=by
 obtain ⟨hk,o,ats,ho,hd,hw,hop⟩:=S;obtain ⟨fn,h1,h2,h3,h4,h5⟩:=X;rw [stepG_semrelease ho hw hk hop h1 h2 h3 h4 h5 hx hc hz,hd]
theorem Stands.wakes (S:Stands b a ops i f ys j) {e:Array Value->Sem Value} (X:XF P f e):mayWake P (G (b.at a (.inRegion ops (i::rest)::kk)) cs)=true:=by
 obtain ⟨hk,o,ats,ho,hd,hw,hop⟩:=S;obtain ⟨fn,h1,h2,h3,h4,h5⟩:=X;have h2':fn.body=none:=by simpa using h3
 have ef:(b.at a (.inRegion ops (i::rest)::kk)).eval (.func f)=.func (.func f) #[] #[]:=rfl;simp [mayWake,G,Frame.at,ho,hop] at ef ⊢;simp [ef,h1,h2']
theorem Stands.add (S:Stands b a ops i f #[x,y] j) (X:XF P f (Extern.Atomic.update (Op.intArith .add) k true)) (hx:a.eval x=.pointer (some ad)) (hy:a.eval y=.int k n) (hc:w.cell? ad=some (.int k v)) (hz:w.frozen? ad=false) :
 stepG P main (G (b.at a (.inRegion ops (i::rest)::kk)) cs) w=.go (G (b.at (a.put (some j) (.int k (k.wrap (v+n)))) (.inRegion ops rest::kk)) cs) (w.setCell ad (.int k (k.wrap (v+n)))) #[⟨.cell ad,false,true⟩,⟨.cell ad,true,true⟩]:=by
 obtain ⟨hk,o,ats,ho,hd,hw,hop⟩:=S;obtain ⟨fn,h1,h2,h3,h4,h5⟩:=X;rw [stepG_add_atomic ho hw hk hop h1 h2 h3 h4 k h5 hx hy hc hz,hd]
theorem Stands.hit (S:Stands b a ops i f #[x,y,z] j) (X:XF P f (Extern.Atomic.casT (.int k))) (hx:a.eval x=.pointer (some ad)) (hy:a.eval y=.int k v) (hzz:a.eval z=.int k n) (hc:w.cell? ad=some (.int k v)) (hz:w.frozen? ad=false) :
 stepG P main (G (b.at a (.inRegion ops (i::rest)::kk)) cs) w=.go (G (b.at (a.put (some j) (.bool true)) (.inRegion ops rest::kk)) cs) (w.setCell ad (.int k n)) #[⟨.cell ad,false,true⟩,⟨.cell ad,true,true⟩]:=by
 obtain ⟨hk,o,ats,ho,hd,hw,hop⟩:=S;obtain ⟨fn,h1,h2,h3,h4,h5⟩:=X;rw [stepG_cas_hit ho hw hk hop h1 h2 h3 h4 k h5 hx hy hzz hc hz,hd]
theorem Stands.miss (S:Stands b a ops i f #[x,y,z] j) (X:XF P f (Extern.Atomic.casT (.int k))) {old:Int} (hx:a.eval x=.pointer (some ad)) (hy:a.eval y=.int k old) (hzz:a.eval z=.int k n) (hc:w.cell? ad=some (.int k v)) (hz:w.frozen? ad=false) (hne:¬ v=old) :
 stepG P main (G (b.at a (.inRegion ops (i::rest)::kk)) cs) w=.go (G (b.at (a.put (some j) (.bool false)) (.inRegion ops rest::kk)) cs) w #[⟨.cell ad,false,true⟩]:=by
 obtain ⟨hk,o,ats,ho,hd,hw,hop⟩:=S;obtain ⟨fn,h1,h2,h3,h4,h5⟩:=X;rw [stepG_cas_miss ho hw hk hop h1 h2 h3 h4 k h5 hx hy hzz hc hz hne,hd]
theorem Stands.load (S:Stands b a ops i f #[x] j) (X:XF P f (Extern.Atomic.loadT (.int k))) (hx:a.eval x=.pointer (some ad)) (hc:w.cell? ad=some (.int k v)) :
 stepG P main (G (b.at a (.inRegion ops (i::rest)::kk)) cs) w=.go (G (b.at (a.put (some j) (.int k v)) (.inRegion ops rest::kk)) cs) w #[⟨.cell ad,false,true⟩]:=by
 obtain ⟨hk,o,ats,ho,hd,hw,hop⟩:=S;obtain ⟨fn,h1,h2,h3,h4,h5⟩:=X;rw [stepG_load_atomic ho hw hk hop h1 h2 h3 h4 k h5 hx hc,hd]
theorem Stands.store (S:Stands b a ops i f #[x,y] j) (X:XF P f Extern.Atomic.storeT) {u:Value} (hx:a.eval x=.pointer (some ad)) (hy:a.eval y=.int k v) (hc:w.cell? ad=some u) (hz:w.frozen? ad=false) :
 stepG P main (G (b.at a (.inRegion ops (i::rest)::kk)) cs) w=.go (G (b.at (a.put (some j) (.tuple #[])) (.inRegion ops rest::kk)) cs) (w.setCell ad (.int k v)) #[⟨.cell ad,true,true⟩]:=by
 obtain ⟨hk,o,ats,ho,hd,hw,hop⟩:=S;obtain ⟨fn,h1,h2,h3,h4,h5⟩:=X;rw [stepG_store_atomic ho hw hk hop h1 h2 h3 h4 h5 hx hy hc hz,hd]
theorem Stands.nano (S:Stands b a ops i f ys j) (X:XN P f Extern.OsHooks.nano) :
 stepG P main (G (b.at a (.inRegion ops (i::rest)::kk)) cs) w=.go (G (b.at (a.put (some j) (.int .i64 ((w.os.mono+w.tick:Nat):Int))) (.inRegion ops rest::kk)) cs) w.later #[]:=by
 obtain ⟨hk,o,ats,ho,hd,hw,hop⟩:=S;obtain ⟨fn,h1,h2,h3,h4,h5,h6⟩:=X;rw [stepG_nanotime ho hw hk hop h1 h2 h3 h4 h5 h6,hd]
theorem Stands.spinNo (S:Stands b a ops i f ys j) (X:XF P f Extern.Sync.canSpin) (hx:ys.map a.eval=#[.int k n]) (h4:4<=n) :
 stepG P main (G (b.at a (.inRegion ops (i::rest)::kk)) cs) w=.go (G (b.at (a.put (some j) (.bool false)) (.inRegion ops rest::kk)) cs) w #[]:=by
 obtain ⟨hk,o,ats,ho,hd,hw,hop⟩:=S;obtain ⟨fn,h1,h2,h3,h5,h6⟩:=X;rw [stepG_canSpin_no ho hw hk hop h1 h2 h3 h5 h6 hx h4,hd]
theorem Stands.spinAsk (S:Stands b a ops i f ys j) (X:XF P f Extern.Sync.canSpin) (hx:ys.map a.eval=#[.int k n]) (h4:n < 4) :
 stepG P main (G (b.at a (.inRegion ops (i::rest)::kk)) cs) w=.go (G (b.at (a.put (some j) (.bool w.spins)) (.inRegion ops rest::kk)) cs) w.asked #[]:=by
 obtain ⟨hk,o,ats,ho,hd,hw,hop⟩:=S;obtain ⟨fn,h1,h2,h3,h5,h6⟩:=X;rw [stepG_canSpin_ask ho hw hk hop h1 h2 h3 h5 h6 hx h4,hd]
end
theorem stepG_quietLoad {P:Program} {main:Bool} {b:Frame} {a:Act} {kk:List Item} {cs:List Frame} {w:World} {ops:Array Oper} {i j:Nat} {rest:List Nat} {o:Oper} {t:TypeId} {x:Operand} {ad:Addr} {v:Value} (hk:b.kind≠.early) (ho:ops[i]? = some o) (hd:o.dst=some j)
 (hw:Region.wanted o (yielded ops a.tmps)=true) (hr:(execOp a.eval o).run P w=.ok (.value v) w) (he:listed P b.fn a o w=#[]) :
 stepG P main (G (b.at a (.inRegion ops (i::rest)::kk)) cs) w=.go (G (b.at (a.put (some j) v) (.inRegion ops rest::kk)) cs) w #[]:=by
 rw [stepG_value ho hw hk hr,hd,he]
end Mt
end Go.Proofs.YtgkajecjbflbbaaGreatDoor
