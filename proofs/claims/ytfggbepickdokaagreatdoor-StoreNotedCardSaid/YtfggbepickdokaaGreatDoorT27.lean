/- Leads to the Store laws of chapter 6: Farm12 Farm13 Farm14 Farm15 Farm16 Farm17. -/
import Derived.Test.YtfggbepickdokaaGreatDoorT26
set_option maxHeartbeats 200000
set_option maxRecDepth 100000
set_option linter.all false
namespace Go.Proofs.YtfggbepickdokaaGreatDoor.Mt
open Go Go.Conc
open Go.ConcN (sumTo upd sumTo_upd upd_ne upd_same sumTo_congr)
variable {F:Farm} {M:Master F} {gs:Array Goroutine} {w w':World} {t:Trace} {q:Nat→Nat} {m:Nat} {ph:Nat→Ph} {mp:MPh} {own:Nat→Hold}
theorem FT.mute {B:Nat} {Act:Nat→Prop} {ro:Hold} (h:FT t B Act own ro) {g0:Nat} (hg0:¬ Act g0) {u:Trace} (hu:∀ op∈u,op.g=g0) (hn:∀ op∈u,op.act.touch? = none) (hl:∀ op∈u,op.act.low B):FT (t ++ u) B Act own ro:=by
 have hold:∀ i a,touchAt (t ++ u) i=some a→touchAt t i=some a∧i < t.size:=fun i a ha=>by
  obtain ⟨op,ho,hox⟩:=touch_of ha
  rcases getElem?_append_cases ho with ⟨hi,ho'⟩ | ⟨hi,hou⟩
  ·exact ⟨by rw [touchAt_of ho'];exact hox,hi⟩
  ·rw [hn op hou] at hox;cases hox
 refine ⟨fun said=>noRace_append (g:=g0) (h.clean said) hu (fun i a ha op hop b hb hc=>(by rw [hn op hop] at hb;cases hb)),
  fun i a r ha hr g hg hk=>(h.mine i a r (hold i a ha).1 hr g hg hk).app _,fun i a r ha hr hw hk g hg=>(h.shared i a r (hold i a ha).1 hr hw hk g hg).app _,fun i a ha hm=>?_,fun g hg=>?_,fun op hop=>(Array.mem_append.1 hop).elim (h.seen op) (hl op)⟩
 ·obtain ⟨ha',hi⟩:=hold i a ha
  rcases h.known i a ha' hm with hk | ⟨g,h0,hg,hgi⟩
  ·exact .inl (hk.app _)
  ·exact .inr ⟨g,h0,hg,by rw [g?_old hi];exact hgi⟩
 ·rw [Deaf_other t (g:=g) (g':=g0) (fun e=>hg0 (e ▸ hg)) _ hu];exact h.hears g hg
theorem Inv0.slipOld (h:Inv0 M gs w t q m ph mp own) (hfin:∀ g own,M.Fin g own→g.status=.running) {i:Nat} {g:Goroutine} (hi0:0 < i) (hib:i < F.b) (hi:gs[i]? = some g) (hg:g.status=.running) (sl:Option (Nat × Nat)) :
 ∃ gs' u q',runT F.P (crowd gs w sl) i=(.next (crowd gs' w sl),u)∧Inv0 M gs' w (t ++ u) q' m ph mp own∧sumTo F.b q' < sumTo F.b q:=by
 have hq:=h.old i g hi0 hib hi
 have hb0:(i == 0)=false:=by simp;omega
 have hlt:i < gs.size:=(Array.getElem?_eq_some_iff.1 hi).1
 cases hqi:q i with
 | zero=>rw [hqi] at hq;rw [hq.1] at hg;cases hg
 | succ k =>
  rw [hqi] at hq
  rcases hq with ⟨hf,_⟩ | ⟨_,g',es,hm,hstp,hq'⟩
  ·rw [hf] at hg;cases hg
  have hr:=runT_crowd_go (P:=F.P) (sl:=sl) (i:=i) hi (by rw [hb0];exact hstp w)
  rw [map_woken h.core.chans (h.all hfin)] at hr
  have hna:¬ ActW F ph m i:=by rintro (e | ⟨j,hj,e,_⟩) <;> omega
  have hu:∀ op∈MemOp.ofEvents i g.frame.fn g.frame.place es,op.g=i:=fun op hop=>by obtain ⟨e,_,rfl⟩:=Go.Conc.mem_ofEvents hop;rfl
  have hf:=h.core.trace.mute hna hu (fun op hop=>by obtain ⟨e,he,rfl⟩:=Go.Conc.mem_ofEvents hop;exact touch_mute (hm e he)) (fun op hop=>by obtain ⟨e,he,rfl⟩:=Go.Conc.mem_ofEvents hop;exact low_mute (hm e he) _)
  have hdo:∀ x,x≠i→Deaf (t ++ MemOp.ofEvents i g.frame.fn g.frame.place es) x=Deaf t x:=fun x hx=>Deaf_other t (g:=x) (g':=i) (Ne.symm hx) _ hu
  refine ⟨_,_,upd q i k,hr,⟨by simp [h.size],h.base,fun j x hj hjb hx=>?_,fun j hj=>?_,?_,⟨hf,h.core.sep,h.core.meets,h.core.chans,h.core.two,h.core.free,h.core.roFree,h.core.rest⟩,fun j hj=>by rw [hdo j (by omega)];exact h.deaf j hj⟩,?_⟩
  ·by_cases e:i=j
   ·subst e
    rw [Array.getElem?_setIfInBounds_self_of_lt hlt] at hx
    cases hx
    rw [upd_same,Deaf_own]
    exact hq'
   ·rw [Array.getElem?_setIfInBounds_ne e] at hx
    rw [upd_ne _ _ (Ne.symm e),hdo j (Ne.symm e)]
    exact h.old j x hj hjb hx
  ·obtain ⟨x,hx,hw⟩:=h.work j hj
   exact ⟨x,by rw [Array.getElem?_setIfInBounds_ne (by omega)];exact hx,hw⟩
  ·obtain ⟨x,hx,hw⟩:=h.main
   exact ⟨x,by rw [Array.getElem?_setIfInBounds_ne (by omega)];exact hx,hw⟩
  ·have:=sumTo_upd q k id hib
   simp only [id,hqi] at this
   have e:sumTo F.b (upd q i k)=sumTo F.b (fun a=>upd q i k a):=rfl
   have e2:sumTo F.b q=sumTo F.b (fun a=>q a):=rfl
   omega
theorem Inv0.slipQuit (h:Inv0 M gs w t q m ph mp own) (hfin:∀ g own,M.Fin g own→g.status=.running) {j k:Nat} {g:Goroutine} (hj:j < m) (hp:ph j=.quit k) (hi:gs[F.b+j]? = some g) (hg:g.status=.running) (sl:Option (Nat × Nat)) :
 ∃ gs' u k',runT F.P (crowd gs w sl) (F.b+j)=(.next (crowd gs' w sl),u)∧Inv0 M gs' w (t ++ u) q m (upd ph j (.quit k')) mp own∧k' < k:=by
 obtain ⟨x,hx,hw⟩:=h.work j hj
 rw [hi] at hx;cases hx
 rw [hp] at hw
 have hb:=h.base
 have hlt:F.b+j < gs.size:=(Array.getElem?_eq_some_iff.1 hi).1
 cases k with
 | zero=>rw [show g.status=.finished from hw] at hg;cases hg
 | succ k =>
  rcases hw with hf | ⟨_,g',hst,hq⟩
  ·rw [hf] at hg;cases hg
  have hr:=runT_crowd_go (P:=F.P) (sl:=sl) (i:=F.b+j) hi (by rw [main_false hb j];exact hst w)
  rw [map_woken h.core.chans (h.all hfin)] at hr
  have hu:MemOp.ofEvents (F.b+j) g.frame.fn g.frame.place #[]=#[]:=ofEvents_none _ _ _
  have hall:∀ i,i < m→(upd ph j (.quit k) i).sent=(ph i).sent∧(upd ph j (.quit k) i).done=(ph i).done∧(mp=.wait→(upd ph j (.quit k) i).off=true→(ph i).off=true):=fun i _=>by
   by_cases e:i=j
   ·subst e;rw [upd_same,hp];exact ⟨rfl,rfl,fun _=>id⟩
   ·rw [upd_ne _ _ e];exact ⟨rfl,rfl,fun _=>id⟩
  refine ⟨_,_,k,hr,?_,Nat.lt_succ_self k⟩
  rw [hu,Array.append_empty]
  refine ⟨by simp [h.size],hb,fun i y hi' hib hy=>?_,fun i hi'=>?_,?_,h.core.congr (act_congr fun i hi=>(hall i hi).2.1),h.deaf⟩
  ·rw [Array.getElem?_setIfInBounds_ne (by omega)] at hy;exact h.old i y hi' hib hy
  ·by_cases e:i=j
   ·subst e;exact ⟨g',by simp [hlt],by rw [upd_same];exact hq⟩
   ·obtain ⟨y,hy,hwy⟩:=h.work i hi'
    exact ⟨y,by rw [Array.getElem?_setIfInBounds_ne (by omega)];exact hy,by rw [upd_ne _ _ e];exact hwy⟩
  ·obtain ⟨y,hy,hm⟩:=h.main
   exact ⟨y,by rw [Array.getElem?_setIfInBounds_ne (by omega)];exact hy,mok_congr hall hm⟩
variable {F:Farm} {M:Master F} {gs:Array Goroutine} {w w':World} {t:Trace} {q:Nat→Nat} {m:Nat} {ph:Nat→Ph} {mp:MPh} {own:Nat→Hold}
def mC (F:Farm) (m:Nat) (ph:Nat→Ph):Nat:=3 * (F.n - m)+sumTo m (fun i=>(ph i).meets)
def mS (F:Farm) (m:Nat) (ph:Nat→Ph) (mp:MPh) (q:Nat→Nat):Nat:=mp.weight+sumTo m (fun i=>(ph i).weight)+sumTo F.b q
def Lex (a b:Nat × Nat):Prop:=a.1 < b.1∨(a.1=b.1∧a.2 < b.2)
theorem sum_upd (φ:Ph→Nat) {j:Nat} (hj:j < m) (p:Ph):sumTo m (fun i=>φ (upd ph j p i))+φ (ph j)=sumTo m (fun i=>φ (ph i))+φ p:=sumTo_upd ph p φ hj
theorem Inv0.at (h:Inv0 M gs w t q m ph mp own) (d:Nat):Inv0 M gs (w.at d) t q m ph mp own:=⟨h.size,h.base,h.old,h.work,h.main,h.core.at d,h.deaf⟩
theorem Inv0.stepWork (h:Inv0 M gs w t q m ph mp own) (hfin:∀ g own,M.Fin g own→g.status=.running) {j:Nat} {g:Goroutine} (hj:j < m) (hi:gs[F.b+j]? = some g) (hg:g.status=.running) (sl:Option (Nat × Nat)) :
 ∃ gs' w' u q' ph' mp' own',runT F.P (crowd gs w sl) (F.b+j)=(.next (crowd gs' w' sl),u)∧Inv0 M gs' w' (t ++ u) q' m ph' mp' own'∧Lex (mC F m ph',mS F m ph' mp' q') (mC F m ph,mS F m ph mp q):=by
 obtain ⟨x,hx,hw⟩:=h.work j hj
 rw [hi] at hx;cases hx
 have hb:=h.base
 have own_step:∀ (k:Nat) (mk:Nat→Ph) (Stop:Goroutine→Hold→Prop),ph j=mk (k+1)→(∀ k,(mk k).sent=(mk 0).sent∧(mk k).done=false∧(mk k).off=false∧(mk k).meets=(mk 0).meets∧(mk k).weight=k+1)→(∀ k g o,WOk F j (mk k) g o↔Walk F.P false F.ro Stop k g o) →
  (∃ g' w' es own',stepG F.P false g w=.go g' w' es∧Turn F.ro (own (F.b+j)) own' w w' es∧Walk F.P false F.ro Stop k g' own') →
  ∃ gs' w' u q' ph' mp' own',runT F.P (crowd gs w sl) (F.b+j)=(.next (crowd gs' w' sl),u)∧Inv0 M gs' w' (t ++ u) q' m ph' mp' own'∧Lex (mC F m ph',mS F m ph' mp' q') (mC F m ph,mS F m ph mp q):=by
  rintro k mk Stop hp hmk hok ⟨g',w',es,own',hs,ht,hwk⟩
  have hr:=runT_crowd_go (P:=F.P) (sl:=sl) (i:=F.b+j) hi (by rw [main_false hb j];exact hs)
  have hset:=h.setWork (g:=g) (p':=mk k) hj hi (by rw [hp];exact (hmk _).2.1) (by rw [hp,(hmk k).1,(hmk (k+1)).1]) (by rw [hp,(hmk k).2.1,(hmk (k+1)).2.1]) (fun _ e=>by rw [(hmk k).2.2.1] at e;cases e) ht ((hok k g' own').2 hwk) g.frame.fn g.frame.place
  rw [map_woken hset.core.chans (h.all hfin)] at hr
  refine ⟨_,_,_,q,_,mp,_,hr,hset,.inr ⟨?_,?_⟩⟩
  ·have:=sum_upd (ph:=ph) (·.meets) hj (mk k)
   simp only [hp,(hmk k).2.2.2.1,(hmk (k+1)).2.2.2.1] at this
   show 3 * (F.n - m)+_=3 * (F.n - m)+_
   omega
  ·have:=sum_upd (ph:=ph) (·.weight) hj (mk k)
   simp only [hp,(hmk k).2.2.2.2,(hmk (k+1)).2.2.2.2] at this
   show mp.weight+_+_ < mp.weight+_+_
   omega
 have less:∀ (ph':Nat→Ph) (mp':MPh),sumTo m (fun i=>(ph' i).meets) < sumTo m (fun i=>(ph i).meets)→Lex (mC F m ph',mS F m ph' mp' q) (mC F m ph,mS F m ph mp q):=fun ph' mp' hlt=>.inl (by show 3 * (F.n - m)+_ < 3 * (F.n - m)+_;omega)
 have parks:∀ (p':Ph),p'.meets=(ph j).meets→p'.weight < (ph j).weight→Lex (mC F m (upd ph j p'),mS F m (upd ph j p') mp q) (mC F m ph,mS F m ph mp q):=fun p' h1 h2=>by
  have e1:sumTo m (fun i=>(upd ph j p' i).meets)+(ph j).meets=sumTo m (fun i=>(ph i).meets)+p'.meets:=sum_upd (ph:=ph) (·.meets) hj p'
  have e2:sumTo m (fun i=>(upd ph j p' i).weight)+(ph j).weight=sumTo m (fun i=>(ph i).weight)+p'.weight:=sum_upd (ph:=ph) (·.weight) hj p'
  refine .inr ⟨?_,?_⟩
  ·show 3 * (F.n - m)+_=3 * (F.n - m)+_
   omega
  ·show mp.weight+_+_ < mp.weight+_+_
   omega
 cases hp:ph j with
 | calc0 k =>
  rw [hp] at hw
  have send:S0 F j g (own (F.b+j))→_:=fun hS=>h.send0 hfin hj hi hp hS sl
  have go:S0 F j g (own (F.b+j))→∃ gs' w' u q' ph' mp' own',runT F.P (crowd gs w sl) (F.b+j)=(.next (crowd gs' w' sl),u)∧Inv0 M gs' w' (t ++ u) q' m ph' mp' own'∧Lex (mC F m ph',mS F m ph' mp' q') (mC F m ph,mS F m ph mp q):=fun hS=>by
   obtain ⟨gs',w',u,ph',mp',h1,h2,h3⟩:=send hS
   refine ⟨gs',w',u,q,ph',mp',own,h1,h2,?_⟩
   rcases h3 with ⟨rfl,rfl⟩ | h3
   ·exact parks .off0 (by rw [hp];rfl) (by rw [hp];show 0 < k+1;omega)
   ·exact less _ _ h3
  cases k with
  | zero=>exact go hw
  | succ k =>
   rcases hw with hS | ⟨_,hw⟩
   ·exact go hS
   ·exact own_step k Ph.calc0 (S0 F j) hp (fun k=>⟨rfl,rfl,rfl,rfl,rfl⟩) (fun _ _ _=>Iff.rfl) (hw w (h.core.meets _ (.inr ⟨j,hj,rfl,by rw [hp];rfl⟩)))
 | calc1 k =>
  rw [hp] at hw
  have go:S1 F g (own (F.b+j))→∃ gs' w' u q' ph' mp' own',runT F.P (crowd gs w sl) (F.b+j)=(.next (crowd gs' w' sl),u)∧Inv0 M gs' w' (t ++ u) q' m ph' mp' own'∧Lex (mC F m ph',mS F m ph' mp' q') (mC F m ph,mS F m ph mp q):=fun hS=>by
   obtain ⟨gs',w',u,ph',mp',h1,h2,h3⟩:=h.send1 hfin hj hi hp hS sl
   refine ⟨gs',w',u,q,ph',mp',own,h1,h2,?_⟩
   rcases h3 with ⟨rfl,rfl⟩ | h3
   ·exact parks .off1 (by rw [hp];rfl) (by rw [hp];show 0 < k+1;omega)
   ·exact less _ _ h3
  cases k with
  | zero=>exact go hw
  | succ k =>
   rcases hw with hS | ⟨_,hw⟩
   ·exact go hS
   ·exact own_step k Ph.calc1 (S1 F) hp (fun k=>⟨rfl,rfl,rfl,rfl,rfl⟩) (fun _ _ _=>Iff.rfl) (hw w (h.core.meets _ (.inr ⟨j,hj,rfl,by rw [hp];rfl⟩)))
 | off0=>rw [hp] at hw;obtain ⟨g0,rfl,_⟩:=hw;cases hg
 | off1=>rw [hp] at hw;obtain ⟨g0,rfl,_⟩:=hw;cases hg
 | quit k =>
  obtain ⟨gs',u,k',h1,h2,h3⟩:=h.slipQuit hfin hj hp hi hg sl
  exact ⟨gs',w,u,q,_,mp,own,h1,h2,parks (.quit k') (by rw [hp];rfl) (by rw [hp];exact h3)⟩
variable {F:Farm} {M:Master F} {gs:Array Goroutine} {w w':World} {t:Trace} {q:Nat→Nat} {m:Nat} {ph:Nat→Ph} {mp:MPh} {own:Nat→Hold}
theorem doneOf_zero:∀ {m:Nat},(∀ i,i < m→(ph i).sent=false)→doneOf ph m=0:=by
 intro m
 induction m with
 | zero=>intro _;rfl
 | succ m ih =>
  intro h
  have hd:(ph m).done=false:=by have:=h m (Nat.lt_succ_self m);cases hp:ph m <;> simp_all [Ph.sent,Ph.done]
  show sumTo m _+(if (ph m).done then 1 else 0)=0
  rw [hd]
  have:=ih fun i hi=>h i (Nat.lt_succ_of_lt hi)
  show doneOf ph m+_=0
  rw [this];rfl
theorem Inv0.stepSpawn (h:Inv0 M gs w t q m ph mp own) {g:Goroutine} (hi:gs[0]? = some g) (hlt:m < F.n) (hs:∀ i,i < m→(ph i).sent=false) (hM:M.MS m g (own 0)) (sl:Option (Nat × Nat)) :
 ∃ gs' w' u m' ph' mp' own',runT F.P (crowd gs w sl) 0=(.next (crowd gs' w' sl),u)∧Inv0 M gs' w' (t ++ u) q m' ph' mp' own'∧mC F m' ph' < mC F m ph:=by
 obtain ⟨hrun,hsp⟩:=M.onSpawn m g (own 0) hM hlt
 obtain ⟨g',child,es,own',H,hst,hes,h1,h2,h3,⟨kw,hw⟩,h4,h5⟩:=hsp w (h.core.meets 0 (.inl rfl))
 have hr:=runT_crowd_spawn (P:=F.P) (sl:=sl) (i:=0) hi (show stepG F.P (0 == 0) g w=_ from hst)
 rw [h.size] at hr
 have hs':∀ i,i < m+1→(upd ph m (.calc0 kw) i).sent=false:=fun i hi=>by
  by_cases e:i=m
  ·subst e;rw [upd_same];rfl
  ·rw [upd_ne _ _ e];exact hs i (by omega)
 have hmok:∃ mp',MOk M (upd ph m (.calc0 kw)) mp' (m+1) g' own':=by
  rcases Nat.lt_or_ge (m+1) F.n with hlt2 | hge
  ·obtain ⟨k,hk⟩:=h4 hlt2
   exact ⟨.start (m+1) k,rfl,hlt2,hs',hk⟩
  ·have e:m+1=F.n:=by omega
   obtain ⟨k,hk⟩:=h5 e
   have hz:=doneOf_zero hs'
   exact ⟨.recv k,e,by rw [hz];omega,fun _=>false,fun i hi=>(hs' i hi).symm,by rw [hz];exact hk⟩
 obtain ⟨mp',hmok⟩:=hmok
 have hinv:=h.spawn hes h1 h2 h3 (k:=kw) hw hmok g.frame.fn g.frame.fn child.frame.fn g.frame.place g.frame.place g.frame.place
 refine ⟨_,_,_,m+1,upd ph m (.calc0 kw),mp',upd (upd own 0 own') (F.b+m) H,hr,?_,?_⟩
 ·have e:((MemOp.ofEvents 0 g.frame.fn g.frame.place es).push { g:=0,fn:=g.frame.fn,pos:=g.frame.place,act:=.go (F.b+m) }).push { g:=F.b+m,fn:=child.frame.fn,pos:=g.frame.place,act:=.start } =
   MemOp.ofEvents 0 g.frame.fn g.frame.place es ++ ([{ g:=0,fn:=g.frame.fn,pos:=g.frame.place,act:=.go (F.b+m) },{ g:=F.b+m,fn:=child.frame.fn,pos:=g.frame.place,act:=.start }]:List MemOp).toArray:=by
   apply Array.ext'
   simp
  rw [e]
  exact hinv
 ·show 3 * (F.n - (m+1))+(sumTo m (fun i=>(upd ph m (.calc0 kw) i).meets)+(upd ph m (.calc0 kw) m).meets) < 3 * (F.n - m)+sumTo m (fun i=>(ph i).meets)
  rw [upd_same,sumTo_congr (g:=fun i=>(ph i).meets) fun i hi=>by rw [upd_ne _ _ (by omega)]]
  show _+(_+2) < _
  omega
variable {F:Farm} {M:Master F} {gs:Array Goroutine} {w w':World} {t:Trace} {q:Nat→Nat} {m:Nat} {ph:Nat→Ph} {mp:MPh} {own:Nat→Hold}
theorem Inv0.goMain (h:Inv0 M gs w t q m ph mp own) (hfin:∀ g own,M.Fin g own→g.status=.running) {g g':Goroutine} {own':Hold} {es:Array Event} {mp':MPh} (hi:gs[0]? = some g) (hs:stepG F.P true g w=.go g' w' es)
 (ht:Turn F.ro (own 0) own' w w' es) (hm:MOk M ph mp' m g' own') (hlt:mp'.weight < mp.weight) (sl:Option (Nat × Nat)) :
 ∃ gs' w' u q' m' ph' mp' own',runT F.P (crowd gs w sl) 0=(.next (crowd gs' w' sl),u)∧Inv0 M gs' w' (t ++ u) q' m' ph' mp' own'∧Lex (mC F m' ph',mS F m' ph' mp' q') (mC F m ph,mS F m ph mp q):=by
 have hr:=runT_crowd_go (P:=F.P) (sl:=sl) (i:=0) hi (show stepG F.P (0 == 0) g w=_ from hs)
 have hset:=h.setMain (mp':=mp') hi ht hm g.frame.fn g.frame.place
 rw [map_woken hset.core.chans (h.all hfin)] at hr
 exact ⟨_,_,_,q,m,ph,mp',_,hr,hset,.inr ⟨rfl,by show _+_+_ < _+_+_;omega⟩⟩
theorem Inv0.stepMain (h:Inv0 M gs w t q m ph mp own) (hfin:∀ g own,M.Fin g own→g.status=.running) {g:Goroutine} (hi:gs[0]? = some g) (hg:g.status=.running) (sl:Option (Nat × Nat)) :
 ((∃ k,mp=.last k)∧M.Fin g (own 0))∨∃ gs' w' u q' m' ph' mp' own',runT F.P (crowd gs w sl) 0=(.next (crowd gs' w' sl),u)∧Inv0 M gs' w' (t ++ u) q' m' ph' mp' own'∧Lex (mC F m' ph',mS F m' ph' mp' q') (mC F m ph,mS F m ph mp q):=by
 obtain ⟨x,hx,hm⟩:=h.main
 rw [hi] at hx;cases hx
 have m0:=h.core.meets 0 (.inl rfl)
 cases mp with
 | start j k =>
  obtain ⟨rfl,hlt,hs,hw⟩:=hm
  have sp:M.MS j g (own 0)→_:=fun hM=>h.stepSpawn hi hlt hs hM sl
  have sp':M.MS j g (own 0)→∃ gs' w' u q' m' ph' mp' own',runT F.P (crowd gs w sl) 0=(.next (crowd gs' w' sl),u)∧Inv0 M gs' w' (t ++ u) q' m' ph' mp' own'∧Lex (mC F m' ph',mS F m' ph' mp' q') (mC F j ph,mS F j ph (.start j k) q):=fun hM=>by
   obtain ⟨gs',w',u,m',ph',mp',own',a,b,c⟩:=sp hM
   exact ⟨gs',w',u,q,m',ph',mp',own',a,b,.inl c⟩
  cases k with
  | zero=>exact .inr (sp' hw)
  | succ k =>
   rcases hw with hM | ⟨_,hw⟩
   ·exact .inr (sp' hM)
   ·obtain ⟨g',w',es,own',hst,ht,hk⟩:=hw w m0
    exact .inr (h.goMain hfin hi hst ht (mp':=.start j k) ⟨rfl,hlt,hs,hk⟩ (by show k+1 < k+1+1;omega) sl)
 | recv k =>
  obtain ⟨h1,h2,σ,h3,hw⟩:=hm
  have sel:M.MR σ (doneOf ph m) g (own 0)→∃ gs' w' u q' m' ph' mp' own',runT F.P (crowd gs w sl) 0=(.next (crowd gs' w' sl),u)∧Inv0 M gs' w' (t ++ u) q' m' ph' mp' own'∧Lex (mC F m' ph',mS F m' ph' mp' q') (mC F m ph,mS F m ph (.recv k) q):=fun hM=>by
   obtain ⟨gs',w',u,ph',mp',a,b,c⟩:=h.select hi h1 h2 h3 hM sl
   refine ⟨gs',w',u,q,m,ph',mp',own,a,b,?_⟩
   rcases c with ⟨rfl,rfl⟩ | c
   ·exact .inr ⟨rfl,by show 0+_+_ < k+1+_+_;omega⟩
   ·exact .inl (by show 3 * _+_ < 3 * _+_;omega)
  cases k with
  | zero=>exact .inr (sel hw)
  | succ k =>
   rcases hw with hM | ⟨_,hw⟩
   ·exact .inr (sel hM)
   ·obtain ⟨g',w',es,own',hst,ht,hk⟩:=hw w m0
    exact .inr (h.goMain hfin hi hst ht (mp':=.recv k) ⟨h1,h2,σ,h3,hk⟩ (by show k+1 < k+1+1;omega) sl)
 | wait=>obtain ⟨_,_,σ,g0,_,rfl,_⟩:=hm;cases hg
 | last k =>
  obtain ⟨h1,h2,hw⟩:=hm
  cases k with
  | zero=>exact .inl ⟨⟨_,rfl⟩,hw⟩
  | succ k =>
   rcases hw with hM | ⟨_,hw⟩
   ·exact .inl ⟨⟨_,rfl⟩,hM⟩
   ·obtain ⟨g',w',es,own',hst,ht,hk⟩:=hw w m0
    exact .inr (h.goMain hfin hi hst ht (mp':=.last k) ⟨h1,h2,hk⟩ (by show k+1 < k+1+1;omega) sl)
variable {F:Farm} {M:Master F} {gs:Array Goroutine} {w w':World} {t:Trace} {q:Nat→Nat} {m:Nat} {ph:Nat→Ph} {mp:MPh} {own:Nat→Hold}
theorem doneOf_full:∀ {m:Nat},(∀ i,i < m→(ph i).done=true)→doneOf ph m=m:=by
 intro m
 induction m with
 | zero=>intro _;rfl
 | succ m ih =>
  intro h
  show doneOf ph m+(if (ph m).done then 1 else 0)=m+1
  rw [ih fun i hi=>h i (Nat.lt_succ_of_lt hi),h m (Nat.lt_succ_self m)]
  rfl
theorem Inv0.somebody (h:Inv0 M gs w t q m ph mp own) (hfin:∀ g own,M.Fin g own→g.status=.running):∃ (i:Nat) (g:Goroutine),gs[i]? = some g∧g.status=.running:=by
 obtain ⟨g,hg,hm,hr⟩:=h.master hfin
 by_cases hw:mp=.wait
 ·subst hw
  obtain ⟨h1,h2,σ,g0,h3,rfl,h4,h5⟩:=hm
  have:∃ j,j < m∧(ph j).done=false:=Classical.byContradiction fun hno=>by
   have:doneOf ph m=m:=doneOf_full fun i hi=>by
    cases hd:(ph i).done with
    | true=>rfl
    | false=>exact absurd ⟨i,hi,hd⟩ hno
   omega
  obtain ⟨j,hj,hd⟩:=this
  obtain ⟨x,hx,hw⟩:=h.work j hj
  refine ⟨_,x,hx,?_⟩
  cases hp:ph j with
  | calc0 k=>rw [hp] at hw;exact walk_running (fun g own x=>x.1.1) hw
  | calc1 k=>rw [hp] at hw;exact walk_running (fun g own x=>x.1.1) hw
  | off0=>exact absurd hp (h5 j hj).1
  | off1=>exact absurd hp (h5 j hj).2
  | quit k=>rw [hp] at hd;cases hd
 ·exact ⟨0,g,hg,hr hw⟩
theorem Inv0.step (h:Inv0 M gs w t q m ph mp own) (hfin:∀ g own,M.Fin g own→g.status=.running) (sl:Option (Nat × Nat)) :
 ((∃ k,mp=.last k)∧∃ g,gs[0]? = some g∧M.Fin g (own 0))∨∃ gs' w' sl' u q' m' ph' mp' own',stepT F.P (crowd gs w sl)=(.next (crowd gs' w' sl'),u)∧Inv0 M gs' w' (t ++ u) q' m' ph' mp' own'∧Lex (mC F m' ph',mS F m' ph' mp' q') (mC F m ph,mS F m ph mp q):=by
 obtain ⟨i,g,d,sl',hi,hg,hst⟩:=crowd_pick (P:=F.P) (w:=w) (sl:=sl) (fun x hx=>by
  obtain ⟨i,hi,rfl⟩:=Array.mem_iff_getElem.1 hx
  exact seen_awake (h.all hfin i _ (Array.getElem?_eq_getElem hi))) (h.somebody hfin)
 have hd:=h.at d
 rcases h.who hi with rfl | ⟨h0,hb,_⟩ | ⟨j,hj,rfl,_⟩
 ·rcases hd.stepMain hfin hi hg sl' with ⟨a,b⟩ | ⟨gs',w',u,q',m',ph',mp',own',a,b,c⟩
  ·exact .inl ⟨a,g,hi,b⟩
  ·exact .inr ⟨gs',w',sl',u,q',m',ph',mp',own',hst.trans a,b,c⟩
 ·obtain ⟨gs',u,q',a,b,c⟩:=hd.slipOld hfin h0 hb hi hg sl'
  exact .inr ⟨gs',_,sl',u,q',m,ph,mp,own,hst.trans a,b,.inr ⟨rfl,by show _+_+_ < _+_+_;omega⟩⟩
 ·obtain ⟨gs',w',u,q',ph',mp',own',a,b,c⟩:=hd.stepWork hfin hj hi hg sl'
  exact .inr ⟨gs',w',sl',u,q',m,ph',mp',own',hst.trans a,b,c⟩
theorem lex_wf:WellFounded Lex:=by
 have h:Lex=(fun a b=>Prod.Lex (· < ·) (· < ·) a b):=by
  funext a b
  obtain ⟨a1,a2⟩:=a
  obtain ⟨b1,b2⟩:=b
  apply propext
  constructor
  ·rintro (h | ⟨h1,h2⟩)
   ·exact .left _ _ h
   ·simp only at h1;subst h1;exact .right _ h2
  ·intro h
   cases h with
   | left _ _ h=>exact .inl h
   | right _ h=>exact .inr ⟨rfl,h⟩
 rw [h]
 exact (Prod.lex Nat.lt_wfRel Nat.lt_wfRel).wf
theorem Inv0.run (hfin:∀ g own,M.Fin g own→g.status=.running):∀ (μ:Nat × Nat) (gs:Array Goroutine) (w:World) (sl:Option (Nat × Nat)) (t:Trace) (q:Nat→Nat) (m:Nat) (ph:Nat→Ph) (mp:MPh) (own:Nat→Hold),Inv0 M gs w t q m ph mp own→(mC F m ph,mS F m ph mp q)=μ →
 ∃ N gs' w' sl' t' q' m' ph' k own',runNT F.P N (crowd gs w sl) t=(.next (crowd gs' w' sl'),t')∧Inv0 M gs' w' t' q' m' ph' (.last k) own'∧∃ g,gs'[0]? = some g∧M.Fin g (own' 0):=by
 intro μ
 induction μ using lex_wf.induction with
 | _ μ ih =>
  intro gs w sl t q m ph mp own h hμ
  rcases h.step hfin sl with ⟨⟨k,rfl⟩,hF⟩ | ⟨gs',w',sl',u,q',m',ph',mp',own',hs,hi,hl⟩
  ·exact ⟨0,gs,w,sl,t,q,m,ph,k,own,rfl,h,hF⟩
  ·obtain ⟨N,gs2,w2,sl2,t2,q2,m2,ph2,k,own2,hr,hi2,hF⟩:=ih _ (hμ ▸ hl) gs' w' sl' (t ++ u) q' m' ph' mp' own' hi rfl
   exact ⟨N+1,gs2,w2,sl2,t2,q2,m2,ph2,k,own2,by simp only [runNT,hs];exact hr,hi2,hF⟩
theorem farm_leads (F:Farm) (M:∀ b,Master { F with b:=b }) {fr:Frame} {cs:List Frame} {w:World} {own0:Hold} {Z:Frame→List Frame→Hold→Prop}
 (hfin:∀ b g own,(M b).Fin g own→∃ fr cs,g=G fr cs∧Z fr cs own) (hn:0 < F.n) (hW:∀ b,∃ k,Walk F.P true F.ro ((M b).MS 0) k (G fr cs) own0)
 (hm:Meets w own0 F.ro) (ho:Open F w) (two:F.cO≠F.cD) (free:own0 F.cO=none∧own0 F.cD=none) (roFree:F.ro F.cO=none∧F.ro F.cD=none) (rest:w.os=F.os∧w.tape=F.tape∧w.output=F.out∧F.lo≤w.heap.size) :
 Leads F.P (fun fr' cs' w'=>∃ own',Meets w' own' F.ro∧(w'.os=F.os∧w'.tape=F.tape∧w'.output=F.out∧F.lo≤w'.heap.size)∧Z fr' cs' own') fr cs w:=by
 intro gs sl t q hc
 have hlt:0 < gs.size:=(Array.getElem?_eq_some_iff.1 hc.at0).1
 obtain ⟨k,hk⟩:=hW gs.size
 have hrun:∀ g own,(M gs.size).Fin g own→g.status=.running:=fun g own hf=>by
  obtain ⟨fr,cs,rfl,_⟩:=hfin gs.size g own hf
  rfl
 have hact:∀ g,ActW { F with b:=gs.size } (fun _=>Ph.quit 0) 0 g↔g=0:=fun g=>by
  constructor
  ·rintro (h | ⟨j,hj,_⟩)
   ·exact h
   ·omega
  ·exact .inl
 have hcore:Core { F with b:=gs.size } (·=0) w t (fun _=>own0) :=
  ⟨FT.of_past hc.past _ _,fun a b r ha hb _ _=>ha.trans hb.symm,fun g _=>hm,ho,two,fun g _=>free,roFree,rest⟩
 have hinv:Inv0 (M gs.size) gs w t q 0 (fun _=>Ph.quit 0) (.start 0 k) (fun _=>own0) :=
  ⟨rfl,hlt,fun i g hi hb hx=>hc.leav.old i g hi hx,fun j hj=>absurd hj (Nat.not_lt_zero _),⟨_,hc.at0,rfl,hn,fun i hi=>absurd hi (Nat.not_lt_zero _),hk⟩,hcore.congr hact,fun j hj=>hc.leav.above j hj⟩
 obtain ⟨N,gs',w',sl',t',q',m',ph',k',own',hr,hi,g,hg,hF⟩:=Inv0.run hrun _ gs w sl t q 0 _ _ _ hinv rfl
 obtain ⟨fr',cs',rfl,hZ⟩:=hfin _ _ _ hF
 obtain ⟨x,hx,hmn,hall,_⟩:=hi.main
 have hA:∀ g,ActW { F with b:=gs.size } ph' m' g→g=0:=fun g hg=>by
  rcases hg with h | ⟨j,hj,_,hd⟩
  ·exact h
  ·rw [hall j hj] at hd;cases hd
 let q2:Nat→Nat:=fun i=>if i < gs.size then q' i else match ph' (i - gs.size) with | .quit k=>k | _=>0
 refine ⟨N,gs',w',sl',t',q2,fr',cs',hr,⟨hg,⟨fun i g hi0 hgi=>?_,fun j hj=>?_⟩,hi.core.trace.past (.inl rfl) hA⟩,own' 0,hi.core.meets 0 (.inl rfl),hi.core.rest,hZ⟩
 ·rcases hi.who hgi with h0 | ⟨_,hb,hq⟩ | ⟨j,hj,rfl,hw⟩
  ·omega
  ·show QuitsD F.P (if i < gs.size then _ else _) _ _
   rw [if_pos hb];exact hq
  ·have hd:=hall j hj
   have hdf:=hi.deaf (gs.size+j) (Nat.le_add_right _ _)
   show QuitsD F.P (if gs.size+j < gs.size then _ else match ph' (gs.size+j - gs.size) with | .quit k=>k | _=>0) (Deaf t' (gs.size+j)) g
   rw [if_neg (by omega),Nat.add_sub_cancel_left,hdf]
   cases hp:ph' j with
   | quit k=>rw [hp] at hw;exact QuitsD.of_quitsIn hw
   | _=>rw [hp] at hd;cases hd
 ·exact hi.deaf j (by have:=hi.size;simp only at this ⊢;omega)
end Go.Proofs.YtfggbepickdokaaGreatDoor.Mt
