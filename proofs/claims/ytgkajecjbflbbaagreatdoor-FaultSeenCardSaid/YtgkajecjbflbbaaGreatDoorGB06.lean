/- the fault laws -/
import Derived.Test.YtgkajecjbflbbaaGreatDoorGB05
set_option maxHeartbeats 200000
set_option maxRecDepth 100000
set_option linter.all false
namespace Go.Proofs.YtgkajecjbflbbaaGreatDoor
namespace Mt
open Go Go.Conc Mob
open Go.ConcN (sumTo upd sumTo_upd upd_ne upd_same sumTo_congr)
inductive Ph where
 | walk (k:Nat) | blk | quit (q:Nat)
def Ph.fuel:Ph->Nat
 | .walk k=>k
 | .blk=>0
 | .quit q=>q
def Ph.tries:Ph->Nat
 | .walk _=>1
 | _=>0
structure Gh where
 q:Nat->Nat
 m:Nat
 th:Nat->Th
 s:Mob.Sh
 M:MTh
 own:Nat->Hold
 ph:Nat->Ph
 mp:Ph
def stop (g:Goroutine):Goroutine:={ g with status:=.blocked }
def sigOf (m:Nat) (th:Nat->Th):Nat->Bool:=fun i=>decide (i < m) && past (th i)
def freeOf (m:Nat) (th:Nat->Th):Prop:=∀ i,i < m->holds (th i)=false
open Classical in
noncomputable def freeB (m:Nat) (th:Nat->Th):Bool:=decide (freeOf m th)
variable (F:Mill) (Fin:Goroutine->Hold->Prop)
def Gh.mea (c:Gh):Nat:=Mob.mea F.n c.m c.th c.s c.M
def WOk (μ:Nat) (j:Nat) (T:Th) (sig:Nat->Bool) (df:Nat):Ph->Goroutine->Hold->Prop
 | .walk k,g,own=>∃ d σ,μ<=d/\(holds T=true->σ=sig)/\T.pc≠.quit/\if mute T=true then SWalk F.P F.E (fun g=>AtD F (d+1) j T σ g none_) k g else Walk F.P false F.ro F.E (AtD F (d+1) j T σ) k g own
 | .blk,g,own=>∃ d σ g0,μ<=d/\T.pc=.s1/\g=stop g0/\AtD F (d+1) j T σ g0 own
 | .quit q,g,own=>T.pc=.quit/\QuitsD F.P q df g
def MOk (μ:Nat) (m:Nat) (M:MTh):Ph->Goroutine->Hold->Prop
 | .walk k,g,own=>∃ d,μ<=d/\M.pc≠.fin/\Walk F.P true F.ro F.E (AtM F Fin (d+1) m M) k g own
 | .blk,g,own=>∃ d g0,μ<=d/\M.pc=.w3/\g=stop g0/\AtM F Fin (d+1) m M g0 own
 | .quit _,_,_=>False
def StM (m:Nat) (g:Nat):Prop:=g=0\/∃ j,j < m/\g=F.b+j
def ActM (m:Nat) (th:Nat->Th) (g:Nat):Prop:=g=0\/∃ j,j < m/\g=F.b+j/\mute (th j)=false
structure Core (c:Gh) (w:World) (t:Trace):Prop where
 trace:MT F.Mu F.Wg F.C F.D F.T0 t w.heap.size (StM F c.m) (ActM F c.m c.th) c.own F.ro (freeB c.m c.th)
 sep:Sep (ActM F c.m c.th) c.own
 meets:∀ g,ActM F c.m c.th g->Meets w (c.own g) F.ro
 ownS:∀ g,ActM F c.m c.th g->c.own g F.Mu=none/\c.own g F.Wg=none
 roS:F.ro F.Mu=none/\F.ro F.Wg=none/\F.ro F.C=none
 two:F.C≠F.Mu/\F.C≠F.Wg/\F.Mu≠F.Wg
 dead:F.D F.Wg
 sh:F.Sh w c.s
 cont:freeOf c.m c.th->(∃ o,w.heap[F.C]? = some o/\F.KI (sigOf c.m c.th) o)/\∀ g,ActM F c.m c.th g->c.own g F.C=none
 rest:Tos F.tape F.os w/\w.output=F.out/\F.lo<=w.heap.size/\F.C < w.heap.size
 t0:F.T0<=t.size
 kept:Holds w F.keep/\∀ r,keyOf F.keep r->r≠F.Mu/\r≠F.Wg/\r≠F.C/\∀ g,ActM F c.m c.th g->c.own g r=none
structure Inv1 (gs:Array Goroutine) (w:World) (t:Trace) (c:Gh):Prop where
 size:gs.size=F.b+c.m
 base:0 < F.b
 old:∀ i g,0 < i->i < F.b->gs[i]? = some g->QuitsD F.P (c.q i) (Deaf t i) g
 auto:Mob.Inv F.n c.m c.th c.s c.M
 oldc:∀ i,i < c.m->(c.th i).old.c<=F.n
 mvo:c.M.vo<=F.n+1
 work:∀ j,j < c.m->∃ g,gs[F.b+j]? = some g/\WOk F (c.mea F) j (c.th j) (sigOf c.m c.th) (Deaf t (F.b+j)) (c.ph j) g (c.own (F.b+j))
 main:∃ g,gs[0]? = some g/\MOk F Fin (c.mea F) c.m c.M c.mp g (c.own 0)
 core:Core F c w t
 deafW:∀ j,j < c.m->(c.th j).pc≠.quit->Deaf t (F.b+j)=deaf (c.th j)
 deaf0:Deaf t 0=deafM c.M
 above:∀ j,F.b+c.m<=j->Deaf t j=0
 blkW:∀ j,j < c.m->c.ph j=.blk->c.s.ms=0
 blkM:c.mp=.blk->c.s.ws=0
structure Over (gs:Array Goroutine) (w:World) (t:Trace):Prop where
 main:∃ g own,gs[0]? = some g/\Fin g own/\Meets w own F.ro
 leav:∃ q,Leavers F.P t gs q
 past:Past (shunD F.D) w.heap.size t
 rest:Tos F.tape F.os w/\w.output=F.out/\F.lo<=w.heap.size
 kept:Holds w F.keep
 sh:F.E w
section
variable {F:Mill} {Fin:Goroutine->Hold->Prop} {gs:Array Goroutine} {w w':World} {t:Trace} {c:Gh}
theorem free_iff {m:Nat} {th:Nat->Th}:freeB m th=true↔freeOf m th:=by unfold freeB;simp
theorem swalk_running {P:Program} {E:World->Prop} {Stop:Goroutine->Prop} (hS:∀ g,Stop g->g.status=.running) {k:Nat} {g:Goroutine} (h:SWalk P E Stop k g):g.status=.running:=by
 cases k with
 | zero=>exact hS _ h
 | succ k=>exact h.elim (hS _) fun x=>x.1
theorem walk_running {P:Program} {main:Bool} {ro:Hold} {E:World->Prop} {Stop:Goroutine->Hold->Prop} (hS:∀ g own,Stop g own->g.status=.running) {k:Nat} {g:Goroutine} {own:Hold} (h:Walk P main ro E Stop k g own):g.status=.running:=by
 cases k with
 | zero=>exact hS _ _ h
 | succ k=>exact h.elim (hS _ _) fun x=>x.1
def Seen (g:Goroutine):Prop:=g.status=.running\/g.status=.finished\/∃ g0,g=stop g0/\g0.status=.running/\g0.offers=none
theorem WOk.seen {μ j df:Nat} {T:Th} {sig:Nat->Bool} {p:Ph} {g:Goroutine} {o:Hold} (h:WOk F μ j T sig df p g o):Seen g:=by
 cases p with
 | walk k =>
  obtain ⟨d,σ,_,_,_,h⟩:=h;by_cases hm:mute T=true
  ·rw [if_pos hm] at h;exact .inl (swalk_running (fun g x=>x.run) h)
  ·rw [if_neg hm] at h;exact .inl (walk_running (fun g o x=>x.run) h)
 | blk=>obtain ⟨d,σ,g0,_,_,rfl,h⟩:=h;exact .inr (.inr ⟨g0,rfl,h.run,h.off⟩)
 | quit q=>exact (QuitsD.status h.2).elim .inl fun x=>.inr (.inl x)
theorem MOk.seen {μ m:Nat} {M:MTh} {p:Ph} {g:Goroutine} {o:Hold} (h:MOk F Fin μ m M p g o):Seen g:=by
 cases p with
 | walk k=>obtain ⟨d,_,_,h⟩:=h;exact .inl (walk_running (fun g o x=>x.run) h)
 | blk=>obtain ⟨d,g0,_,_,rfl,h⟩:=h;exact .inr (.inr ⟨g0,rfl,h.run,h.off⟩)
 | quit q=>exact h.elim
theorem Inv1.who (h:Inv1 F Fin gs w t c) {i:Nat} {g:Goroutine} (hi:gs[i]? = some g):i=0\/(0 < i/\i < F.b/\QuitsD F.P (c.q i) (Deaf t i) g)\/∃ j,j < c.m/\i=F.b+j/\WOk F (c.mea F) j (c.th j) (sigOf c.m c.th) (Deaf t (F.b+j)) (c.ph j) g (c.own (F.b+j)):=by
 rcases Nat.eq_zero_or_pos i with rfl | hpos
 ·exact .inl rfl
 ·rcases Nat.lt_or_ge i F.b with hlt | hge
  ·exact .inr (.inl ⟨hpos,hlt,h.old i g hpos hlt hi⟩)
  ·have hlt:i < gs.size:=(Array.getElem?_eq_some_iff.1 hi).1;rw [h.size] at hlt;obtain ⟨x,hx,hw⟩:=h.work (i - F.b) (by omega);rw [show F.b+(i - F.b)=i by omega] at hx;rw [hi] at hx;cases hx;exact .inr (.inr ⟨i - F.b,by omega,by omega,hw⟩)
theorem Inv1.all (h:Inv1 F Fin gs w t c):∀ (i:Nat) (x:Goroutine),gs[i]? = some x->Seen x:=by
 intro i x hx;rcases h.who hx with rfl | ⟨_,_,hq⟩ | ⟨j,_,_,hw⟩
 ·obtain ⟨g,hg,hm⟩:=h.main;rw [hg] at hx;cases hx;exact hm.seen
 ·exact hq.status.elim .inl fun y=>.inr (.inl y)
 ·exact hw.seen
theorem seen_awake {x:Goroutine} (h:Seen x):awake x:=by
 rcases h with h | h | ⟨g0,rfl,_⟩
 ·exact awake_of (.inl h)
 ·exact awake_of (.inr (.inr h))
 ·exact awake_of (.inr (.inl rfl))
end
def wakes (P:Program) (a a':Goroutine):Bool:=mayWake P a && a'.status != .blocked && a'.status != .waiting
def wk (b:Bool):Ph->Ph
 | .blk=>if b then .walk 0 else .blk
 | p=>p
theorem wk_fuel (b:Bool) (p:Ph):(wk b p).fuel=p.fuel:=by cases p <;> cases b <;> rfl
theorem wk_blk {b:Bool} {p:Ph} (h:wk b p=.blk):b=false/\p=.blk:=by cases p <;> cases b <;> simp_all [wk]
section
variable {F:Mill} {Fin:Goroutine->Hold->Prop} {gs:Array Goroutine} {w w':World} {t:Trace} {c:Gh} {a a' x:Goroutine} {μ μ' j df m:Nat} {T:Th} {M:MTh} {sig sig':Nat->Bool} {p:Ph} {o:Hold}
theorem stop_woken {P:Program} {g0:Goroutine} (h1:g0.status=.running) (h2:g0.offers=none):woken P a a' w' (stop g0)=if wakes P a a' then g0 else stop g0:=by
 unfold Go.Conc.woken wakes;obtain ⟨f,cs,st,dy,of⟩:=g0;simp only at h1 h2;subst h1 h2;split <;> rfl
theorem run_woken {P:Program} (h:x.status=.running\/x.status=.finished):woken P a a' w' x=x:=by
 rcases h with h | h
 ·exact woken_run h
 ·unfold Go.Conc.woken;split
  ·simp [Goroutine.again,h]
  ·rfl
theorem WOk.wake (h:WOk F μ j T sig df p x o):WOk F μ j T sig df (wk (wakes F.P a a') p) (woken F.P a a' w' x) o:=by
 cases p with
 | walk k =>
  rw [run_woken]
  ·exact h
  ·rcases h.seen with h1 | h1 | ⟨g0,rfl,_⟩
   ·exact .inl h1
   ·exact .inr h1
   ·obtain ⟨d,σ,_,_,_,h⟩:=h;have:(stop g0).status=.running:=by
     by_cases hm:mute T=true
     ·rw [if_pos hm] at h;exact swalk_running (fun g x=>x.run) h
     ·rw [if_neg hm] at h;exact walk_running (fun g o x=>x.run) h
    exact .inl this
 | blk =>
  obtain ⟨d,σ,g0,h1,h2,rfl,h3⟩:=h;rw [stop_woken h3.run h3.off]
  cases hb:wakes F.P a a' with
  | false=>exact ⟨d,σ,g0,h1,h2,rfl,h3⟩
  | true=>exact ⟨d,σ,h1,fun e=>by simp [holds,h2] at e,by rw [h2];simp,by simp only [mute,h2];exact h3⟩
 | quit q =>
  rw [run_woken (QuitsD.status h.2)];exact h
theorem MOk.wake (h:MOk F Fin μ m M p x o):MOk F Fin μ m M (wk (wakes F.P a a') p) (woken F.P a a' w' x) o:=by
 cases p with
 | walk k =>
  rw [run_woken]
  ·exact h
  ·obtain ⟨d,_,_,h⟩:=h;exact .inl (walk_running (fun g o x=>x.run) h)
 | blk =>
  obtain ⟨d,g0,h1,h2,rfl,h3⟩:=h;rw [stop_woken h3.run h3.off]
  cases hb:wakes F.P a a' with
  | false=>exact ⟨d,g0,h1,h2,rfl,h3⟩
  | true=>exact ⟨d,h1,by rw [h2];simp,h3⟩
 | quit q=>exact h.elim
theorem WOk.low (h:WOk F μ j T sig df p x o) (hμ:μ'<=μ) (hs:holds T=true->sig'=sig) {df':Nat} (hd:df'=df):WOk F μ' j T sig' df' p x o:=by
 subst hd
 cases p with
 | walk k=>obtain ⟨d,σ,h1,h2,h3⟩:=h;exact ⟨d,σ,by omega,fun e=>by rw [hs e];exact h2 e,h3⟩
 | blk=>obtain ⟨d,σ,g0,h1,h2⟩:=h;exact ⟨d,σ,g0,by omega,h2⟩
 | quit q=>exact h
theorem MOk.low (h:MOk F Fin μ m M p x o) (hμ:μ'<=μ):MOk F Fin μ' m M p x o:=by
 cases p with
 | walk k=>obtain ⟨d,h1,h2⟩:=h;exact ⟨d,by omega,h2⟩
 | blk=>obtain ⟨d,g0,h1,h2⟩:=h;exact ⟨d,g0,by omega,h2⟩
 | quit q=>exact h
theorem act_st {m:Nat} {th:Nat->Th} {g:Nat} (h:ActM F m th g):StM F m g:=by
 rcases h with h | ⟨j,h1,h2,_⟩
 ·exact .inl h
 ·exact .inr ⟨j,h1,h2⟩
theorem Core.apt (h:Core F c w t):Apt F.Mu F.Wg F.C w.heap.size (StM F c.m) (ActM F c.m c.th) c.own F.ro (freeB c.m c.th) :=
 ⟨fun g hg=>act_st hg,h.sep,h.ownS,⟨h.roS.1,h.roS.2.1⟩,fun g r hg ⟨o,ho⟩=>(h.meets g hg).apart r o ho,fun g r hg hr=>(h.meets g hg).mine.lt hr,h.rest.2.2.2,h.two,h.roS.2.2,
   fun hf g hg=>(h.cont (free_iff.1 hf)).2 g hg⟩
theorem Core.lt (h:Core F c w t):F.Mu < w.heap.size/\F.Wg < w.heap.size:=⟨(Array.getElem?_eq_some_iff.1 h.sh.1).1,(Array.getElem?_eq_some_iff.1 h.sh.2).1⟩
theorem Core.at (h:Core F c w t) (d:Nat):Core F c (w.at d) t :=
 ⟨h.trace,h.sep,fun g hg=>⟨(h.meets g hg).mine,(h.meets g hg).shared,(h.meets g hg).apart⟩,h.ownS,h.roS,h.two,h.dead,h.sh,h.cont,h.rest,h.t0,h.kept⟩
theorem Core.turn (h:Core F c w t) {x:Nat} (hx:ActM F c.m c.th x) {own':Hold} {es:Array Event} (ht:Turn F.ro (c.own x) own' w w' es) (fn:FuncId) (pos:String) {q:Nat->Nat} {M:MTh} {ph:Nat->Ph} {mp:Ph} :
 Core F ⟨q,c.m,c.th,c.s,M,upd c.own x own',ph,mp⟩ w' (t ++ MemOp.ofEvents x fn pos es):=by
 have hlt:=h.lt;have old:∀ r,c.own x r=none->r < w.heap.size->w'.heap[r]? = w.heap[r]? := fun r hr hl=>ht.kept r hl (not_key hr);have fresh:∀ r,c.own x r=none->r < w.heap.size->own' r=none:=fun r hr hl=>key_none fun hk=>by
  rcases ht.keys r hk with hk | hk
  ·exact not_key hr hk
  ·omega
 refine ⟨h.trace.turn h.apt hx (fun r hr=>hr) hlt (fun r ⟨o,ho⟩=>ht.holds.apart r o ho) (fun r hr=>(h.meets x hx).shared.lt hr) ht fn pos,fun a b r ha hb hka hkb=>?_,fun a ha=>?_,fun a ha=>?_,h.roS,h.two,h.dead,?_,fun hf=>?_,⟨(Tos.same ht.rest.2.1 ht.rest.1).trans h.rest.1,ht.rest.2.2.trans h.rest.2.1,Nat.le_trans h.rest.2.2.1 ht.size,Nat.lt_of_lt_of_le h.rest.2.2.2 ht.size⟩,by simp only [Array.size_append];exact Nat.le_trans h.t0 (Nat.le_add_right _ _),fun r o hr=>?_,fun r hr=>?_⟩
 ·by_cases e1:a=x
  ·by_cases e2:b=x
   ·rw [e1,e2]
   ·subst e1;simp only [upd_same] at hka;simp only [upd_ne _ _ e2] at hkb;rcases ht.keys r hka with hk | hk
    ·exact h.sep _ _ r hx hb hk hkb
    ·exact absurd ((h.meets b hb).mine.lt hkb) (by omega)
  ·simp only [upd_ne _ _ e1] at hka;by_cases e2:b=x
   ·subst e2;simp only [upd_same] at hkb;rcases ht.keys r hkb with hk | hk
    ·exact h.sep _ _ r ha hx hka hk
    ·exact absurd ((h.meets a ha).mine.lt hka) (by omega)
   ·simp only [upd_ne _ _ e2] at hkb;exact h.sep _ _ r ha hb hka hkb
 ·by_cases e:a=x
  ·subst e;simp only [upd_same];exact ht.holds
  ·simp only [upd_ne _ _ e];refine ⟨fun r o hr=>?_,ht.holds.shared,(h.meets a ha).apart⟩;have hl:=(h.meets a ha).mine.lt ⟨o,hr⟩;rw [ht.kept r hl fun hk=>e (h.sep a x r ha hx ⟨o,hr⟩ hk)];exact (h.meets a ha).mine r o hr
 ·by_cases e:a=x
  ·subst e;simp only [upd_same];exact ⟨fresh _ (h.ownS a ha).1 hlt.1,fresh _ (h.ownS a ha).2 hlt.2⟩
  ·simp only [upd_ne _ _ e];exact h.ownS a ha
 ·exact ⟨(old _ (h.ownS x hx).1 hlt.1).trans h.sh.1,(old _ (h.ownS x hx).2 hlt.2).trans h.sh.2⟩
 ·obtain ⟨⟨o,ho,hk⟩,hn⟩:=h.cont hf;refine ⟨⟨o,(old _ (hn x hx) h.rest.2.2.2).trans ho,hk⟩,fun a ha=>?_⟩;by_cases e:a=x
  ·subst e;simp only [upd_same];exact fresh _ (hn a ha) h.rest.2.2.2
  ·simp only [upd_ne _ _ e];exact hn a ha
 ·exact (old r ((h.kept.2 r ⟨o,hr⟩).2.2.2 x hx) (Array.getElem?_eq_some_iff.1 (h.kept.1 r o hr)).1).trans (h.kept.1 r o hr)
 ·obtain ⟨k1,k2,k3,k4⟩:=h.kept.2 r hr;refine ⟨k1,k2,k3,fun a ha=>?_⟩;by_cases e:a=x
  ·subst e;simp only [upd_same];exact fresh r (k4 a ha) (h.kept.1.lt hr)
  ·simp only [upd_ne _ _ e];exact k4 a ha
theorem Core.mutes (h:Core F c w t) {x:Nat} {es:Array Event} (hm:∀ e∈es,e.mute=true) (fn:FuncId) (pos:String) {q:Nat->Nat} {ph:Nat->Ph} {mp:Ph} {M:MTh} :
 Core F ⟨q,c.m,c.th,c.s,M,c.own,ph,mp⟩ w (t ++ MemOp.ofEvents x fn pos es):=by
 have hnr:∀ op∈MemOp.ofEvents x fn pos es,(∀ a,op.act≠.mark (.release a)):=fun op hop a=>by
  obtain ⟨e,he,rfl⟩:=Go.Conc.mem_ofEvents hop;have:=hm e he;obtain ⟨loc,wr,sy⟩:=e;rintro e
  cases loc with
  | mark m=>cases m <;> simp_all [Event.mute,MemAct.ofEvent]
  | _=>simp_all [Event.mute]
 have hold:∀ i a,touchAt (t ++ MemOp.ofEvents x fn pos es) i=some a->touchAt t i=some a/\i < t.size:=fun i a ha=>by
  obtain ⟨op,ho,hox⟩:=touch_of ha;rcases getElem?_append_cases ho with ⟨hi,ho'⟩ | ⟨hi,hou⟩
  ·exact ⟨by rw [touchAt_of ho'];exact hox,hi⟩
  ·obtain ⟨e,he,rfl⟩:=Go.Conc.mem_ofEvents hou;rw [touch_mute (hm e he)] at hox;cases hox
 refine ⟨?_,h.sep,h.meets,h.ownS,h.roS,h.two,h.dead,h.sh,h.cont,h.rest,by simp only [Array.size_append];exact Nat.le_trans h.t0 (Nat.le_add_right _ _),h.kept⟩;refine ⟨fun said=>noRace_append (g:=x) (h.trace.clean said) (fun op hop=>by obtain ⟨e,_,rfl⟩:=Go.Conc.mem_ofEvents hop;rfl) (fun i a ha op hop b hb _=>by obtain ⟨e,he,rfl⟩:=Go.Conc.mem_ofEvents hop;rw [touch_mute (hm e he)] at hb;cases hb),
  fun i a r ha hr g hg hk=>(h.trace.mine i a r (hold i a ha).1 hr g hg hk).app _,fun i a r ha hr hw hk g hg=>(h.trace.shared i a r (hold i a ha).1 hr hw hk g hg).app _,fun i a r ha hr hs=>?_,fun hf i a ha hc=>?_,fun i a ha hm=>?_,fun k hk=>?_,fun op hop=>?_⟩
 ·obtain ⟨ha',hi⟩:=hold i a ha;rcases h.trace.sync i a r ha' hr hs with ⟨h1,h2⟩ | hall
  ·exact .inl ⟨h1,fun e=>by rw [g?_old hi];exact h2 e⟩
  ·exact .inr fun g hg=>(hall g hg).app _
 ·obtain ⟨ha',hi⟩:=hold i a ha;rcases h.trace.loose hf i a ha' hc with hkn | ⟨p,h0,h1,h2,h3⟩
  ·exact .inl fun g hg=>(hkn g hg).app _
  ·have hp:=lt_of_act? h1;exact .inr ⟨p,h0,by rw [act?_old hp];exact h1,(heard_old hp).2 h2,h3.app _⟩
 ·obtain ⟨ha',hi⟩:=hold i a ha;rcases h.trace.known i a ha' hm with hkn | ⟨x,hx0,hx,hxg⟩ | ⟨h1,h2,h3⟩ | ⟨p,h0,h1,h2,h3⟩
  ·exact .inl (hkn.app _)
  ·exact .inr (.inl ⟨x,hx0,hx,by rw [g?_old hi];exact hxg⟩)
  ·exact .inr (.inr (.inl ⟨h1,h2,fun e=>h3 ((heard_old hi).1 e)⟩))
  ·have hp:=lt_of_act? h1;exact .inr (.inr (.inr ⟨p,h0,by rw [act?_old hp];exact h1,(heard_old hp).2 h2,h3.app _⟩))
 ·have key:∀ a,(t ++ MemOp.ofEvents x fn pos es).act? k=some (.mark (.release a))->t.act? k=some (.mark (.release a)):=fun a e=>by
   obtain ⟨op,ho,hoa⟩:=Option.map_eq_some_iff.1 e;rcases getElem?_append_cases ho with ⟨hi,ho2⟩ | ⟨hi,hou⟩
   ·rw [act?_of ho2,hoa]
   ·exact absurd hoa (hnr op hou a)
  exact ⟨fun e=>(h.trace.norel k hk).1 (key _ e),fun e=>(h.trace.norel k hk).2 (key _ e)⟩
 ·rcases Array.mem_append.1 hop with hop | hop
  ·exact h.trace.seen op hop
  ·obtain ⟨e,he,rfl⟩:=Go.Conc.mem_ofEvents hop;exact low_mute (hm e he) _
end
theorem hd_kind (T:Th):mute (hd T)=false/\holds (hd T)=false/\past (hd T)=false:=by unfold hd;split <;> exact ⟨rfl,rfl,rfl⟩
theorem uh_kind (T:Th):mute (uh T)=false/\holds (uh T)=false/\past (uh T)=true:=by unfold uh;split <;> exact ⟨rfl,rfl,rfl⟩
theorem mv_kind {T T':Th} {s s':Mob.Sh} (hm:(T',s')∈mv T s) (h1:T.pc≠.la) (h2:T.pc≠.ur) (h3:T.pc≠.wr):mute T'=mute T/\holds T'=holds T/\past T'=past T:=by
 obtain ⟨pc,old,aw,sv,it,ws⟩:=T;cases pc <;> simp only [mv] at hm
 case la=>exact absurd rfl h1
 case ur=>exact absurd rfl h2
 case wr=>exact absurd rfl h3
 all_goals (repeat' split at hm)
 all_goals simp only [List.mem_cons,List.mem_singleton,List.not_mem_nil,or_false,Prod.mk.injEq,List.append_nil,List.mem_append] at hm
 all_goals first
  | exact hm.elim
  | (rcases hm with ⟨rfl,rfl⟩ | ⟨rfl,rfl⟩ <;> first | exact ⟨rfl,rfl,rfl⟩ | (split <;> exact ⟨rfl,rfl,rfl⟩) | (refine ⟨?_,?_,?_⟩ <;> simp [mute,holds,past] <;> split <;> rfl))
  | (obtain ⟨rfl,rfl⟩:=hm;first | exact ⟨rfl,rfl,rfl⟩ | exact hd_kind _ | exact uh_kind _ | (refine ⟨?_,?_,?_⟩ <;> simp [mute,holds,past] <;> split <;> rfl))
theorem upd_eq {α:Type} {f:Nat->α} {j:Nat} {v:α} (φ:α->Bool) (h:φ v=φ (f j)) (i:Nat):φ (upd f j v i)=φ (f i):=by
 by_cases e:i=j
 ·subst e;rw [upd_same];exact h
 ·rw [upd_ne _ _ e]
section
variable {F:Mill} {Fin:Goroutine->Hold->Prop} {w w':World} {t:Trace} {c:Gh} {j:Nat} {T':Th} {s':Mob.Sh} {es:Array Event} {own own' ro:Hold} {m:Nat} {th th':Nat->Th}
theorem Meets.eff {Mu Wg:Nat} (h:Meets w own ro) (e:Eff Mu Wg w w') (h1:own Mu=none/\own Wg=none) (h2:ro Mu=none/\ro Wg=none):Meets w' own ro:=by
 refine ⟨fun r o hr=>?_,fun r o hr=>?_,h.apart⟩
 ·rw [e.block r (fun x=>by rw [x,h1.1] at hr;cases hr) (fun x=>by rw [x,h1.2] at hr;cases hr)];exact h.mine r o hr
 ·rw [e.block r (fun x=>by rw [x,h2.1] at hr;cases hr) (fun x=>by rw [x,h2.2] at hr;cases hr)];exact h.shared r o hr
theorem act_same (h:∀ i,i < m->mute (th' i)=mute (th i)):ActM F m th'=ActM F m th:=by
 funext g;apply propext;constructor
 ·rintro (e | ⟨j,h1,h2,h3⟩)
  ·exact .inl e
  ·exact .inr ⟨j,h1,h2,by rw [<- h j h1];exact h3⟩
 ·rintro (e | ⟨j,h1,h2,h3⟩)
  ·exact .inl e
  ·exact .inr ⟨j,h1,h2,by rw [h j h1];exact h3⟩
theorem free_same (h:∀ i,i < m->holds (th' i)=holds (th i)):freeOf m th'↔freeOf m th:=by
 constructor
 ·intro x i hi;rw [<- h i hi];exact x i hi
 ·intro x i hi;rw [h i hi];exact x i hi
theorem freeB_same (h:∀ i,i < m->holds (th' i)=holds (th i)):freeB m th'=freeB m th:=by
 have:=free_same h
 cases h1:freeB m th with
 | true=>exact free_iff.2 (this.2 (free_iff.1 h1))
 | false =>
  cases h2:freeB m th' with
  | false=>rfl
  | true=>rw [free_iff.2 (this.1 (free_iff.1 h2))] at h1;cases h1
theorem sig_same (h:∀ i,i < m->past (th' i)=past (th i)):sigOf m th'=sigOf m th:=by
 funext i;unfold sigOf;by_cases hi:i < m
 ·simp [hi,h i hi]
 ·simp [hi]
theorem Core.book (h:Core F c w t) {x:Nat} (hb:0 < F.b) (hx:StM F c.m x) (hm:∀ i,i < c.m->mute (th' i)=mute (c.th i)/\holds (th' i)=holds (c.th i)/\past (th' i)=past (c.th i))
 (he:∀ e∈es,Bk F.Mu F.Wg (x == 0) e) (hmu:¬ ActM F c.m c.th x->(∀ e∈es,Bk F.Wg F.Wg false e)/\∀ j e,es[j]? = some e->(MemAct.ofEvent e).touch? = none\/0 < deafBehind (Deaf t x) (es.extract 0 j))
 (hsh:F.Sh w' s') (hef:Eff F.Mu F.Wg w w') (fn:FuncId) (pos:String) {q:Nat->Nat} {M:MTh} {ph:Nat->Ph} {mp:Ph}:Core F ⟨q,c.m,th',s',M,c.own,ph,mp⟩ w' (t ++ MemOp.ofEvents x fn pos es):=by
 have ea:ActM F c.m th'=ActM F c.m c.th:=act_same fun i hi=>(hm i hi).1;have ef:freeB c.m th'=freeB c.m c.th:=freeB_same fun i hi=>(hm i hi).2.1;have efo:freeOf c.m th'↔freeOf c.m c.th:=free_same fun i hi=>(hm i hi).2.1;have esg:sigOf c.m th'=sigOf c.m c.th:=sig_same fun i hi=>(hm i hi).2.2;have hC:w'.heap[F.C]? = w.heap[F.C]? := hef.block _ h.two.1 h.two.2.1;have htr:MT F.Mu F.Wg F.C F.D F.T0 (t ++ MemOp.ofEvents x fn pos es) w'.heap.size (StM F c.m) (ActM F c.m th') c.own F.ro (freeB c.m th'):=by
  rw [ea,ef,hef.size];by_cases hact:ActM F c.m c.th x
  ·exact h.trace.book h.apt hact h.lt he fn pos
  ·obtain ⟨h1,h2⟩:=hmu hact;exact h.trace.idleBook h.apt h.dead hact hx h.lt h1 h2 fn pos
 refine ⟨htr,?_,fun g hg=>?_,fun g hg=>?_,h.roS,h.two,h.dead,hsh,fun hf=>?_,⟨hef.tape.trans h.rest.1,hef.output.trans h.rest.2.1,by rw [hef.size];exact h.rest.2.2⟩,by simp only [Array.size_append];exact Nat.le_trans h.t0 (Nat.le_add_right _ _),fun r o hr=>(hef.block r (h.kept.2 r ⟨o,hr⟩).1 (h.kept.2 r ⟨o,hr⟩).2.1).trans (h.kept.1 r o hr),fun r hr=>⟨(h.kept.2 r hr).1,(h.kept.2 r hr).2.1,(h.kept.2 r hr).2.2.1,fun g hg=>(h.kept.2 r hr).2.2.2 g (by rw [<- ea];exact hg)⟩⟩
 ·show Sep (ActM F c.m th') c.own;rw [ea];exact h.sep
 ·have hg:ActM F c.m c.th g:=by rw [<- ea];exact hg
  exact (h.meets g hg).eff hef (h.ownS g hg) ⟨h.roS.1,h.roS.2.1⟩
 ·have hg:ActM F c.m c.th g:=by rw [<- ea];exact hg
  exact h.ownS g hg
 ·obtain ⟨⟨o,ho,hk⟩,hn⟩:=h.cont (efo.1 hf);refine ⟨⟨o,hC.trans ho,by show F.KI (sigOf c.m th') o;rw [esg];exact hk⟩,fun g hg=>?_⟩;have hg:ActM F c.m c.th g:=by rw [<- ea];exact hg
  exact hn g hg
theorem mark_ofEvents (x:Nat) (fn:FuncId) (pos:String) (m:Mark):MemOp.ofEvents x fn pos #[⟨.mark m,false,true⟩]=#[{ g:=x,fn,pos,act:=.mark m }]:=by
 rw [ofEvents_eq];simp [MemAct.ofEvent]
theorem Core.acquire (h:Core F c w t) (hb:0 < F.b) (hj:j < c.m) (hla:(c.th j).pc=.la) (hfree:freeOf c.m c.th) (hT':holds T'=true/\mute T'=false/\past T'=false) (hd:Deaf t (F.b+j)=0) {o:Obj} (ho:w.heap[F.C]? = some o)
 (hsh:F.Sh w' c.s) (hef:Eff F.Mu F.Wg w w') (fn:FuncId) (pos:String) {q:Nat->Nat} {M:MTh} {ph:Nat->Ph} {mp:Ph} :
 Core F ⟨q,c.m,upd c.th j T',c.s,M,upd c.own (F.b+j) ((c.own (F.b+j)).set F.C o),ph,mp⟩ w' (t ++ MemOp.ofEvents (F.b+j) fn pos #[⟨.mark (.acquire (at0 F.Mu)),false,true⟩]):=by
 have hml:mute (c.th j)=false:=by simp [mute,hla]
 have hx:ActM F c.m c.th (F.b+j):=.inr ⟨j,hj,rfl,hml⟩;have ea:ActM F c.m (upd c.th j T')=ActM F c.m c.th:=act_same fun i hi=>upd_eq mute (by rw [hT'.2.1,hml]) i;have hC:w'.heap[F.C]? = w.heap[F.C]? := hef.block _ h.two.1 h.two.2.1;have hnC:=(h.cont hfree).2;have hnf:¬ freeOf c.m (upd c.th j T'):=fun hf=>by have:=hf j hj;rw [upd_same,hT'.1] at this;cases this
 have hnfB:freeB c.m (upd c.th j T')=false:=by
  cases e:freeB c.m (upd c.th j T') with
  | false=>rfl
  | true=>exact absurd (free_iff.1 e) hnf
 rw [mark_ofEvents];have A:=h.apt;have tr:=h.trace;rw [free_iff.2 hfree] at A tr;have htr:=tr.acquire A h.dead (z:={ g:=F.b+j,fn,pos,act:=.mark (.acquire (at0 F.Mu)) }) hx rfl hd h.lt.1 o;have keyC:∀ g r,keyOf (upd c.own (F.b+j) ((c.own (F.b+j)).set F.C o) g) r->keyOf (c.own g) r\/(g=F.b+j/\r=F.C):=fun g r hk=>by
  by_cases e:g=F.b+j
  ·subst e;rw [upd_same] at hk;by_cases er:r=F.C
   ·exact .inr ⟨rfl,er⟩
   ·obtain ⟨o',ho'⟩:=hk;rw [Hold.set_ne _ _ er] at ho';exact .inl ⟨o',ho'⟩
  ·rw [upd_ne _ _ e] at hk;exact .inl hk
 refine ⟨?_,fun a b r ha hbb hka hkb=>?_,fun g hg=>?_,fun g hg=>?_,h.roS,h.two,h.dead,hsh,fun hf=>absurd hf hnf,⟨hef.tape.trans h.rest.1,hef.output.trans h.rest.2.1,by rw [hef.size];exact h.rest.2.2⟩,by simp only [Array.size_append];exact Nat.le_trans h.t0 (Nat.le_add_right _ _),fun r o hr=>(hef.block r (h.kept.2 r ⟨o,hr⟩).1 (h.kept.2 r ⟨o,hr⟩).2.1).trans (h.kept.1 r o hr),fun r hr=>⟨(h.kept.2 r hr).1,(h.kept.2 r hr).2.1,(h.kept.2 r hr).2.2.1,fun g hg=>key_none fun hk=>(keyC g r hk).elim (fun hk=>not_key ((h.kept.2 r hr).2.2.2 g (by rw [<- ea];exact hg)) hk) fun e=>(h.kept.2 r hr).2.2.1 e.2⟩⟩
 ·show MT F.Mu F.Wg F.C F.D F.T0 _ w'.heap.size (StM F c.m) (ActM F c.m (upd c.th j T')) _ F.ro (freeB c.m (upd c.th j T'));rw [ea,hnfB,hef.size];exact htr
 ·have ha:ActM F c.m c.th a:=by rw [<- ea];exact ha
  have hbb:ActM F c.m c.th b:=by rw [<- ea];exact hbb
  rcases keyC a r hka with ka | ⟨ea1,er⟩ <;> rcases keyC b r hkb with kb | ⟨eb1,er2⟩
  ·exact h.sep a b r ha hbb ka kb
  ·subst er2;exact absurd ka (not_key (hnC a ha))
  ·subst er;exact absurd kb (not_key (hnC b hbb))
  ·rw [ea1,eb1]
 ·have hg:ActM F c.m c.th g:=by rw [<- ea];exact hg
  have base:=(h.meets g hg).eff hef (h.ownS g hg) ⟨h.roS.1,h.roS.2.1⟩;by_cases e:g=F.b+j
  ·subst e;simp only [upd_same];refine ⟨fun r o' hr=>?_,base.shared,fun r o' hr=>?_⟩
   ·by_cases er:r=F.C
    ·subst er;rw [Hold.set_same] at hr;cases hr;exact hC.trans ho
    ·rw [Hold.set_ne _ _ er] at hr;exact base.mine r o' hr
   ·by_cases er:r=F.C
    ·subst er;exact h.roS.2.2
    ·rw [Hold.set_ne _ _ er] at hr;exact base.apart r o' hr
  ·simp only [upd_ne _ _ e];exact base
 ·have hg:ActM F c.m c.th g:=by rw [<- ea];exact hg
  by_cases e:g=F.b+j
  ·subst e;simp only [upd_same];rw [Hold.set_ne _ _ (Ne.symm h.two.1),Hold.set_ne _ _ (Ne.symm h.two.2.1)];exact h.ownS _ hg
  ·simp only [upd_ne _ _ e];exact h.ownS g hg
theorem Core.release (h:Core F c w t) (hb:0 < F.b) (hj:j < c.m) (hur:(c.th j).pc=.ur) (hoth:∀ i,i < c.m->i≠j->holds (c.th i)=false) (hT':holds T'=false/\mute T'=false/\past T'=true) (hd:Deaf t (F.b+j)=0) {o:Obj} (ho:c.own (F.b+j) F.C=some o)
 (hk:F.KI (upd (sigOf c.m c.th) j true) o) (hsh:F.Sh w' c.s) (hef:Eff F.Mu F.Wg w w') (fn:FuncId) (pos:String) {q:Nat->Nat} {M:MTh} {ph:Nat->Ph} {mp:Ph} :
 Core F ⟨q,c.m,upd c.th j T',c.s,M,upd c.own (F.b+j) ((c.own (F.b+j)).del F.C),ph,mp⟩ w' (t ++ MemOp.ofEvents (F.b+j) fn pos #[⟨.mark (.releaseMerge (at0 F.Mu)),false,true⟩]):=by
 have hml:mute (c.th j)=false:=by simp [mute,hur]
 have hx:ActM F c.m c.th (F.b+j):=.inr ⟨j,hj,rfl,hml⟩;have ea:ActM F c.m (upd c.th j T')=ActM F c.m c.th:=act_same fun i hi=>upd_eq mute (by rw [hT'.2.1,hml]) i;have hC:w'.heap[F.C]? = w.heap[F.C]? := hef.block _ h.two.1 h.two.2.1;have hf:freeOf c.m (upd c.th j T'):=fun i hi=>by
  by_cases e:i=j
  ·subst e;rw [upd_same];exact hT'.1
  ·rw [upd_ne _ _ e];exact hoth i hi e
 have hnf:freeB c.m c.th=false:=by
  cases e:freeB c.m c.th with
  | false=>rfl
  | true=>have:=free_iff.1 e j hj;simp [holds,hur] at this
 have hsg:sigOf c.m (upd c.th j T')=upd (sigOf c.m c.th) j true:=by
  funext i;by_cases e:i=j
  ·subst e;rw [upd_same];unfold sigOf;rw [upd_same];simp [hj,hT'.2.2]
  ·rw [upd_ne _ _ e];unfold sigOf;rw [upd_ne _ _ e]
 rw [mark_ofEvents];have A:=h.apt;have tr:=h.trace;rw [hnf] at A tr;have htr:=tr.release A h.dead (z:={ g:=F.b+j,fn,pos,act:=.mark (.releaseMerge (at0 F.Mu)) }) hx ⟨o,ho⟩ rfl hd h.lt.1 h.t0;have keyC:∀ g r,keyOf (upd c.own (F.b+j) ((c.own (F.b+j)).del F.C) g) r->keyOf (c.own g) r:=fun g r hk=>by
  by_cases e:g=F.b+j
  ·subst e;rw [upd_same] at hk;exact (Hold.del_key hk).2
  ·rw [upd_ne _ _ e] at hk;exact hk
 refine ⟨?_,fun a b r ha hbb hka hkb=>?_,fun g hg=>?_,fun g hg=>?_,h.roS,h.two,h.dead,hsh,fun _=>⟨⟨o,?_,?_⟩,fun g hg=>?_⟩,⟨hef.tape.trans h.rest.1,hef.output.trans h.rest.2.1,by rw [hef.size];exact h.rest.2.2⟩,by simp only [Array.size_append];exact Nat.le_trans h.t0 (Nat.le_add_right _ _),fun r o hr=>(hef.block r (h.kept.2 r ⟨o,hr⟩).1 (h.kept.2 r ⟨o,hr⟩).2.1).trans (h.kept.1 r o hr),fun r hr=>⟨(h.kept.2 r hr).1,(h.kept.2 r hr).2.1,(h.kept.2 r hr).2.2.1,fun g hg=>key_none fun hk=>not_key ((h.kept.2 r hr).2.2.2 g (by rw [<- ea];exact hg)) (keyC g r hk)⟩⟩
 ·show MT F.Mu F.Wg F.C F.D F.T0 _ w'.heap.size (StM F c.m) (ActM F c.m (upd c.th j T')) _ F.ro (freeB c.m (upd c.th j T'));rw [ea,free_iff.2 hf,hef.size];exact htr
 ·have ha:ActM F c.m c.th a:=by rw [<- ea];exact ha
  have hbb:ActM F c.m c.th b:=by rw [<- ea];exact hbb
  exact h.sep a b r ha hbb (keyC a r hka) (keyC b r hkb)
 ·have hg:ActM F c.m c.th g:=by rw [<- ea];exact hg
  have base:=(h.meets g hg).eff hef (h.ownS g hg) ⟨h.roS.1,h.roS.2.1⟩;by_cases e:g=F.b+j
  ·subst e;simp only [upd_same];refine ⟨fun r o' hr=>?_,base.shared,fun r o' hr=>?_⟩
   ·have e1:=(Hold.del_key ⟨o',hr⟩).1;rw [Hold.del_ne _ e1] at hr;exact base.mine r o' hr
   ·have e1:=(Hold.del_key ⟨o',hr⟩).1;rw [Hold.del_ne _ e1] at hr;exact base.apart r o' hr
  ·simp only [upd_ne _ _ e];exact base
 ·have hg:ActM F c.m c.th g:=by rw [<- ea];exact hg
  have h1:=h.ownS g hg;exact ⟨key_none fun hk=>not_key h1.1 (keyC g _ hk),key_none fun hk=>not_key h1.2 (keyC g _ hk)⟩
 ·exact hC.trans ((h.meets _ hx).mine _ _ ho)
 ·show F.KI (sigOf c.m (upd c.th j T')) o;rw [hsg];exact hk
 ·have hg:ActM F c.m c.th g:=by rw [<- ea];exact hg
  by_cases e:g=F.b+j
  ·subst e;simp only [upd_same];exact Hold.del_same _ _
  ·simp only [upd_ne _ _ e];exact key_none fun hk=>e (h.sep g (F.b+j) F.C hg hx hk ⟨o,ho⟩)
theorem Core.part (h:Core F c w t) (hb:0 < F.b) (hj:j < c.m) (hwr:(c.th j).pc=.wr) (hT':holds T'=false/\mute T'=true/\past T'=true) (hd:Deaf t (F.b+j)=0)
 (hsh:F.Sh w' c.s) (hef:Eff F.Mu F.Wg w w') (fn:FuncId) (pos:String) {q:Nat->Nat} {M:MTh} {ph:Nat->Ph} {mp:Ph} :
 Core F ⟨q,c.m,upd c.th j T',c.s,M,upd c.own (F.b+j) none_,ph,mp⟩ w' (t ++ MemOp.ofEvents (F.b+j) fn pos #[⟨.mark (.releaseMerge (at0 F.Wg)),false,true⟩]):=by
 have hml:mute (c.th j)=false:=by simp [mute,hwr]
 have hx:ActM F c.m c.th (F.b+j):=.inr ⟨j,hj,rfl,hml⟩;have ea:∀ g,ActM F c.m (upd c.th j T') g↔(ActM F c.m c.th g/\g≠F.b+j):=fun g=>by
  constructor
  ·rintro (e | ⟨i,h1,h2,h3⟩)
   ·exact ⟨.inl e,by omega⟩
   ·by_cases e:i=j
    ·subst e;rw [upd_same,hT'.2.1] at h3;cases h3
    ·rw [upd_ne _ _ e] at h3;exact ⟨.inr ⟨i,h1,h2,h3⟩,by omega⟩
  ·rintro ⟨e | ⟨i,h1,h2,h3⟩,hne⟩
   ·exact .inl e
   ·exact .inr ⟨i,h1,h2,by rw [upd_ne _ _ (by omega)];exact h3⟩
 have eaf:ActM F c.m (upd c.th j T')=fun x=>ActM F c.m c.th x/\x≠F.b+j:=funext fun g=>propext (ea g);have hpl:past (c.th j)=true/\holds (c.th j)=false:=by simp [past,holds,hwr]
 have ef:freeB c.m (upd c.th j T')=freeB c.m c.th:=freeB_same fun i _=>upd_eq holds (by rw [hT'.1,hpl.2]) i;have efo:freeOf c.m (upd c.th j T')↔freeOf c.m c.th:=free_same fun i _=>upd_eq holds (by rw [hT'.1,hpl.2]) i;have esg:sigOf c.m (upd c.th j T')=sigOf c.m c.th:=sig_same fun i _=>upd_eq past (by rw [hT'.2.2,hpl.1]) i;have hC:w'.heap[F.C]? = w.heap[F.C]? := hef.block _ h.two.1 h.two.2.1;rw [mark_ofEvents];have htr:=h.trace.part h.apt h.dead (z:={ g:=F.b+j,fn,pos,act:=.mark (.releaseMerge (at0 F.Wg)) }) hx rfl hd h.lt.2 h.t0;have oth:∀ g,ActM F c.m (upd c.th j T') g->upd c.own (F.b+j) none_ g=c.own g:=fun g hg=>upd_ne _ _ ((ea g).1 hg).2;refine ⟨?_,fun a b r ha hbb hka hkb=>?_,fun g hg=>?_,fun g hg=>?_,h.roS,h.two,h.dead,hsh,fun hf=>?_,⟨hef.tape.trans h.rest.1,hef.output.trans h.rest.2.1,by rw [hef.size];exact h.rest.2.2⟩,by simp only [Array.size_append];exact Nat.le_trans h.t0 (Nat.le_add_right _ _),fun r o hr=>(hef.block r (h.kept.2 r ⟨o,hr⟩).1 (h.kept.2 r ⟨o,hr⟩).2.1).trans (h.kept.1 r o hr),fun r hr=>⟨(h.kept.2 r hr).1,(h.kept.2 r hr).2.1,(h.kept.2 r hr).2.2.1,fun g hg=>(show upd c.own (F.b+j) none_ g r=none by rw [oth g hg];exact (h.kept.2 r hr).2.2.2 g ((ea g).1 hg).1)⟩⟩
 ·show MT F.Mu F.Wg F.C F.D F.T0 _ w'.heap.size (StM F c.m) (ActM F c.m (upd c.th j T')) _ F.ro (freeB c.m (upd c.th j T'));rw [eaf,ef,hef.size];refine ⟨htr.clean,fun i a r ha hr g hg hk=>htr.mine i a r ha hr g hg (by have hk:keyOf (upd c.own (F.b+j) none_ g) r:=hk;rw [upd_ne _ _ (show g≠F.b+j from hg.2)] at hk;exact hk),htr.shared,htr.sync,htr.loose,htr.known,htr.norel,htr.seen⟩
 ·simp only [oth a ha] at hka;simp only [oth b hbb] at hkb;exact h.sep a b r ((ea a).1 ha).1 ((ea b).1 hbb).1 hka hkb
 ·have hg':=((ea g).1 hg).1;simp only [oth g hg];exact (h.meets g hg').eff hef (h.ownS g hg') ⟨h.roS.1,h.roS.2.1⟩
 ·simp only [oth g hg];exact h.ownS g ((ea g).1 hg).1
 ·obtain ⟨⟨o,ho,hk⟩,hn⟩:=h.cont (efo.1 hf);refine ⟨⟨o,hC.trans ho,by show F.KI (sigOf c.m (upd c.th j T')) o;rw [esg];exact hk⟩,fun g hg=>?_⟩;simp only [oth g hg];exact hn g ((ea g).1 hg).1
end
section
variable {F:Mill} {Fin:Goroutine->Hold->Prop} {gs:Array Goroutine} {w w':World} {t:Trace} {c:Gh} {j:Nat} {T':Th} {M':MTh} {s':Mob.Sh} {es:Array Event} {own':Hold} {g g':Goroutine} {p':Ph}
theorem deaf_else {x y:Nat} (fn:FuncId) (pos:String) (h:y≠x):Deaf (t ++ MemOp.ofEvents x fn pos es) y=Deaf t y :=
 Deaf_other t (g:=y) (g':=x) (Ne.symm h) _ fun op hop=>by obtain ⟨e,_,rfl⟩:=Go.Conc.mem_ofEvents hop;rfl
theorem get_map {P:Program} {i k:Nat} {y:Goroutine} (h:i≠k):((gs.map (woken P g g' w')).setIfInBounds i y)[k]? = (gs[k]?).map (woken P g g' w'):=by
 rw [Array.getElem?_setIfInBounds_ne h,Array.getElem?_map]
def Gh.setW (c:Gh) (b:Bool) (x j:Nat) (T':Th) (s':Mob.Sh) (own':Hold) (p':Ph):Gh :=
 ⟨c.q,c.m,upd c.th j T',s',c.M,upd c.own x own',upd (fun i=>wk b (c.ph i)) j p',wk b c.mp⟩
theorem Inv1.setW (h:Inv1 F Fin gs w t c) (hj:j < c.m) (hi:gs[F.b+j]? = some g) (hauto:Mob.Inv F.n c.m (upd c.th j T') s' c.M) (hmea:Mob.mea F.n c.m (upd c.th j T') s' c.M<=c.mea F)
 (hsig:∀ i,i < c.m->i≠j->holds (c.th i)=true->sigOf c.m (upd c.th j T')=sigOf c.m c.th) (hold:T'.old.c<=F.n) (fn:FuncId) (pos:String)
 (hw:WOk F (Mob.mea F.n c.m (upd c.th j T') s' c.M) j T' (sigOf c.m (upd c.th j T')) (Deaf (t ++ MemOp.ofEvents (F.b+j) fn pos es) (F.b+j)) p' g' own')
 (hcore:Core F (c.setW (wakes F.P g g') (F.b+j) j T' s' own' p') w' (t ++ MemOp.ofEvents (F.b+j) fn pos es))
 (hdf:T'.pc≠.quit->Deaf (t ++ MemOp.ofEvents (F.b+j) fn pos es) (F.b+j)=deaf T')
 (hms:wakes F.P g g'=false->c.s.ms=0->s'.ms=0) (hws:wakes F.P g g'=false->c.s.ws=0->s'.ws=0) (hp:p'=.blk->s'.ms=0) :
 Inv1 F Fin ((gs.map (woken F.P g g' w')).setIfInBounds (F.b+j) g') w' (t ++ MemOp.ofEvents (F.b+j) fn pos es) (c.setW (wakes F.P g g') (F.b+j) j T' s' own' p'):=by
 have hb:=h.base;have hlt:F.b+j < gs.size:=(Array.getElem?_eq_some_iff.1 hi).1;refine ⟨by simp [h.size,Gh.setW],hb,fun i x hi0 hib hx=>?_,hauto,fun i hi'=>?_,h.mvo,fun i hi'=>?_,?_,hcore,fun i hi' hq=>?_,?_,fun i hi'=>?_,fun i hi' hq=>?_,fun hq=>?_⟩
 ·rw [get_map (by omega)] at hx;obtain ⟨y,hy,rfl⟩:=Option.map_eq_some_iff.1 hx;have hq:=h.old i y hi0 hib hy;rw [woken_quitsD hq,deaf_else fn pos (by omega)];exact hq
 ·show (upd c.th j T' i).old.c<=_;by_cases e:i=j
  ·subst e;rw [upd_same];exact hold
  ·rw [upd_ne _ _ e];exact h.oldc i hi'
 ·by_cases e:i=j
  ·subst e;refine ⟨g',by rw [Array.getElem?_setIfInBounds_self_of_lt (by simpa using hlt)],?_⟩;simp only [Gh.setW,upd_same];exact hw
  ·obtain ⟨y,hy,hwy⟩:=h.work i hi';refine ⟨_,by rw [get_map (by omega),hy];rfl,?_⟩;simp only [Gh.setW,upd_ne _ _ e,upd_ne _ _ (show F.b+i≠F.b+j by omega)];exact hwy.wake.low hmea (fun hh=>hsig i hi' e hh) (deaf_else fn pos (by omega))
 ·obtain ⟨y,hy,hm⟩:=h.main;refine ⟨_,by rw [get_map (by omega),hy];rfl,?_⟩;simp only [Gh.setW,upd_ne _ _ (show 0≠F.b+j by omega)];exact hm.wake.low hmea
 ·by_cases e:i=j
  ·subst e;simp only [Gh.setW,upd_same] at hq ⊢;exact hdf hq
  ·simp only [Gh.setW,upd_ne _ _ e] at hq ⊢;rw [deaf_else fn pos (by omega)];exact h.deafW i hi' hq
 ·rw [deaf_else fn pos (by omega)];exact h.deaf0
 ·have hi':F.b+c.m<=i:=hi';rw [deaf_else fn pos (by omega)];exact h.above i hi'
 ·by_cases e:i=j
  ·subst e;simp only [Gh.setW,upd_same] at hq;exact hp hq
  ·simp only [Gh.setW,upd_ne _ _ e] at hq;obtain ⟨h1,h2⟩:=wk_blk hq;exact hms h1 (h.blkW i hi' h2)
 ·obtain ⟨h1,h2⟩:=wk_blk hq;exact hws h1 (h.blkM h2)
def Gh.setM (c:Gh) (b:Bool) (s':Mob.Sh) (M':MTh) (own':Hold) (p':Ph):Gh :=
 ⟨c.q,c.m,c.th,s',M',upd c.own 0 own',fun i=>wk b (c.ph i),p'⟩
theorem Inv1.setM (h:Inv1 F Fin gs w t c) (hi:gs[0]? = some g) (hauto:Mob.Inv F.n c.m c.th s' M') (hmea:Mob.mea F.n c.m c.th s' M'<=c.mea F) (hvo:M'.vo<=F.n+1) (fn:FuncId) (pos:String)
 (hw:MOk F Fin (Mob.mea F.n c.m c.th s' M') c.m M' p' g' own')
 (hcore:Core F (c.setM (wakes F.P g g') s' M' own' p') w' (t ++ MemOp.ofEvents 0 fn pos es)) (hdf:Deaf (t ++ MemOp.ofEvents 0 fn pos es) 0=deafM M')
 (hms:wakes F.P g g'=false->c.s.ms=0->s'.ms=0) (hp:p'=.blk->s'.ws=0) :
 Inv1 F Fin ((gs.map (woken F.P g g' w')).setIfInBounds 0 g') w' (t ++ MemOp.ofEvents 0 fn pos es) (c.setM (wakes F.P g g') s' M' own' p'):=by
 have hb:=h.base;have hlt:0 < gs.size:=(Array.getElem?_eq_some_iff.1 hi).1;refine ⟨by simp [h.size,Gh.setM],hb,fun i x hi0 hib hx=>?_,hauto,h.oldc,hvo,fun i hi'=>?_,⟨g',by rw [Array.getElem?_setIfInBounds_self_of_lt (by simpa using hlt)],?_⟩,hcore,fun i hi' hq=>?_,hdf,fun i hi'=>?_,fun i hi' hq=>?_,hp⟩
 ·rw [get_map (by omega)] at hx;obtain ⟨y,hy,rfl⟩:=Option.map_eq_some_iff.1 hx;have hq:=h.old i y hi0 hib hy;rw [woken_quitsD hq,deaf_else fn pos (by omega)];exact hq
 ·obtain ⟨y,hy,hwy⟩:=h.work i hi';refine ⟨_,by rw [get_map (by omega),hy];rfl,?_⟩;simp only [Gh.setM,upd_ne _ _ (show F.b+i≠0 by omega)];exact hwy.wake.low hmea (fun _=>rfl) (deaf_else fn pos (by omega))
 ·simp only [Gh.setM,upd_same];exact hw
 ·rw [deaf_else fn pos (by omega)];exact h.deafW i hi' hq
 ·have hi':F.b+c.m<=i:=hi';rw [deaf_else fn pos (by omega)];exact h.above i hi'
 ·obtain ⟨h1,h2⟩:=wk_blk hq;exact hms h1 (h.blkW i hi' h2)
def Gh.setQ (c:Gh) (b:Bool) (q':Nat->Nat):Gh:=⟨q',c.m,c.th,c.s,c.M,c.own,fun i=>wk b (c.ph i),wk b c.mp⟩
theorem Inv1.setQ (h:Inv1 F Fin gs w t c) {i k:Nat} (h0:0 < i) (hb':i < F.b) (hi:gs[i]? = some g) (hm:∀ e∈es,e.mute=true) (fn:FuncId) (pos:String) (hq:QuitsD F.P k (Deaf (t ++ MemOp.ofEvents i fn pos es) i) g') :
 Inv1 F Fin ((gs.map (woken F.P g g' w)).setIfInBounds i g') w (t ++ MemOp.ofEvents i fn pos es) (c.setQ (wakes F.P g g') (upd c.q i k)):=by
 have hb:=h.base;have hlt:i < gs.size:=(Array.getElem?_eq_some_iff.1 hi).1;refine ⟨by simp [h.size,Gh.setQ],hb,fun l x hl0 hlb hx=>?_,h.auto,h.oldc,h.mvo,fun l hl=>?_,?_,h.core.mutes hm fn pos,fun l hl hq=>?_,?_,fun l hl=>?_,fun l hl hq=>?_,fun hq=>?_⟩
 ·by_cases e:i=l
  ·subst e;rw [Array.getElem?_setIfInBounds_self_of_lt (by simpa using hlt)] at hx;cases hx;simp only [Gh.setQ,upd_same];exact hq
  ·rw [get_map e] at hx;obtain ⟨y,hy,rfl⟩:=Option.map_eq_some_iff.1 hx;have hq:=h.old l y hl0 hlb hy;rw [woken_quitsD hq,deaf_else fn pos (Ne.symm e)];simp only [Gh.setQ,upd_ne _ _ (Ne.symm e)];exact hq
 ·obtain ⟨y,hy,hwy⟩:=h.work l hl;exact ⟨_,by rw [get_map (by omega),hy];rfl,hwy.wake.low (Nat.le_refl _) (fun _=>rfl) (deaf_else fn pos (by omega))⟩
 ·obtain ⟨y,hy,hm⟩:=h.main;exact ⟨_,by rw [get_map (by omega),hy];rfl,hm.wake⟩
 ·rw [deaf_else fn pos (by omega)];exact h.deafW l hl hq
 ·rw [deaf_else fn pos (by omega)];exact h.deaf0
 ·have hl:F.b+c.m<=l:=hl;rw [deaf_else fn pos (by omega)];exact h.above l hl
 ·obtain ⟨h1,h2⟩:=wk_blk hq;exact h.blkW l hl h2
 ·obtain ⟨h1,h2⟩:=wk_blk hq;exact h.blkM h2
end
def Less3 (a b:Nat × Nat × Nat):Prop:=a.1 < b.1\/(a.1=b.1/\(a.2.1 < b.2.1\/(a.2.1=b.2.1/\a.2.2 < b.2.2)))
def m3 (F:Mill) (c:Gh):Nat × Nat × Nat:=(c.mea F,c.mp.fuel+sumTo c.m (fun i=>(c.ph i).fuel)+sumTo F.b c.q,c.mp.tries+sumTo c.m (fun i=>(c.ph i).tries))
def Goes1 (F:Mill) (Fin:Goroutine->Hold->Prop) (gs:Array Goroutine) (w:World) (t:Trace) (c:Gh) (sl:Option (Nat × Nat)) (i:Nat):Prop :=
 ∃ gs' w' u,runT F.P (crowd gs w sl) i=(.next (crowd gs' w' sl),u)/\(Over F Fin gs' w' (t ++ u)\/∃ c',Inv1 F Fin gs' w' (t ++ u) c'/\Less3 (m3 F c') (m3 F c))
theorem mv_nil {T:Th} {s:Mob.Sh} (h:mv T s=[]):T.pc=.quit\/(T.pc=.s1/\s.ms=0):=by
 obtain ⟨pc,old,aw,sv,it,ws⟩:=T;cases pc <;> simp only [mv] at h <;> (try (repeat' split at h)) <;> simp_all
theorem mv_ms {T T':Th} {s s':Mob.Sh} (hm:(T',s')∈mv T s):(s.ms=0->s'.ms=0)\/T.pc=.us\/T.pc=.ux:=by
 obtain ⟨pc,old,aw,sv,it,ws⟩:=T;cases pc <;> simp only [mv] at hm
 case us=>exact .inr (.inl rfl)
 case ux=>exact .inr (.inr rfl)
 all_goals left
 all_goals (repeat' split at hm)
 all_goals simp only [List.mem_cons,List.mem_singleton,List.not_mem_nil,or_false,Prod.mk.injEq,List.append_nil,List.mem_append] at hm
 all_goals first
  | exact hm.elim
  | (rcases hm with ⟨rfl,rfl⟩ | ⟨rfl,rfl⟩ <;> first | exact id)
  | (obtain ⟨rfl,rfl⟩:=hm;first | exact id | (intro h;simp only;omega))
theorem mv_ws {T T':Th} {s s':Mob.Sh} (hm:(T',s')∈mv T s):(s.ws=0->s'.ws=0)\/T.pc=.d4:=by
 obtain ⟨pc,old,aw,sv,it,ws⟩:=T;cases pc <;> simp only [mv] at hm
 case d4=>exact .inr rfl
 all_goals left
 all_goals (repeat' split at hm)
 all_goals simp only [List.mem_cons,List.mem_singleton,List.not_mem_nil,or_false,Prod.mk.injEq,List.append_nil,List.mem_append] at hm
 all_goals first
  | exact hm.elim
  | (rcases hm with ⟨rfl,rfl⟩ | ⟨rfl,rfl⟩ <;> first | exact id)
  | (obtain ⟨rfl,rfl⟩:=hm;exact id)
section
variable {F:Mill} {Fin:Goroutine->Hold->Prop} {gs:Array Goroutine} {w w':World} {t:Trace} {c:Gh} {j d:Nat} {T T':Th} {s':Mob.Sh} {es:Array Event} {own':Hold} {g g':Goroutine} {σ sig:Nat->Bool} {μ df:Nat}
theorem meets_none (w:World):Meets w none_ none_:=⟨fun _ _ h=>(by cases h),fun _ _ h=>(by cases h),fun _ _ h=>(by cases h)⟩
theorem Cont.wok (h:Cont F (AtD F (d+1) j) T' σ g' own') (hμ:μ<=d) (hs:holds T'=true->σ=sig) (hdf:T'.pc=.quit->df=1):∃ p,WOk F μ j T' sig df p g' own'/\p≠.blk/\(g'.status=.running\/g'.status=.finished):=by
 unfold Cont at h;by_cases hq:T'.pc=.quit
 ·rw [if_pos hq] at h;obtain ⟨q,h⟩:=h;exact ⟨.quit q,⟨hq,by rw [hdf hq];exact h⟩,by simp,QuitsD.status h⟩
 ·rw [if_neg hq] at h;by_cases hm:mute T'=true
  ·rw [if_pos hm] at h;obtain ⟨k,h⟩:=h;exact ⟨.walk k,⟨d,σ,hμ,hs,hq,by rw [if_pos hm];exact h⟩,by simp,.inl (swalk_running (fun g x=>x.run) h)⟩
  ·rw [if_neg hm] at h;obtain ⟨k,h⟩:=h;exact ⟨.walk k,⟨d,σ,hμ,hs,hq,by rw [if_neg hm];exact h⟩,by simp,.inl (walk_running (fun g o x=>x.run) h)⟩
theorem wakes_ok {P:Program} (h:mayWake P g=true) (h2:g'.status=.running\/g'.status=.finished):wakes P g g'=true:=by
 unfold wakes;rcases h2 with h2 | h2 <;> simp [h,h2] <;> decide
theorem main_false' (hb:0 < F.b) (j:Nat):(F.b+j == 0)=false:=by simp;omega
theorem Inv1.stopW (h:Inv1 F Fin gs w t c) (hj:j < c.m) (hi:gs[F.b+j]? = some g) (hμ:c.mea F<=d) (hσ:holds (c.th j)=true->σ=sigOf c.m c.th) (hT:(c.th j).pc≠.quit) {own:Hold} (hown:own=if mute (c.th j) then none_ else c.own (F.b+j))
 (hS:AtD F (d+1) j (c.th j) σ g own) {p:Ph} (hp:c.ph j=p) (hpt:p.tries=1) (sl:Option (Nat × Nat)):Goes1 F Fin gs w t c sl (F.b+j):=by
 have hb:=h.base;have hS:Stp1 F (AtD F d j) j (c.th j) σ g own:=hS;have hdT:=h.deafW j hj hT;have hmeets:Meets w own (if mute (c.th j) then none_ else F.ro):=by
  subst hown;by_cases hm:mute (c.th j)=true
  ·rw [if_pos hm,if_pos hm];exact meets_none w
  ·rw [if_neg hm,if_neg hm];exact h.core.meets _ (.inr ⟨j,hj,rfl,by simpa using hm⟩)
 have hfit:=h.auto.fit hj (h.oldc j hj);by_cases hmv:mv (c.th j) c.s=[]
 ·
  have hst:=hS.blk w c.s hmeets h.core.sh hfit hmv;obtain ⟨hs1,hms0⟩:=(mv_nil hmv).resolve_left hT;have hnm:mute (c.th j)=false:=by simp [mute,hs1]
  have hr:=runT_crowd_go (P:=F.P) (sl:=sl) (i:=F.b+j) hi (by rw [main_false' hb j];exact hst);have hwk:wakes F.P g (stop g)=false:=by unfold wakes stop;simp
  have hset:=h.setW (w':=w) (es:=#[]) (g:=g) (g':=stop g) (T':=c.th j) (s':=c.s) (own':=c.own (F.b+j)) (p':=.blk) hj hi (by rw [upd_self'];exact h.auto) (by rw [upd_self'];exact Nat.le_refl _) (fun i _ _ _=>by rw [upd_self']) (h.oldc j hj) g.frame.fn g.frame.place
   ⟨d,σ,g,by rw [upd_self'];exact hμ,hs1,rfl,by
     have:own=c.own (F.b+j):=by rw [hown,if_neg (by simp [hnm])]
     rw [<- this];exact hS⟩ (by
     have:=h.core.mutes (x:=F.b+j) (es:=#[]) (by simp) g.frame.fn g.frame.place (q:=c.q) (ph:=upd (fun i=>wk (wakes F.P g (stop g)) (c.ph i)) j .blk) (mp:=wk (wakes F.P g (stop g)) c.mp) (M:=c.M)
     unfold Gh.setW
     rw [upd_self',upd_self']
     exact this) (fun _=>by rw [ofEvents_none,Array.append_empty];exact hdT) (fun _ x=>x) (fun _ x=>x) (fun _=>hms0)
  refine ⟨_,_,_,hr,.inr ⟨_,hset,.inr ⟨?_,?_⟩⟩⟩
  ·show Mob.mea F.n c.m (upd c.th j (c.th j)) c.s c.M=_;rw [upd_self'];rfl
  ·have e1:sumTo c.m (fun i=>(upd (fun i=>wk (wakes F.P g (stop g)) (c.ph i)) j Ph.blk i).fuel)+(wk (wakes F.P g (stop g)) (c.ph j)).fuel=sumTo c.m (fun i=>(wk (wakes F.P g (stop g)) (c.ph i)).fuel)+Ph.blk.fuel:=sumTo_upd (fun i=>wk (wakes F.P g (stop g)) (c.ph i)) Ph.blk (·.fuel) hj;have e2:sumTo c.m (fun i=>(upd (fun i=>wk (wakes F.P g (stop g)) (c.ph i)) j Ph.blk i).tries)+(wk (wakes F.P g (stop g)) (c.ph j)).tries=sumTo c.m (fun i=>(wk (wakes F.P g (stop g)) (c.ph i)).tries)+Ph.blk.tries:=sumTo_upd (fun i=>wk (wakes F.P g (stop g)) (c.ph i)) Ph.blk (·.tries) hj;have hwk':∀ x,wk (wakes F.P g (stop g)) x=x:=fun x=>by rw [hwk];cases x <;> rfl
   simp only [hwk'] at e1 e2;have e3:Ph.blk.fuel=0:=rfl;have e4:Ph.blk.tries=0:=rfl;have e5:(c.ph j).tries=1:=by rw [hp];exact hpt
   simp only [m3,Gh.setW,hwk'];omega
 ·
  obtain ⟨⟨T',s'⟩,hm,g',w',es,hst,hsh,hef,hev,haf⟩:=hS.go w c.s hmeets h.core.sh hfit hmv;simp only at hsh hev haf;have hmlt:=step_mea h.auto hj hm;have hd1:∃ d',d=d'+1/\Mob.mea F.n c.m (upd c.th j T') s' c.M<=d':=⟨d - 1,by have:Mob.mea F.n c.m (upd c.th j T') s' c.M < c.mea F:=hmlt;omega,by have:Mob.mea F.n c.m (upd c.th j T') s' c.M < c.mea F:=hmlt;omega⟩;obtain ⟨d',rfl,hd'⟩:=hd1;have hr:=runT_crowd_go (P:=F.P) (sl:=sl) (i:=F.b+j) hi (by rw [main_false' hb j];exact hst);have hold:=old_step hm (h.oldc j hj) hfit.muc;have hauto:=h.auto.step hj hm;have fin:∀ (own':Hold) (σ':Nat->Bool),Cont F (AtD F (d'+1) j) T' σ' g' own'->(holds T'=true->σ'=sigOf c.m (upd c.th j T'))->deafBehind (deaf (c.th j)) es=deaf T' ->
   (∀ i,i < c.m->i≠j->holds (c.th i)=true->sigOf c.m (upd c.th j T')=sigOf c.m c.th) ->
   (∀ (q:Nat->Nat) (M:MTh) (ph:Nat->Ph) (mp:Ph),M=c.M->Core F ⟨q,c.m,upd c.th j T',s',M,upd c.own (F.b+j) own',ph,mp⟩ w' (t ++ MemOp.ofEvents (F.b+j) g.frame.fn g.frame.place es))->Goes1 F Fin gs w t c sl (F.b+j):=fun own' σ' hc hsg hdf hsig hcore=>by
   have hdf2:Deaf (t ++ MemOp.ofEvents (F.b+j) g.frame.fn g.frame.place es) (F.b+j)=deaf T':=by rw [Deaf_own,hdT];exact hdf
   obtain ⟨p',hw,hpb,hst'⟩:=hc.wok (sig:=sigOf c.m (upd c.th j T')) (df:=Deaf (t ++ MemOp.ofEvents (F.b+j) g.frame.fn g.frame.place es) (F.b+j)) hd' hsg (fun e=>by rw [hdf2];simp [deaf,e]);refine ⟨_,_,_,hr,.inr ⟨_,h.setW hj hi hauto (Nat.le_of_lt hmlt) hsig hold g.frame.fn g.frame.place hw (hcore _ _ _ _ rfl) (fun _=>hdf2) (fun hwf h0=>?_) (fun hwf h0=>?_) (fun e=>absurd e hpb),.inl hmlt⟩⟩
   ·rcases mv_ms hm with hx | hx
    ·exact hx h0
    ·rw [wakes_ok (hS.wake (hx.imp_right .inl)) hst'] at hwf;cases hwf
   ·rcases mv_ws hm with hx | hx
    ·exact hx h0
    ·rw [wakes_ok (hS.wake (.inr (.inr hx))) hst'] at hwf;cases hwf
  by_cases hla:(c.th j).pc=.la
  ·have hm2:=hm;unfold mv at hm2;rw [hla] at hm2;simp only [List.mem_singleton,Prod.mk.injEq] at hm2;obtain ⟨rfl,rfl⟩:=hm2;have hfree:freeOf c.m c.th:=fun i hi'=>by
    by_cases e:i=j
    ·subst e;simp [holds,hla]
    ·have:=held_one h.auto.lock hj hi' e (by simp [fH,hla])
     cases hh:holds (c.th i) with
     | false=>rfl
     | true =>
      rw [holds_fH hh] at this;cases this
   obtain ⟨⟨o,ho,hk⟩,hnC⟩:=h.core.cont hfree;have hnm:mute (c.th j)=false:=by simp [mute,hla]
   have hpl:past (c.th j)=false:=by simp [past,hla]
   have hsg:sigOf c.m (upd c.th j (at_ .rl))=sigOf c.m c.th:=sig_same fun i _=>upd_eq past (by rw [hpl];rfl) i;have hev':es=#[⟨.mark (.acquire (at0 F.Mu)),false,true⟩]:=by simpa only [EvStop,hla] using hev
   subst hev';have haf':Cont F (AtD F (d'+1) j) (at_ .rl) (sigOf c.m c.th) g' (own.set F.C o):=by
    simp only [After,hla] at haf;exact haf _ o (by unfold sigOf;rw [hpl];simp) ho hk
   have hown':own=c.own (F.b+j):=by rw [hown,if_neg (by simp [hnm])]
   rw [hown'] at haf';exact fin _ _ haf' (fun _=>hsg.symm) (by simp [deaf,hla,at_,deafBehind]) (fun _ _ _ _=>hsg) fun q M ph mp _ =>
    h.core.acquire hb hj hla hfree ⟨rfl,rfl,rfl⟩ (by rw [hdT];simp [deaf,hla]) ho hsh hef _ _
  by_cases hur:(c.th j).pc=.ur
  ·have hm2:=hm;unfold mv at hm2;rw [hur] at hm2;simp only [List.mem_singleton,Prod.mk.injEq] at hm2;obtain ⟨rfl,rfl⟩:=hm2;have hnm:mute (c.th j)=false:=by simp [mute,hur]
   have hoth:∀ i,i < c.m->i≠j->holds (c.th i)=false:=fun i hi' e=>by
    have:=held_one h.auto.lock hj hi' e (by simp [fH,hur])
    cases hh:holds (c.th i) with
    | false=>rfl
    | true =>
     rw [holds_fH hh] at this;cases this
   obtain ⟨o,ho,hk⟩:=hS.put hur;have hσ':=hσ (by simp [holds,hur]);subst hσ';have hev':es=#[⟨.mark (.releaseMerge (at0 F.Mu)),false,true⟩]:=by simpa only [EvStop,hur] using hev
   subst hev';have hown':own=c.own (F.b+j):=by rw [hown,if_neg (by simp [hnm])]
   have haf':Cont F (AtD F (d'+1) j) (at_ .ud) (sigOf c.m c.th) g' (own.del F.C):=by simpa only [After,hur] using haf
   rw [hown'] at haf' ho;exact fin _ _ haf' (fun e=>by cases e) (by simp [deaf,hur,at_,deafBehind]) (fun i hi' e hh=>by rw [hoth i hi' e] at hh;cases hh) fun q M ph mp _ =>
    h.core.release hb hj hur hoth ⟨rfl,rfl,rfl⟩ (by rw [hdT];simp [deaf,hur]) ho hk hsh hef _ _
  by_cases hwr:(c.th j).pc=.wr
  ·have hm2:=hm;unfold mv at hm2;rw [hwr] at hm2;simp only [List.mem_singleton,Prod.mk.injEq] at hm2;obtain ⟨rfl,rfl⟩:=hm2;have hev':es=#[⟨.mark (.releaseMerge (at0 F.Wg)),false,true⟩]:=by simpa only [EvStop,hwr] using hev
   subst hev';have hpl:past (c.th j)=true:=by simp [past,hwr]
   have hsg:sigOf c.m (upd c.th j (at_ .wk))=sigOf c.m c.th:=sig_same fun i _=>upd_eq past (by rw [hpl];rfl) i;have haf':Cont F (AtD F (d'+1) j) (at_ .wk) σ g' none_:=by simpa only [After,hwr] using haf
   exact fin _ _ haf' (fun e=>by cases e) (by simp [deaf,hwr,at_,deafBehind]) (fun _ _ _ _=>hsg) fun q M ph mp _ =>
    h.core.part hb hj hwr ⟨rfl,rfl,rfl⟩ (by rw [hdT];simp [deaf,hwr]) hsh hef _ _
  obtain ⟨k1,k2,k3⟩:=mv_kind hm hla hur hwr;have hsg:sigOf c.m (upd c.th j T')=sigOf c.m c.th:=sig_same fun i _=>upd_eq past k3 i;have hev':(∀ e∈es,Bk F.Mu F.Wg false e)/\deafBehind (deaf (c.th j)) es=deaf T'/\(mute (c.th j)=true->(∀ e∈es,Bk F.Wg F.Wg false e)/\∀ j_1 e,es[j_1]? = some e->(MemAct.ofEvent e).touch? = none\/0 < deafBehind (deaf (c.th j)) (es.extract 0 j_1)):=by
   unfold EvStop at hev;split at hev <;> first | contradiction | exact hev
  have haf':Cont F (AtD F (d'+1) j) T' σ g' own:=by
   unfold After at haf;split at haf <;> first | contradiction | exact haf
  have hco:∀ (q:Nat->Nat) (M:MTh) (ph:Nat->Ph) (mp:Ph),M=c.M->Core F ⟨q,c.m,upd c.th j T',s',M,c.own,ph,mp⟩ w' (t ++ MemOp.ofEvents (F.b+j) g.frame.fn g.frame.place es):=fun q M ph mp _ =>
   h.core.book hb (.inr ⟨j,hj,rfl⟩) (fun i _=>⟨upd_eq mute k1 i,upd_eq holds k2 i,upd_eq past k3 i⟩) (by rw [main_false' hb j];exact hev'.1) (fun hna=>by
    have hmt:mute (c.th j)=true:=by
     cases hx:mute (c.th j) with
     | true=>rfl
     | false=>exact absurd (.inr ⟨j,hj,rfl,hx⟩) hna
    rw [hdT];exact hev'.2.2 hmt) hsh hef _ _
  refine fin (c.own (F.b+j)) σ ?_ (fun e=>by rw [hsg];exact hσ (by rw [<- k2];exact e)) hev'.2.1 (fun _ _ _ _=>hsg) fun q M ph mp hM=>by rw [upd_self'];exact hco q M ph mp hM
  by_cases hmt:mute (c.th j)=true
  ·unfold Cont at haf' ⊢;rw [k1,hmt] at haf' ⊢;simpa using haf'
  ·rw [hown,if_neg hmt] at haf';exact haf'
end
end Mt
end Go.Proofs.YtgkajecjbflbbaaGreatDoor
