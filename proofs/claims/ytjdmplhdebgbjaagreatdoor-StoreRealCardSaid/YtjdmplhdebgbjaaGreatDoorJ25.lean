/- Leads to StoreReal of chapter 6: Farm Farm2 Farm3 Farm4 Farm5 Farm6 Farm7. -/
import Derived.Test.YtjdmplhdebgbjaaGreatDoorJ24
set_option maxHeartbeats 200000
set_option maxRecDepth 100000
set_option linter.all false
namespace Go.Proofs.YtjdmplhdebgbjaaGreatDoor.Mt
open Go Go.Conc
open Go.ConcN (sumTo upd sumTo_upd upd_ne upd_same)
def AtComm (P:Program) (main:Bool) (ro:Hold) (cases:Array CommCase) (shape:CommShape) (g:Goroutine) (own:Hold):Prop :=
 g.status=.running/\∀ w,Meets w own ro->∃ es,stepG P main g w=.comm g cases true shape w es/\∀ e∈es,EvOwn own ro e
structure Farm where
 P:Program
 ro:Hold
 cO:Nat
 cD:Nat
 zO:Value
 zD:Value
 zs:Value
 n:Nat
 v:Nat->Value
 os:Os
 tape:Tape
 out:Array (Nat × ByteArray)
 lo:Nat
 b:Nat
def Farm.cases (F:Farm):Array CommCase:=#[rcase F.cO F.zO,rcase F.cD F.zD]
def sgn:Value:=.bool true
def After1 (F:Farm) (g:Goroutine):Prop:=∃ k,QuitsIn F.P k (Go.Conc.served g undef)
def S1 (F:Farm) (g:Goroutine) (own:Hold):Prop:=AtComm F.P false F.ro #[scase F.cD sgn F.zs] .send g own/\After1 F g
def After0 (F:Farm) (g:Goroutine) (own:Hold):Prop:=∃ k,Walk F.P false F.ro (S1 F) k (Go.Conc.served g undef) own
def S0 (F:Farm) (j:Nat) (g:Goroutine) (own:Hold):Prop:=AtComm F.P false F.ro #[scase F.cO (F.v j) F.zs] .send g own/\After0 F g own
inductive Ph
 | calc0 (k:Nat) | off0 | calc1 (k:Nat) | off1 | quit (k:Nat)
def Ph.weight:Ph->Nat
 | .calc0 k | .calc1 k=>k+1
 | .off0 | .off1=>0
 | .quit k=>k
def Ph.meets:Ph->Nat
 | .calc0 _ | .off0=>2
 | .calc1 _ | .off1=>1
 | .quit _=>0
def Ph.done:Ph->Bool
 | .quit _=>true
 | _=>false
def Ph.sent:Ph->Bool
 | .calc0 _ | .off0=>false
 | _=>true
def WOk (F:Farm) (j:Nat):Ph->Goroutine->Hold->Prop
 | .calc0 k,g,own=>Walk F.P false F.ro (S0 F j) k g own
 | .off0,g,own=>∃ g0,g=parked g0 #[scase F.cO (F.v j) F.zs] .send/\After0 F g0 own
 | .calc1 k,g,own=>Walk F.P false F.ro (S1 F) k g own
 | .off1,g,own=>∃ g0,g=parked g0 #[scase F.cD sgn F.zs] .send/\After1 F g0
 | .quit k,g,own=>QuitsIn F.P k g
structure Master (F:Farm) where
 MS:Nat->Goroutine->Hold->Prop
 MR:(Nat->Bool)->Nat->Goroutine->Hold->Prop
 Fin:Goroutine->Hold->Prop
 onSpawn:∀ j g own,MS j g own->j < F.n->g.status=.running/\∀ w,Meets w own F.ro->∃ g' child es own' H,stepG F.P true g w=.spawn g' child w es/\(∀ e∈es,EvOwn own F.ro e) /\
  (∀ r o,own' r=some o->own r=some o)/\(∀ r o,H r=some o->own r=some o)/\(∀ r,keyOf own' r->¬ keyOf H r)/\(∃ k,Walk F.P false F.ro (S0 F j) k child H) /\
  (j+1 < F.n->∃ k,Walk F.P true F.ro (MS (j+1)) k g' own')/\(j+1=F.n->∃ k,Walk F.P true F.ro (MR (fun _=>false) 0) k g' own')
 atSel:∀ σ c g own,MR σ c g own->AtComm F.P true F.ro F.cases .select g own
 onOut:∀ σ c g own j,MR σ c g own->j < F.n->σ j=false->∃ k,Walk F.P true F.ro (MR (upd σ j true) c) k (g.finishComm F.P F.cases .select (0:Nat) (F.v j) true) own
 onSign:∀ σ c g own,MR σ c g own->c+1 < F.n->∃ k,Walk F.P true F.ro (MR σ (c+1)) k (g.finishComm F.P F.cases .select (1:Nat) sgn true) own
 onLast:∀ σ c g own,MR σ c g own->c+1=F.n->(∀ j,j < F.n->σ j=true)->∃ k,Walk F.P true F.ro Fin k (g.finishComm F.P F.cases .select (1:Nat) sgn true) own
inductive MPh
 | start (j k:Nat) | recv (k:Nat) | wait | last (k:Nat)
def MPh.weight:MPh->Nat
 | .start _ k | .recv k | .last k=>k+1
 | .wait=>0
variable {F:Farm}
def doneOf (ph:Nat->Ph) (m:Nat):Nat:=sumTo m fun j=>if (ph j).done then 1 else 0
def MOk (M:Master F) (ph:Nat->Ph):MPh->Nat->Goroutine->Hold->Prop
 | .start j k,m,g,own=>j=m/\m < F.n/\(∀ i,i < m->(ph i).sent=false)/\Walk F.P true F.ro (M.MS j) k g own
 | .recv k,m,g,own=>m=F.n/\doneOf ph m < F.n/\∃ σ,(∀ i,i < m->σ i=(ph i).sent)/\Walk F.P true F.ro (M.MR σ (doneOf ph m)) k g own
 | .wait,m,g,own=>m=F.n/\doneOf ph m < F.n/\∃ σ g0,(∀ i,i < m->σ i=(ph i).sent)/\g=parked g0 F.cases .select/\M.MR σ (doneOf ph m) g0 own/\(∀ i,i < m->ph i≠.off0/\ph i≠.off1)
 | .last k,m,g,own=>m=F.n/\(∀ i,i < m->(ph i).done=true)/\Walk F.P true F.ro M.Fin k g own
def ActW (F:Farm) (ph:Nat->Ph) (m:Nat) (g:Nat):Prop:=g=0∨∃ j,j < m/\g=F.b+j/\(ph j).done=false
def Open (F:Farm) (w:World):Prop:=(∃ s tm,w.heap[F.cO]? = some (.chan 0 #[] false s s tm))/\∃ s tm,w.heap[F.cD]? = some (.chan 0 #[] false s s tm)
structure Core (F:Farm) (Act:Nat->Prop) (w:World) (t:Trace) (own:Nat->Hold):Prop where
 trace:FT t w.heap.size Act own F.ro
 sep:Sep Act own
 meets:∀ g,Act g->Meets w (own g) F.ro
 chans:Open F w
 two:F.cO≠F.cD
 free:∀ g,Act g->own g F.cO=none/\own g F.cD=none
 roFree:F.ro F.cO=none/\F.ro F.cD=none
 rest:w.os=F.os/\w.tape=F.tape/\w.output=F.out/\F.lo<=w.heap.size
structure Inv0 (M:Master F) (gs:Array Goroutine) (w:World) (t:Trace) (q:Nat->Nat) (m:Nat) (ph:Nat->Ph) (mp:MPh) (own:Nat->Hold):Prop where
 size:gs.size=F.b+m
 base:0 < F.b
 old:∀ i g,0 < i->i < F.b->gs[i]? = some g->QuitsD F.P (q i) (Deaf t i) g
 work:∀ j,j < m->∃ g,gs[F.b+j]? = some g/\WOk F j (ph j) g (own (F.b+j))
 main:∃ g,gs[0]? = some g/\MOk M ph mp m g (own 0)
 core:Core F (ActW F ph m) w t own
 deaf:∀ j,F.b<=j->Deaf t j=0
end Go.Proofs.YtjdmplhdebgbjaaGreatDoor.Mt
namespace Go.Proofs.YtjdmplhdebgbjaaGreatDoor.Mt
open Go Go.Conc
open Go.ConcN (sumTo upd sumTo_upd upd_ne upd_same sumTo_congr)
variable {F:Farm} {M:Master F} {gs:Array Goroutine} {w:World} {t:Trace} {q:Nat->Nat} {m:Nat} {ph:Nat->Ph} {mp:MPh} {own:Nat->Hold}
theorem walk_running {P:Program} {main:Bool} {ro:Hold} {Stop:Goroutine->Hold->Prop} (hS:∀ g own,Stop g own->g.status=.running) {k:Nat} {g:Goroutine} {own:Hold} (h:Walk P main ro Stop k g own):g.status=.running:=by
 cases k with
 | zero=>exact hS _ _ h
 | succ k=>exact h.elim (hS _ _) fun x=>x.1
def Ph.off:Ph->Bool
 | .off0 | .off1=>true
 | _=>false
def Seen (F:Farm) (g:Goroutine):Prop:=g.status=.running∨g.status=.finished∨∃ g0 cs sh,g=parked g0 cs sh/\∀ cc∈cs,∃ c,(c=F.cO∨c=F.cD)/\cc.chan=.chan (some c)
theorem WOk.seen {j:Nat} {p:Ph} {g:Goroutine} {o:Hold} (h:WOk F j p g o):Seen F g:=by
 cases p with
 | calc0 k=>exact .inl (walk_running (fun g own x=>x.1.1) h)
 | calc1 k=>exact .inl (walk_running (fun g own x=>x.1.1) h)
 | off0=>obtain ⟨g0,rfl,_⟩:=h;exact .inr (.inr ⟨g0,_,_,rfl,fun cc hcc=>by simp at hcc;subst hcc;exact ⟨F.cO,.inl rfl,rfl⟩⟩)
 | off1=>obtain ⟨g0,rfl,_⟩:=h;exact .inr (.inr ⟨g0,_,_,rfl,fun cc hcc=>by simp at hcc;subst hcc;exact ⟨F.cD,.inr rfl,rfl⟩⟩)
 | quit k=>exact (QuitsD.status (QuitsD.of_quitsIn h)).elim .inl fun x=>.inr (.inl x)
theorem MOk.seen (hfin:∀ g own,M.Fin g own->g.status=.running) {g:Goroutine} {o:Hold} (h:MOk M ph mp m g o):Seen F g:=by
 cases mp with
 | start j k=>obtain ⟨rfl,h1,_,h2⟩:=h;exact .inl (walk_running (fun g own x=>(M.onSpawn _ g own x h1).1) h2)
 | recv k=>obtain ⟨_,_,σ,_,h2⟩:=h;exact .inl (walk_running (fun g own x=>(M.atSel _ _ g own x).1) h2)
 | last k=>obtain ⟨_,_,h2⟩:=h;exact .inl (walk_running hfin h2)
 | wait =>
  obtain ⟨_,_,σ,g0,_,rfl,_⟩:=h;refine .inr (.inr ⟨g0,_,_,rfl,fun cc hcc=>?_⟩);simp [Farm.cases] at hcc;rcases hcc with rfl | rfl
  ·exact ⟨F.cO,.inl rfl,rfl⟩
  ·exact ⟨F.cD,.inr rfl,rfl⟩
theorem Inv0.all (h:Inv0 M gs w t q m ph mp own) (hfin:∀ g own,M.Fin g own->g.status=.running):∀ (i:Nat) (x:Goroutine),gs[i]? = some x->Seen F x:=by
 intro i x hx;rcases Nat.eq_zero_or_pos i with rfl | hpos
 ·obtain ⟨g,hg,hm⟩:=h.main;rw [hg] at hx;cases hx;exact hm.seen hfin
 ·rcases Nat.lt_or_ge i F.b with hlt | hge
  ·exact (h.old i x hpos hlt hx).status.elim .inl fun y=>.inr (.inl y)
  ·have hlt:i < gs.size:=(Array.getElem?_eq_some_iff.1 hx).1;rw [h.size] at hlt;obtain ⟨g,hg,hw⟩:=h.work (i - F.b) (by omega);rw [show F.b+(i - F.b)=i by omega] at hg;rw [hg] at hx;cases hx;exact hw.seen
theorem seen_woken {a a':Goroutine} {w':World} (ho:Open F w') {x:Goroutine} (h:Seen F x):woken F.P a a' w' x=x:=by
 rcases h with h | h | ⟨g0,cs,sh,rfl,hcs⟩
 ·exact woken_run h
 ·unfold Go.Conc.woken;split
  ·simp [Goroutine.again,h]
  ·rfl
 ·unfold Go.Conc.woken;split
  ·obtain ⟨⟨s,tm,h1⟩,s',tm',h2⟩:=ho;simp only [Goroutine.again,parked];rw [if_neg];intro hx;rw [Array.any_eq_true] at hx;obtain ⟨i,hi,hx⟩:=hx;obtain ⟨c,hc,e⟩:=hcs cs[i] (Array.getElem_mem hi);simp only [e] at hx;rcases hc with rfl | rfl
   ·simp [h1] at hx
   ·simp [h2] at hx
  ·rfl
theorem seen_awake {x:Goroutine} (h:Seen F x):awake x:=by
 rcases h with h | h | ⟨g0,cs,sh,rfl,_⟩
 ·exact awake_of (.inl h)
 ·exact awake_of (.inr (.inr h))
 ·exact awake_of (.inr (.inl rfl))
theorem map_woken {a a':Goroutine} {w':World} (ho:Open F w') (h:∀ (i:Nat) (x:Goroutine),gs[i]? = some x->Seen F x):gs.map (woken F.P a a' w')=gs:=by
 apply Array.ext_getElem?;intro i;rw [Array.getElem?_map]
 cases hx:gs[i]? with
 | none=>rfl
 | some x=>simp [seen_woken ho (h i x hx)]
theorem doneOf_congr {ph':Nat->Ph} (h:∀ i,i < m->(ph' i).done=(ph i).done):doneOf ph' m=doneOf ph m:=sumTo_congr fun i hi=>by rw [h i hi]
theorem mok_congr {ph':Nat->Ph} (h:∀ i,i < m->(ph' i).sent=(ph i).sent/\(ph' i).done=(ph i).done/\(mp=.wait->(ph' i).off=true->(ph i).off=true)) {g:Goroutine} {o:Hold} (hm:MOk M ph mp m g o):MOk M ph' mp m g o:=by
 have hd:doneOf ph' m=doneOf ph m:=doneOf_congr fun i hi=>(h i hi).2.1
 cases mp with
 | start j k=>obtain ⟨h1,h2,h3,h4⟩:=hm;exact ⟨h1,h2,fun i hi=>by rw [(h i hi).1];exact h3 i hi,h4⟩
 | recv k =>
  obtain ⟨h1,h2,σ,h3,h4⟩:=hm;exact ⟨h1,by rw [hd];exact h2,σ,fun i hi=>by rw [(h i hi).1];exact h3 i hi,by rw [hd];exact h4⟩
 | wait =>
  obtain ⟨h1,h2,σ,g0,h3,h4,h5,h6⟩:=hm;refine ⟨h1,by rw [hd];exact h2,σ,g0,fun i hi=>by rw [(h i hi).1];exact h3 i hi,h4,by rw [hd];exact h5,fun i hi=>?_⟩;have:=(h i hi).2.2 rfl;obtain ⟨a,b⟩:=h6 i hi;constructor
  ·intro e;rw [e] at this;have:=this rfl;cases hp:ph i <;> simp_all [Ph.off]
  ·intro e;rw [e] at this;have:=this rfl;cases hp:ph i <;> simp_all [Ph.off]
 | last k=>obtain ⟨h1,h2,h3⟩:=hm;exact ⟨h1,fun i hi=>by rw [(h i hi).2.1];exact h2 i hi,h3⟩
theorem not_key {H:Hold} {r:Nat} (h:H r=none):¬ keyOf H r:=fun ⟨o,e⟩=>by rw [h] at e;cases e
theorem key_none {H:Hold} {r:Nat} (h:¬ keyOf H r):H r=none:=by
 cases e:H r with
 | none=>rfl
 | some o=>exact absurd ⟨o,e⟩ h
section
variable {F:Farm} {Act:Nat->Prop} {w w':World} {t:Trace} {own:Nat->Hold}
theorem Core.at (h:Core F Act w t own) (d:Nat):Core F Act (w.at d) t own :=
 ⟨h.trace,h.sep,fun g hg=>⟨(h.meets g hg).mine,(h.meets g hg).shared,(h.meets g hg).apart⟩,h.chans,h.two,h.free,h.roFree,h.rest⟩
theorem Core.turn (h:Core F Act w t own) {x:Nat} (hx:Act x) {own':Hold} {es:Array Event} (ht:Turn F.ro (own x) own' w w' es) (fn:FuncId) (pos:String) :
 Core F Act w' (t ++ MemOp.ofEvents x fn pos es) (upd own x own'):=by
 have old:∀ c,own x c=none->(∃ o,w.heap[c]? = some o)->w'.heap[c]? = w.heap[c]? := fun c hc ⟨o,ho⟩=>ht.kept c (Array.getElem?_eq_some_iff.1 ho).1 (not_key hc);have fresh:∀ c,own x c=none->(∃ o,w.heap[c]? = some o)->own' c=none:=fun c hc ⟨o,ho⟩=>key_none fun hk=>by
  rcases ht.keys c hk with hk | hk
  ·exact not_key hc hk
  ·exact absurd (Array.getElem?_eq_some_iff.1 ho).1 (by omega)
 refine ⟨h.trace.turn hx h.sep h.meets ht fn pos,fun a b r ha hb hka hkb=>?_,fun a ha=>?_,?_,h.two,fun a ha=>?_,h.roFree,⟨ht.rest.1.trans h.rest.1,ht.rest.2.1.trans h.rest.2.1,ht.rest.2.2.trans h.rest.2.2.1,Nat.le_trans h.rest.2.2.2 ht.size⟩⟩
 ·by_cases e1:a=x
  ·by_cases e2:b=x
   ·rw [e1,e2]
   ·subst e1;rw [upd_same] at hka;rw [upd_ne _ _ e2] at hkb;rcases ht.keys r hka with hk | hk
    ·exact h.sep _ _ r hx hb hk hkb
    ·exact absurd ((h.meets b hb).mine.lt hkb) (by omega)
  ·rw [upd_ne _ _ e1] at hka;by_cases e2:b=x
   ·subst e2;rw [upd_same] at hkb;rcases ht.keys r hkb with hk | hk
    ·exact h.sep _ _ r ha hx hka hk
    ·exact absurd ((h.meets a ha).mine.lt hka) (by omega)
   ·rw [upd_ne _ _ e2] at hkb;exact h.sep _ _ r ha hb hka hkb
 ·by_cases e:a=x
  ·subst e;rw [upd_same];exact ht.holds
  ·rw [upd_ne _ _ e];refine ⟨fun r o hr=>?_,ht.holds.shared,(h.meets a ha).apart⟩;have hlt:=(h.meets a ha).mine.lt ⟨o,hr⟩;rw [ht.kept r hlt fun hk=>e (h.sep a x r ha hx ⟨o,hr⟩ hk)];exact (h.meets a ha).mine r o hr
 ·obtain ⟨⟨s,tm,h1⟩,s',tm',h2⟩:=h.chans;exact ⟨⟨s,tm,by rw [old _ (h.free x hx).1 ⟨_,h1⟩];exact h1⟩,s',tm',by rw [old _ (h.free x hx).2 ⟨_,h2⟩];exact h2⟩
 ·by_cases e:a=x
  ·subst e;rw [upd_same];obtain ⟨⟨s,tm,h1⟩,s',tm',h2⟩:=h.chans;exact ⟨fresh _ (h.free a ha).1 ⟨_,h1⟩,fresh _ (h.free a ha).2 ⟨_,h2⟩⟩
  ·rw [upd_ne _ _ e];exact h.free a ha
theorem Core.calm (h:Core F Act w t own) (u:List MemOp) (hu:∀ y∈u,Calm y/\y.act.low w.heap.size):Core F Act w (t ++ u.toArray) own :=
 ⟨h.trace.pushes u hu,h.sep,h.meets,h.chans,h.two,h.free,h.roFree,h.rest⟩
theorem Core.less (h:Core F Act w t own) {Act':Nat->Prop} (hA:∀ g,Act' g->Act g) (ht:FT t w.heap.size Act' own F.ro):Core F Act' w t own :=
 ⟨ht,fun a b r ha hb=>h.sep a b r (hA a ha) (hA b hb),fun g hg=>h.meets g (hA g hg),h.chans,h.two,fun g hg=>h.free g (hA g hg),h.roFree,h.rest⟩
theorem Core.passed (h:Core F Act w t own) {c s:Nat} {tm:Bool} (hc:c=F.cO∨c=F.cD) (d:Nat):Core F Act ((w.at d).setChan c 0 #[] false (s+1) (s+1) tm) t own:=by
 have hother:∀ r,r≠c->((w.at d).setChan c 0 #[] false (s+1) (s+1) tm).heap[r]? = w.heap[r]? := fun r hr=>by
  show (w.heap.setIfInBounds c _)[r]? = _;rw [Array.getElem?_setIfInBounds_ne (Ne.symm hr)]
 have hsz:((w.at d).setChan c 0 #[] false (s+1) (s+1) tm).heap.size=w.heap.size:=by simp [World.setChan,World.at]
 have hin:∀ o,w.heap[c]? = some o->((w.at d).setChan c 0 #[] false (s+1) (s+1) tm).heap[c]? = some (.chan 0 #[] false (s+1) (s+1) tm):=fun o ho=>by
  show (w.heap.setIfInBounds c _)[c]? = _;rw [Array.getElem?_setIfInBounds_self_of_lt (Array.getElem?_eq_some_iff.1 ho).1]
 have hne:∀ H:Hold,H F.cO=none/\H F.cD=none->∀ r o,H r=some o->r≠c:=fun H hH r o hr e=>by
  subst e;rcases hc with rfl | rfl
  ·rw [hH.1] at hr;cases hr
  ·rw [hH.2] at hr;cases hr
 refine ⟨by rw [hsz];exact h.trace,h.sep,fun g hg=>⟨fun r o hr=>?_,fun r o hr=>?_,(h.meets g hg).apart⟩,?_,h.two,h.free,h.roFree,⟨h.rest.1,h.rest.2.1,h.rest.2.2.1,by rw [hsz];exact h.rest.2.2.2⟩⟩
 ·rw [hother r (hne _ (h.free g hg) r o hr)];exact (h.meets g hg).mine r o hr
 ·rw [hother r (hne _ h.roFree r o hr)];exact (h.meets g hg).shared r o hr
 ·obtain ⟨⟨s1,tm1,h1⟩,s2,tm2,h2⟩:=h.chans;rcases hc with rfl | rfl
  ·exact ⟨⟨_,_,hin _ h1⟩,s2,tm2,by rw [hother _ (Ne.symm h.two)];exact h2⟩
  ·exact ⟨⟨s1,tm1,by rw [hother _ h.two];exact h1⟩,_,_,hin _ h2⟩
end
variable {F:Farm} {M:Master F} {gs:Array Goroutine} {w w':World} {t:Trace} {q:Nat->Nat} {m:Nat} {ph:Nat->Ph} {mp:MPh} {own:Nat->Hold}
theorem act_congr {ph':Nat->Ph} (h:∀ i,i < m->(ph' i).done=(ph i).done):∀ g,ActW F ph' m g↔ActW F ph m g:=fun g=>by
 unfold ActW;constructor
 ·rintro (h0 | ⟨j,a,b,c⟩)
  ·exact .inl h0
  ·exact .inr ⟨j,a,b,by rw [← h j a];exact c⟩
 ·rintro (h0 | ⟨j,a,b,c⟩)
  ·exact .inl h0
  ·exact .inr ⟨j,a,b,by rw [h j a];exact c⟩
theorem Core.congr {Act Act':Nat->Prop} (h:Core F Act w t own) (e:∀ g,Act' g↔Act g):Core F Act' w t own:=by
 have:Act'=Act:=funext fun g=>propext (e g);rw [this];exact h
theorem Inv0.setMain (h:Inv0 M gs w t q m ph mp own) {g g':Goroutine} {own':Hold} {es:Array Event} {mp':MPh} (hg:gs[0]? = some g)
 (ht:Turn F.ro (own 0) own' w w' es) (hm:MOk M ph mp' m g' own') (fn:FuncId) (pos:String) :
 Inv0 M (gs.setIfInBounds 0 g') w' (t ++ MemOp.ofEvents 0 fn pos es) q m ph mp' (upd own 0 own'):=by
 have hc:=h.core.turn (.inl rfl) ht fn pos;have hlt:0 < gs.size:=(Array.getElem?_eq_some_iff.1 hg).1;have hb:=h.base;have hdo:∀ x,x≠0->Deaf (t ++ MemOp.ofEvents 0 fn pos es) x=Deaf t x:=fun x hx=>Deaf_other t (g:=x) (g':=0) (by omega) _ fun op hop=>by obtain ⟨e,_,rfl⟩:=Go.Conc.mem_ofEvents hop;rfl
 refine ⟨by simp [h.size],hb,fun i x hi hib hx=>?_,fun j hj=>?_,⟨g',by simp [hlt],by rw [upd_same];exact hm⟩,hc,fun j hj=>by rw [hdo j (by omega)];exact h.deaf j hj⟩
 ·rw [Array.getElem?_setIfInBounds_ne (by omega)] at hx;rw [hdo i (by omega)];exact h.old i x hi hib hx
 ·obtain ⟨x,hx,hw⟩:=h.work j hj;exact ⟨x,by rw [Array.getElem?_setIfInBounds_ne (by omega)];exact hx,by rw [upd_ne _ _ (by omega)];exact hw⟩
theorem Inv0.setWork (h:Inv0 M gs w t q m ph mp own) {j:Nat} (hj:j < m) {g g':Goroutine} {own':Hold} {es:Array Event} {p':Ph} (hg:gs[F.b+j]? = some g)
 (hact:(ph j).done=false) (hp1:p'.sent=(ph j).sent) (hp2:p'.done=(ph j).done) (hp3:mp=.wait->p'.off=true->(ph j).off=true)
 (ht:Turn F.ro (own (F.b+j)) own' w w' es) (hw:WOk F j p' g' own') (fn:FuncId) (pos:String) :
 Inv0 M (gs.setIfInBounds (F.b+j) g') w' (t ++ MemOp.ofEvents (F.b+j) fn pos es) q m (upd ph j p') mp (upd own (F.b+j) own'):=by
 have hx:ActW F ph m (F.b+j):=.inr ⟨j,hj,rfl,hact⟩;have hc:=h.core.turn hx ht fn pos;have hlt:F.b+j < gs.size:=(Array.getElem?_eq_some_iff.1 hg).1;have hb:=h.base;have hall:∀ i,i < m->(upd ph j p' i).sent=(ph i).sent/\(upd ph j p' i).done=(ph i).done/\(mp=.wait->(upd ph j p' i).off=true->(ph i).off=true):=fun i _=>by
  by_cases e:i=j
  ·subst e;rw [upd_same];exact ⟨hp1,hp2,hp3⟩
  ·rw [upd_ne _ _ e];exact ⟨rfl,rfl,fun _=>id⟩
 have hdo:∀ x,x≠F.b+j->Deaf (t ++ MemOp.ofEvents (F.b+j) fn pos es) x=Deaf t x:=fun x hx=>Deaf_other t (g:=x) (g':=F.b+j) (Ne.symm hx) _ fun op hop=>by obtain ⟨e,_,rfl⟩:=Go.Conc.mem_ofEvents hop;rfl
 refine ⟨by simp [h.size],hb,fun i x hi hib hx=>?_,fun i hi=>?_,?_,hc.congr (act_congr fun i hi=>(hall i hi).2.1),fun i hi=>?_⟩
 ·rw [Array.getElem?_setIfInBounds_ne (by omega)] at hx;rw [hdo i (by omega)];exact h.old i x hi hib hx
 ·by_cases e:i=j
  ·subst e;exact ⟨g',by simp [hlt],by rw [upd_same,upd_same];exact hw⟩
  ·obtain ⟨x,hx,hwx⟩:=h.work i hi;exact ⟨x,by rw [Array.getElem?_setIfInBounds_ne (by omega)];exact hx,by rw [upd_ne _ _ e,upd_ne _ _ (by omega)];exact hwx⟩
 ·obtain ⟨x,hx,hm⟩:=h.main;exact ⟨x,by rw [Array.getElem?_setIfInBounds_ne (by omega)];exact hx,by rw [upd_ne _ _ (by omega)];exact mok_congr hall hm⟩
 ·by_cases e:i=F.b+j
  ·subst e;rw [Deaf_own,deafBehind_still fun e he=>(ht.evs e he).calm];exact h.deaf _ hi
  ·rw [hdo i e];exact h.deaf i hi
variable {F:Farm} {M:Master F} {gs:Array Goroutine} {w w':World} {t:Trace} {q:Nat->Nat} {m:Nat} {ph:Nat->Ph} {mp:MPh} {own:Nat->Hold}
def meeting (x c s:Nat) (f1 f2:FuncId) (p1 p2:String):List MemOp :=
 [{ g:=x,fn:=f1,pos:=p1,act:=.send c s },{ g:=0,fn:=f2,pos:=p2,act:=.recv c s 0 },{ g:=x,fn:=f1,pos:=p1,act:=.sendDone c s },{ g:=0,fn:=f2,pos:=p2,act:=.recvDone c s }]
theorem meeting_calm {x c s:Nat} {f1 f2:FuncId} {p1 p2:String} {B:Nat} (h:c < B):∀ y∈meeting x c s f1 f2 p1 p2,Calm y/\y.act.low B:=fun y hy=>by
 simp only [meeting,List.mem_cons,List.not_mem_nil,or_false] at hy;rcases hy with rfl | rfl | rfl | rfl <;> exact ⟨⟨rfl,by simp,by simp⟩,h⟩
theorem upd_self {α:Type} (f:Nat->α) (x:Nat):upd f x (f x)=f:=funext fun y=>by
 by_cases e:y=x
 ·subst e;rw [upd_same]
 ·rw [upd_ne _ _ e]
theorem Core.meet {Act:Nat->Prop} (h:Core F Act w t own) {x y c s:Nat} {tm:Bool} {es:Array Event} (hx:Act x) (hc:c=F.cO∨c=F.cD) (hes:∀ e∈es,EvOwn (own x) F.ro e) (hch:w.heap[c]? = some (.chan 0 #[] false s s tm)) (d:Nat) (fn f1 f2:FuncId) (pos p1 p2:String) :
 Core F Act ((w.at d).setChan c 0 #[] false (s+1) (s+1) tm) (t ++ (MemOp.ofEvents x fn pos es ++ (meeting y c s f1 f2 p1 p2).toArray)) own:=by
 have h1:=h.turn hx (own':=own x) (w':=w) (es:=es) ⟨h.meets x hx,Nat.le_refl _,fun _ _ _=>rfl,⟨rfl,rfl,rfl⟩,fun _ h=>.inl h,hes⟩ fn pos;rw [upd_self] at h1;rw [← Array.append_assoc];exact (h1.calm _ (meeting_calm (Array.getElem?_eq_some_iff.1 hch).1)).passed hc d
theorem deaf_meet {x y c s i:Nat} {es:Array Event} (hes:∀ e∈es,e.loc≠.mark .disable/\e.loc≠.mark .enable) (fn f1 f2:FuncId) (pos p1 p2:String):Deaf (t ++ (MemOp.ofEvents x fn pos es ++ (meeting y c s f1 f2 p1 p2).toArray)) i=Deaf t i:=by
 rw [← Array.append_assoc,deaf_calm i _ fun z hz=>(meeting_calm (B:=c+1) (Nat.lt_succ_self c) z hz).1];by_cases e:i=x
 ·subst e;rw [Deaf_own,deafBehind_still hes]
 ·exact Deaf_other t (g:=i) (g':=x) (Ne.symm e) _ fun op hop=>by obtain ⟨e,_,rfl⟩:=Go.Conc.mem_ofEvents hop;rfl
theorem Inv0.arrays (h:Inv0 M gs w t q m ph mp own) {j:Nat} (hj:j < m) (gw gm:Goroutine) :
 ((gs.setIfInBounds (F.b+j) gw).setIfInBounds 0 gm)[0]? = some gm/\((gs.setIfInBounds (F.b+j) gw).setIfInBounds 0 gm)[F.b+j]? = some gw/\∀ i,i≠0->i≠F.b+j->((gs.setIfInBounds (F.b+j) gw).setIfInBounds 0 gm)[i]? = gs[i]? := by
 have hb:=h.base;have hs:=h.size;refine ⟨by rw [Array.getElem?_setIfInBounds_self_of_lt (by simp;omega)],by rw [Array.getElem?_setIfInBounds_ne (by omega),Array.getElem?_setIfInBounds_self_of_lt (by omega)],fun i h0 h1=>by rw [Array.getElem?_setIfInBounds_ne (Ne.symm h0),Array.getElem?_setIfInBounds_ne (Ne.symm h1)]⟩
theorem Inv0.meetOut (h:Inv0 M gs w t q m ph mp own) {j x s k d:Nat} {tm:Bool} {mp':MPh} {gw gm:Goroutine} {es:Array Event} (hj:j < m) (hd:(ph j).done=false) (hx:x=0∨x=F.b+j) (hes:∀ e∈es,EvOwn (own x) F.ro e)
 (hch:w.heap[F.cO]? = some (.chan 0 #[] false s s tm)) (hw:WOk F j (.calc1 k) gw (own (F.b+j))) (hm:MOk M (upd ph j (.calc1 k)) mp' m gm (own 0)) (fn f1 f2:FuncId) (pos p1 p2:String) :
 Inv0 M ((gs.setIfInBounds (F.b+j) gw).setIfInBounds 0 gm) ((w.at d).setChan F.cO 0 #[] false (s+1) (s+1) tm) (t ++ (MemOp.ofEvents x fn pos es ++ (meeting (F.b+j) F.cO s f1 f2 p1 p2).toArray)) q m (upd ph j (.calc1 k)) mp' own:=by
 obtain ⟨a0,aj,ao⟩:=h.arrays hj gw gm;have hb:=h.base;have hax:ActW F ph m x:=hx.elim .inl fun e=>.inr ⟨j,hj,e,hd⟩;have hcore:=h.core.meet (y:=F.b+j) hax (.inl rfl) hes hch d fn f1 f2 pos p1 p2;have hdeaf:=fun i=>deaf_meet (t:=t) (x:=x) (y:=F.b+j) (c:=F.cO) (s:=s) (i:=i) (fun e he=>(hes e he).calm) fn f1 f2 pos p1 p2;refine ⟨by simp [h.size],hb,fun i y hi hib hy=>?_,fun i hi=>?_,⟨gm,a0,hm⟩,hcore.congr (act_congr fun i hi=>?_),fun i hi=>by rw [hdeaf];exact h.deaf i hi⟩
 ·rw [ao i (by omega) (by omega)] at hy;rw [hdeaf];exact h.old i y hi hib hy
 ·by_cases e:i=j
  ·subst e;exact ⟨gw,aj,by rw [upd_same];exact hw⟩
  ·obtain ⟨y,hy,hwy⟩:=h.work i hi;exact ⟨y,by rw [ao _ (by omega) (by omega)];exact hy,by rw [upd_ne _ _ e];exact hwy⟩
 ·by_cases e:i=j
  ·subst e;rw [upd_same,hd];rfl
  ·rw [upd_ne _ _ e]
theorem Inv0.meetSign (h:Inv0 M gs w t q m ph mp own) {j x s k d:Nat} {tm:Bool} {mp':MPh} {gw gm:Goroutine} {es:Array Event} (hj:j < m) (hd:(ph j).done=false) (hx:x=0∨x=F.b+j) (hes:∀ e∈es,EvOwn (own x) F.ro e)
 (hch:w.heap[F.cD]? = some (.chan 0 #[] false s s tm)) (hw:WOk F j (.quit k) gw (own (F.b+j))) (hm:MOk M (upd ph j (.quit k)) mp' m gm (own 0)) (fn f1 f2:FuncId) (pos p1 p2:String) :
 Inv0 M ((gs.setIfInBounds (F.b+j) gw).setIfInBounds 0 gm) ((w.at d).setChan F.cD 0 #[] false (s+1) (s+1) tm) (t ++ (MemOp.ofEvents x fn pos es ++ (meeting (F.b+j) F.cD s f1 f2 p1 p2).toArray)) q m (upd ph j (.quit k)) mp' own:=by
 obtain ⟨a0,aj,ao⟩:=h.arrays hj gw gm;have hb:=h.base;have haj:ActW F ph m (F.b+j):=.inr ⟨j,hj,rfl,hd⟩;have hax:ActW F ph m x:=hx.elim .inl fun e=>e ▸ haj;have hcore:=h.core.meet (y:=F.b+j) hax (.inr rfl) hes hch d fn f1 f2 pos p1 p2;have hdeaf:=fun i=>deaf_meet (t:=t) (x:=x) (y:=F.b+j) (c:=F.cD) (s:=s) (i:=i) (fun e he=>(hes e he).calm) fn f1 f2 pos p1 p2;have hret:=hcore.trace.retire (j:=F.b+j) fun i a ha hgi=>by
  rw [← Array.append_assoc] at ha hgi ⊢;have hcalm:∀ z∈meeting (F.b+j) F.cD s f1 f2 p1 p2,Calm z:=fun z hz=>(meeting_calm (B:=F.cD+1) (Nat.lt_succ_self _) z hz).1;obtain ⟨ha',hlt⟩:=old_touch hcalm ha;obtain ⟨op,ho,_⟩:=touch_of ha';have hog:op.g=F.b+j:=by
   rw [g?_old hlt] at hgi;simpa [Trace.g?,ho] using hgi
  have hk:Knows (t ++ MemOp.ofEvents x fn pos es) (F.b+j) i:=by have:=knows_own ho;rw [hog] at this;exact this
  have hdd:∀ z,ActW F ph m z->Deaf (t ++ MemOp.ofEvents x fn pos es) z=0:=fun z hz=>by
   by_cases e:z=x
   ·subst e;rw [Deaf_own,deafBehind_still fun e he=>(hes e he).calm];exact h.core.trace.hears z hz
   ·rw [Deaf_other t (g:=z) (g':=x) (Ne.symm e) _ fun op hop=>by obtain ⟨e,_,rfl⟩:=Go.Conc.mem_ofEvents hop;rfl];exact h.core.trace.hears z hz
  exact knows_over hcalm (j:=0) (k:=3) (x:={ g:=F.b+j,fn:=f1,pos:=p1,act:=.send F.cD s }) (y:={ g:=0,fn:=f2,pos:=p2,act:=.recvDone F.cD s }) rfl rfl rfl rfl (hdd _ haj) (hdd 0 (.inl rfl)) hk
 have hact:∀ g,ActW F (upd ph j (.quit k)) m g↔(ActW F ph m g/\g≠F.b+j):=fun g=>by
  constructor
  ·rintro (h0 | ⟨i,hi,rfl,hdi⟩)
   ·exact ⟨.inl h0,by omega⟩
   ·by_cases e:i=j
    ·subst e;rw [upd_same] at hdi;cases hdi
    ·rw [upd_ne _ _ e] at hdi;exact ⟨.inr ⟨i,hi,rfl,hdi⟩,by omega⟩
  ·rintro ⟨h0 | ⟨i,hi,rfl,hdi⟩,hne⟩
   ·exact .inl h0
   ·exact .inr ⟨i,hi,rfl,by rw [upd_ne _ _ (by omega)];exact hdi⟩
 refine ⟨by simp [h.size],hb,fun i y hi hib hy=>?_,fun i hi=>?_,⟨gm,a0,hm⟩,(hcore.less (fun g hg=>hg.1) hret).congr hact,fun i hi=>by rw [hdeaf];exact h.deaf i hi⟩
 ·rw [ao i (by omega) (by omega)] at hy;rw [hdeaf];exact h.old i y hi hib hy
 ·by_cases e:i=j
  ·subst e;exact ⟨gw,aj,by rw [upd_same];exact hw⟩
  ·obtain ⟨y,hy,hwy⟩:=h.work i hi;exact ⟨y,by rw [ao _ (by omega) (by omega)];exact hy,by rw [upd_ne _ _ e];exact hwy⟩
variable {F:Farm} {M:Master F} {gs:Array Goroutine} {w w':World} {t:Trace} {q:Nat->Nat} {m:Nat} {ph:Nat->Ph} {mp:MPh} {own:Nat->Hold}
theorem Inv0.spawn (h:Inv0 M gs w t q m ph mp own) {gm child:Goroutine} {es:Array Event} {own' H:Hold} {k:Nat} {mp':MPh} (hes:∀ e∈es,EvOwn (own 0) F.ro e)
 (h1:∀ r o,own' r=some o->own 0 r=some o) (h2:∀ r o,H r=some o->own 0 r=some o) (h3:∀ r,keyOf own' r->¬ keyOf H r) (hw:WOk F m (.calc0 k) child H) (hm:MOk M (upd ph m (.calc0 k)) mp' (m+1) gm own') (fn f1 f2:FuncId) (pos p1 p2:String) :
 Inv0 M ((gs.setIfInBounds 0 gm).push child) w (t ++ (MemOp.ofEvents 0 fn pos es ++ ([{ g:=0,fn:=f1,pos:=p1,act:=.go (F.b+m) },{ g:=F.b+m,fn:=f2,pos:=p2,act:=.start }]:List MemOp).toArray)) q (m+1) (upd ph m (.calc0 k)) mp' (upd (upd own 0 own') (F.b+m) H):=by
 have hb:=h.base;have hs:=h.size;have hnew:¬ ActW F ph m (F.b+m):=by
  rintro (h0 | ⟨i,hi,e,_⟩) <;> omega
 have hact:∀ g,ActW F (upd ph m (.calc0 k)) (m+1) g↔(ActW F ph m g∨g=F.b+m):=fun g=>by
  constructor
  ·rintro (h0 | ⟨i,hi,rfl,hdi⟩)
   ·exact .inl (.inl h0)
   ·by_cases e:i=m
    ·exact .inr (by omega)
    ·rw [upd_ne _ _ e] at hdi;exact .inl (.inr ⟨i,by omega,rfl,hdi⟩)
  ·rintro ((h0 | ⟨i,hi,rfl,hdi⟩) | rfl)
   ·exact .inl h0
   ·exact .inr ⟨i,by omega,rfl,by rw [upd_ne _ _ (by omega)];exact hdi⟩
   ·exact .inr ⟨m,by omega,rfl,by rw [upd_same];rfl⟩
 have c1:=h.core.turn (.inl rfl) (own':=own 0) (w':=w) (es:=es) ⟨h.core.meets 0 (.inl rfl),Nat.le_refl _,fun _ _ _=>rfl,⟨rfl,rfl,rfl⟩,fun _ h=>.inl h,hes⟩ fn pos;rw [upd_self] at c1;have hdE:∀ x,x≠0->Deaf (t ++ MemOp.ofEvents 0 fn pos es) x=Deaf t x:=fun x hx=>Deaf_other t (g:=x) (g':=0) (Ne.symm hx) _ fun op hop=>by obtain ⟨e,_,rfl⟩:=Go.Conc.mem_ofEvents hop;rfl
 have hf:=c1.trace.fork (.inl rfl) hnew (by rw [hdE _ (by omega)];exact h.deaf _ (by omega)) (H:=H) (K:=own') (fun r ⟨o,ho⟩=>⟨o,h2 r o ho⟩) (fun r ⟨o,ho⟩=>⟨o,h1 r o ho⟩) f1 f2 p1 p2;rw [← Array.append_assoc];have hcalm:∀ y∈([{ g:=0,fn:=f1,pos:=p1,act:=.go (F.b+m) },{ g:=F.b+m,fn:=f2,pos:=p2,act:=.start }]:List MemOp),Calm y:=fun y hy=>by
  simp only [List.mem_cons,List.not_mem_nil,or_false] at hy;rcases hy with rfl | rfl <;> exact ⟨rfl,by simp,by simp⟩
 have hdeaf:∀ x,x≠0->Deaf (t ++ MemOp.ofEvents 0 fn pos es ++ ([{ g:=0,fn:=f1,pos:=p1,act:=.go (F.b+m) },{ g:=F.b+m,fn:=f2,pos:=p2,act:=.start }]:List MemOp).toArray) x=Deaf t x:=fun x hx=>(deaf_calm x _ hcalm).trans (hdE x hx);have own_of:∀ g r,(ActW F ph m g∨g=F.b+m)->keyOf (upd (upd own 0 own') (F.b+m) H g) r->(g=F.b+m/\keyOf H r)∨(g=0/\keyOf own' r)∨(g≠0/\g≠F.b+m/\ActW F ph m g/\keyOf (own g) r):=fun g r hg hk=>by
  by_cases e:g=F.b+m
  ·subst e;rw [upd_same] at hk;exact .inl ⟨rfl,hk⟩
  ·rw [upd_ne _ _ e] at hk;by_cases e0:g=0
   ·subst e0;rw [upd_same] at hk;exact .inr (.inl ⟨rfl,hk⟩)
   ·rw [upd_ne _ _ e0] at hk;exact .inr (.inr ⟨e0,e,hg.resolve_right e,hk⟩)
 have to0:∀ r,keyOf H r->keyOf (own 0) r:=fun r ⟨o,ho⟩=>⟨o,h2 r o ho⟩;have to0':∀ r,keyOf own' r->keyOf (own 0) r:=fun r ⟨o,ho⟩=>⟨o,h1 r o ho⟩;have m0:=h.core.meets 0 (.inl rfl);have hcore:Core F (fun x=>ActW F ph m x∨x=F.b+m) w (t ++ MemOp.ofEvents 0 fn pos es ++ ([{ g:=0,fn:=f1,pos:=p1,act:=.go (F.b+m) },{ g:=F.b+m,fn:=f2,pos:=p2,act:=.start }]:List MemOp).toArray) (upd (upd own 0 own') (F.b+m) H):=by
  refine ⟨hf,fun a c r ha hc hka hkc=>?_,fun g hg=>?_,h.core.chans,h.core.two,fun g hg=>?_,h.core.roFree,h.core.rest⟩
  ·rcases own_of a r ha hka with ⟨rfl,ka⟩ | ⟨rfl,ka⟩ | ⟨na0,nan,aa,ka⟩ <;> rcases own_of c r hc hkc with ⟨rfl,kc⟩ | ⟨rfl,kc⟩ | ⟨nc0,ncn,ac,kc⟩
   ·rfl
   ·exact absurd ka (h3 r kc)
   ·exact absurd (h.core.sep 0 c r (.inl rfl) ac (to0 r ka) kc).symm nc0
   ·exact absurd kc (h3 r ka)
   ·rfl
   ·exact absurd (h.core.sep 0 c r (.inl rfl) ac (to0' r ka) kc).symm nc0
   ·exact absurd (h.core.sep a 0 r aa (.inl rfl) ka (to0 r kc)) na0
   ·exact absurd (h.core.sep a 0 r aa (.inl rfl) ka (to0' r kc)) na0
   ·exact h.core.sep a c r aa ac ka kc
  ·by_cases e:g=F.b+m
   ·subst e;rw [upd_same];exact ⟨fun r o hr=>m0.mine r o (h2 r o hr),m0.shared,fun r o hr=>m0.apart r o (h2 r o hr)⟩
   ·rw [upd_ne _ _ e];by_cases e0:g=0
    ·subst e0;rw [upd_same];exact ⟨fun r o hr=>m0.mine r o (h1 r o hr),m0.shared,fun r o hr=>m0.apart r o (h1 r o hr)⟩
    ·rw [upd_ne _ _ e0];exact h.core.meets g (hg.resolve_right e)
  ·have f0:=h.core.free 0 (.inl rfl);by_cases e:g=F.b+m
   ·subst e;rw [upd_same];exact ⟨key_none fun ⟨o,ho⟩=>(by have:=h2 _ o ho;rw [f0.1] at this;cases this),key_none fun ⟨o,ho⟩=>(by have:=h2 _ o ho;rw [f0.2] at this;cases this)⟩
   ·rw [upd_ne _ _ e];by_cases e0:g=0
    ·subst e0;rw [upd_same];exact ⟨key_none fun ⟨o,ho⟩=>(by have:=h1 _ o ho;rw [f0.1] at this;cases this),key_none fun ⟨o,ho⟩=>(by have:=h1 _ o ho;rw [f0.2] at this;cases this)⟩
    ·rw [upd_ne _ _ e0];exact h.core.free g (hg.resolve_right e)
 have hget:∀ i,i≠0->i≠F.b+m->((gs.setIfInBounds 0 gm).push child)[i]? = gs[i]? := fun i h0 hi=>by
  rw [Array.getElem?_push];rw [if_neg (by simp;omega),Array.getElem?_setIfInBounds_ne (Ne.symm h0)]
 refine ⟨by simp [hs];omega,hb,fun i x hi hib hx=>?_,fun i hi=>?_,⟨gm,by rw [Array.getElem?_push,if_neg (by simp;omega),Array.getElem?_setIfInBounds_self_of_lt (by omega)],by rw [upd_ne _ _ (by omega),upd_same];exact hm⟩,hcore.congr hact,fun i hi=>by rw [hdeaf i (by omega)];exact h.deaf i hi⟩
 ·rw [hget i (by omega) (by omega)] at hx;rw [hdeaf i (by omega)];exact h.old i x hi hib hx
 ·by_cases e:i=m
  ·subst e;exact ⟨child,by rw [Array.getElem?_push,if_pos (by simp [hs])],by rw [upd_same,upd_same];exact hw⟩
  ·obtain ⟨x,hx,hwx⟩:=h.work i (by omega);exact ⟨x,by rw [hget _ (by omega) (by omega)];exact hx,by rw [upd_ne _ _ e,upd_ne _ _ (by omega),upd_ne _ _ (by omega)];exact hwx⟩
variable {F:Farm} {M:Master F} {gs:Array Goroutine} {w w':World} {t:Trace} {q:Nat->Nat} {m:Nat} {ph:Nat->Ph} {mp:MPh} {own:Nat->Hold}
theorem not_off_running {j:Nat} {p:Ph} {g:Goroutine} {o:Hold} (h:WOk F j p g o) (hp:p.off=false):g.status≠.blocked:=by
 cases p with
 | calc0 k=>rw [walk_running (fun g own x=>x.1.1) h];simp
 | calc1 k=>rw [walk_running (fun g own x=>x.1.1) h];simp
 | off0=>cases hp
 | off1=>cases hp
 | quit k=>rcases QuitsD.status (QuitsD.of_quitsIn h) with e | e <;> rw [e] <;> simp
theorem Inv0.who (h:Inv0 M gs w t q m ph mp own) {i:Nat} {x:Goroutine} (hx:gs[i]? = some x):i=0∨(0 < i/\i < F.b/\QuitsD F.P (q i) (Deaf t i) x)∨∃ j,j < m/\i=F.b+j/\WOk F j (ph j) x (own (F.b+j)):=by
 rcases Nat.eq_zero_or_pos i with rfl | hpos
 ·exact .inl rfl
 ·rcases Nat.lt_or_ge i F.b with hlt | hge
  ·exact .inr (.inl ⟨hpos,hlt,h.old i x hpos hlt hx⟩)
  ·have hlt:i < gs.size:=(Array.getElem?_eq_some_iff.1 hx).1;rw [h.size] at hlt;obtain ⟨g,hg,hw⟩:=h.work (i - F.b) (by omega);rw [show F.b+(i - F.b)=i by omega] at hg;rw [hg] at hx;cases hx;exact .inr (.inr ⟨i - F.b,by omega,by omega,hw⟩)
theorem Inv0.no_recv (h:Inv0 M gs w t q m ph mp own) {i:Nat} {x:Goroutine} (hx:gs[i]? = some x) (hi:i≠0) (c:Nat):offersAt x c false=[]:=by
 rcases h.who hx with h0 | ⟨_,_,hq⟩ | ⟨j,hj,rfl,hw⟩
 ·exact absurd h0 hi
 ·exact offersAt_of_not_blocked (by rcases hq.status with e | e <;> rw [e] <;> simp) c false
 ·cases hp:ph j with
  | off0=>rw [hp] at hw;obtain ⟨g0,rfl,_⟩:=hw;exact offersAt_parked_send' _ _ _ _ _ _
  | off1=>rw [hp] at hw;obtain ⟨g0,rfl,_⟩:=hw;exact offersAt_parked_send' _ _ _ _ _ _
  | _=>exact offersAt_of_not_blocked (not_off_running (p:=ph j) hw (by rw [hp];rfl)) c false
theorem Inv0.sends (h:Inv0 M gs w t q m ph mp own) {i k c:Nat} {x:Goroutine} (hx:gs[i]? = some x) (hi:i≠0) (hk:k∈offersAt x c true) :
 k=0/\∃ j,j < m/\i=F.b+j/\((c=F.cO/\ph j=.off0/\∃ g0,x=parked g0 #[scase F.cO (F.v j) F.zs] .send/\After0 F g0 (own (F.b+j)))∨(c=F.cD/\ph j=.off1/\∃ g0,x=parked g0 #[scase F.cD sgn F.zs] .send/\After1 F g0)):=by
 rcases h.who hx with h0 | ⟨_,_,hq⟩ | ⟨j,hj,rfl,hw⟩
 ·exact absurd h0 hi
 ·rw [offersAt_of_not_blocked (by rcases hq.status with e | e <;> rw [e] <;> simp) c true] at hk;cases hk
 ·cases hp:ph j with
  | off0 =>
   rw [hp] at hw;obtain ⟨g0,rfl,ha⟩:=hw;rw [offersAt_parked_send] at hk;split at hk
   ·rename_i e
    simp at hk;exact ⟨hk,j,hj,rfl,.inl ⟨e.symm,hp,g0,rfl,ha⟩⟩
   ·cases hk
  | off1 =>
   rw [hp] at hw;obtain ⟨g0,rfl,ha⟩:=hw;rw [offersAt_parked_send] at hk;split at hk
   ·rename_i e
    simp at hk;exact ⟨hk,j,hj,rfl,.inr ⟨e.symm,hp,g0,rfl,ha⟩⟩
   ·cases hk
  | _=>rw [offersAt_of_not_blocked (not_off_running (p:=ph j) hw (by rw [hp];rfl)) c true] at hk;cases hk
end Go.Proofs.YtjdmplhdebgbjaaGreatDoor.Mt

