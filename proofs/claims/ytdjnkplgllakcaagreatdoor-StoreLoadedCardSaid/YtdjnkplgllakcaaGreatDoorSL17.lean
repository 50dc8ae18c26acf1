/- StoreLoaded -/
import Derived.Test.YtdjnkplgllakcaaGreatDoorSL16
import Derived.Conc.Walk
import Derived.Conc.SmallLaws
set_option maxHeartbeats 200000
set_option maxRecDepth 100000
set_option linter.all false
namespace Go.Proofs.YtdjnkplgllakcaaGreatDoor
namespace Mt
open Go Go.Conc
open Go.ConcN (sumTo upd sumTo_upd upd_ne upd_same sumTo_congr)
variable {F:Farm} {M:Master F} {gs:Array Goroutine} {w w':World} {t:Trace} {q:Nat->Nat} {m:Nat} {ph:Nat->Ph} {mp:MPh} {own:Nat->Hold}
theorem not_off_running {j:Nat} {p:Ph} {g:Goroutine} {o:Hold} (h:WOk F j p g o) (hp:p.off=false):g.status≠.blocked:=by
 cases p with
 | calc0 k=>rw [walk_running (fun g own x=>x.1.1) h];simp
 | calc1 k=>rw [walk_running (fun g own x=>x.1.1) h];simp
 | off0=>cases hp
 | off1=>cases hp
 | quit k=>rcases QuitsD.status (QuitsD.of_quitsIn h) with e | e <;> rw [e] <;> simp
theorem Inv0.who (h:Inv0 M gs w t q m ph mp own) {i:Nat} {x:Goroutine} (hx:gs[i]? = some x):i=0\/(0 < i/\i < F.b/\QuitsD F.P (q i) (Deaf t i) x)\/∃ j,j < m/\i=F.b+j/\WOk F j (ph j) x (own (F.b+j)):=by
 rcases Nat.eq_zero_or_pos i with rfl | hpos
 ·exact .inl rfl
 ·rcases Nat.lt_or_ge i F.b with hlt | hge
  ·exact .inr (.inl ⟨hpos,hlt,h.old i x hpos hlt hx⟩)
  ·have hlt:i < gs.size:=(Array.getElem?_eq_some_iff.1 hx).1;rw [h.size] at hlt;obtain ⟨g,hg,hw⟩:=h.work (i - F.b) (by omega);rw [show F.b+(i - F.b)=i by omega] at hg;rw [hg] at hx;cases hx;exact .inr (.inr ⟨i - F.b,by omega,by omega,hw⟩)
theorem Inv0.no_recv (h:Inv0 M gs w t q m ph mp own) {i:Nat} {x:Goroutine} (hx:gs[i]? = some x) (hi:i≠0) (c:Nat):offersAt x c false=[]:=by
 rcases h.who hx with h0 | ⟨_,_,hq⟩ | ⟨j,hj,rfl,hw⟩
 ·exact absurd h0 hi
 ·exact offersAt_of_not_blocked (by rcases hq.status with e | e <;> rw [e] <;> simp) c false
 ·cases hp:ph j with
  | off0=>rw [hp] at hw;obtain ⟨g0,rfl,_⟩:=hw;exact offersAt_parked_send' _ _ _ _ _ _
  | off1=>rw [hp] at hw;obtain ⟨g0,rfl,_⟩:=hw;exact offersAt_parked_send' _ _ _ _ _ _
  | _=>exact offersAt_of_not_blocked (not_off_running (p:=ph j) hw (by rw [hp];rfl)) c false
theorem Inv0.sends (h:Inv0 M gs w t q m ph mp own) {i k c:Nat} {x:Goroutine} (hx:gs[i]? = some x) (hi:i≠0) (hk:k∈offersAt x c true) :
 k=0/\∃ j,j < m/\i=F.b+j/\((c=F.cO/\ph j=.off0/\∃ g0,x=parked g0 #[scase F.cO (F.v j) F.zs] .send/\After0 F g0 (own (F.b+j)))\/(c=F.cD/\ph j=.off1/\∃ g0,x=parked g0 #[scase F.cD sgn F.zs] .send/\After1 F g0)):=by
 rcases h.who hx with h0 | ⟨_,_,hq⟩ | ⟨j,hj,rfl,hw⟩
 ·exact absurd h0 hi
 ·rw [offersAt_of_not_blocked (by rcases hq.status with e | e <;> rw [e] <;> simp) c true] at hk;cases hk
 ·cases hp:ph j with
  | off0 =>
   rw [hp] at hw;obtain ⟨g0,rfl,ha⟩:=hw;rw [offersAt_parked_send] at hk;split at hk
   ·rename_i e
    simp at hk;exact ⟨hk,j,hj,rfl,.inl ⟨e.symm,hp,g0,rfl,ha⟩⟩
   ·cases hk
  | off1 =>
   rw [hp] at hw;obtain ⟨g0,rfl,ha⟩:=hw;rw [offersAt_parked_send] at hk;split at hk
   ·rename_i e
    simp at hk;exact ⟨hk,j,hj,rfl,.inr ⟨e.symm,hp,g0,rfl,ha⟩⟩
   ·cases hk
  | _=>rw [offersAt_of_not_blocked (not_off_running (p:=ph j) hw (by rw [hp];rfl)) c true] at hk;cases hk
variable {F:Farm} {M:Master F} {gs:Array Goroutine} {w w':World} {t:Trace} {q:Nat->Nat} {m:Nat} {ph:Nat->Ph} {mp:MPh} {own:Nat->Hold}
theorem doneOf_upd {j:Nat} (hj:j < m) (k:Nat) (hd:(ph j).done=false):doneOf (upd ph j (.quit k)) m=doneOf ph m+1:=by
 have:=sumTo_upd ph (.quit k) (fun p=>if p.done then 1 else 0) hj;simp only [hd,Bool.false_eq_true,if_false] at this;show sumTo m (fun a=>if (upd ph j (.quit k) a).done then 1 else 0)=sumTo m (fun a=>if (ph a).done then 1 else 0)+1;have e:(if (Ph.quit k).done then 1 else 0)=1:=rfl;rw [e] at this;omega
theorem doneOf_same {j:Nat} (k:Nat) (hd:(ph j).done=false):doneOf (upd ph j (.calc1 k)) m=doneOf ph m:=doneOf_congr fun i hi=>by
 by_cases e:i=j
 ·subst e;rw [upd_same,hd];rfl
 ·rw [upd_ne _ _ e]
theorem doneOf_le:doneOf ph m<=m:=by
 have:∀ m,doneOf ph m<=m:=fun m=>by
  induction m with
  | zero=>exact Nat.le_refl _
  | succ m ih =>
   show sumTo m _+(if (ph m).done then 1 else 0)<=m+1;have:sumTo m (fun j=>if (ph j).done then 1 else 0)<=m:=ih;split <;> omega
 exact this m
theorem doneOf_all:∀ {m:Nat},doneOf ph m=m->∀ i,i < m->(ph i).done=true:=by
 intro m
 induction m with
 | zero=>intro _ i hi;omega
 | succ m ih =>
  intro h i hi;have h':sumTo m (fun j=>if (ph j).done then 1 else 0)+(if (ph m).done then 1 else 0)=m+1:=h;have hle:sumTo m (fun j=>if (ph j).done then 1 else 0)<=m:=doneOf_le (ph:=ph) (m:=m);by_cases hd:(ph m).done=true
  ·rw [if_pos hd] at h';rcases Nat.lt_or_ge i m with hlt | hge
   ·exact ih (show doneOf ph m=m from by show sumTo m _=m;omega) i hlt
   ·obtain rfl:i=m:=by omega
    exact hd
  ·rw [if_neg hd] at h';omega
theorem got_value {σ:Nat->Bool} {g:Goroutine} {j:Nat} (hm:m=F.n) (hlt:doneOf ph m < F.n) (hσ:∀ i,i < m->σ i=(ph i).sent) (hM:M.MR σ (doneOf ph m) g (own 0)) (hj:j < m) (hs:(ph j).sent=false) (hd:(ph j).done=false) (kw:Nat) :
 ∃ k,MOk M (upd ph j (.calc1 kw)) (.recv k) m (g.finishComm F.P F.cases .select (0:Nat) (F.v j) true) (own 0):=by
 obtain ⟨k,hk⟩:=M.onOut σ _ g (own 0) j hM (by omega) (by rw [hσ j hj];exact hs);refine ⟨k,hm,by rw [doneOf_same kw hd];exact hlt,upd σ j true,fun i hi=>?_,by rw [doneOf_same kw hd];exact hk⟩;by_cases e:i=j
 ·subst e;rw [upd_same,upd_same];rfl
 ·rw [upd_ne _ _ e,upd_ne _ _ e];exact hσ i hi
theorem got_sign {σ:Nat->Bool} {g:Goroutine} {j:Nat} (hm:m=F.n) (hlt:doneOf ph m < F.n) (hσ:∀ i,i < m->σ i=(ph i).sent) (hM:M.MR σ (doneOf ph m) g (own 0)) (hj:j < m) (hs:(ph j).sent=true) (hd:(ph j).done=false) (kw:Nat) :
 ∃ mp',MOk M (upd ph j (.quit kw)) mp' m (g.finishComm F.P F.cases .select (1:Nat) sgn true) (own 0):=by
 have hdo:=doneOf_upd hj kw hd;have hσ':∀ i,i < m->σ i=(upd ph j (.quit kw) i).sent:=fun i hi=>by
  by_cases e:i=j
  ·subst e;rw [upd_same,hσ i hi,hs];rfl
  ·rw [upd_ne _ _ e];exact hσ i hi
 rcases Nat.lt_or_ge (doneOf ph m+1) F.n with hlt2 | hge
 ·obtain ⟨k,hk⟩:=M.onSign σ _ g (own 0) hM hlt2;exact ⟨.recv k,hm,by rw [hdo];exact hlt2,σ,hσ',by rw [hdo];exact hk⟩
 ·have hall:∀ i,i < m->(upd ph j (.quit kw) i).done=true:=doneOf_all (by rw [hdo];omega);obtain ⟨k,hk⟩:=M.onLast σ _ g (own 0) hM (by omega) fun i hi=>by
   rw [hσ' i (by omega)];have:=hall i (by omega);cases hp:upd ph j (.quit kw) i <;> simp_all [Ph.done,Ph.sent]
  exact ⟨.last k,hm,hall,hk⟩
variable {F:Farm} {M:Master F} {gs:Array Goroutine} {w w':World} {t:Trace} {q:Nat->Nat} {m:Nat} {ph:Nat->Ph} {mp:MPh} {own:Nat->Hold}
theorem finish_of_parked {P:Program} {g g0:Goroutine} {cs cs0 cs2:Array CommCase} {sh sh0 sh2:CommShape} {k:Int} {v:Value} {b:Bool} (h:parked g cs sh=parked g0 cs0 sh0):g.finishComm P cs2 sh2 k v b=g0.finishComm P cs2 sh2 k v b:=by
 rw [<- finishComm_parked P g cs2 cs sh2 sh,h,finishComm_parked]
theorem meets_upd {p:Ph} {j:Nat} (hj:j < m) (hlt:p.meets < (ph j).meets):sumTo m (fun i=>(upd ph j p i).meets) < sumTo m (fun i=>(ph i).meets):=by
 have:=sumTo_upd ph p (fun x=>x.meets) hj;omega
theorem Inv0.select (h:Inv0 M gs w t q m ph mp own) {g:Goroutine} (hg:gs[0]? = some g) {σ:Nat->Bool} (hm:m=F.n) (hlt:doneOf ph m < F.n) (hσ:∀ i,i < m->σ i=(ph i).sent) (hM:M.MR σ (doneOf ph m) g (own 0)) (sl:Option (Nat × Nat)) :
 ∃ gs' w' u ph' mp',runT F.P (crowd gs w sl) 0=(.next (crowd gs' w' sl),u)/\Inv0 M gs' w' (t ++ u) q m ph' mp' own/\((mp'=.wait/\ph'=ph)\/sumTo m (fun i=>(ph' i).meets) < sumTo m (fun i=>(ph i).meets)):=by
 obtain ⟨hrun,hcomm⟩:=M.atSel σ _ g (own 0) hM;obtain ⟨es,hs,hes⟩:=hcomm w (h.core.meets 0 (.inl rfl));obtain ⟨⟨sO,tmO,hO⟩,sD,tmD,hD⟩:=h.core.chans;have hin:∀ c j k,(j,k)∈partners (gs.setIfInBounds 0 Go.Conc.ph) c true->j≠0/\∃ x,gs[j]? = some x/\k∈offersAt x c true:=fun c j k hjk=>by
  obtain ⟨x,hx,hk⟩:=mem_partners.1 hjk;rcases getElem?_stand gs 0 j x hx with ⟨_,rfl⟩ | ⟨h0,hx⟩
  ·rw [offersAt_ph] at hk;cases hk
  ·exact ⟨h0,x,hx,hk⟩
 by_cases hne:partners (gs.setIfInBounds 0 Go.Conc.ph) F.cO true≠[]\/partners (gs.setIfInBounds 0 Go.Conc.ph) F.cD true≠[]
 ·obtain ⟨kk,c,s,r,tm,jx,gj,vj,zj,shj,d,hkk,hj0,hjx,hr⟩:=sel2_meets (sl:=sl) hg (show stepG F.P (0 == 0) g w=_ from hs) hO hD hne fun c j k hjk _=>by
   obtain ⟨h0,x,hx,hk⟩:=hin c j k hjk;obtain ⟨hk0,j',hj',rfl,(⟨rfl,_,g0,rfl,_⟩ | ⟨rfl,_,g0,rfl,_⟩)⟩:=h.sends hx h0 hk
   ·exact ⟨hk0,h0,g0,_,_,_,hx⟩
   ·exact ⟨hk0,h0,g0,_,_,_,hx⟩
  have hoff:0∈offersAt (parked gj #[scase c vj zj] shj) c true:=by rw [offersAt_parked_send,if_pos rfl];simp
  obtain ⟨_,j,hj,rfl,hwhat⟩:=h.sends hjx hj0 hoff;rcases hkk with ⟨rfl,rfl,rfl,rfl,rfl⟩ | ⟨rfl,rfl,rfl,rfl,rfl⟩
  ·rcases hwhat with ⟨_,hp,g0,hpk,kw,hwalk⟩ | ⟨e,_⟩
   ·have hoffers:=congrArg Goroutine.offers hpk;simp [parked,scase] at hoffers;obtain ⟨⟨rfl,rfl⟩,rfl⟩:=hoffers;have hd:(ph j).done=false:=by rw [hp];rfl
    have hsn:(ph j).sent=false:=by rw [hp];rfl
    obtain ⟨k,hmok⟩:=got_value (g:=g) hm hlt hσ hM hj hsn hd kw;refine ⟨_,_,_,upd ph j (.calc1 kw),.recv k,hr,h.meetOut hj hd (.inl rfl) hes hO ?_ hmok _ _ _ _ _ _,.inr (meets_upd hj (by rw [hp];show 1 < 2;decide))⟩;rw [finish_of_parked hpk];exact hwalk
   ·exact absurd e h.core.two
  ·rcases hwhat with ⟨e,_⟩ | ⟨_,hp,g0,hpk,kw,hq⟩
   ·exact absurd e.symm h.core.two
   ·have hoffers:=congrArg Goroutine.offers hpk;simp [parked,scase] at hoffers;obtain ⟨⟨rfl,rfl⟩,rfl⟩:=hoffers;have hd:(ph j).done=false:=by rw [hp];rfl
    have hsn:(ph j).sent=true:=by rw [hp];rfl
    obtain ⟨mp',hmok⟩:=got_sign (g:=g) hm hlt hσ hM hj hsn hd kw;refine ⟨_,_,_,upd ph j (.quit kw),mp',hr,h.meetSign hj hd (.inl rfl) hes hD ?_ hmok _ _ _ _ _ _,.inr (meets_upd hj (by rw [hp];show 0 < 1;decide))⟩;rw [finish_of_parked hpk];exact hq
 ·have hno:partners (gs.setIfInBounds 0 Go.Conc.ph) F.cO true=[]/\partners (gs.setIfInBounds 0 Go.Conc.ph) F.cD true=[]:=by
   constructor
   ·exact Classical.byContradiction fun e=>hne (.inl e)
   ·exact Classical.byContradiction fun e=>hne (.inr e)
  have hr:=crowd_waits (sl:=sl) hg (show stepG F.P (0 == 0) g w=_ from hs) (fun cc hcc=>by
   simp [Farm.cases] at hcc
   rcases hcc with rfl | rfl
   ·exact ways_recv_none hO hno.1
   ·exact ways_recv_none hD hno.2)
  have hset:=h.setMain (g:=g) (g':=parked g F.cases .select) (own':=own 0) (w':=w) (es:=es) (mp':=.wait) hg ⟨h.core.meets 0 (.inl rfl),Nat.le_refl _,fun _ _ _=>rfl,⟨rfl,rfl,rfl⟩,fun _ h=>.inl h,hes⟩ ⟨hm,hlt,σ,g,hσ,rfl,hM,fun i hi=>?_⟩ g.frame.fn g.frame.place
  ·rw [upd_self] at hset;exact ⟨_,_,_,ph,.wait,hr,hset,.inl ⟨rfl,rfl⟩⟩
  ·obtain ⟨x,hx,hw⟩:=h.work i hi;have hb:=h.base;have key:∀ c,(0∈offersAt x c true)->(F.b+i,0)∈partners (gs.setIfInBounds 0 Go.Conc.ph) c true:=fun c hc=>mem_partners.2 ⟨x,by rw [Array.getElem?_setIfInBounds_ne (by omega)];exact hx,hc⟩;constructor
   ·intro e;rw [e] at hw;obtain ⟨g0,rfl,_⟩:=hw;have:=key F.cO (by rw [offersAt_parked_send,if_pos rfl];simp);rw [hno.1] at this;cases this
   ·intro e;rw [e] at hw;obtain ⟨g0,rfl,_⟩:=hw;have:=key F.cD (by rw [offersAt_parked_send,if_pos rfl];simp);rw [hno.2] at this;cases this
variable {F:Farm} {M:Master F} {gs:Array Goroutine} {w w':World} {t:Trace} {q:Nat->Nat} {m:Nat} {ph:Nat->Ph} {mp:MPh} {own:Nat->Hold}
theorem Inv0.master (h:Inv0 M gs w t q m ph mp own) (hfin:∀ g own,M.Fin g own->g.status=.running):∃ g,gs[0]? = some g/\MOk M ph mp m g (own 0)/\(mp≠.wait->g.status=.running):=by
 obtain ⟨g,hg,hm⟩:=h.main;refine ⟨g,hg,hm,fun hw=>?_⟩
 cases mp with
 | start j k=>obtain ⟨rfl,h1,_,h2⟩:=hm;exact walk_running (fun g own x=>(M.onSpawn _ g own x h1).1) h2
 | recv k=>obtain ⟨_,_,σ,_,h2⟩:=hm;exact walk_running (fun g own x=>(M.atSel _ _ g own x).1) h2
 | last k=>obtain ⟨_,_,h2⟩:=hm;exact walk_running hfin h2
 | wait=>exact absurd rfl hw
theorem Inv0.alone (h:Inv0 M gs w t q m ph mp own) (hfin:∀ g own,M.Fin g own->g.status=.running) (hw:mp≠.wait) (i c:Nat):partners (gs.setIfInBounds i Go.Conc.ph) c false=[] :=
 partners_nil fun k x hx=>by
  rcases getElem?_stand gs i k x hx with ⟨_,rfl⟩ | ⟨_,hx⟩
  ·exact offersAt_ph _ _
  ·by_cases h0:k=0
   ·subst h0;obtain ⟨g,hg,_,hr⟩:=h.master hfin;rw [hg] at hx;cases hx;exact offersAt_of_not_blocked (by rw [hr hw];simp) c false
   ·exact h.no_recv hx h0 c
theorem Inv0.waiting (h:Inv0 M gs w t q m ph mp own) {g0:Goroutine} (hg:gs[0]? = some (parked g0 F.cases .select)) {i:Nat} (hi:i≠0) {k c:Nat} (hk:offersAt (parked g0 F.cases .select) c false=[k]):partners (gs.setIfInBounds i Go.Conc.ph) c false=[(0,k)]:=by
 rw [partners_one (j:=0) (g:=parked g0 F.cases .select) (by rw [Array.getElem?_setIfInBounds_ne hi];exact hg) fun y x hy hx=>?_,hk]
 ·rfl
 ·rcases getElem?_stand gs i y x hx with ⟨_,rfl⟩ | ⟨_,hx⟩
  ·exact offersAt_ph _ _
  ·exact h.no_recv hx hy c
theorem Inv0.offersO (h:Inv0 M gs w t q m ph mp own) (g0:Goroutine):offersAt (parked g0 F.cases .select) F.cO false=[0] :=
 offersAt_parked_at (k:=0) rfl fun n cc hn hcc=>by
  rcases n with _ | _ | n
  ·exact absurd rfl hn
  ·simp [Farm.cases] at hcc;subst hcc;simp [rcase];exact fun e=>h.core.two e.symm
  ·simp [Farm.cases] at hcc
theorem Inv0.offersD (h:Inv0 M gs w t q m ph mp own) (g0:Goroutine):offersAt (parked g0 F.cases .select) F.cD false=[1] :=
 offersAt_parked_at (k:=1) rfl fun n cc hn hcc=>by
  rcases n with _ | _ | n
  ·simp [Farm.cases] at hcc;subst hcc;simp [rcase];exact h.core.two
  ·exact absurd rfl hn
  ·simp [Farm.cases] at hcc
variable {F:Farm} {M:Master F} {gs:Array Goroutine} {w w':World} {t:Trace} {q:Nat->Nat} {m:Nat} {ph:Nat->Ph} {mp:MPh} {own:Nat->Hold}
theorem set_comm (gs:Array Goroutine) {i j:Nat} (h:i≠j) (x y:Goroutine):(gs.setIfInBounds i x).setIfInBounds j y=(gs.setIfInBounds j y).setIfInBounds i x:=Array.setIfInBounds_comm x y h
theorem Inv0.park (h:Inv0 M gs w t q m ph mp own) (hfin:∀ g own,M.Fin g own->g.status=.running) (hw:mp≠.wait) {j:Nat} (hj:j < m) {g:Goroutine} (hg:gs[F.b+j]? = some g) (hd:(ph j).done=false) {c s:Nat} {tm:Bool} {v:Value} {p':Ph} {es:Array Event}
 (hch:w.heap[c]? = some (.chan 0 #[] false s s tm)) (hs:stepG F.P (F.b+j == 0) g w=.comm g #[scase c v F.zs] true .send w es) (hes:∀ e∈es,EvOwn (own (F.b+j)) F.ro e)
 (h1:p'.sent=(ph j).sent) (h2:p'.done=(ph j).done) (hp:WOk F j p' (parked g #[scase c v F.zs] .send) (own (F.b+j))) (sl:Option (Nat × Nat)) :
 runT F.P (crowd gs w sl) (F.b+j)=(.next (crowd (gs.setIfInBounds (F.b+j) (parked g #[scase c v F.zs] .send)) w sl),MemOp.ofEvents (F.b+j) g.frame.fn g.frame.place es) /\
  Inv0 M (gs.setIfInBounds (F.b+j) (parked g #[scase c v F.zs] .send)) w (t ++ MemOp.ofEvents (F.b+j) g.frame.fn g.frame.place es) q m (upd ph j p') mp own:=by
 refine ⟨crowd_waits hg hs fun cc hcc=>?_,?_⟩
 ·simp at hcc;subst hcc;exact ways_send_none hch (by simp) (h.alone hfin hw _ _)
 ·have:=h.setWork (g:=g) (p':=p') (own':=own (F.b+j)) (w':=w) (es:=es) hj hg hd h1 h2 (fun e=>absurd e hw) ⟨h.core.meets _ (.inr ⟨j,hj,rfl,hd⟩),Nat.le_refl _,fun _ _ _=>rfl,⟨rfl,rfl,rfl⟩,fun _ h=>.inl h,hes⟩ hp g.frame.fn g.frame.place;rw [upd_self] at this;exact this
theorem main_false {F:Farm} (hb:0 < F.b) (j:Nat):(F.b+j == 0)=false:=by simp;omega
theorem Inv0.send0 (h:Inv0 M gs w t q m ph mp own) (hfin:∀ g own,M.Fin g own->g.status=.running) {j k:Nat} (hj:j < m) {g:Goroutine} (hg:gs[F.b+j]? = some g) (hp:ph j=.calc0 k) (hS:S0 F j g (own (F.b+j))) (sl:Option (Nat × Nat)) :
 ∃ gs' w' u ph' mp',runT F.P (crowd gs w sl) (F.b+j)=(.next (crowd gs' w' sl),u)/\Inv0 M gs' w' (t ++ u) q m ph' mp' own/\((mp'=mp/\ph'=upd ph j .off0)\/sumTo m (fun i=>(ph' i).meets) < sumTo m (fun i=>(ph i).meets)):=by
 obtain ⟨⟨hrun,hcomm⟩,kw,hwalk⟩:=hS;have hd:(ph j).done=false:=by rw [hp];rfl
 have hb:=h.base;obtain ⟨es,hs,hes⟩:=hcomm w (h.core.meets _ (.inr ⟨j,hj,rfl,hd⟩));rw [<- main_false hb j] at hs;obtain ⟨⟨sO,tmO,hO⟩,sD,tmD,hD⟩:=h.core.chans;by_cases hw:mp=.wait
 ·subst hw;obtain ⟨gm,hgm,hm,hlt,σ,g0,hσ,rfl,hM,hno⟩:=h.main;have hr:=crowd_send_meets_sel (sl:=sl) (j:=0) (k:=0) hg hs hO (by omega) hgm (show F.cases[0]? = some (rcase F.cO F.zO) from rfl) (h.waiting hgm (by omega) (h.offersO g0));obtain ⟨k',hmok⟩:=got_value (g:=g0) hm hlt hσ hM hj (by rw [hp];rfl) hd kw;rw [set_comm _ (by omega)] at hr;exact ⟨_,_,_,upd ph j (.calc1 kw),.recv k',hr,h.meetOut (d:=w.drawn) hj hd (.inr rfl) hes hO hwalk hmok _ _ _ _ _ _,.inr (meets_upd hj (by rw [hp];show 1 < 2;decide))⟩
 ·obtain ⟨hr,hi⟩:=h.park hfin hw hj hg hd (p':=.off0) hO hs hes (by rw [hp];rfl) (by rw [hp];rfl) ⟨g,rfl,kw,hwalk⟩ sl;exact ⟨_,_,_,_,mp,hr,hi,.inl ⟨rfl,rfl⟩⟩
theorem Inv0.send1 (h:Inv0 M gs w t q m ph mp own) (hfin:∀ g own,M.Fin g own->g.status=.running) {j k:Nat} (hj:j < m) {g:Goroutine} (hg:gs[F.b+j]? = some g) (hp:ph j=.calc1 k) (hS:S1 F g (own (F.b+j))) (sl:Option (Nat × Nat)) :
 ∃ gs' w' u ph' mp',runT F.P (crowd gs w sl) (F.b+j)=(.next (crowd gs' w' sl),u)/\Inv0 M gs' w' (t ++ u) q m ph' mp' own/\((mp'=mp/\ph'=upd ph j .off1)\/sumTo m (fun i=>(ph' i).meets) < sumTo m (fun i=>(ph i).meets)):=by
 obtain ⟨⟨hrun,hcomm⟩,kw,hq⟩:=hS;have hd:(ph j).done=false:=by rw [hp];rfl
 have hb:=h.base;obtain ⟨es,hs,hes⟩:=hcomm w (h.core.meets _ (.inr ⟨j,hj,rfl,hd⟩));rw [<- main_false hb j] at hs;obtain ⟨⟨sO,tmO,hO⟩,sD,tmD,hD⟩:=h.core.chans;by_cases hw:mp=.wait
 ·subst hw;obtain ⟨gm,hgm,hm,hlt,σ,g0,hσ,rfl,hM,hno⟩:=h.main;have hr:=crowd_send_meets_sel (sl:=sl) (j:=0) (k:=1) hg hs hD (by omega) hgm (show F.cases[1]? = some (rcase F.cD F.zD) from rfl) (h.waiting hgm (by omega) (h.offersD g0));obtain ⟨mp',hmok⟩:=got_sign (g:=g0) hm hlt hσ hM hj (by rw [hp];rfl) hd kw;rw [set_comm _ (by omega)] at hr;exact ⟨_,_,_,upd ph j (.quit kw),mp',hr,h.meetSign (d:=w.drawn) hj hd (.inr rfl) hes hD hq hmok _ _ _ _ _ _,.inr (meets_upd hj (by rw [hp];show 0 < 1;decide))⟩
 ·obtain ⟨hr,hi⟩:=h.park hfin hw hj hg hd (p':=.off1) hD hs hes (by rw [hp];rfl) (by rw [hp];rfl) ⟨g,rfl,kw,hq⟩ sl;exact ⟨_,_,_,_,mp,hr,hi,.inl ⟨rfl,rfl⟩⟩
variable {F:Farm} {M:Master F} {gs:Array Goroutine} {w w':World} {t:Trace} {q:Nat->Nat} {m:Nat} {ph:Nat->Ph} {mp:MPh} {own:Nat->Hold}
theorem FT.mute {B:Nat} {Act:Nat->Prop} {ro:Hold} (h:FT t B Act own ro) {g0:Nat} (hg0:¬ Act g0) {u:Trace} (hu:∀ op∈u,op.g=g0) (hn:∀ op∈u,op.act.touch? = none) (hl:∀ op∈u,op.act.low B):FT (t ++ u) B Act own ro:=by
 have hold:∀ i a,touchAt (t ++ u) i=some a->touchAt t i=some a/\i < t.size:=fun i a ha=>by
  obtain ⟨op,ho,hox⟩:=touch_of ha;rcases getElem?_append_cases ho with ⟨hi,ho'⟩ | ⟨hi,hou⟩
  ·exact ⟨by rw [touchAt_of ho'];exact hox,hi⟩
  ·rw [hn op hou] at hox;cases hox
 refine ⟨fun said=>noRace_append (g:=g0) (h.clean said) hu (fun i a ha op hop b hb hc=>(by rw [hn op hop] at hb;cases hb)),
  fun i a r ha hr g hg hk=>(h.mine i a r (hold i a ha).1 hr g hg hk).app _,fun i a r ha hr hw hk g hg=>(h.shared i a r (hold i a ha).1 hr hw hk g hg).app _,fun i a ha hm=>?_,fun g hg=>?_,fun op hop=>(Array.mem_append.1 hop).elim (h.seen op) (hl op)⟩
 ·obtain ⟨ha',hi⟩:=hold i a ha;rcases h.known i a ha' hm with hk | ⟨g,h0,hg,hgi⟩
  ·exact .inl (hk.app _)
  ·exact .inr ⟨g,h0,hg,by rw [g?_old hi];exact hgi⟩
 ·rw [Deaf_other t (g:=g) (g':=g0) (fun e=>hg0 (e ▸ hg)) _ hu];exact h.hears g hg
theorem Inv0.slipOld (h:Inv0 M gs w t q m ph mp own) (hfin:∀ g own,M.Fin g own->g.status=.running) {i:Nat} {g:Goroutine} (hi0:0 < i) (hib:i < F.b) (hi:gs[i]? = some g) (hg:g.status=.running) (sl:Option (Nat × Nat)) :
 ∃ gs' u q',runT F.P (crowd gs w sl) i=(.next (crowd gs' w sl),u)/\Inv0 M gs' w (t ++ u) q' m ph mp own/\sumTo F.b q' < sumTo F.b q:=by
 have hq:=h.old i g hi0 hib hi;have hb0:(i == 0)=false:=by simp;omega
 have hlt:i < gs.size:=(Array.getElem?_eq_some_iff.1 hi).1
 cases hqi:q i with
 | zero=>rw [hqi] at hq;rw [hq.1] at hg;cases hg
 | succ k =>
  rw [hqi] at hq;rcases hq with ⟨hf,_⟩ | ⟨_,g',es,hm,hstp,hq'⟩
  ·rw [hf] at hg;cases hg
  have hr:=runT_crowd_go (P:=F.P) (sl:=sl) (i:=i) hi (by rw [hb0];exact hstp w);rw [map_woken h.core.chans (h.all hfin)] at hr;have hna:¬ ActW F ph m i:=by rintro (e | ⟨j,hj,e,_⟩) <;> omega
  have hu:∀ op∈MemOp.ofEvents i g.frame.fn g.frame.place es,op.g=i:=fun op hop=>by obtain ⟨e,_,rfl⟩:=Go.Conc.mem_ofEvents hop;rfl
  have hf:=h.core.trace.mute hna hu (fun op hop=>by obtain ⟨e,he,rfl⟩:=Go.Conc.mem_ofEvents hop;exact touch_mute (hm e he)) (fun op hop=>by obtain ⟨e,he,rfl⟩:=Go.Conc.mem_ofEvents hop;exact low_mute (hm e he) _);have hdo:∀ x,x≠i->Deaf (t ++ MemOp.ofEvents i g.frame.fn g.frame.place es) x=Deaf t x:=fun x hx=>Deaf_other t (g:=x) (g':=i) (Ne.symm hx) _ hu;refine ⟨_,_,upd q i k,hr,⟨by simp [h.size],h.base,fun j x hj hjb hx=>?_,fun j hj=>?_,?_,⟨hf,h.core.sep,h.core.meets,h.core.chans,h.core.two,h.core.free,h.core.roFree,h.core.rest⟩,fun j hj=>by rw [hdo j (by omega)];exact h.deaf j hj⟩,?_⟩
  ·by_cases e:i=j
   ·subst e;rw [Array.getElem?_setIfInBounds_self_of_lt hlt] at hx;cases hx;rw [upd_same,Deaf_own];exact hq'
   ·rw [Array.getElem?_setIfInBounds_ne e] at hx;rw [upd_ne _ _ (Ne.symm e),hdo j (Ne.symm e)];exact h.old j x hj hjb hx
  ·obtain ⟨x,hx,hw⟩:=h.work j hj;exact ⟨x,by rw [Array.getElem?_setIfInBounds_ne (by omega)];exact hx,hw⟩
  ·obtain ⟨x,hx,hw⟩:=h.main;exact ⟨x,by rw [Array.getElem?_setIfInBounds_ne (by omega)];exact hx,hw⟩
  ·have:=sumTo_upd q k id hib;simp only [id,hqi] at this;have e:sumTo F.b (upd q i k)=sumTo F.b (fun a=>upd q i k a):=rfl;have e2:sumTo F.b q=sumTo F.b (fun a=>q a):=rfl;omega
theorem Inv0.slipQuit (h:Inv0 M gs w t q m ph mp own) (hfin:∀ g own,M.Fin g own->g.status=.running) {j k:Nat} {g:Goroutine} (hj:j < m) (hp:ph j=.quit k) (hi:gs[F.b+j]? = some g) (hg:g.status=.running) (sl:Option (Nat × Nat)) :
 ∃ gs' u k',runT F.P (crowd gs w sl) (F.b+j)=(.next (crowd gs' w sl),u)/\Inv0 M gs' w (t ++ u) q m (upd ph j (.quit k')) mp own/\k' < k:=by
 obtain ⟨x,hx,hw⟩:=h.work j hj;rw [hi] at hx;cases hx;rw [hp] at hw;have hb:=h.base;have hlt:F.b+j < gs.size:=(Array.getElem?_eq_some_iff.1 hi).1
 cases k with
 | zero=>rw [show g.status=.finished from hw] at hg;cases hg
 | succ k =>
  rcases hw with hf | ⟨_,g',hst,hq⟩
  ·rw [hf] at hg;cases hg
  have hr:=runT_crowd_go (P:=F.P) (sl:=sl) (i:=F.b+j) hi (by rw [main_false hb j];exact hst w);rw [map_woken h.core.chans (h.all hfin)] at hr;have hu:MemOp.ofEvents (F.b+j) g.frame.fn g.frame.place #[]=#[]:=ofEvents_none _ _ _;have hall:∀ i,i < m->(upd ph j (.quit k) i).sent=(ph i).sent/\(upd ph j (.quit k) i).done=(ph i).done/\(mp=.wait->(upd ph j (.quit k) i).off=true->(ph i).off=true):=fun i _=>by
   by_cases e:i=j
   ·subst e;rw [upd_same,hp];exact ⟨rfl,rfl,fun _=>id⟩
   ·rw [upd_ne _ _ e];exact ⟨rfl,rfl,fun _=>id⟩
  refine ⟨_,_,k,hr,?_,Nat.lt_succ_self k⟩;rw [hu,Array.append_empty];refine ⟨by simp [h.size],hb,fun i y hi' hib hy=>?_,fun i hi'=>?_,?_,h.core.congr (act_congr fun i hi=>(hall i hi).2.1),h.deaf⟩
  ·rw [Array.getElem?_setIfInBounds_ne (by omega)] at hy;exact h.old i y hi' hib hy
  ·by_cases e:i=j
   ·subst e;exact ⟨g',by simp [hlt],by rw [upd_same];exact hq⟩
   ·obtain ⟨y,hy,hwy⟩:=h.work i hi';exact ⟨y,by rw [Array.getElem?_setIfInBounds_ne (by omega)];exact hy,by rw [upd_ne _ _ e];exact hwy⟩
  ·obtain ⟨y,hy,hm⟩:=h.main;exact ⟨y,by rw [Array.getElem?_setIfInBounds_ne (by omega)];exact hy,mok_congr hall hm⟩
variable {F:Farm} {M:Master F} {gs:Array Goroutine} {w w':World} {t:Trace} {q:Nat->Nat} {m:Nat} {ph:Nat->Ph} {mp:MPh} {own:Nat->Hold}
def mC (F:Farm) (m:Nat) (ph:Nat->Ph):Nat:=3 * (F.n - m)+sumTo m (fun i=>(ph i).meets)
def mS (F:Farm) (m:Nat) (ph:Nat->Ph) (mp:MPh) (q:Nat->Nat):Nat:=mp.weight+sumTo m (fun i=>(ph i).weight)+sumTo F.b q
def Lex (a b:Nat × Nat):Prop:=a.1 < b.1\/(a.1=b.1/\a.2 < b.2)
theorem sum_upd (φ:Ph->Nat) {j:Nat} (hj:j < m) (p:Ph):sumTo m (fun i=>φ (upd ph j p i))+φ (ph j)=sumTo m (fun i=>φ (ph i))+φ p:=sumTo_upd ph p φ hj
theorem Inv0.at (h:Inv0 M gs w t q m ph mp own) (d:Nat):Inv0 M gs (w.at d) t q m ph mp own:=⟨h.size,h.base,h.old,h.work,h.main,h.core.at d,h.deaf⟩
theorem Inv0.stepWork (h:Inv0 M gs w t q m ph mp own) (hfin:∀ g own,M.Fin g own->g.status=.running) {j:Nat} {g:Goroutine} (hj:j < m) (hi:gs[F.b+j]? = some g) (hg:g.status=.running) (sl:Option (Nat × Nat)) :
 ∃ gs' w' u q' ph' mp' own',runT F.P (crowd gs w sl) (F.b+j)=(.next (crowd gs' w' sl),u)/\Inv0 M gs' w' (t ++ u) q' m ph' mp' own'/\Lex (mC F m ph',mS F m ph' mp' q') (mC F m ph,mS F m ph mp q):=by
 obtain ⟨x,hx,hw⟩:=h.work j hj;rw [hi] at hx;cases hx;have hb:=h.base;have own_step:∀ (k:Nat) (mk:Nat->Ph) (Stop:Goroutine->Hold->Prop),ph j=mk (k+1)->(∀ k,(mk k).sent=(mk 0).sent/\(mk k).done=false/\(mk k).off=false/\(mk k).meets=(mk 0).meets/\(mk k).weight=k+1)->(∀ k g o,WOk F j (mk k) g o↔Walk F.P false F.ro Stop k g o) ->
  (∃ g' w' es own',stepG F.P false g w=.go g' w' es/\Turn F.ro (own (F.b+j)) own' w w' es/\Walk F.P false F.ro Stop k g' own') ->
  ∃ gs' w' u q' ph' mp' own',runT F.P (crowd gs w sl) (F.b+j)=(.next (crowd gs' w' sl),u)/\Inv0 M gs' w' (t ++ u) q' m ph' mp' own'/\Lex (mC F m ph',mS F m ph' mp' q') (mC F m ph,mS F m ph mp q):=by
  rintro k mk Stop hp hmk hok ⟨g',w',es,own',hs,ht,hwk⟩;have hr:=runT_crowd_go (P:=F.P) (sl:=sl) (i:=F.b+j) hi (by rw [main_false hb j];exact hs);have hset:=h.setWork (g:=g) (p':=mk k) hj hi (by rw [hp];exact (hmk _).2.1) (by rw [hp,(hmk k).1,(hmk (k+1)).1]) (by rw [hp,(hmk k).2.1,(hmk (k+1)).2.1]) (fun _ e=>by rw [(hmk k).2.2.1] at e;cases e) ht ((hok k g' own').2 hwk) g.frame.fn g.frame.place;rw [map_woken hset.core.chans (h.all hfin)] at hr;refine ⟨_,_,_,q,_,mp,_,hr,hset,.inr ⟨?_,?_⟩⟩
  ·have:=sum_upd (ph:=ph) (·.meets) hj (mk k);simp only [hp,(hmk k).2.2.2.1,(hmk (k+1)).2.2.2.1] at this;show 3 * (F.n - m)+_=3 * (F.n - m)+_;omega
  ·have:=sum_upd (ph:=ph) (·.weight) hj (mk k);simp only [hp,(hmk k).2.2.2.2,(hmk (k+1)).2.2.2.2] at this;show mp.weight+_+_ < mp.weight+_+_;omega
 have less:∀ (ph':Nat->Ph) (mp':MPh),sumTo m (fun i=>(ph' i).meets) < sumTo m (fun i=>(ph i).meets)->Lex (mC F m ph',mS F m ph' mp' q) (mC F m ph,mS F m ph mp q):=fun ph' mp' hlt=>.inl (by show 3 * (F.n - m)+_ < 3 * (F.n - m)+_;omega);have parks:∀ (p':Ph),p'.meets=(ph j).meets->p'.weight < (ph j).weight->Lex (mC F m (upd ph j p'),mS F m (upd ph j p') mp q) (mC F m ph,mS F m ph mp q):=fun p' h1 h2=>by
  have e1:sumTo m (fun i=>(upd ph j p' i).meets)+(ph j).meets=sumTo m (fun i=>(ph i).meets)+p'.meets:=sum_upd (ph:=ph) (·.meets) hj p';have e2:sumTo m (fun i=>(upd ph j p' i).weight)+(ph j).weight=sumTo m (fun i=>(ph i).weight)+p'.weight:=sum_upd (ph:=ph) (·.weight) hj p';refine .inr ⟨?_,?_⟩
  ·show 3 * (F.n - m)+_=3 * (F.n - m)+_;omega
  ·show mp.weight+_+_ < mp.weight+_+_;omega
 cases hp:ph j with
 | calc0 k =>
  rw [hp] at hw;have send:S0 F j g (own (F.b+j))->_:=fun hS=>h.send0 hfin hj hi hp hS sl;have go:S0 F j g (own (F.b+j))->∃ gs' w' u q' ph' mp' own',runT F.P (crowd gs w sl) (F.b+j)=(.next (crowd gs' w' sl),u)/\Inv0 M gs' w' (t ++ u) q' m ph' mp' own'/\Lex (mC F m ph',mS F m ph' mp' q') (mC F m ph,mS F m ph mp q):=fun hS=>by
   obtain ⟨gs',w',u,ph',mp',h1,h2,h3⟩:=send hS;refine ⟨gs',w',u,q,ph',mp',own,h1,h2,?_⟩;rcases h3 with ⟨rfl,rfl⟩ | h3
   ·exact parks .off0 (by rw [hp];rfl) (by rw [hp];show 0 < k+1;omega)
   ·exact less _ _ h3
  cases k with
  | zero=>exact go hw
  | succ k =>
   rcases hw with hS | ⟨_,hw⟩
   ·exact go hS
   ·exact own_step k Ph.calc0 (S0 F j) hp (fun k=>⟨rfl,rfl,rfl,rfl,rfl⟩) (fun _ _ _=>Iff.rfl) (hw w (h.core.meets _ (.inr ⟨j,hj,rfl,by rw [hp];rfl⟩)))
 | calc1 k =>
  rw [hp] at hw;have go:S1 F g (own (F.b+j))->∃ gs' w' u q' ph' mp' own',runT F.P (crowd gs w sl) (F.b+j)=(.next (crowd gs' w' sl),u)/\Inv0 M gs' w' (t ++ u) q' m ph' mp' own'/\Lex (mC F m ph',mS F m ph' mp' q') (mC F m ph,mS F m ph mp q):=fun hS=>by
   obtain ⟨gs',w',u,ph',mp',h1,h2,h3⟩:=h.send1 hfin hj hi hp hS sl;refine ⟨gs',w',u,q,ph',mp',own,h1,h2,?_⟩;rcases h3 with ⟨rfl,rfl⟩ | h3
   ·exact parks .off1 (by rw [hp];rfl) (by rw [hp];show 0 < k+1;omega)
   ·exact less _ _ h3
  cases k with
  | zero=>exact go hw
  | succ k =>
   rcases hw with hS | ⟨_,hw⟩
   ·exact go hS
   ·exact own_step k Ph.calc1 (S1 F) hp (fun k=>⟨rfl,rfl,rfl,rfl,rfl⟩) (fun _ _ _=>Iff.rfl) (hw w (h.core.meets _ (.inr ⟨j,hj,rfl,by rw [hp];rfl⟩)))
 | off0=>rw [hp] at hw;obtain ⟨g0,rfl,_⟩:=hw;cases hg
 | off1=>rw [hp] at hw;obtain ⟨g0,rfl,_⟩:=hw;cases hg
 | quit k =>
  obtain ⟨gs',u,k',h1,h2,h3⟩:=h.slipQuit hfin hj hp hi hg sl;exact ⟨gs',w,u,q,_,mp,own,h1,h2,parks (.quit k') (by rw [hp];rfl) (by rw [hp];exact h3)⟩
variable {F:Farm} {M:Master F} {gs:Array Goroutine} {w w':World} {t:Trace} {q:Nat->Nat} {m:Nat} {ph:Nat->Ph} {mp:MPh} {own:Nat->Hold}
theorem doneOf_zero:∀ {m:Nat},(∀ i,i < m->(ph i).sent=false)->doneOf ph m=0:=by
 intro m
 induction m with
 | zero=>intro _;rfl
 | succ m ih =>
  intro h;have hd:(ph m).done=false:=by have:=h m (Nat.lt_succ_self m);cases hp:ph m <;> simp_all [Ph.sent,Ph.done]
  show sumTo m _+(if (ph m).done then 1 else 0)=0;rw [hd];have:=ih fun i hi=>h i (Nat.lt_succ_of_lt hi);show doneOf ph m+_=0;rw [this];rfl
theorem Inv0.stepSpawn (h:Inv0 M gs w t q m ph mp own) {g:Goroutine} (hi:gs[0]? = some g) (hlt:m < F.n) (hs:∀ i,i < m->(ph i).sent=false) (hM:M.MS m g (own 0)) (sl:Option (Nat × Nat)) :
 ∃ gs' w' u m' ph' mp' own',runT F.P (crowd gs w sl) 0=(.next (crowd gs' w' sl),u)/\Inv0 M gs' w' (t ++ u) q m' ph' mp' own'/\mC F m' ph' < mC F m ph:=by
 obtain ⟨hrun,hsp⟩:=M.onSpawn m g (own 0) hM hlt;obtain ⟨g',child,es,own',H,hst,hes,h1,h2,h3,⟨kw,hw⟩,h4,h5⟩:=hsp w (h.core.meets 0 (.inl rfl));have hr:=runT_crowd_spawn (P:=F.P) (sl:=sl) (i:=0) hi (show stepG F.P (0 == 0) g w=_ from hst);rw [h.size] at hr;have hs':∀ i,i < m+1->(upd ph m (.calc0 kw) i).sent=false:=fun i hi=>by
  by_cases e:i=m
  ·subst e;rw [upd_same];rfl
  ·rw [upd_ne _ _ e];exact hs i (by omega)
 have hmok:∃ mp',MOk M (upd ph m (.calc0 kw)) mp' (m+1) g' own':=by
  rcases Nat.lt_or_ge (m+1) F.n with hlt2 | hge
  ·obtain ⟨k,hk⟩:=h4 hlt2;exact ⟨.start (m+1) k,rfl,hlt2,hs',hk⟩
  ·have e:m+1=F.n:=by omega
   obtain ⟨k,hk⟩:=h5 e;have hz:=doneOf_zero hs';exact ⟨.recv k,e,by rw [hz];omega,fun _=>false,fun i hi=>(hs' i hi).symm,by rw [hz];exact hk⟩
 obtain ⟨mp',hmok⟩:=hmok;have hinv:=h.spawn hes h1 h2 h3 (k:=kw) hw hmok g.frame.fn g.frame.fn child.frame.fn g.frame.place g.frame.place g.frame.place;refine ⟨_,_,_,m+1,upd ph m (.calc0 kw),mp',upd (upd own 0 own') (F.b+m) H,hr,?_,?_⟩
 ·have e:((MemOp.ofEvents 0 g.frame.fn g.frame.place es).push { g:=0,fn:=g.frame.fn,pos:=g.frame.place,act:=.go (F.b+m) }).push { g:=F.b+m,fn:=child.frame.fn,pos:=g.frame.place,act:=.start } =
   MemOp.ofEvents 0 g.frame.fn g.frame.place es ++ ([{ g:=0,fn:=g.frame.fn,pos:=g.frame.place,act:=.go (F.b+m) },{ g:=F.b+m,fn:=child.frame.fn,pos:=g.frame.place,act:=.start }]:List MemOp).toArray:=by
   apply Array.ext';simp
  rw [e];exact hinv
 ·show 3 * (F.n - (m+1))+(sumTo m (fun i=>(upd ph m (.calc0 kw) i).meets)+(upd ph m (.calc0 kw) m).meets) < 3 * (F.n - m)+sumTo m (fun i=>(ph i).meets);rw [upd_same,sumTo_congr (g:=fun i=>(ph i).meets) fun i hi=>by rw [upd_ne _ _ (by omega)]];show _+(_+2) < _;omega
variable {F:Farm} {M:Master F} {gs:Array Goroutine} {w w':World} {t:Trace} {q:Nat->Nat} {m:Nat} {ph:Nat->Ph} {mp:MPh} {own:Nat->Hold}
theorem Inv0.goMain (h:Inv0 M gs w t q m ph mp own) (hfin:∀ g own,M.Fin g own->g.status=.running) {g g':Goroutine} {own':Hold} {es:Array Event} {mp':MPh} (hi:gs[0]? = some g) (hs:stepG F.P true g w=.go g' w' es)
 (ht:Turn F.ro (own 0) own' w w' es) (hm:MOk M ph mp' m g' own') (hlt:mp'.weight < mp.weight) (sl:Option (Nat × Nat)) :
 ∃ gs' w' u q' m' ph' mp' own',runT F.P (crowd gs w sl) 0=(.next (crowd gs' w' sl),u)/\Inv0 M gs' w' (t ++ u) q' m' ph' mp' own'/\Lex (mC F m' ph',mS F m' ph' mp' q') (mC F m ph,mS F m ph mp q):=by
 have hr:=runT_crowd_go (P:=F.P) (sl:=sl) (i:=0) hi (show stepG F.P (0 == 0) g w=_ from hs);have hset:=h.setMain (mp':=mp') hi ht hm g.frame.fn g.frame.place;rw [map_woken hset.core.chans (h.all hfin)] at hr;exact ⟨_,_,_,q,m,ph,mp',_,hr,hset,.inr ⟨rfl,by show _+_+_ < _+_+_;omega⟩⟩
theorem Inv0.stepMain (h:Inv0 M gs w t q m ph mp own) (hfin:∀ g own,M.Fin g own->g.status=.running) {g:Goroutine} (hi:gs[0]? = some g) (hg:g.status=.running) (sl:Option (Nat × Nat)) :
 ((∃ k,mp=.last k)/\M.Fin g (own 0))\/∃ gs' w' u q' m' ph' mp' own',runT F.P (crowd gs w sl) 0=(.next (crowd gs' w' sl),u)/\Inv0 M gs' w' (t ++ u) q' m' ph' mp' own'/\Lex (mC F m' ph',mS F m' ph' mp' q') (mC F m ph,mS F m ph mp q):=by
 obtain ⟨x,hx,hm⟩:=h.main;rw [hi] at hx;cases hx;have m0:=h.core.meets 0 (.inl rfl)
 cases mp with
 | start j k =>
  obtain ⟨rfl,hlt,hs,hw⟩:=hm;have sp:M.MS j g (own 0)->_:=fun hM=>h.stepSpawn hi hlt hs hM sl;have sp':M.MS j g (own 0)->∃ gs' w' u q' m' ph' mp' own',runT F.P (crowd gs w sl) 0=(.next (crowd gs' w' sl),u)/\Inv0 M gs' w' (t ++ u) q' m' ph' mp' own'/\Lex (mC F m' ph',mS F m' ph' mp' q') (mC F j ph,mS F j ph (.start j k) q):=fun hM=>by
   obtain ⟨gs',w',u,m',ph',mp',own',a,b,c⟩:=sp hM;exact ⟨gs',w',u,q,m',ph',mp',own',a,b,.inl c⟩
  cases k with
  | zero=>exact .inr (sp' hw)
  | succ k =>
   rcases hw with hM | ⟨_,hw⟩
   ·exact .inr (sp' hM)
   ·obtain ⟨g',w',es,own',hst,ht,hk⟩:=hw w m0;exact .inr (h.goMain hfin hi hst ht (mp':=.start j k) ⟨rfl,hlt,hs,hk⟩ (by show k+1 < k+1+1;omega) sl)
 | recv k =>
  obtain ⟨h1,h2,σ,h3,hw⟩:=hm;have sel:M.MR σ (doneOf ph m) g (own 0)->∃ gs' w' u q' m' ph' mp' own',runT F.P (crowd gs w sl) 0=(.next (crowd gs' w' sl),u)/\Inv0 M gs' w' (t ++ u) q' m' ph' mp' own'/\Lex (mC F m' ph',mS F m' ph' mp' q') (mC F m ph,mS F m ph (.recv k) q):=fun hM=>by
   obtain ⟨gs',w',u,ph',mp',a,b,c⟩:=h.select hi h1 h2 h3 hM sl;refine ⟨gs',w',u,q,m,ph',mp',own,a,b,?_⟩;rcases c with ⟨rfl,rfl⟩ | c
   ·exact .inr ⟨rfl,by show 0+_+_ < k+1+_+_;omega⟩
   ·exact .inl (by show 3 * _+_ < 3 * _+_;omega)
  cases k with
  | zero=>exact .inr (sel hw)
  | succ k =>
   rcases hw with hM | ⟨_,hw⟩
   ·exact .inr (sel hM)
   ·obtain ⟨g',w',es,own',hst,ht,hk⟩:=hw w m0;exact .inr (h.goMain hfin hi hst ht (mp':=.recv k) ⟨h1,h2,σ,h3,hk⟩ (by show k+1 < k+1+1;omega) sl)
 | wait=>obtain ⟨_,_,σ,g0,_,rfl,_⟩:=hm;cases hg
 | last k =>
  obtain ⟨h1,h2,hw⟩:=hm
  cases k with
  | zero=>exact .inl ⟨⟨_,rfl⟩,hw⟩
  | succ k =>
   rcases hw with hM | ⟨_,hw⟩
   ·exact .inl ⟨⟨_,rfl⟩,hM⟩
   ·obtain ⟨g',w',es,own',hst,ht,hk⟩:=hw w m0;exact .inr (h.goMain hfin hi hst ht (mp':=.last k) ⟨h1,h2,hk⟩ (by show k+1 < k+1+1;omega) sl)
variable {F:Farm} {M:Master F} {gs:Array Goroutine} {w w':World} {t:Trace} {q:Nat->Nat} {m:Nat} {ph:Nat->Ph} {mp:MPh} {own:Nat->Hold}
theorem doneOf_full:∀ {m:Nat},(∀ i,i < m->(ph i).done=true)->doneOf ph m=m:=by
 intro m
 induction m with
 | zero=>intro _;rfl
 | succ m ih =>
  intro h;show doneOf ph m+(if (ph m).done then 1 else 0)=m+1;rw [ih fun i hi=>h i (Nat.lt_succ_of_lt hi),h m (Nat.lt_succ_self m)];rfl
theorem Inv0.somebody (h:Inv0 M gs w t q m ph mp own) (hfin:∀ g own,M.Fin g own->g.status=.running):∃ (i:Nat) (g:Goroutine),gs[i]? = some g/\g.status=.running:=by
 obtain ⟨g,hg,hm,hr⟩:=h.master hfin;by_cases hw:mp=.wait
 ·subst hw;obtain ⟨h1,h2,σ,g0,h3,rfl,h4,h5⟩:=hm;have:∃ j,j < m/\(ph j).done=false:=Classical.byContradiction fun hno=>by
   have:doneOf ph m=m:=doneOf_full fun i hi=>by
    cases hd:(ph i).done with
    | true=>rfl
    | false=>exact absurd ⟨i,hi,hd⟩ hno
   omega
  obtain ⟨j,hj,hd⟩:=this;obtain ⟨x,hx,hw⟩:=h.work j hj;refine ⟨_,x,hx,?_⟩
  cases hp:ph j with
  | calc0 k=>rw [hp] at hw;exact walk_running (fun g own x=>x.1.1) hw
  | calc1 k=>rw [hp] at hw;exact walk_running (fun g own x=>x.1.1) hw
  | off0=>exact absurd hp (h5 j hj).1
  | off1=>exact absurd hp (h5 j hj).2
  | quit k=>rw [hp] at hd;cases hd
 ·exact ⟨0,g,hg,hr hw⟩
theorem Inv0.step (h:Inv0 M gs w t q m ph mp own) (hfin:∀ g own,M.Fin g own->g.status=.running) (sl:Option (Nat × Nat)) :
 ((∃ k,mp=.last k)/\∃ g,gs[0]? = some g/\M.Fin g (own 0))\/∃ gs' w' sl' u q' m' ph' mp' own',stepT F.P (crowd gs w sl)=(.next (crowd gs' w' sl'),u)/\Inv0 M gs' w' (t ++ u) q' m' ph' mp' own'/\Lex (mC F m' ph',mS F m' ph' mp' q') (mC F m ph,mS F m ph mp q):=by
 obtain ⟨i,g,d,sl',hi,hg,hst⟩:=crowd_pick (P:=F.P) (w:=w) (sl:=sl) (fun x hx=>by
  obtain ⟨i,hi,rfl⟩:=Array.mem_iff_getElem.1 hx
  exact seen_awake (h.all hfin i _ (Array.getElem?_eq_getElem hi))) (h.somebody hfin)
 have hd:=h.at d;rcases h.who hi with rfl | ⟨h0,hb,_⟩ | ⟨j,hj,rfl,_⟩
 ·rcases hd.stepMain hfin hi hg sl' with ⟨a,b⟩ | ⟨gs',w',u,q',m',ph',mp',own',a,b,c⟩
  ·exact .inl ⟨a,g,hi,b⟩
  ·exact .inr ⟨gs',w',sl',u,q',m',ph',mp',own',hst.trans a,b,c⟩
 ·obtain ⟨gs',u,q',a,b,c⟩:=hd.slipOld hfin h0 hb hi hg sl';exact .inr ⟨gs',_,sl',u,q',m,ph,mp,own,hst.trans a,b,.inr ⟨rfl,by show _+_+_ < _+_+_;omega⟩⟩
 ·obtain ⟨gs',w',u,q',ph',mp',own',a,b,c⟩:=hd.stepWork hfin hj hi hg sl';exact .inr ⟨gs',w',sl',u,q',m,ph',mp',own',hst.trans a,b,c⟩
theorem lex_wf:WellFounded Lex:=by
 have h:Lex=(fun a b=>Prod.Lex (· < ·) (· < ·) a b):=by
  funext a b;obtain ⟨a1,a2⟩:=a;obtain ⟨b1,b2⟩:=b;apply propext;constructor
  ·rintro (h | ⟨h1,h2⟩)
   ·exact .left _ _ h
   ·simp only at h1;subst h1;exact .right _ h2
  ·intro h
   cases h with
   | left _ _ h=>exact .inl h
   | right _ h=>exact .inr ⟨rfl,h⟩
 rw [h];exact (Prod.lex Nat.lt_wfRel Nat.lt_wfRel).wf
theorem Inv0.run (hfin:∀ g own,M.Fin g own->g.status=.running):∀ (μ:Nat × Nat) (gs:Array Goroutine) (w:World) (sl:Option (Nat × Nat)) (t:Trace) (q:Nat->Nat) (m:Nat) (ph:Nat->Ph) (mp:MPh) (own:Nat->Hold),Inv0 M gs w t q m ph mp own->(mC F m ph,mS F m ph mp q)=μ ->
 ∃ N gs' w' sl' t' q' m' ph' k own',runNT F.P N (crowd gs w sl) t=(.next (crowd gs' w' sl'),t')/\Inv0 M gs' w' t' q' m' ph' (.last k) own'/\∃ g,gs'[0]? = some g/\M.Fin g (own' 0):=by
 intro μ
 induction μ using lex_wf.induction with
 | _ μ ih =>
  intro gs w sl t q m ph mp own h hμ;rcases h.step hfin sl with ⟨⟨k,rfl⟩,hF⟩ | ⟨gs',w',sl',u,q',m',ph',mp',own',hs,hi,hl⟩
  ·exact ⟨0,gs,w,sl,t,q,m,ph,k,own,rfl,h,hF⟩
  ·obtain ⟨N,gs2,w2,sl2,t2,q2,m2,ph2,k,own2,hr,hi2,hF⟩:=ih _ (hμ ▸ hl) gs' w' sl' (t ++ u) q' m' ph' mp' own' hi rfl;exact ⟨N+1,gs2,w2,sl2,t2,q2,m2,ph2,k,own2,by simp only [runNT,hs];exact hr,hi2,hF⟩
theorem farm_leads (F:Farm) (M:∀ b,Master { F with b:=b }) {fr:Frame} {cs:List Frame} {w:World} {own0:Hold} {Z:Frame->List Frame->Hold->Prop}
 (hfin:∀ b g own,(M b).Fin g own->∃ fr cs,g=G fr cs/\Z fr cs own) (hn:0 < F.n) (hW:∀ b,∃ k,Walk F.P true F.ro ((M b).MS 0) k (G fr cs) own0)
 (hm:Meets w own0 F.ro) (ho:Open F w) (two:F.cO≠F.cD) (free:own0 F.cO=none/\own0 F.cD=none) (roFree:F.ro F.cO=none/\F.ro F.cD=none) (rest:w.os=F.os/\w.tape=F.tape/\w.output=F.out/\F.lo<=w.heap.size) :
 Leads F.P (fun fr' cs' w'=>∃ own',Meets w' own' F.ro/\(w'.os=F.os/\w'.tape=F.tape/\w'.output=F.out/\F.lo<=w'.heap.size)/\Z fr' cs' own') fr cs w:=by
 intro gs sl t q hc;have hlt:0 < gs.size:=(Array.getElem?_eq_some_iff.1 hc.at0).1;obtain ⟨k,hk⟩:=hW gs.size;have hrun:∀ g own,(M gs.size).Fin g own->g.status=.running:=fun g own hf=>by
  obtain ⟨fr,cs,rfl,_⟩:=hfin gs.size g own hf;rfl
 have hact:∀ g,ActW { F with b:=gs.size } (fun _=>Ph.quit 0) 0 g↔g=0:=fun g=>by
  constructor
  ·rintro (h | ⟨j,hj,_⟩)
   ·exact h
   ·omega
  ·exact .inl
 have hcore:Core { F with b:=gs.size } (·=0) w t (fun _=>own0) :=
  ⟨FT.of_past hc.past _ _,fun a b r ha hb _ _=>ha.trans hb.symm,fun g _=>hm,ho,two,fun g _=>free,roFree,rest⟩
 have hinv:Inv0 (M gs.size) gs w t q 0 (fun _=>Ph.quit 0) (.start 0 k) (fun _=>own0) :=
  ⟨rfl,hlt,fun i g hi hb hx=>hc.leav.old i g hi hx,fun j hj=>absurd hj (Nat.not_lt_zero _),⟨_,hc.at0,rfl,hn,fun i hi=>absurd hi (Nat.not_lt_zero _),hk⟩,hcore.congr hact,fun j hj=>hc.leav.above j hj⟩
 obtain ⟨N,gs',w',sl',t',q',m',ph',k',own',hr,hi,g,hg,hF⟩:=Inv0.run hrun _ gs w sl t q 0 _ _ _ hinv rfl;obtain ⟨fr',cs',rfl,hZ⟩:=hfin _ _ _ hF;obtain ⟨x,hx,hmn,hall,_⟩:=hi.main;have hA:∀ g,ActW { F with b:=gs.size } ph' m' g->g=0:=fun g hg=>by
  rcases hg with h | ⟨j,hj,_,hd⟩
  ·exact h
  ·rw [hall j hj] at hd;cases hd
 let q2:Nat->Nat:=fun i=>if i < gs.size then q' i else match ph' (i - gs.size) with | .quit k=>k | _=>0
 refine ⟨N,gs',w',sl',t',q2,fr',cs',hr,⟨hg,⟨fun i g hi0 hgi=>?_,fun j hj=>?_⟩,hi.core.trace.past (.inl rfl) hA⟩,own' 0,hi.core.meets 0 (.inl rfl),hi.core.rest,hZ⟩
 ·rcases hi.who hgi with h0 | ⟨_,hb,hq⟩ | ⟨j,hj,rfl,hw⟩
  ·omega
  ·show QuitsD F.P (if i < gs.size then _ else _) _ _;rw [if_pos hb];exact hq
  ·have hd:=hall j hj;have hdf:=hi.deaf (gs.size+j) (Nat.le_add_right _ _);show QuitsD F.P (if gs.size+j < gs.size then _ else match ph' (gs.size+j - gs.size) with | .quit k=>k | _=>0) (Deaf t' (gs.size+j)) g;rw [if_neg (by omega),Nat.add_sub_cancel_left,hdf]
   cases hp:ph' j with
   | quit k=>rw [hp] at hw;exact QuitsD.of_quitsIn hw
   | _=>rw [hp] at hd;cases hd
 ·exact hi.deaf j (by have:=hi.size;simp only at this ⊢;omega)
end Mt
namespace Mt
open Go Go.Conc
structure Stp (ro own own':Hold) (w w':World):Prop where
 holds:Meets w' own' ro
 size:w.heap.size<=w'.heap.size
 kept:∀ r,r < w.heap.size->¬ keyOf own r->w'.heap[r]? = w.heap[r]?
 rest:w'.os=w.os/\w'.tape=w.tape/\w'.output=w.output
 keys:∀ r,keyOf own' r->keyOf own r\/w.heap.size<=r
 keeps:∀ r,keyOf own r->keyOf own' r
section
variable {ro own own':Hold} {w w':World}
theorem Stp.refl (h:Meets w own ro):Stp ro own own w w:=⟨h,Nat.le_refl _,fun _ _ _=>rfl,⟨rfl,rfl,rfl⟩,fun _ h=>.inl h,fun _ h=>h⟩
theorem setCell_block {r k:Nat} {c:Array Value} {t:TypeId} {f:Nat × Nat} {v:Value} (h:w.heap[r]? = some (.cells c t f)):(w.setCell ⟨r,k,none⟩ v).heap[r]? = some (.cells (c.setIfInBounds k v) t f):=by
 unfold World.setCell;simp [Array.getElem?_modify,h]
theorem setCell_other {r k x:Nat} {v:Value} (h:x≠r):(w.setCell ⟨r,k,none⟩ v).heap[x]? = w.heap[x]? := by
 unfold World.setCell;simp [Array.getElem?_modify,Ne.symm h]
theorem key_set {F:Hold} {r:Nat} {o:Obj} (x:Nat):keyOf (F.set r o) x↔x=r\/keyOf F x:=by
 constructor
 ·rintro ⟨y,hy⟩;by_cases e:x=r
  ·exact .inl e
  ·rw [Hold.set_ne _ _ e] at hy;exact .inr ⟨y,hy⟩
 ·intro h;by_cases e:x=r
  ·subst e;exact ⟨o,Hold.set_same _ _ _⟩
  ·obtain ⟨y,hy⟩:=h.resolve_left e;exact ⟨y,by rw [Hold.set_ne _ _ e];exact hy⟩
theorem Stp.set (h:Stp ro own own' w w') {r k:Nat} {c:Array Value} {t:TypeId} {f:Nat × Nat} (hr:own' r=some (.cells c t f)) (v:Value) :
 Stp ro own (own'.set r (.cells (c.setIfInBounds k v) t f)) w (w'.setCell ⟨r,k,none⟩ v):=by
 have hne:∀ x o,ro x=some o->x≠r:=fun x o hx e=>by subst e;rw [h.holds.apart x _ hr] at hx;cases hx
 have hrk:keyOf own r\/w.heap.size<=r:=h.keys r ⟨_,hr⟩;refine ⟨⟨fun x o hx=>?_,fun x o hx=>?_,fun x o hx=>?_⟩,by simpa [World.setCell] using h.size,fun x hx hk=>?_,h.rest,fun x hx=>?_,fun x hx=>?_⟩
 ·by_cases e:x=r
  ·subst e;rw [Hold.set_same] at hx;cases hx;exact setCell_block (h.holds.mine _ _ hr)
  ·rw [Hold.set_ne _ _ e] at hx;rw [setCell_other e];exact h.holds.mine x o hx
 ·rw [setCell_other (hne x o hx)];exact h.holds.shared x o hx
 ·by_cases e:x=r
  ·subst e;exact h.holds.apart x _ hr
  ·rw [Hold.set_ne _ _ e] at hx;exact h.holds.apart x o hx
 ·by_cases e:x=r
  ·subst e;exact absurd hx (by rcases hrk with h1 | h1;exact absurd h1 hk;omega)
  ·rw [setCell_other e];exact h.kept x hx hk
 ·rcases (key_set x).1 hx with e | hx
  ·subst e;exact hrk
  ·exact h.keys x hx
 ·exact (key_set x).2 (.inr (h.keeps x hx))
theorem none_own (h:Meets w own ro):own w.heap.size=none/\ro w.heap.size=none:=by
 constructor
 ·cases hx:own w.heap.size with
  | none=>rfl
  | some o=>exact absurd (h.mine.lt ⟨o,hx⟩) (Nat.lt_irrefl _)
 ·cases hx:ro w.heap.size with
  | none=>rfl
  | some o=>exact absurd (h.shared.lt ⟨o,hx⟩) (Nat.lt_irrefl _)
theorem alloc_block {o:Obj}:(w.alloc o).heap[w.heap.size]? = some o:=by show (w.heap.push o)[w.heap.size]? = _;simp
theorem alloc_other {o:Obj} {x:Nat} (h:x < w.heap.size):(w.alloc o).heap[x]? = w.heap[x]? := by
 show (w.heap.push o)[x]? = _;rw [Array.getElem?_push,if_neg (by omega)]
theorem Stp.alloc (h:Stp ro own own' w w') (o:Obj):Stp ro own (own'.set w'.heap.size o) w (w'.alloc o):=by
 have hn:=none_own h.holds;have lt:∀ (F:Hold) x y,Holds w' F->F x=some y->x < w'.heap.size:=fun F x y hF hx=>hF.lt ⟨y,hx⟩;refine ⟨⟨fun x y hx=>?_,fun x y hx=>?_,fun x y hx=>?_⟩,by have:=h.size;simp;omega,fun x hx hk=>?_,h.rest,fun x hx=>?_,fun x hx=>?_⟩
 ·by_cases e:x=w'.heap.size
  ·subst e;rw [Hold.set_same] at hx;cases hx;exact alloc_block
  ·rw [Hold.set_ne _ _ e] at hx;rw [alloc_other (lt _ _ _ h.holds.mine hx)];exact h.holds.mine x y hx
 ·rw [alloc_other (lt _ _ _ h.holds.shared hx)];exact h.holds.shared x y hx
 ·by_cases e:x=w'.heap.size
  ·subst e;exact hn.2
  ·rw [Hold.set_ne _ _ e] at hx;exact h.holds.apart x y hx
 ·rw [alloc_other (Nat.lt_of_lt_of_le hx h.size)];exact h.kept x hx hk
 ·rcases (key_set x).1 hx with e | hx
  ·subst e;exact .inr h.size
  ·exact h.keys x hx
 ·exact (key_set x).2 (.inr (h.keeps x hx))
theorem EvOwn.mono {e:Event} (h:EvOwn own ro e) (hk:∀ r,keyOf own r->keyOf own' r):EvOwn own' ro e:=by
 obtain ⟨loc,wr,sy⟩:=e
 cases loc with
 | cell a=>exact ⟨h.1,h.2.imp_left (hk _)⟩
 | _=>exact h
end
section
variable {P:Program} {main:Bool} {ro own:Hold} {Q:Act->Hold->Prop} {a:Act} {ops:Array Oper} {i:Nat} {rest:List Nat} {o:Oper} {n:Nat}
theorem wo_any (ho:ops[i]? = some o) (hw:Region.wanted o (yielded ops a.tmps)=true)
 (hev:∀ w,Meets w own ro->∀ e∈(execOp a.eval o).events P w #[],EvOwn own ro e)
 (h:∀ w,Meets w own ro->∀ K:Act->World->Prop,(∀ a' w' own',Stp ro own own' w w'->WO P main ro ops rest n Q a' own'->K a' w')->uponK o a K ((execOp a.eval o).run P w)) :
 WO P main ro ops (i::rest) (n+1) Q a own :=
 wo_cons ho hw fun w hm=>by
  have:=h w hm (fun a' w'=>∃ own',Stp ro own own' w w'/\WO P main ro ops rest n Q a' own') (fun a' w' own' h1 h2=>⟨own',h1,h2⟩);revert this
  cases hr:(execOp a.eval o).run P w with
  | ok x w' =>
   cases x with
   | value v =>
    rintro ⟨own',hs,hK⟩;exact ⟨v,w',own',.inl rfl,⟨hs.holds,hs.size,hs.kept,hs.rest,hs.keys,fun e he=>(hev w hm e he).mono hs.keeps⟩,hK⟩
   | skip =>
    rintro ⟨own',hs,hK⟩;exact ⟨undef,w',own',.inr ⟨rfl,rfl⟩,⟨hs.holds,hs.size,hs.kept,hs.rest,hs.keys,fun e he=>(hev w hm e he).mono hs.keeps⟩,hK⟩
   | _=>exact fun h=>h.elim
  | halt _ _=>exact fun h=>h.elim
end
def fuel (N:Nat):Code->Nat
 | .seq x y=>fuel N x+fuel N y+1
 | .region _ ops _=>ops.size+1+1
 | .cond _ x y=>max (fuel N x) (fuel N y)+1
 | .block _ c=>fuel N c+2
 | .loop c=>(N+1) * (fuel N c+1)+1
 | _=>1
def WF (P:Program) (main:Bool) (ro:Hold) (N:Nat) (c:Code) (Q:Exit->Act->Hold->Prop) (a:Act) (own:Hold):Prop:=WC P main ro c (fuel N c) Q a own
def WR (P:Program) (main:Bool) (ro:Hold) (ops:Array Oper) (todo:List Nat) (Q:Act->Hold->Prop) (a:Act) (own:Hold):Prop:=WO P main ro ops todo (todo.length+1) Q a own
section
variable {P:Program} {main:Bool} {ro own:Hold} {N:Nat} {Q:Exit->Act->Hold->Prop} {a:Act}
theorem wf_mono {c:Code} {Q':Exit->Act->Hold->Prop} (h:WF P main ro N c Q a own) (hq:∀ e a own,Q e a own->Q' e a own):WF P main ro N c Q' a own:=wc_mono h hq
theorem wf_skip (h:Q .normal a own):WF P main ro N .skip Q a own:=wc_skip h
theorem wf_exit {id:Nat} (h:Q (.exit id) a own):WF P main ro N (.exit id) Q a own:=wc_exit h
theorem wf_seq {x y:Code} (h:WF P main ro N x (ThenW (fun a' o'=>WF P main ro N y Q a' o') Q) a own):WF P main ro N (.seq x y) Q a own:=wc_seq h
theorem wf_cond {c:Operand} {x y:Code} {t:Bool} (hc:a.eval c=.bool t) (h:WF P main ro N (if t then x else y) Q a own):WF P main ro N (.cond c x y) Q a own:=by
 refine wc_more (wc_cond hc h) ?_;show fuel N (if t then x else y)+1<=max (fuel N x) (fuel N y)+1;cases t <;> simp <;> omega
theorem wf_block {id:Nat} {c:Code} (h:WF P main ro N c (BlockW id Q) a own):WF P main ro N (.block id c) Q a own:=wc_block h
theorem wf_loop {c:Code} (I:Nat->Act->Hold->Prop) {n:Nat} (hn:n<=N) (h0:I n a own)
 (round:∀ n a own,I n a own->WF P main ro N c (ThenW (fun a' o'=>∃ n',n=n'+1/\I n' a' o') Q) a own):WF P main ro N (.loop c) Q a own:=by
 refine wc_more (wc_loop I (fuel N c) n h0 round) ?_;show (n+1) * (fuel N c+1)+1<=(N+1) * (fuel N c+1)+1;have:=Nat.mul_le_mul_right (fuel N c+1) (Nat.succ_le_succ hn);exact Nat.succ_le_succ this
theorem wf_region {id:Nat} {ops:Array Oper} (h:WR P main ro ops (List.range ops.size) (fun a' o'=>Q .normal a' o') a own):WF P main ro N (.region id ops false) Q a own:=by
 have:=wc_region (id:=id) h;rw [List.length_range] at this;exact this
theorem wr_hide {Q:Act->Hold->Prop} {ops:Array Oper} {todo:List Nat} (h:∀ Q':Act->Hold->Prop,(∀ a o,Q a o->Q' a o)->WR P main ro ops todo Q' a own):WR P main ro ops todo Q a own:=h Q fun _ _ h=>h
theorem wr_nil {Q:Act->Hold->Prop} {ops:Array Oper} (h:Q a own):WR P main ro ops [] Q a own:=wo_nil h
theorem wr_any {Q:Act->Hold->Prop} {ops:Array Oper} {i:Nat} {rest:List Nat} {o:Oper} (ho:ops[i]? = some o) (hw:Region.wanted o (yielded ops a.tmps)=true)
 (hev:∀ w,Meets w own ro->∀ e∈(execOp a.eval o).events P w #[],EvOwn own ro e)
 (h:∀ w,Meets w own ro->∀ K:Act->World->Prop,(∀ a' w' own',Stp ro own own' w w'->WR P main ro ops rest Q a' own'->K a' w')->uponK o a K ((execOp a.eval o).run P w)) :
 WR P main ro ops (i::rest) Q a own:=wo_any ho hw hev h
theorem walk_any {Stop:Goroutine->Hold->Prop} {b:Frame} {k:List Item} {cs:List Frame} {n:Nat} {ops:Array Oper} {i:Nat} {rest:List Nat} {o:Oper} (hb:b.kind≠.early) (ho:ops[i]? = some o) (hw:Region.wanted o (yielded ops a.tmps)=true)
 (hev:∀ w,Meets w own ro->∀ e∈(execOp a.eval o).events P w #[],EvOwn own ro e)
 (h:∀ w,Meets w own ro->∀ K:Act->World->Prop,(∀ a' w' own',Stp ro own own' w w'->Walk P main ro Stop n (G (b.at a' (.inRegion ops rest::k)) cs) own'->K a' w')->uponK o a K ((execOp a.eval o).run P w)) :
 Walk P main ro Stop (n+1) (G (b.at a (.inRegion ops (i::rest)::k)) cs) own:=by
 refine .inr ⟨rfl,fun w hm=>?_⟩;have:=h w hm (fun a' w'=>∃ own',Stp ro own own' w w'/\Walk P main ro Stop n (G (b.at a' (.inRegion ops rest::k)) cs) own') (fun a' w' own' h1 h2=>⟨own',h1,h2⟩);revert this
 cases hr:(execOp a.eval o).run P w with
 | ok x w' =>
  cases x with
  | value v =>
   rintro ⟨own',hs,hK⟩;exact ⟨_,w',_,own',stepG_value ho hw hb hr,⟨hs.holds,hs.size,hs.kept,hs.rest,hs.keys,fun e he=>(hev w hm e (seen_mem he)).mono hs.keeps⟩,hK⟩
  | skip =>
   rintro ⟨own',hs,hK⟩;exact ⟨_,w',_,own',stepG_none ho hw hb hr,⟨hs.holds,hs.size,hs.kept,hs.rest,hs.keys,fun e he=>(hev w hm e (seen_mem he)).mono hs.keeps⟩,hK⟩
  | _=>exact fun h=>h.elim
 | halt _ _=>exact fun h=>h.elim
theorem walk_code {Stop:Goroutine->Hold->Prop} {b:Frame} {k:List Item} {cs:List Frame} {c:Code} {R:Act->Hold->Prop} (hb:b.kind≠.early) (h:WF P main ro N c (fun e a' o'=>e=.normal/\R a' o') a own) {m:Nat}
 (hk:∀ a' own',R a' own'->Walk P main ro Stop m (G (b.at a' k) cs) own'):Walk P main ro Stop (m+fuel N c) (G (b.at a (.code c::k)) cs) own :=
 h b k cs Stop m hb fun e a' own' ⟨he,hr⟩=>by subst he;exact hk a' own' hr
end
def roOf (W:World) (cO cD:Nat):Hold:=fun r=>if r=cO\/r=cD then none else W.heap[r]?
section
variable {W w:World} {own:Hold} {cO cD b o:Nat}
theorem ro_block (hm:Meets w own (roOf W cO cD)) (hb:b < W.heap.size) (h1:b≠cO) (h2:b≠cD):w.heap[b]? = W.heap[b]? := by
 have h:roOf W cO cD b=some W.heap[b]:=by unfold roOf;rw [if_neg (by simp [h1,h2]),Array.getElem?_eq_getElem hb]
 rw [hm.shared b _ h,Array.getElem?_eq_getElem hb]
theorem ro_cell (hm:Meets w own (roOf W cO cD)) (hb:b < W.heap.size) (h1:b≠cO) (h2:b≠cD):w.cell? ⟨b,o,none⟩=W.cell? ⟨b,o,none⟩:=World.cell?_of_block (ro_block hm hb h1 h2)
theorem ro_key (hb:b < W.heap.size) (h1:b≠cO) (h2:b≠cD):keyOf (roOf W cO cD) b:=⟨W.heap[b],by unfold roOf;rw [if_neg (by simp [h1,h2]),Array.getElem?_eq_getElem hb]⟩
theorem own_cell {ro:Hold} (hm:Meets w own ro) {c:Array Value} {t:TypeId} {f:Nat × Nat} (h:own b=some (.cells c t f)):w.cell? ⟨b,o,none⟩=c[o]? := by
 unfold World.cell?;rw [hm.mine b _ h];rfl
theorem own_frozen {ro:Hold} (hm:Meets w own ro) {c:Array Value} {t:TypeId} (h:own b=some (.cells c t)):w.frozen? ⟨b,o,none⟩=false:=by
 unfold World.frozen?;rw [hm.mine b _ h];simp
end
end Mt
end Go.Proofs.YtdjnkplgllakcaaGreatDoor
