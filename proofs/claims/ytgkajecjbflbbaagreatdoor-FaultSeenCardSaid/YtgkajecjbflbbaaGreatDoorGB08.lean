/- the fault laws -/
import Derived.Test.YtgkajecjbflbbaaGreatDoorGB07
import Derived.Test.YtgkajecjbflbbaaGreatDoorProg
set_option maxHeartbeats 200000
set_option maxRecDepth 100000
set_option linter.all false
namespace Go.Proofs.YtgkajecjbflbbaaGreatDoor
namespace Mt
open Go Go.Conc Mob
def WkT (F:Mill) (jj:Nat) (T:Th) (σ:Nat->Bool) (own:Hold) (d:Nat) (g:Goroutine):Prop:=∃ k,Walk F.P false F.ro F.E (AtD F d jj T σ) k g own
theorem closed_wk {F:Mill} {jj d:Nat} {T:Th} {σ:Nat->Bool} {own:Hold}:Closed F.P false F.E (WkT F jj T σ own d):=closed_walk
section
variable {F:Mill} {jj:Nat} {T T':Th} {σ:Nat->Bool} {own:Hold} {d:Nat}
theorem Cont.of {g':Goroutine} (hq:T'.pc≠.quit) (hm:mute T'=false) (h:WkT F jj T' σ own d g'):Cont F (AtD F d jj) T' σ g' own:=by
 unfold Cont;rw [if_neg hq,if_neg (by simp [hm])];exact h
theorem stop_plain (hT:T.pc≠.la/\T.pc≠.ur/\T.pc≠.wr/\mute T=false) {g:Goroutine} (hr:g.status=.running) (ho:g.offers=none) (hwk:T.pc=.us\/T.pc=.ux->mayWake F.P g=true)
 (hblk:∀ w s,F.Sh w s->Fit F.n T s->mv T s=[]->stepG F.P false g w=.go { g with status:=.blocked } w #[])
 (hgo:∀ d0,d0 < d->∀ w s,F.Sh w s->Fit F.n T s->mv T s≠[]->∃ r∈mv T s,∃ g' w' es,stepG F.P false g w=.go g' w' es/\F.Sh w' r.2/\Eff F.Mu F.Wg w w'/\(∀ e∈es,Bk F.Mu F.Wg false e)/\deafBehind (deaf T) es=deaf r.1/\Cont F (AtD F d0 jj) r.1 σ g' own):WkT F jj T σ own d g:=by
 obtain ⟨h1,h2,h3,h4⟩:=hT;refine ⟨0,?_⟩
 cases d with
 | zero=>trivial
 | succ d =>
  refine ⟨hr,ho,fun h=>?_,fun h=>absurd h h2,fun w s _ hs hf hm=>hblk w s hs hf hm,fun w s _ hs hf hm=>?_⟩
  ·rcases h with h | h | h
   ·exact hwk (.inl h)
   ·exact hwk (.inr h)
   ·simp [mute,h] at h4
  ·obtain ⟨r,hr,g',w',es,a1,a2,a3,a4,a5,a6⟩:=hgo d (Nat.lt_succ_self d) w s hs hf hm;refine ⟨r,hr,g',w',es,a1,a2,a3,?_,?_⟩
   ·unfold EvStop;split <;> first | contradiction | exact ⟨a4,a5,fun hm=>by rw [h4] at hm;cases hm⟩
   ·unfold After;split <;> first | contradiction | exact a6
variable {b:Frame} {a:Act} {kk:List Item} {cs:List Frame} {f:FuncId} {ops:Array Oper} {i j:Nat} {rest:List Nat} {ys:Array Operand} {x y z:Operand} {n:Nat} {l:List (Nat × Value)}
def Behind (W:Goroutine->Prop) (b:Frame) (a:Act) (ops:Array Oper) (rest:List Nat) (kk:List Item) (cs:List Frame) (n j:Nat) (l:List (Nat × Value)) (v:Value):Prop :=
 ∀ a1:Act,a1.defers=a.defers->Kn a1 n ((j,v)::l.filter fun x=>x.1 != j)->W (G (b.at a1 (.inRegion ops rest::kk)) cs)
theorem Behind.put {W:Goroutine->Prop} {v:Value} (h:Behind W b a ops rest kk cs n j l v) (q:Kn a n l) (hj:j < n):W (G (b.at (a.put (some j) v) (.inRegion ops rest::kk)) cs):=h _ rfl (q.cons hj v)
theorem st_mark {m:Mark} (hm:m=.disable\/m=.enable) (S:Stands b a ops i f ys j) (X:XF F.P f (fun _=>do mark m;pure Extern.Race.none_)) (q:Kn a n l) (hj:j < n)
 (hT:T.pc≠.la/\T.pc≠.ur/\T.pc≠.wr/\mute T=false) (hmv:∀ s,mv T s=[(T',s)]) (hT2:T'.pc≠.quit/\mute T'=false) (hd:deafBehind (deaf T) #[⟨.mark m,false,true⟩]=deaf T')
 (hus:T.pc≠.us/\T.pc≠.ux) (hC:∀ d0,d0 < d->Behind (WkT F jj T' σ own d0) b a ops rest kk cs n j l (.tuple #[])):WkT F jj T σ own d (G (b.at a (.inRegion ops (i::rest)::kk)) cs):=by
 refine stop_plain hT rfl rfl (fun h=>by rcases h with h | h <;> simp_all) (fun w s _ _ h=>by rw [hmv] at h;cases h) (fun d0 hd0 w s hs hf _=>?_);refine ⟨(T',s),by rw [hmv];exact List.mem_singleton.2 rfl,_,w,_,S.mark0 m (by rcases hm with rfl | rfl <;> simp) X,hs,Eff.refl w,fun e he=>?_,hd,Cont.of hT2.1 hT2.2 ((hC d0 hd0).put q hj)⟩;simp only [List.mem_toArray,List.mem_singleton] at he;subst he;rcases hm with rfl | rfl
 ·exact .inl rfl
 ·exact .inr (.inl rfl)
theorem st_read {T':Mob.Sh->Th} {o:Oper} (hk:b.kind≠.early) (ho:ops[i]? = some o) (hdst:o.dst=some j) (hw:Region.wanted o (yielded ops a.tmps)=true) (q:Kn a n l) (hj:j < n)
 (hr:∀ w s,F.Sh w s->(execOp a.eval o).run F.P w=.ok (.value (.int .i32 (muI s.mu))) w/\listed F.P b.fn a o w=#[])
 (hT:T.pc≠.la/\T.pc≠.ur/\T.pc≠.wr/\mute T=false) (hmv:∀ s,mv T s=[(T' s,s)]) (hT2:∀ s,(T' s).pc≠.quit/\mute (T' s)=false/\deaf (T' s)=deaf T) (hus:T.pc≠.us/\T.pc≠.ux)
 (hC:∀ d0,d0 < d->∀ s,Fit F.n T s->Behind (WkT F jj (T' s) σ own d0) b a ops rest kk cs n j l (.int .i32 (muI s.mu))):WkT F jj T σ own d (G (b.at a (.inRegion ops (i::rest)::kk)) cs):=by
 refine stop_plain hT rfl rfl (fun h=>by rcases h with h | h <;> simp_all) (fun w s _ _ h=>by rw [hmv] at h;cases h) (fun d0 hd0 w s hs hf _=>?_);exact ⟨(T' s,s),by rw [hmv];exact List.mem_singleton.2 rfl,_,w,#[],stepG_quietLoad (t:=0) (x:=.tmp 0) (ad:=⟨0,0,none⟩) hk ho hdst hw (hr w s hs).1 (hr w s hs).2,hs,Eff.refl w,by simp,(hT2 s).2.2.symm,Cont.of (hT2 s).1 (hT2 s).2.1 ((hC d0 hd0 s hf).put q hj)⟩
theorem bk_r (m:Bool) (hb:F.Mu=F.Mu) {k:Nat}:∀ e∈(#[⟨.cell ⟨F.Mu,k,none⟩,false,true⟩]:Array Event),Bk F.Mu F.Wg m e:=fun e he=>by
 simp only [List.mem_toArray,List.mem_singleton] at he;subst he;exact .inr (.inr (.inl ⟨_,_,rfl,.inl rfl⟩))
theorem bk_rw (m:Bool) {k:Nat}:∀ e∈(#[⟨.cell ⟨F.Mu,k,none⟩,false,true⟩,⟨.cell ⟨F.Mu,k,none⟩,true,true⟩]:Array Event),Bk F.Mu F.Wg m e:=fun e he=>by
 simp only [List.mem_toArray,List.mem_cons,List.not_mem_nil,or_false] at he;rcases he with rfl | rfl <;> exact .inr (.inr (.inl ⟨_,_,rfl,.inl rfl⟩))
theorem bk_sem (m:Bool) {r k:Nat} (h:r=F.Mu\/r=F.Wg):∀ e∈semEvents ⟨r,k,none⟩,Bk F.Mu F.Wg m e:=fun e he=>by
 simp only [semEvents,List.mem_toArray,List.mem_cons,List.not_mem_nil,or_false] at he;rcases he with rfl | rfl | rfl | rfl
 ·exact .inl rfl
 ·exact .inr (.inr (.inl ⟨_,_,rfl,h⟩))
 ·exact .inr (.inr (.inl ⟨_,_,rfl,h⟩))
 ·exact .inr (.inl rfl)
theorem st_cas (two:F.Mu≠F.Wg) {old new:Wd} {T1 T2:Th} (S:Stands b a ops i f #[x,y,z] j) (X:XF F.P f (Extern.Atomic.casT (.int .i32))) (q:Kn a n l) (hj:j < n)
 (hx:a.eval x=.pointer (some ⟨F.Mu,0,none⟩)) (hy:a.eval y=.int .i32 (muI old)) (hz:a.eval z=.int .i32 (muI new))
 (hT:T.pc≠.la/\T.pc≠.ur/\T.pc≠.wr/\mute T=false) (hus:T.pc≠.us/\T.pc≠.ux) (hm1:∀ s:Mob.Sh,s.mu=old->mv T s=[(T1,{ s with mu:=new })]) (hm2:∀ s:Mob.Sh,s.mu≠old->mv T s=[(T2,s)])
 (hT1:T1.pc≠.quit/\mute T1=false/\deaf T1=deaf T) (hT2:T2.pc≠.quit/\mute T2=false/\deaf T2=deaf T)
 (hC1:∀ d0,d0 < d->Behind (WkT F jj T1 σ own d0) b a ops rest kk cs n j l (.bool true)) (hC2:∀ d0,d0 < d->Behind (WkT F jj T2 σ own d0) b a ops rest kk cs n j l (.bool false)):WkT F jj T σ own d (G (b.at a (.inRegion ops (i::rest)::kk)) cs):=by
 refine stop_plain hT rfl rfl (fun h=>by rcases h with h | h <;> simp_all) (fun w s _ _ h=>?_) (fun d0 hd0 w s hs hf _=>?_)
 ·by_cases hm:s.mu=old
  ·rw [hm1 s hm] at h;cases h
  ·rw [hm2 s hm] at h;cases h
 by_cases hm:s.mu=old
 ·exact ⟨(T1,{ s with mu:=new }),by rw [hm1 s hm];exact List.mem_singleton.2 rfl,_,_,_,S.hit X hx hy hz (hm ▸ hs.mu0) (hs.muF 0),hs.setMu two new,Eff.set (.inl rfl),bk_rw false,hT1.2.2.symm,Cont.of hT1.1 hT1.2.1 ((hC1 d0 hd0).put q hj)⟩
 ·exact ⟨(T2,s),by rw [hm2 s hm];exact List.mem_singleton.2 rfl,_,w,_,S.miss X hx hy hz hs.mu0 (hs.muF 0) (fun e=>hm (muI_inj e)),hs,Eff.refl w,bk_r false rfl,hT2.2.2.symm,Cont.of hT2.1 hT2.2.1 ((hC2 d0 hd0).put q hj)⟩
theorem st_spin {T1 T2:Th} {it:Nat} (S:Stands b a ops i f ys j) (X:XF F.P f Extern.Sync.canSpin) (q:Kn a n l) (hj:j < n) (hx:ys.map a.eval=#[.int .i64 it])
 (hT:T.pc≠.la/\T.pc≠.ur/\T.pc≠.wr/\mute T=false) (hus:T.pc≠.us/\T.pc≠.ux) (hmv:∀ s,mv T s=(T2,s)::if it < 4 then [(T1,s)] else [])
 (hT1:T1.pc≠.quit/\mute T1=false/\deaf T1=deaf T) (hT2:T2.pc≠.quit/\mute T2=false/\deaf T2=deaf T)
 (hC1:it < 4->∀ d0,d0 < d->Behind (WkT F jj T1 σ own d0) b a ops rest kk cs n j l (.bool true)) (hC2:∀ d0,d0 < d->Behind (WkT F jj T2 σ own d0) b a ops rest kk cs n j l (.bool false)):WkT F jj T σ own d (G (b.at a (.inRegion ops (i::rest)::kk)) cs):=by
 refine stop_plain hT rfl rfl (fun h=>by rcases h with h | h <;> simp_all) (fun w s _ _ h=>by rw [hmv] at h;cases h) (fun d0 hd0 w s hs hf _=>?_);by_cases h4:it < 4
 ·cases hsp:w.spins with
  | true=>exact ⟨(T1,s),by rw [hmv,if_pos h4];simp,_,w.asked,#[],by rw [S.spinAsk X hx (by omega),hsp],hs,⟨Tos.same rfl rfl,rfl,rfl,fun _ _ _=>rfl⟩,by simp,hT1.2.2.symm,Cont.of hT1.1 hT1.2.1 ((hC1 h4 d0 hd0).put q hj)⟩
  | false=>exact ⟨(T2,s),by rw [hmv];simp,_,w.asked,#[],by rw [S.spinAsk X hx (by omega),hsp],hs,⟨Tos.same rfl rfl,rfl,rfl,fun _ _ _=>rfl⟩,by simp,hT2.2.2.symm,Cont.of hT2.1 hT2.2.1 ((hC2 d0 hd0).put q hj)⟩
 ·exact ⟨(T2,s),by rw [hmv];simp,_,w,#[],S.spinNo X hx (by omega),hs,Eff.refl w,by simp,hT2.2.2.symm,Cont.of hT2.1 hT2.2.1 ((hC2 d0 hd0).put q hj)⟩
theorem st_nano {T':Int->Th} (S:Stands b a ops i f ys j) (X:XN F.P f Extern.OsHooks.nano) (q:Kn a n l) (hj:j < n) (hT:T.pc≠.la/\T.pc≠.ur/\T.pc≠.wr/\mute T=false) (hus:T.pc≠.us/\T.pc≠.ux) (hmv:∀ s v,(T' v,s)∈mv T s)
 (hT':∀ v,(T' v).pc≠.quit/\mute (T' v)=false/\deaf (T' v)=deaf T) (hC:∀ d0,d0 < d->∀ v,Behind (WkT F jj (T' v) σ own d0) b a ops rest kk cs n j l (.int .i64 v)):WkT F jj T σ own d (G (b.at a (.inRegion ops (i::rest)::kk)) cs):=by
 refine stop_plain hT rfl rfl (fun h=>by rcases h with h | h <;> simp_all) (fun w s _ _ h=>by have:=hmv s 0;rw [h] at this;cases this) (fun d0 hd0 w s hs hf _=>?_);exact ⟨(T' _,s),hmv s _,_,w.later,#[],S.nano X,hs,⟨⟨rfl,_,rfl⟩,rfl,rfl,fun _ _ _=>rfl⟩,by simp,(hT' _).2.2.symm,Cont.of (hT' _).1 (hT' _).2.1 ((hC d0 hd0 _).put q hj)⟩
theorem deaf_sem {d:Nat} {ad:Addr}:deafBehind d (semEvents ad)=d:=by simp [deafBehind,semEvents]
theorem st_sem (two:F.Mu≠F.Wg) (S:Stands b a ops i f ys j) (X:XF F.P f Extern.Sync.semacquire) (q:Kn a n l) (hj:j < n) (hx:(ys.map a.eval)[0]? = some (.pointer (some ⟨F.Mu,1,none⟩))) (hT:T.pc=.s1)
 (hmv:∀ s:Mob.Sh,mv T s=if s.ms=0 then [] else [(T',{ s with ms:=s.ms - 1 })]) (hT':T'.pc≠.quit/\mute T'=false/\deaf T'=deaf T) (hC:∀ d0,d0 < d->Behind (WkT F jj T' σ own d0) b a ops rest kk cs n j l (.tuple #[])) :
 WkT F jj T σ own d (G (b.at a (.inRegion ops (i::rest)::kk)) cs):=by
 refine stop_plain ⟨by simp [hT],by simp [hT],by simp [hT],by simp [mute,hT]⟩ rfl rfl (fun h=>by rcases h with h | h <;> simp_all) (fun w s hs _ h=>?_) (fun d0 hd0 w s hs hf h=>?_)
 ·have h0:s.ms=0:=by
   by_cases h0:s.ms=0
   ·exact h0
   ·rw [hmv,if_neg h0] at h;cases h
  exact S.semWait X hx (by rw [hs.mu1,h0];rfl)
 ·have h0:s.ms≠0:=fun h0=>h (by rw [hmv,if_pos h0]);have hst:=S.sem (rest:=rest) (kk:=kk) (cs:=cs) (main:=false) X hx hs.mu1 (by omega) (hs.muF 1);rw [show ((s.ms:Int) - 1)=((s.ms - 1:Nat):Int) by omega] at hst;exact ⟨(T',{ s with ms:=s.ms - 1 }),by rw [hmv,if_neg h0];exact List.mem_singleton.2 rfl,_,_,_,hst,hs.setMs two _,Eff.set (.inl rfl),bk_sem false (.inl rfl),deaf_sem.trans hT'.2.2.symm,Cont.of hT'.1 hT'.2.1 ((hC d0 hd0).put q hj)⟩
theorem st_add (two:F.Mu≠F.Wg) {T':Mob.Sh->Th} {nw:Mob.Sh->Wd} {dl:Int} (S:Stands b a ops i f #[x,y] j) (X:XF F.P f (Extern.Atomic.update (Op.intArith .add) .i32 true)) (q:Kn a n l) (hj:j < n) (hx:a.eval x=.pointer (some ⟨F.Mu,0,none⟩)) (hy:a.eval y=.int .i32 dl)
 (hT:T.pc≠.la/\T.pc≠.ur/\T.pc≠.wr/\mute T=false) (hus:T.pc≠.us/\T.pc≠.ux) (hmv:∀ s:Mob.Sh,mv T s=[(T' s,{ s with mu:=nw s })]) (hval:∀ s,Fit F.n T s->IntKind.i32.wrap (muI s.mu+dl)=muI (nw s))
 (hT':∀ s,(T' s).pc≠.quit/\mute (T' s)=false/\deaf (T' s)=deaf T) (hC:∀ d0,d0 < d->∀ s,Fit F.n T s->Behind (WkT F jj (T' s) σ own d0) b a ops rest kk cs n j l (.int .i32 (muI (nw s)))):WkT F jj T σ own d (G (b.at a (.inRegion ops (i::rest)::kk)) cs):=by
 refine stop_plain hT rfl rfl (fun h=>by rcases h with h | h <;> simp_all) (fun w s _ _ h=>by rw [hmv] at h;cases h) (fun d0 hd0 w s hs hf _=>?_);have hst:=S.add (rest:=rest) (kk:=kk) (cs:=cs) (main:=false) X hx hy hs.mu0 (hs.muF 0);rw [hval s hf] at hst;exact ⟨(T' s,{ s with mu:=nw s }),by rw [hmv];exact List.mem_singleton.2 rfl,_,_,_,hst,hs.setMu two _,Eff.set (.inl rfl),bk_rw false,(hT' s).2.2.symm,Cont.of (hT' s).1 (hT' s).2.1 ((hC d0 hd0 s hf).put q hj)⟩
theorem wrap32 {n:Nat} (h:n<=1):IntKind.u32.wrap ((n:Int)+1)=((n+1:Nat):Int):=by
 have:n=0\/n=1:=by omega
 rcases this with rfl | rfl <;> decide
theorem st_rel (two:F.Mu≠F.Wg) (S:Stands b a ops i f ys j) (X:XF F.P f Extern.Sync.semrelease) (q:Kn a n l) (hj:j < n) (hx:(ys.map a.eval)[0]? = some (.pointer (some ⟨F.Mu,1,none⟩))) (hT:T.pc=.us\/T.pc=.ux)
 (hmv:∀ s:Mob.Sh,mv T s=[(T',{ s with ms:=s.ms+1 })]) (hT':T'.pc≠.quit/\mute T'=false/\deaf T'=deaf T) (hC:∀ d0,d0 < d->Behind (WkT F jj T' σ own d0) b a ops rest kk cs n j l (.tuple #[])) :
 WkT F jj T σ own d (G (b.at a (.inRegion ops (i::rest)::kk)) cs):=by
 refine stop_plain (by rcases hT with h | h <;> simp [h,mute]) rfl rfl (fun _=>S.wakes X) (fun w s _ _ h=>by rw [hmv] at h;cases h) (fun d0 hd0 w s hs hf _=>?_);have hst:=S.semRel (rest:=rest) (kk:=kk) (cs:=cs) (main:=false) X hx hs.mu1 (hs.muF 1);rw [wrap32 hf.ms] at hst;exact ⟨(T',{ s with ms:=s.ms+1 }),by rw [hmv];exact List.mem_singleton.2 rfl,_,_,_,hst,hs.setMs two _,Eff.set (.inl rfl),bk_sem false (.inl rfl),deaf_sem.trans hT'.2.2.symm,Cont.of hT'.1 hT'.2.1 ((hC d0 hd0).put q hj)⟩
theorem st_acquire (S:Stands b a ops i f #[x] j) (X:XF F.P f (Extern.Race.marked .acquire)) (q:Kn a n l) (hj:j < n) (hx:a.eval x=.pointer (some ⟨F.Mu,0,none⟩))
 (hC:∀ d0,d0 < d->∀ σ' o,σ' jj=false->F.KI σ' o->Behind (WkT F jj (at_ .rl) σ' (own.set F.C o) d0) b a ops rest kk cs n j l (.tuple #[])):WkT F jj (at_ .la) σ own d (G (b.at a (.inRegion ops (i::rest)::kk)) cs):=by
 refine ⟨0,?_⟩
 cases d with
 | zero=>trivial
 | succ d =>
  refine ⟨rfl,rfl,fun h=>by simp [at_] at h,fun h=>by simp [at_] at h,fun w s _ _ _ h=>by simp [mv,at_] at h,fun w s _ hs hf _=>?_⟩;refine ⟨(at_ .rl,s),by simp [mv,at_],_,w,_,S.markAt .acquire (by simp) X hx,hs,Eff.refl w,rfl,fun σ' o h1 h2 h3=>?_⟩;exact Cont.of (by simp [at_]) rfl ((hC d (Nat.lt_succ_self d) σ' o h1 h3).put q hj)
theorem st_release (S:Stands b a ops i f #[x] j) (X:XF F.P f (Extern.Race.marked .releaseMerge)) (q:Kn a n l) (hj:j < n) (hx:a.eval x=.pointer (some ⟨F.Mu,0,none⟩)) (hput:∃ o,own F.C=some o/\F.KI (Go.ConcN.upd σ jj true) o)
 (hC:∀ d0,d0 < d->Behind (WkT F jj (at_ .ud) σ (own.del F.C) d0) b a ops rest kk cs n j l (.tuple #[])):WkT F jj (at_ .ur) σ own d (G (b.at a (.inRegion ops (i::rest)::kk)) cs):=by
 refine ⟨0,?_⟩
 cases d with
 | zero=>trivial
 | succ d =>
  refine ⟨rfl,rfl,fun h=>by simp [at_] at h,fun _=>hput,fun w s _ _ _ h=>by simp [mv,at_] at h,fun w s _ hs hf _=>?_⟩;refine ⟨(at_ .ud,s),by simp [mv,at_],_,w,_,S.markAt .releaseMerge (by simp) X hx,hs,Eff.refl w,rfl,?_⟩;exact Cont.of (by simp [at_]) rfl ((hC d (Nat.lt_succ_self d)).put q hj)
end
end Mt
namespace Mt
open Go Go.Conc Mob Go.RowKit
section
variable {w:Wd}
theorem wd_all {φ:Wd->Prop} (h:∀ c:Fin 8,∀ L W S:Bool,φ ⟨L,W,S,c⟩) (hc:w.c<=7):φ w:=by
 obtain ⟨L,W,S,c⟩:=w;exact h ⟨c,by have:c<=7:=hc;omega⟩ L W S
theorem a5e (hc:w.c<=7):(bits BinOp.and IntKind.i32 (muI w) 5 == 1)=(w.L && !w.S):=wd_all (φ:=fun w=>(bits BinOp.and IntKind.i32 (muI w) 5 == 1)=(w.L && !w.S)) (by decide) hc
theorem a5z (hc:w.c<=7):(bits BinOp.and IntKind.i32 (muI w) 5 == 0)=(!w.L && !w.S):=wd_all (φ:=fun w=>(bits BinOp.and IntKind.i32 (muI w) 5 == 0)=(!w.L && !w.S)) (by decide) hc
theorem a5n (hc:w.c<=7):(bits BinOp.and IntKind.i32 (muI w) 5 != 0)=(w.L || w.S):=wd_all (φ:=fun w=>(bits BinOp.and IntKind.i32 (muI w) 5 != 0)=(w.L || w.S)) (by decide) hc
theorem a2z (hc:w.c<=7):(bits BinOp.and IntKind.i32 (muI w) 2 == 0)=!w.W:=wd_all (φ:=fun w=>(bits BinOp.and IntKind.i32 (muI w) 2 == 0)=!w.W) (by decide) hc
theorem a4z (hc:w.c<=7):(bits BinOp.and IntKind.i32 (muI w) 4 == 0)=!w.S:=wd_all (φ:=fun w=>(bits BinOp.and IntKind.i32 (muI w) 4 == 0)=!w.S) (by decide) hc
theorem a4n (hc:w.c<=7):(bits BinOp.and IntKind.i32 (muI w) 4 != 0)=w.S:=wd_all (φ:=fun w=>(bits BinOp.and IntKind.i32 (muI w) 4 != 0)=w.S) (by decide) hc
theorem a1n (hc:w.c<=7):(bits BinOp.and IntKind.i32 (muI w) 1 != 0)=w.L:=wd_all (φ:=fun w=>(bits BinOp.and IntKind.i32 (muI w) 1 != 0)=w.L) (by decide) hc
theorem a3n (hc:w.c<=7):(bits BinOp.and IntKind.i32 (muI w) 3 != 0)=(w.L || w.W):=wd_all (φ:=fun w=>(bits BinOp.and IntKind.i32 (muI w) 3 != 0)=(w.L || w.W)) (by decide) hc
theorem a7n (hc:w.c<=7):(bits BinOp.and IntKind.i32 (muI w) 7 != 0)=(w.L || w.W || w.S):=wd_all (φ:=fun w=>(bits BinOp.and IntKind.i32 (muI w) 7 != 0)=(w.L || w.W || w.S)) (by decide) hc
theorem shz (hc:w.c<=7):(muI w / 8 == 0)=decide (w.c=0):=wd_all (φ:=fun w=>(muI w / 8 == 0)=decide (w.c=0)) (by decide) hc
theorem shn (hc:w.c<=7):(muI w / 8 != 0)=decide (w.c≠0):=wd_all (φ:=fun w=>(muI w / 8 != 0)=decide (w.c≠0)) (by decide) hc
theorem sh1 (hc:w.c<=7):(muI w / 8 == 1)=decide (w.c=1):=wd_all (φ:=fun w=>(muI w / 8 == 1)=decide (w.c=1)) (by decide) hc
theorem o1 (hc:w.c<=7):bits BinOp.or IntKind.i32 (muI w) 1=muI ⟨true,w.W,w.S,w.c⟩:=wd_all (φ:=fun w=>bits BinOp.or IntKind.i32 (muI w) 1=muI ⟨true,w.W,w.S,w.c⟩) (by decide) hc
theorem o2 (hc:w.c<=7):bits BinOp.or IntKind.i32 (muI w) 2=muI ⟨w.L,true,w.S,w.c⟩:=wd_all (φ:=fun w=>bits BinOp.or IntKind.i32 (muI w) 2=muI ⟨w.L,true,w.S,w.c⟩) (by decide) hc
theorem o4 (hc:w.c<=7):bits BinOp.or IntKind.i32 (muI w) 4=muI ⟨w.L,w.W,true,w.c⟩:=wd_all (φ:=fun w=>bits BinOp.or IntKind.i32 (muI w) 4=muI ⟨w.L,w.W,true,w.c⟩) (by decide) hc
theorem n2 (hc:w.c<=7):bits BinOp.andNot IntKind.i32 (muI w) 2=muI ⟨w.L,false,w.S,w.c⟩:=wd_all (φ:=fun w=>bits BinOp.andNot IntKind.i32 (muI w) 2=muI ⟨w.L,false,w.S,w.c⟩) (by decide) hc
theorem p8 (hc:w.c<=7):IntKind.i32.wrap (muI w+8)=muI ⟨w.L,w.W,w.S,w.c+1⟩:=wd_all (φ:=fun w=>IntKind.i32.wrap (muI w+8)=muI ⟨w.L,w.W,w.S,w.c+1⟩) (by decide) hc
theorem m8 (hc:w.c<=7) (h:1<=w.c):IntKind.i32.wrap (muI w - 8)=muI ⟨w.L,w.W,w.S,w.c - 1⟩:=wd_all (φ:=fun w=>1<=w.c->IntKind.i32.wrap (muI w - 8)=muI ⟨w.L,w.W,w.S,w.c - 1⟩) (by decide) hc h
theorem m1 (hc:w.c<=7) (h:w.L=true):IntKind.i32.wrap (muI w+-1)=muI ⟨false,w.W,w.S,w.c⟩:=wd_all (φ:=fun w=>w.L=true->IntKind.i32.wrap (muI w+-1)=muI ⟨false,w.W,w.S,w.c⟩) (by decide) hc h
theorem m7 (hc:w.c<=7) (h:w.L=false) (h1:1<=w.c):IntKind.i32.wrap (muI w+-7)=muI ⟨true,w.W,w.S,w.c - 1⟩:=wd_all (φ:=fun w=>w.L=false->1<=w.c->IntKind.i32.wrap (muI w+-7)=muI ⟨true,w.W,w.S,w.c - 1⟩) (by decide) hc h h1
theorem m11 (hc:w.c<=7) (h:w.L=false) (hS:w.S=true) (h1:1<=w.c):IntKind.i32.wrap (muI w+-11)=muI ⟨true,w.W,false,w.c - 1⟩:=wd_all (φ:=fun w=>w.L=false->w.S=true->1<=w.c->IntKind.i32.wrap (muI w+-11)=muI ⟨true,w.W,false,w.c - 1⟩) (by decide) hc h hS h1
theorem q1 (hc:w.c<=7) (h:w.L=false):(bits BinOp.and IntKind.i32 (IntKind.i32.wrap (muI w+1)) 1 == 0)=false:=wd_all (φ:=fun w=>w.L=false->(bits BinOp.and IntKind.i32 (IntKind.i32.wrap (muI w+1)) 1 == 0)=false) (by decide) hc h
theorem z0 (hc:w.c<=7):(muI w != 0)=!decide (w=⟨false,false,false,0⟩):=wd_all (φ:=fun w=>(muI w != 0)=!decide (w=⟨false,false,false,0⟩)) (by decide) hc
end
section
variable {F:Mill} (hP:F.P=Tryz.prog)
include hP
theorem x_disable:XF F.P 128 (fun _=>do mark .disable;pure Extern.Race.none_):=hP ▸ ⟨_,Tryz.func128,by kernel_rfl,by kernel_rfl,by kernel_rfl,by kernel_rfl⟩
theorem x_enable:XF F.P 129 (fun _=>do mark .enable;pure Extern.Race.none_):=hP ▸ ⟨_,Tryz.func129,by kernel_rfl,by kernel_rfl,by kernel_rfl,by kernel_rfl⟩
theorem x_acquire:XF F.P 142 (Extern.Race.marked .acquire):=hP ▸ ⟨_,Tryz.func142,by kernel_rfl,by kernel_rfl,by kernel_rfl,by kernel_rfl⟩
theorem x_relMerge:XF F.P 127 (Extern.Race.marked .releaseMerge):=hP ▸ ⟨_,Tryz.func127,by kernel_rfl,by kernel_rfl,by kernel_rfl,by kernel_rfl⟩
theorem x_read:XF F.P 135 (Extern.Race.marked .read):=hP ▸ ⟨_,Tryz.func135,by kernel_rfl,by kernel_rfl,by kernel_rfl,by kernel_rfl⟩
theorem x_write:XF F.P 145 (Extern.Race.marked .write):=hP ▸ ⟨_,Tryz.func145,by kernel_rfl,by kernel_rfl,by kernel_rfl,by kernel_rfl⟩
theorem x_cas32:XF F.P 166 (Extern.Atomic.casT (.int .i32)):=hP ▸ ⟨_,Tryz.func166,by kernel_rfl,by kernel_rfl,by kernel_rfl,by kernel_rfl⟩
theorem x_add32:XF F.P 168 (Extern.Atomic.update (Op.intArith .add) .i32 true):=hP ▸ ⟨_,Tryz.func168,by kernel_rfl,by kernel_rfl,by kernel_rfl,by kernel_rfl⟩
theorem x_add64:XF F.P 163 (Extern.Atomic.update (Op.intArith .add) .u64 true):=hP ▸ ⟨_,Tryz.func163,by kernel_rfl,by kernel_rfl,by kernel_rfl,by kernel_rfl⟩
theorem x_load64:XF F.P 164 (Extern.Atomic.loadT (.int .u64)):=hP ▸ ⟨_,Tryz.func164,by kernel_rfl,by kernel_rfl,by kernel_rfl,by kernel_rfl⟩
theorem x_store64:XF F.P 165 Extern.Atomic.storeT:=hP ▸ ⟨_,Tryz.func165,by kernel_rfl,by kernel_rfl,by kernel_rfl,by kernel_rfl⟩
theorem x_cas64:XF F.P 170 (Extern.Atomic.casT (.int .u64)):=hP ▸ ⟨_,Tryz.func170,by kernel_rfl,by kernel_rfl,by kernel_rfl,by kernel_rfl⟩
theorem x_spin:XF F.P 176 Extern.Sync.canSpin:=hP ▸ ⟨_,Tryz.func176,by kernel_rfl,by kernel_rfl,by kernel_rfl,by kernel_rfl⟩
theorem x_nano:XN F.P 179 Extern.OsHooks.nano:=hP ▸ ⟨_,Tryz.func179,by kernel_rfl,by kernel_rfl,by kernel_rfl,by kernel_rfl,by kernel_rfl⟩
theorem x_semMu:XF F.P 180 Extern.Sync.semacquire:=hP ▸ ⟨_,Tryz.func180,by kernel_rfl,by kernel_rfl,by kernel_rfl,by kernel_rfl⟩
theorem x_relMu:XF F.P 182 Extern.Sync.semrelease:=hP ▸ ⟨_,Tryz.func182,by kernel_rfl,by kernel_rfl,by kernel_rfl,by kernel_rfl⟩
theorem x_semWg:XF F.P 146 Extern.Sync.semacquire:=hP ▸ ⟨_,Tryz.func146,by kernel_rfl,by kernel_rfl,by kernel_rfl,by kernel_rfl⟩
theorem x_relWg:XF F.P 139 Extern.Sync.semrelease:=hP ▸ ⟨_,Tryz.func139,by kernel_rfl,by kernel_rfl,by kernel_rfl,by kernel_rfl⟩
end
theorem cl_conv {P:Program} {main:Bool} {E:World->Prop} {W:Goroutine->Prop} {b:Frame} {a:Act} {k:List Item} {cs:List Frame} {n:Nat} {l:List (Nat × Value)} (hW:Closed P main E W) {ops:Array Oper} {i j:Nat} {rest:List Nat} (hb:b.kind≠.early) {o:Oper} (ho:ops[i]? = some o) (hd:o.dst=some j) (hw:Region.wanted o (yielded ops a.tmps)=true)
 {src dst t:TypeId} {x:Operand} {ad:Addr} (hop:o.op=.convert src dst x) (hs:P.underlying src=some (.pointer t)) (hd2:P.underlying dst=some .unsafePointer) (hz:(P.info? t).map (fun i=>decide (i.size=0))=some false) (hx:a.eval x=.pointer (some ad)) (hc:∀ w,E w->∃ v,w.cell? ad=some v)
 (q:Kn a n l) (hj:j < n) (h:∀ a1,a1.defers=a.defers->Kn a1 n ((j,.pointer (some ad))::l.filter fun x=>x.1 != j)->W (G (b.at a1 (.inRegion ops rest::k)) cs)):W (G (b.at a (.inRegion ops (i::rest)::k)) cs):=by
 refine cl_op hW (.pointer (some ad)) hb ho hd hw (fun w hE=>?_) q hj h;obtain ⟨v,hv⟩:=hc w hE;have hcv:=run_convert_to_unsafe (P:=P) hs hd2 hz hv;have hce:=events_convert_to_unsafe (P:=P) hs hd2 hz hv #[];constructor
 ·unfold execOp;simp [hop,hx,hcv]
 ·unfold listed execOp;simp [hop,hx,hce,seen_none]
theorem e_mu {F:Mill}:∀ w,F.E w->∃ v,w.cell? ⟨F.Mu,0,none⟩=some v:=fun w ⟨s,hs⟩=>⟨_,hs.mu0⟩
theorem e_wg {F:Mill} (k:Nat) (hk:k < 2):∀ w,F.E w->∃ v,w.cell? ⟨F.Wg,k,none⟩=some v:=fun w ⟨s,hs⟩=>by
 have:k=0\/k=1:=by omega
 rcases this with rfl | rfl
 ·exact ⟨_,hs.wg0⟩
 ·exact ⟨_,hs.wg1⟩
end Mt
namespace Mt
open Go Go.Conc Mob
def WsT (F:Mill) (jj:Nat) (T:Th) (σ:Nat->Bool) (d:Nat) (g:Goroutine):Prop:=if T.pc=.quit then ∃ q,QuitsD F.P q 1 g else ∃ k,SWalk F.P F.E (fun g=>AtD F d jj T σ g none_) k g
theorem closed_ws {F:Mill} {jj d:Nat} {T:Th} {σ:Nat->Bool}:Closed F.P false (fun _=>True) (WsT F jj T σ d):=by
 unfold WsT;by_cases h:T.pc=.quit
 ·simp only [h,if_true];exact closed_quits
 ·simp only [h,if_false];rintro fr cs fr1 cs1 hs ⟨k,hk⟩;exact ⟨k+1,.inr ⟨rfl,fun w _=>⟨_,hs w trivial,hk⟩⟩⟩
theorem ws_quit {F:Mill} {jj d:Nat} {σ:Nat->Bool} {g:Goroutine} (h:∃ q,QuitsD F.P q 1 g):WsT F jj (at_ .quit) σ d g:=by
 unfold WsT;rw [if_pos (show (at_ .quit).pc=.quit from rfl)];exact h
section
variable {F:Mill} {jj:Nat} {T T':Th} {σ:Nat->Bool} {own:Hold} {d:Nat}
theorem Cont.ofS {g':Goroutine} {own':Hold} (hm:mute T'=true) (h:WsT F jj T' σ d g'):Cont F (AtD F d jj) T' σ g' own':=by
 unfold Cont;unfold WsT at h;by_cases hq:T'.pc=.quit
 ·rw [if_pos hq] at h ⊢;exact h
 ·rw [if_neg hq] at h ⊢;rw [if_pos hm];exact h
variable {b:Frame} {a:Act} {kk:List Item} {cs:List Frame} {f:FuncId} {ops:Array Oper} {i j:Nat} {rest:List Nat} {xs:Array Operand} {x y z:Operand} {n:Nat} {l:List (Nat × Value)}
theorem st_part (S:Stands b a ops i f #[x] j) (X:XF F.P f (Extern.Race.marked .releaseMerge)) (q:Kn a n l) (hj:j < n) (hx:a.eval x=.pointer (some ⟨F.Wg,0,none⟩))
 (hC:∀ d0,d0 < d->Behind (WsT F jj (at_ .wk) σ d0) b a ops rest kk cs n j l (.tuple #[])):WkT F jj (at_ .wr) σ own d (G (b.at a (.inRegion ops (i::rest)::kk)) cs):=by
 refine ⟨0,?_⟩
 cases d with
 | zero=>trivial
 | succ d =>
  refine ⟨rfl,rfl,fun h=>by simp [at_] at h,fun h=>by simp [at_] at h,fun w s _ _ _ h=>by simp [mv,at_] at h,fun w s _ hs hf _=>?_⟩;refine ⟨(at_ .wk,s),by simp [mv,at_],_,w,_,S.markAt .releaseMerge (by simp) X hx,hs,Eff.refl w,rfl,?_⟩;exact Cont.ofS rfl ((hC d (Nat.lt_succ_self d)).put q hj)
theorem stop_mute (hT:mute T=true) (hq:T.pc≠.quit) {g:Goroutine} (hr:g.status=.running) (ho:g.offers=none) (hwk:T.pc=.d4->mayWake F.P g=true) (hne:∀ s,mv T s≠[])
 (hgo:∀ d0,d0 < d->∀ w s,F.Sh w s->Fit F.n T s->∃ r∈mv T s,∃ g' w' es,stepG F.P false g w=.go g' w' es/\F.Sh w' r.2/\Eff F.Mu F.Wg w w'/\(∀ e∈es,Bk F.Wg F.Wg false e)/\deafBehind (deaf T) es=deaf r.1 /\
   (∀ j e,es[j]? = some e->(MemAct.ofEvent e).touch? = none\/0 < deafBehind (deaf T) (es.extract 0 j))/\mute r.1=true/\WsT F jj r.1 σ d0 g'):WsT F jj T σ d g:=by
 unfold WsT;rw [if_neg hq];refine ⟨0,?_⟩
 cases d with
 | zero=>trivial
 | succ d =>
  refine ⟨hr,ho,fun h=>?_,fun h=>by simp [mute,h] at hT,fun w s _ _ _ h=>absurd h (hne s),fun w s _ hs hf _=>?_⟩
  ·rcases h with h | h | h
   ·simp [mute,h] at hT
   ·simp [mute,h] at hT
   ·exact hwk h
  ·obtain ⟨r,hr,g',w',es,a1,a2,a3,a4,a5,a6,a7,a8⟩:=hgo d (Nat.lt_succ_self d) w s hs hf;refine ⟨r,hr,g',w',es,a1,a2,a3,?_,?_⟩
   ·have hb:∀ e∈es,Bk F.Mu F.Wg false e:=fun e he=>by
     rcases a4 e he with h | h | ⟨a,x,h,hh⟩ | ⟨h,_⟩
     ·exact .inl h
     ·exact .inr (.inl h)
     ·exact .inr (.inr (.inl ⟨a,x,h,.inr (hh.elim id id)⟩))
     ·cases h
    unfold EvStop;split
    ·rename_i h;simp [mute,h] at hT
    ·rename_i h;simp [mute,h] at hT
    ·rename_i h;simp [mute,h] at hT
    ·exact ⟨hb,a5,fun _=>⟨a4,a6⟩⟩
   ·unfold After;split
    ·rename_i h;simp [mute,h] at hT
    ·rename_i h;simp [mute,h] at hT
    ·rename_i h;simp [mute,h] at hT
    ·exact Cont.ofS a7 a8
theorem sm_mark (S:Stands b a ops i f xs j) (X:XF F.P f (fun _=>do mark .disable;pure Extern.Race.none_)) (q:Kn a n l) (hj:j < n) (hC:∀ d0,d0 < d->Behind (WsT F jj (at_ .d1) σ d0) b a ops rest kk cs n j l (.tuple #[])) :
 WsT F jj (at_ .wk) σ d (G (b.at a (.inRegion ops (i::rest)::kk)) cs):=by
 refine stop_mute rfl (by simp [at_]) rfl rfl (fun h=>by simp [at_] at h) (fun s=>by simp [mv,at_]) fun d0 hd0 w s hs hf=>?_;refine ⟨(at_ .d1,s),by simp [mv,at_],_,w,_,S.mark0 .disable (by simp) X,hs,Eff.refl w,fun e he=>?_,rfl,fun j e he=>?_,rfl,(hC d0 hd0).put q hj⟩
 ·simp only [List.mem_toArray,List.mem_singleton] at he;subst he;exact .inl rfl
 ·have:=Array.mem_of_getElem? he;simp only [List.mem_toArray,List.mem_singleton] at this;subst this;exact .inl rfl
theorem wbk_rw {r k:Nat}:∀ e∈(#[⟨.cell ⟨r,k,none⟩,false,true⟩,⟨.cell ⟨r,k,none⟩,true,true⟩]:Array Event),Bk r r false e:=fun e he=>by
 simp only [List.mem_toArray,List.mem_cons,List.not_mem_nil,or_false] at he;rcases he with rfl | rfl <;> exact .inr (.inr (.inl ⟨_,_,rfl,.inl rfl⟩))
theorem wbk_one {r k:Nat} {x:Bool}:∀ e∈(#[⟨.cell ⟨r,k,none⟩,x,true⟩]:Array Event),Bk r r false e:=fun e he=>by
 simp only [List.mem_toArray,List.mem_singleton] at he;subst he;exact .inr (.inr (.inl ⟨_,_,rfl,.inl rfl⟩))
theorem wbk_sem {r k:Nat}:∀ e∈semEvents ⟨r,k,none⟩,Bk r r false e:=fun e he=>by
 simp only [semEvents,List.mem_toArray,List.mem_cons,List.not_mem_nil,or_false] at he;rcases he with rfl | rfl | rfl | rfl
 ·exact .inl rfl
 ·exact .inr (.inr (.inl ⟨_,_,rfl,.inl rfl⟩))
 ·exact .inr (.inr (.inl ⟨_,_,rfl,.inl rfl⟩))
 ·exact .inr (.inl rfl)
theorem dbk_rw {a b:Addr}:∀ j e,(#[⟨.cell a,false,true⟩,⟨.cell b,true,true⟩]:Array Event)[j]? = some e->(MemAct.ofEvent e).touch? = none\/0 < deafBehind 1 ((#[⟨.cell a,false,true⟩,⟨.cell b,true,true⟩]:Array Event).extract 0 j):=fun j e he=>by
 match j,he with
 | 0,_=>exact .inr (by simp [deafBehind])
 | 1,_=>exact .inr (by simp [deafBehind])
 | j+2,he=>simp at he
theorem dbk_one {a:Addr} {x:Bool}:∀ j e,(#[⟨.cell a,x,true⟩]:Array Event)[j]? = some e->(MemAct.ofEvent e).touch? = none\/0 < deafBehind 1 ((#[⟨.cell a,x,true⟩]:Array Event).extract 0 j):=fun j e he=>by
 match j,he with
 | 0,_=>exact .inr (by simp [deafBehind])
 | j+1,he=>simp at he
theorem dbk_sem {a:Addr}:∀ j e,(semEvents a)[j]? = some e->(MemAct.ofEvent e).touch? = none\/0 < deafBehind 1 ((semEvents a).extract 0 j):=fun j e he=>by
 match j,he with
 | 0,he=>simp [semEvents] at he;subst he;exact .inl rfl
 | 1,_=>exact .inr (by simp [deafBehind,semEvents])
 | 2,_=>exact .inr (by simp [deafBehind,semEvents])
 | 3,he=>simp [semEvents] at he;subst he;exact .inl rfl
 | j+4,he=>simp [semEvents] at he
theorem sm_add (two:F.Mu≠F.Wg) {dl:Int} (S:Stands b a ops i f #[x,y] j) (X:XF F.P f (Extern.Atomic.update (Op.intArith .add) .u64 true)) (q:Kn a n l) (hj:j < n) (hx:a.eval x=.pointer (some ⟨F.Wg,0,none⟩)) (hy:a.eval y=.int .u64 dl)
 (hval:∀ v wt,1<=v->v<=F.n+1->IntKind.u64.wrap (wgI v wt+dl)=wgI (v - 1) wt)
 (hC:∀ d0,d0 < d->∀ v wt,v<=F.n->Behind (WsT F jj (if v=0/\wt=true then at_ .d2 else at_ .quit) σ d0) b a ops rest kk cs n j l (.int .u64 (wgI v wt))):WsT F jj (at_ .d1) σ d (G (b.at a (.inRegion ops (i::rest)::kk)) cs):=by
 refine stop_mute rfl (by simp [at_]) rfl rfl (fun h=>by simp [at_] at h) (fun s=>by simp [mv,at_]) fun d0 hd0 w s hs hf=>?_;have h1:=hf.d1 rfl;have hst:=S.add (rest:=rest) (kk:=kk) (cs:=cs) (main:=false) X hx hy hs.wg0 (hs.wgF 0);rw [hval s.v s.wt h1 hf.v] at hst;have e:(if s.v=1/\s.wt=true then at_ .d2 else at_ .quit)=(if s.v - 1=0/\s.wt=true then at_ .d2 else at_ .quit):=by
  by_cases h:s.v=1
  ·simp [h]
  ·have:¬ (s.v - 1=0):=by omega
   simp [h,this]
 refine ⟨((if s.v=1/\s.wt=true then at_ .d2 else at_ .quit),{ s with v:=s.v - 1 }),by simp [mv,at_],_,_,_,hst,hs.setV two _ _,Eff.set (.inr rfl),wbk_rw,by split <;> rfl,dbk_rw,by simp only;split <;> rfl,?_⟩;have:=(hC d0 hd0 (s.v - 1) s.wt (by have:=hf.v;omega)).put q hj;rw [<- e] at this;exact this
theorem sm_load (S:Stands b a ops i f #[x] j) (X:XF F.P f (Extern.Atomic.loadT (.int .u64))) (q:Kn a n l) (hj:j < n) (hx:a.eval x=.pointer (some ⟨F.Wg,0,none⟩))
 (hC:∀ d0,d0 < d->Behind (WsT F jj (at_ .d3) σ d0) b a ops rest kk cs n j l (.int .u64 (wgI 0 true))):WsT F jj (at_ .d2) σ d (G (b.at a (.inRegion ops (i::rest)::kk)) cs):=by
 refine stop_mute rfl (by simp [at_]) rfl rfl (fun h=>by simp [at_] at h) (fun s=>by simp [mv,at_]) fun d0 hd0 w s hs hf=>?_;have hst:=S.load (rest:=rest) (kk:=kk) (cs:=cs) (main:=false) X hx hs.wg0;rw [(hf.d2 rfl).1,(hf.d2 rfl).2] at hst;exact ⟨(at_ .d3,s),by simp [mv,at_],_,w,_,hst,hs,Eff.refl w,wbk_one,rfl,dbk_one,rfl,(hC d0 hd0).put q hj⟩
theorem sm_store (two:F.Mu≠F.Wg) (S:Stands b a ops i f #[x,y] j) (X:XF F.P f Extern.Atomic.storeT) (q:Kn a n l) (hj:j < n) (hx:a.eval x=.pointer (some ⟨F.Wg,0,none⟩)) (hy:a.eval y=.int .u64 0)
 (hC:∀ d0,d0 < d->Behind (WsT F jj (at_ .d4) σ d0) b a ops rest kk cs n j l (.tuple #[])):WsT F jj (at_ .d3) σ d (G (b.at a (.inRegion ops (i::rest)::kk)) cs):=by
 refine stop_mute rfl (by simp [at_]) rfl rfl (fun h=>by simp [at_] at h) (fun s=>by simp [mv,at_]) fun d0 hd0 w s hs hf=>?_;have hst:=S.store (rest:=rest) (kk:=kk) (cs:=cs) (main:=false) X hx hy hs.wg0 (hs.wgF 0);exact ⟨(at_ .d4,{ s with v:=0,wt:=false }),by simp [mv,at_],_,_,_,hst,hs.setV two 0 false,Eff.set (.inr rfl),wbk_one,rfl,dbk_one,rfl,(hC d0 hd0).put q hj⟩
theorem sm_rel (two:F.Mu≠F.Wg) (S:Stands b a ops i f xs j) (X:XF F.P f Extern.Sync.semrelease) (q:Kn a n l) (hj:j < n) (hx:(xs.map a.eval)[0]? = some (.pointer (some ⟨F.Wg,1,none⟩)))
 (hC:∀ d0,d0 < d->Behind (WsT F jj (at_ .quit) σ d0) b a ops rest kk cs n j l (.tuple #[])):WsT F jj (at_ .d4) σ d (G (b.at a (.inRegion ops (i::rest)::kk)) cs):=by
 refine stop_mute rfl (by simp [at_]) rfl rfl (fun _=>S.wakes X) (fun s=>by simp [mv,at_]) fun d0 hd0 w s hs hf=>?_;have hst:=S.semRel (rest:=rest) (kk:=kk) (cs:=cs) (main:=false) X hx hs.wg1 (hs.wgF 1);rw [wrap32 hf.ws] at hst;exact ⟨(at_ .quit,{ s with ws:=s.ws+1 }),by simp [mv,at_],_,_,_,hst,hs.setWs two _,Eff.set (.inr rfl),wbk_sem,deaf_sem,dbk_sem,rfl,(hC d0 hd0).put q hj⟩
end
section
variable {v:Nat} {b:Bool}
theorem wg_all {φ:Nat->Bool->Prop} (h:∀ v:Fin 9,∀ b,φ v b) (hv:v<=8):φ v b:=h ⟨v,by omega⟩ b
theorem g_less (h1:1<=v) (hv:v<=8):IntKind.u64.wrap (wgI v b+18446744069414584320)=wgI (v - 1) b:=wg_all (φ:=fun v b=>1<=v->IntKind.u64.wrap (wgI v b+18446744069414584320)=wgI (v - 1) b) (by decide) hv h1
theorem g_more (hv:v<=8):IntKind.u64.wrap (wgI v b+4294967296)=wgI (v+1) b:=wg_all (φ:=fun v b=>IntKind.u64.wrap (wgI v b+4294967296)=wgI (v+1) b) (by decide) hv
theorem g_one (hv:v<=8):IntKind.u64.wrap (wgI v false+1)=wgI v true:=wg_all (φ:=fun v _=>IntKind.u64.wrap (wgI v false+1)=wgI v true) (b:=false) (by decide) hv
theorem g_bub (hv:v<=8):(bits BinOp.and IntKind.u64 (wgI v b) 2147483648 != 0)=false:=wg_all (φ:=fun v b=>(bits BinOp.and IntKind.u64 (wgI v b) 2147483648 != 0)=false) (by decide) hv
theorem g_v (hv:v<=8):IntKind.i32.wrap (wgI v b / 4294967296)=(v:Int):=wg_all (φ:=fun v b=>IntKind.i32.wrap (wgI v b / 4294967296)=(v:Int)) (by decide) hv
theorem g_w (hv:v<=8):IntKind.u32.wrap (bits BinOp.and IntKind.u64 (wgI v b) 2147483647)=((b.toNat:Nat):Int):=wg_all (φ:=fun v b=>IntKind.u32.wrap (bits BinOp.and IntKind.u64 (wgI v b) 2147483647)=((b.toNat:Nat):Int)) (by decide) hv
end
section
variable {P:Program} {main:Bool} {E:World->Prop} {W:Goroutine->Prop} {b:Frame} {a:Act} {k:List Item} {cs:List Frame} {n:Nat} {l:List (Nat × Value)}
theorem cl_defer (hW:Closed P main E W) {ops:Array Oper} {i:Nat} {rest:List Nat} {o:Oper} {f:FuncId} {xs:Array Operand} {ats:Array TypeId} (hb:b.kind≠.early) (ho:ops[i]? = some o) (hd:o.dst=none) (hw:Region.wanted o (yielded ops a.tmps)=true)
 (hop:o.op=.defer { callee:=.value (.func f),args:=xs,argTypes:=ats }) (q:Kn a n l) (h:∀ a1:Act,a1.defers=dcall f (xs.map a.eval)::a.defers->Kn a1 n l->W (G (b.at a1 (.inRegion ops rest::k)) cs)):W (G (b.at a (.inRegion ops (i::rest)::k)) cs):=by
 refine hW _ _ _ _ (fun w _=>?_) (h ⟨a.tmps,dcall f (xs.map a.eval)::a.defers⟩ rfl ⟨q.sz,KnL.same (a:=a) (a1:=⟨a.tmps,dcall f (xs.map a.eval)::a.defers⟩) rfl q.kn⟩);rw [stepG_defer ho hw hb hop,hd];rfl
end
def ClosedN (P:Program) (main:Bool) (E:World->Prop) (W:Nat->Goroutine->Prop):Prop :=
 ∀ m fr cs fr1 cs1,(∀ w,E w->stepG P main (G fr cs) w=.go (G fr1 cs1) w #[])->W m (G fr1 cs1)->W (m+1) (G fr cs)
def WN (P:Program) (main:Bool) (ro:Hold) (E:World->Prop) (Stop:Goroutine->Hold->Prop) (own:Hold) (k:Nat) (g:Goroutine):Prop:=Walk P main ro E Stop k g own
theorem closedN {P:Program} {main:Bool} {ro:Hold} {E:World->Prop} {Stop:Goroutine->Hold->Prop} {own:Hold}:ClosedN P main E (WN P main ro E Stop own) :=
 fun m fr cs fr1 cs1 h hk=>.inr ⟨rfl,fun w hm hE=>⟨_,w,#[],own,h w hE,.idle hm,⟨_,_,rfl⟩,hk⟩⟩
section
variable {P:Program} {main:Bool} {E:World->Prop} {W:Nat->Goroutine->Prop} {m:Nat} {b:Frame} {a:Act} {k:List Item} {cs:List Frame} {n:Nat} {l:List (Nat × Value)}
theorem nw_seq (hW:ClosedN P main E W) {x y:Code} (h:W m (G (b.at a (.code x::.code y::k)) cs)):W (m+1) (G (b.at a (.code (.seq x y)::k)) cs):=hW m _ _ _ _ (fun w _=>stepG_seq) h
theorem nw_skip (hW:ClosedN P main E W) (h:W m (G (b.at a k) cs)):W (m+1) (G (b.at a (.code .skip::k)) cs):=hW m _ _ _ _ (fun w _=>stepG_skip) h
theorem nw_block (hW:ClosedN P main E W) {id:Nat} {x:Code} (h:W m (G (b.at a (.code x::.inBlock id::k)) cs)):W (m+1) (G (b.at a (.code (.block id x)::k)) cs):=hW m _ _ _ _ (fun w _=>stepG_block) h
theorem nw_inBlock (hW:ClosedN P main E W) {id:Nat} (h:W m (G (b.at a k) cs)):W (m+1) (G (b.at a (.inBlock id::k)) cs):=hW m _ _ _ _ (fun w _=>stepG_inBlock) h
theorem nw_loop (hW:ClosedN P main E W) {x:Code} (h:W m (G (b.at a (.code x::.inLoop x::k)) cs)):W (m+1) (G (b.at a (.code (.loop x)::k)) cs):=hW m _ _ _ _ (fun w _=>stepG_loop) h
theorem nw_inLoop (hW:ClosedN P main E W) {x:Code} (h:W m (G (b.at a (.code x::.inLoop x::k)) cs)):W (m+1) (G (b.at a (.inLoop x::k)) cs):=hW m _ _ _ _ (fun w _=>stepG_inLoop) h
theorem nw_exit (hW:ClosedN P main E W) {id:Nat} {k':List Item} (e:exitTo id k=some k') (h:W m (G (b.at a k') cs)):W (m+1) (G (b.at a (.code (.exit id)::k)) cs):=hW m _ _ _ _ (fun w _=>stepG_exit e) h
theorem nw_region (hW:ClosedN P main E W) {id:Nat} {ops:Array Oper} (h:W m (G (b.at a (.inRegion ops (List.range ops.size)::k)) cs)):W (m+1) (G (b.at a (.code (.region id ops false)::k)) cs):=hW m _ _ _ _ (fun w _=>stepG_region) h
theorem nw_regend (hW:ClosedN P main E W) {ops:Array Oper} (h:W m (G (b.at a k) cs)):W (m+1) (G (b.at a (.inRegion ops []::k)) cs):=hW m _ _ _ _ (fun w _=>stepG_region_end) h
theorem nw_cond (hW:ClosedN P main E W) {c:Operand} {x y:Code} (t:Bool) (e:a.eval c=.bool t) (h:W m (G (b.at a (.code (if t then x else y)::k)) cs)):W (m+1) (G (b.at a (.code (.cond c x y)::k)) cs):=hW m _ _ _ _ (fun w _=>stepG_cond e) h
theorem nw_ret (hW:ClosedN P main E W) (h:W m (G { b.at a (.code .ret::k) with mode:=.returning } cs)):W (m+1) (G (b.at a (.code .ret::k)) cs):=hW m _ _ _ _ (fun w _=>stepG_ret') h
theorem nw_reg (hW:ClosedN P main E W) {id:Nat} {ops:Array Oper} (L:List Nat) (e:List.range ops.size=L) (h:W m (G (b.at a (.inRegion ops L::k)) cs)):W (m+1) (G (b.at a (.code (.region id ops false)::k)) cs):=nw_region hW (e ▸ h)
theorem nw_condT (hW:ClosedN P main E W) {c:Operand} {x y:Code} (e:a.eval c=.bool true) (h:W m (G (b.at a (.code x::k)) cs)):W (m+1) (G (b.at a (.code (.cond c x y)::k)) cs):=nw_cond hW true e h
theorem nw_condF (hW:ClosedN P main E W) {c:Operand} {x y:Code} (e:a.eval c=.bool false) (h:W m (G (b.at a (.code y::k)) cs)):W (m+1) (G (b.at a (.code (.cond c x y)::k)) cs):=nw_cond hW false e h
theorem nw_op (hW:ClosedN P main E W) {ops:Array Oper} {i j:Nat} {rest:List Nat} (v:Value) (hb:b.kind≠.early) {o:Oper} (ho:ops[i]? = some o) (hd:o.dst=some j) (hw:Region.wanted o (yielded ops a.tmps)=true)
 (hx:∀ w,E w->(execOp a.eval o).run P w=.ok (.value v) w/\listed P b.fn a o w=#[]) (q:Kn a n l) (hj:j < n)
 (h:∀ a1,a1.defers=a.defers->Kn a1 n ((j,v)::l.filter fun x=>x.1 != j)->W m (G (b.at a1 (.inRegion ops rest::k)) cs)):W (m+1) (G (b.at a (.inRegion ops (i::rest)::k)) cs):=by
 refine hW m _ _ _ _ (fun w hE=>?_) (h (a.put (some j) v) rfl (q.cons hj v));rw [stepG_value ho hw hb (hx w hE).1,hd,(hx w hE).2]
theorem nw_call (hW:ClosedN P main E W) {ops:Array Oper} {i:Nat} {rest:List Nat} {o:Oper} {f:FuncId} {fn:Func} {c:Code} {args:Array Operand} {ats:Array TypeId} (hb:b.kind≠.early) (ho:ops[i]? = some o) (hw:Region.wanted o (yielded ops a.tmps)=true)
 (hop:o.op=.call { callee:=.value (.func f),args,argTypes:=ats }) (hf:P.funcs[f]? = some fn) (hname:(fn.name == "runtime.NumGoroutine")=false) (hc:fn.body=some c)
 (h:∀ a1:Act,a1.defers=[]->a1.tmps=args.map a.eval ++ Array.replicate (fn.ntmps - (args.map a.eval).size) undef->W m (G ((base f).at a1 [.code c]) (b.at a (.inRegion ops (i::rest)::k)::cs))):W (m+1) (G (b.at a (.inRegion ops (i::rest)::k)) cs):=by
 have hb':fn.body.isNone=false:=by rw [hc];rfl
 refine hW m _ _ _ _ (fun w _=>?_) (h ⟨args.map a.eval ++ Array.replicate (fn.ntmps - (args.map a.eval).size) U,[]⟩ rfl rfl);rw [stepG_enter ho hw hb (run_call_body hop hf hname hb'),enter_at _ hf hc];have:listed P b.fn a o w=#[]:=by unfold listed;rw [events_call_body hop hf hname hb'];exact seen_none P _
 rw [this]
theorem nw_defer (hW:ClosedN P main E W) {ops:Array Oper} {i:Nat} {rest:List Nat} {o:Oper} {f:FuncId} {xs:Array Operand} {ats:Array TypeId} (hb:b.kind≠.early) (ho:ops[i]? = some o) (hd:o.dst=none) (hw:Region.wanted o (yielded ops a.tmps)=true)
 (hop:o.op=.defer { callee:=.value (.func f),args:=xs,argTypes:=ats }) (q:Kn a n l) (h:∀ a1:Act,a1.defers=dcall f (xs.map a.eval)::a.defers->Kn a1 n l->W m (G (b.at a1 (.inRegion ops rest::k)) cs)):W (m+1) (G (b.at a (.inRegion ops (i::rest)::k)) cs):=by
 refine hW m _ _ _ _ (fun w _=>?_) (h ⟨a.tmps,dcall f (xs.map a.eval)::a.defers⟩ rfl ⟨q.sz,KnL.same (a:=a) (a1:=⟨a.tmps,dcall f (xs.map a.eval)::a.defers⟩) rfl q.kn⟩);rw [stepG_defer ho hw hb hop,hd];rfl
end
section
variable {P:Program} {main:Bool} {ro:Hold} {E:World->Prop} {Stop:Goroutine->Hold->Prop} {own:Hold} {m:Nat} {b:Frame} {a:Act} {k:List Item} {cs:List Frame} {n:Nat} {l:List (Nat × Value)} {ops:Array Oper} {i j:Nat} {rest:List Nat} {o:Oper}
theorem nw_read (v:Value) (hb:b.kind≠.early) (ho:ops[i]? = some o) (hd:o.dst=some j) (hw:Region.wanted o (yielded ops a.tmps)=true)
 (hx:∀ w,Meets w own ro->E w->(execOp a.eval o).run P w=.ok (.value v) w/\∀ e∈(execOp a.eval o).events P w #[],EvOwn own ro e) (q:Kn a n l) (hj:j < n)
 (h:∀ a1,a1.defers=a.defers->Kn a1 n ((j,v)::l.filter fun x=>x.1 != j)->WN P main ro E Stop own m (G (b.at a1 (.inRegion ops rest::k)) cs)):WN P main ro E Stop own (m+1) (G (b.at a (.inRegion ops (i::rest)::k)) cs):=by
 refine .inr ⟨rfl,fun w hm hE=>⟨_,w,listed P b.fn a o w,own,?_,⟨hm,Nat.le_refl _,fun _ _ _=>rfl,⟨rfl,rfl,rfl⟩,fun _ h=>.inl h,fun e he=>(hx w hm hE).2 e (seen_mem he)⟩,⟨_,_,rfl⟩,h (a.put (some j) v) rfl (q.cons hj v)⟩⟩;rw [stepG_value ho hw hb (hx w hm hE).1,hd]
theorem nw_make (ob:Obj) (hb:b.kind≠.early) (ho:ops[i]? = some o) (hd:o.dst=some j) (hw:Region.wanted o (yielded ops a.tmps)=true)
 (hx:∀ w,Meets w own ro->E w->(execOp a.eval o).run P w=.ok (.value (.pointer (some ⟨w.heap.size,0,none⟩))) (w.alloc ob)/\∀ e∈(execOp a.eval o).events P w #[],EvOwn own ro e) (q:Kn a n l) (hj:j < n)
 (h:∀ (r:Nat) (a1:Act),own r=none->ro r=none->a1.defers=a.defers->Kn a1 n ((j,.pointer (some ⟨r,0,none⟩))::l.filter fun x=>x.1 != j)->WN P main ro E Stop (own.set r ob) m (G (b.at a1 (.inRegion ops rest::k)) cs)):WN P main ro E Stop own (m+1) (G (b.at a (.inRegion ops (i::rest)::k)) cs):=by
 refine .inr ⟨rfl,fun w hm hE=>?_⟩;obtain ⟨h1,h2⟩:=none_own hm;have st:=(Stp.refl hm).alloc ob;refine ⟨_,w.alloc ob,listed P b.fn a o w,own.set w.heap.size ob,?_,⟨st.holds,st.size,st.kept,st.rest,st.keys,fun e he=>((hx w hm hE).2 e (seen_mem he)).mono st.keeps⟩,⟨_,_,rfl⟩,h w.heap.size (a.put (some j) _) h1 h2 rfl (q.cons hj _)⟩;rw [stepG_value ho hw hb (hx w hm hE).1,hd]
theorem nw_store {r c:Nat} {cells:Array Value} {t:TypeId} {f:Nat × Nat} (v:Value) (hr:own r=some (.cells cells t f)) (hb:b.kind≠.early) (ho:ops[i]? = some o) (hd:o.dst=none) (hw:Region.wanted o (yielded ops a.tmps)=true)
 (hx:∀ w,Meets w own ro->E w->(execOp a.eval o).run P w=.ok .skip (w.setCell ⟨r,c,none⟩ v)/\∀ e∈(execOp a.eval o).events P w #[],EvOwn own ro e) (q:Kn a n l)
 (h:WN P main ro E Stop (own.set r (.cells (cells.setIfInBounds c v) t f)) m (G (b.at a (.inRegion ops rest::k)) cs)):WN P main ro E Stop own (m+1) (G (b.at a (.inRegion ops (i::rest)::k)) cs):=by
 refine .inr ⟨rfl,fun w hm hE=>?_⟩;have st:=(Stp.refl hm).set (k:=c) hr v;refine ⟨_,w.setCell ⟨r,c,none⟩ v,listed P b.fn a o w,_,?_,⟨st.holds,st.size,st.kept,st.rest,st.keys,fun e he=>((hx w hm hE).2 e (seen_mem he)).mono st.keeps⟩,⟨_,_,rfl⟩,h⟩;rw [stepG_none ho hw hb (hx w hm hE).1,hd];rfl
theorem nw_put {r:Nat} {ob ob':Obj} (hr:own r=some ob) (hb:b.kind≠.early) (ho:ops[i]? = some o) (hd:o.dst=none) (hw:Region.wanted o (yielded ops a.tmps)=true)
 (hx:∀ w,Meets w own ro->E w->(execOp a.eval o).run P w=.ok .skip { w with heap:=w.heap.setIfInBounds r ob' }/\∀ e∈(execOp a.eval o).events P w #[],EvOwn own ro e) (q:Kn a n l)
 (h:WN P main ro E Stop (own.set r ob') m (G (b.at a (.inRegion ops rest::k)) cs)):WN P main ro E Stop own (m+1) (G (b.at a (.inRegion ops (i::rest)::k)) cs):=by
 refine .inr ⟨rfl,fun w hm hE=>?_⟩;have hin:=hm.mine r ob hr;have hlt:r < w.heap.size:=(Array.getElem?_eq_some_iff.1 hin).1;have keyr:∀ x,keyOf (own.set r ob') x->x=r\/keyOf own x:=fun x ⟨o',ho'⟩=>by
  by_cases e:x=r
  ·exact .inl e
  ·rw [Hold.set_ne _ _ e] at ho';exact .inr ⟨o',ho'⟩
 refine ⟨_,{ w with heap:=w.heap.setIfInBounds r ob' },listed P b.fn a o w,own.set r ob',?_,⟨⟨fun x o' hx'=>?_,fun x o' hx'=>?_,fun x o' hx'=>?_⟩,by simp,fun x hxl hnk=>?_,⟨rfl,rfl,rfl⟩,fun x hk=>?_,fun e he=>((hx w hm hE).2 e (seen_mem he)).mono fun x hk=>?_⟩,⟨_,_,rfl⟩,h⟩
 ·rw [stepG_none ho hw hb (hx w hm hE).1,hd];rfl
 ·by_cases e:x=r
  ·subst e;rw [Hold.set_same] at hx';cases hx';simp [hlt]
  ·rw [Hold.set_ne _ _ e] at hx';show (w.heap.setIfInBounds r ob')[x]? = _;rw [Array.getElem?_setIfInBounds_ne (Ne.symm e)];exact hm.mine x o' hx'
 ·have e:x≠r:=fun e=>by subst e;rw [hm.apart x ob hr] at hx';cases hx'
  show (w.heap.setIfInBounds r ob')[x]? = _;rw [Array.getElem?_setIfInBounds_ne (Ne.symm e)];exact hm.shared x o' hx'
 ·rcases keyr x ⟨o',hx'⟩ with rfl | ⟨o2,h2⟩
  ·exact hm.apart x ob hr
  ·exact hm.apart x o2 h2
 ·have e:x≠r:=fun e=>hnk (e ▸ ⟨ob,hr⟩);show (w.heap.setIfInBounds r ob')[x]? = _;rw [Array.getElem?_setIfInBounds_ne (Ne.symm e)]
 ·rcases keyr x hk with rfl | h
  ·exact .inl ⟨ob,hr⟩
  ·exact .inl h
 ·obtain ⟨o',ho'⟩:=hk;by_cases e:x=r
  ·subst e;exact ⟨ob',Hold.set_same _ _ _⟩
  ·exact ⟨o',by rw [Hold.set_ne _ _ e];exact ho'⟩
end
section
variable {P:Program} {main:Bool} {E:World->Prop} {W:Nat->Goroutine->Prop} {m:Nat} {b:Frame} {a:Act} {k:List Item} {cs:List Frame} {n:Nat} {l:List (Nat × Value)}
theorem nw_enter (hW:ClosedN P main E W) {ops:Array Oper} {i:Nat} {rest:List Nat} {o:Oper} {f:FuncId} {fn:Func} {c:Code} {args:Array Value} (hb:b.kind≠.early) (ho:ops[i]? = some o) (hw:Region.wanted o (yielded ops a.tmps)=true)
 (hx:∀ w,(execOp a.eval o).run P w=.ok (.enter f args) w/\listed P b.fn a o w=#[]) (hf:P.funcs[f]? = some fn) (hc:fn.body=some c)
 (h:∀ a1:Act,a1.defers=[]->a1.tmps=args ++ Array.replicate (fn.ntmps - args.size) undef->W m (G ((base f).at a1 [.code c]) (b.at a (.inRegion ops (i::rest)::k)::cs))):W (m+1) (G (b.at a (.inRegion ops (i::rest)::k)) cs):=by
 refine hW m _ _ _ _ (fun w _=>?_) (h ⟨args ++ Array.replicate (fn.ntmps - args.size) U,[]⟩ rfl rfl);rw [stepG_enter ho hw hb (hx w).1,enter_at _ hf hc,(hx w).2]
theorem nw_leave2 (hW:ClosedN P main E W) {fn:Func} {todo:List Item} {b₀:Frame} {a₀:Act} {ops:Array Oper} {i:Nat} {rest:List Nat} {n₀ j t u:Nat} {v v':Value} {l₀:List (Nat × Value)} (hn:b.kind=.normal) (hd:a.defers=[]) (hf:P.funcs[b.fn]? = some fn) (hr:fn.results=#[.tmp t,.tmp u])
 (hv:a.tmps[t]? = some v) (hv':a.tmps[u]? = some v') (hd0:(ops[i]?).bind (·.dst)=some j) (q:Kn a₀ n₀ l₀) (hj:j < n₀) (h:∀ a1,a1.defers=a₀.defers->Kn a1 n₀ ((j,.tuple #[v,v'])::l₀.filter fun x=>x.1 != j)->W m (G (b₀.at a1 (.inRegion ops rest::k)) cs)) :
 W (m+1) (G { b.at a todo with mode:=.returning } (b₀.at a₀ (.inRegion ops (i::rest)::k)::cs)):=by
 refine hW m _ _ _ _ (fun w _=>?_) (h (a₀.put (some j) (.tuple #[v,v'])) rfl (q.cons hj _));rw [stepG_leave hn hd hf (results_tmp2 hr _ P w) (events_results_tmp2 hr _ _),Frame.finish_at,hd0];have e1:a.tmps.getD t undef=v:=by rw [Array.getD_eq_getD_getElem?,hv];rfl
 have e2:a.tmps.getD u undef=v':=by rw [Array.getD_eq_getD_getElem?,hv'];rfl
 rw [e1,e2]
end
end Mt
end Go.Proofs.YtgkajecjbflbbaaGreatDoor
