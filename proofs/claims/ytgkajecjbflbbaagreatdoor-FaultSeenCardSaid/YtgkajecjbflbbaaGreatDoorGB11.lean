/- the fault laws -/
import Derived.Test.YtgkajecjbflbbaaGreatDoorGB08
set_option maxHeartbeats 200000
set_option maxRecDepth 100000
set_option linter.all false
namespace Go.Proofs.YtgkajecjbflbbaaGreatDoor
namespace Mt
open Go Go.Conc Mob
def WmT (F:Mill) (Fin:Goroutine->Hold->Prop) (m:Nat) (M:MTh) (own:Hold) (d:Nat) (g:Goroutine):Prop:=∃ k,Walk F.P true F.ro F.E (AtM F Fin d m M) k g own
theorem closed_wm {F:Mill} {Fin:Goroutine->Hold->Prop} {m d:Nat} {M:MTh} {own:Hold}:Closed F.P true F.E (WmT F Fin m M own d):=closed_walk
section
variable {F:Mill} {Fin:Goroutine->Hold->Prop} {m:Nat} {M M':MTh} {own:Hold} {d:Nat}
theorem stopM_plain (hM:M.pc≠.go/\M.pc≠.aq) {g:Goroutine} (hr:g.status=.running) (ho:g.offers=none)
 (hblk:∀ w s,F.Sh w s->FitM F.n M s->mvM M s=[]->stepG F.P true g w=.go { g with status:=.blocked } w #[])
 (hgo:∀ d0,d0 < d->∀ w s,F.Sh w s->FitM F.n M s->mvM M s≠[]->∃ r∈mvM M s,∃ g' w' es,stepG F.P true g w=.go g' w' es/\F.Sh w' r.2/\Eff F.Mu F.Wg w w'/\(∀ e∈es,Bk F.Mu F.Wg true e)/\deafBehind (deafM M) es=deafM r.1/\WmT F Fin m r.1 own d0 g'):WmT F Fin m M own d g:=by
 refine ⟨0,?_⟩
 cases d with
 | zero=>trivial
 | succ d =>
  refine ⟨hr,ho,fun _ w s _ hs hf hm=>hblk w s hs hf hm,fun _ w s _ hs hf hm=>?_,fun h=>absurd h hM.1⟩;obtain ⟨r,hr,g',w',es,a1,a2,a3,a4,a5,a6⟩:=hgo d (Nat.lt_succ_self d) w s hs hf hm;refine ⟨r,hr,g',w',es,a1,a2,a3,?_,?_⟩
  ·unfold EvStopM;split
   ·rename_i h;exact absurd h hM.2
   ·exact ⟨a4,a5⟩
  ·unfold ContM;split
   ·rename_i h;exact absurd h hM.2
   ·exact a6
variable {b:Frame} {a:Act} {kk:List Item} {cs:List Frame} {f:FuncId} {ops:Array Oper} {i j:Nat} {rest:List Nat} {xs:Array Operand} {x y z:Operand} {n:Nat} {l:List (Nat × Value)}
theorem bk_mark {mk:Mark} (h:mk=.disable\/mk=.enable\/∃ a:Addr,a.block=F.Wg/\(mk=.read a\/mk=.write a)):∀ e∈(#[⟨.mark mk,false,true⟩]:Array Event),Bk F.Mu F.Wg true e:=fun e he=>by
 simp only [List.mem_toArray,List.mem_singleton] at he;subst he;rcases h with rfl | rfl | ⟨a,ha,rfl | rfl⟩
 ·exact .inl rfl
 ·exact .inr (.inl rfl)
 ·exact .inr (.inr (.inr ⟨rfl,a,ha,.inl rfl⟩))
 ·exact .inr (.inr (.inr ⟨rfl,a,ha,.inr rfl⟩))
theorem sM_mark {mk:Mark} (hm:mk=.disable\/mk=.enable) (S:Stands b a ops i f xs j) (X:XF F.P f (fun _=>do mark mk;pure Extern.Race.none_)) (q:Kn a n l) (hj:j < n)
 (hM:M.pc≠.go/\M.pc≠.aq) (hmv:∀ s,mvM M s=[(M',s)]) (hd:deafBehind (deafM M) #[⟨.mark mk,false,true⟩]=deafM M')
 (hC:∀ d0,d0 < d->Behind (WmT F Fin m M' own d0) b a ops rest kk cs n j l (.tuple #[])):WmT F Fin m M own d (G (b.at a (.inRegion ops (i::rest)::kk)) cs):=by
 refine stopM_plain hM rfl rfl (fun w s _ _ h=>by rw [hmv] at h;cases h) fun d0 hd0 w s hs hf _=>?_;exact ⟨(M',s),by rw [hmv];exact List.mem_singleton.2 rfl,_,w,_,S.mark0 mk (by rcases hm with rfl | rfl <;> simp) X,hs,Eff.refl w,bk_mark (hm.imp_right .inl),hd,(hC d0 hd0).put q hj⟩
theorem sM_ke {fd:FuncId} {todo:List Item} {ds:List Deferred} (hd:a.defers=dcall fd #[]::ds) (X:XF F.P fd (fun _=>do mark .enable;pure Extern.Race.none_))
 (hC:∀ d0,d0 < d->∀ a1:Act,a1.defers=ds->a1.tmps=a.tmps->WmT F Fin m (mat .go) own d0 (G { b.at a1 todo with mode:=.returning } cs)):WmT F Fin m (mat .ke) own d (G { b.at a todo with mode:=.returning } cs):=by
 obtain ⟨fn,h1,h2,h3,h4,h5⟩:=X;refine stopM_plain ⟨by simp [mat],by simp [mat]⟩ rfl rfl (fun w s _ _ h=>by simp [mvM,mat] at h) fun d0 hd0 w s hs hf _=>?_;exact ⟨(mat .go,s),by simp [mvM,mat],_,w,#[⟨.mark .enable,false,true⟩],stepG_unwind_entry (v:=.tuple #[]) hd h1 h2 h3 h4 h5 (by simp [Extern.Race.none_]) (by simp) (by
  intro x hx'
  simp at hx'
  subst hx'
  exact ⟨rfl,fun g h=>by cases h⟩),hs,Eff.refl w,bk_mark (.inr (.inl rfl)),rfl,hC d0 hd0 ⟨a.tmps,ds⟩ rfl rfl⟩
theorem sM_said {mk:Addr->Mark} (hmk:mk=.read\/mk=.write) (S:Stands b a ops i f #[x] j) (X:XF F.P f (Extern.Race.marked mk)) (q:Kn a n l) (hj:j < n) (hx:a.eval x=.pointer (some ⟨F.Wg,1,none⟩))
 (hM:M.pc≠.go/\M.pc≠.aq) (hmv:∀ s,mvM M s=[(M',s)]) (hd:deafM M=deafM M')
 (hC:∀ d0,d0 < d->Behind (WmT F Fin m M' own d0) b a ops rest kk cs n j l (.tuple #[])):WmT F Fin m M own d (G (b.at a (.inRegion ops (i::rest)::kk)) cs):=by
 refine stopM_plain hM rfl rfl (fun w s _ _ h=>by rw [hmv] at h;cases h) fun d0 hd0 w s hs hf _=>?_;refine ⟨(M',s),by rw [hmv];exact List.mem_singleton.2 rfl,_,w,_,S.markAt mk (by rcases hmk with rfl | rfl <;> simp) X hx,hs,Eff.refl w,bk_mark (.inr (.inr ⟨⟨F.Wg,1,none⟩,rfl,by rcases hmk with rfl | rfl <;> simp⟩)),?_,(hC d0 hd0).put q hj⟩;rw [<- hd];rcases hmk with rfl | rfl <;> rfl
theorem mbk_w {k:Nat} {es:Array Event} (h:∀ e∈es,Bk F.Wg F.Wg false e):∀ e∈es,Bk F.Mu F.Wg true e:=fun e he=>by
 rcases h e he with h | h | ⟨a,x,h,hh⟩ | ⟨h,_⟩
 ·exact .inl h
 ·exact .inr (.inl h)
 ·exact .inr (.inr (.inl ⟨a,x,h,.inr (hh.elim id id)⟩))
 ·cases h
theorem sM_add (two:F.Mu≠F.Wg) {dl:Int} (S:Stands b a ops i f #[x,y] j) (X:XF F.P f (Extern.Atomic.update (Op.intArith .add) .u64 true)) (q:Kn a n l) (hj:j < n) (hx:a.eval x=.pointer (some ⟨F.Wg,0,none⟩)) (hy:a.eval y=.int .u64 dl)
 (hval:∀ v,v<=F.n->IntKind.u64.wrap (wgI v false+dl)=wgI (v+1) false)
 (hC:∀ d0,d0 < d->∀ v,v<=F.n->Behind (WmT F Fin m (if v=0 then mat .kr else mat .ke) own d0) b a ops rest kk cs n j l (.int .u64 (wgI (v+1) false))):WmT F Fin m (mat .ad) own d (G (b.at a (.inRegion ops (i::rest)::kk)) cs):=by
 refine stopM_plain ⟨by simp [mat],by simp [mat]⟩ rfl rfl (fun w s _ _ h=>by simp [mvM,mat] at h) fun d0 hd0 w s hs hf _=>?_;obtain ⟨h1,h2⟩:=hf.ad rfl;have hst:=S.add (rest:=rest) (kk:=kk) (cs:=cs) (main:=true) X hx hy hs.wg0 (hs.wgF 0);rw [h1,hval s.v h2] at hst;have hsh:=hs.setV two (s.v+1) false;refine ⟨((if s.v=0 then mat .kr else mat .ke),{ s with v:=s.v+1 }),by simp [mvM,mat],_,_,_,hst,?_,Eff.set (.inr rfl),mbk_w (k:=0) wbk_rw,by simp only;split <;> rfl,(hC d0 hd0 s.v h2).put q hj⟩;obtain ⟨mu,ms,v,wt,ws⟩:=s;simp only at h1;subst h1;exact hsh
theorem sM_w1 (S:Stands b a ops i f #[x] j) (X:XF F.P f (Extern.Atomic.loadT (.int .u64))) (q:Kn a n l) (hj:j < n) (hx:a.eval x=.pointer (some ⟨F.Wg,0,none⟩)) {vo:Nat}
 (hC:∀ d0,d0 < d->∀ v,v<=F.n+1->Behind (WmT F Fin m (if v=0 then mat .we else { pc:=.w2,vo:=v }) own d0) b a ops rest kk cs n j l (.int .u64 (wgI v false))):WmT F Fin m { pc:=.w1,vo:=vo } own d (G (b.at a (.inRegion ops (i::rest)::kk)) cs):=by
 refine stopM_plain ⟨by simp,by simp⟩ rfl rfl (fun w s _ _ h=>by simp only [mvM] at h;split at h <;> cases h) fun d0 hd0 w s hs hf _=>?_;have hst:=S.load (rest:=rest) (kk:=kk) (cs:=cs) (main:=true) X hx hs.wg0;rw [hf.w1 rfl] at hst;refine ⟨((if s.v=0 then mat .we else { pc:=.w2,vo:=s.v }),s),by simp only [mvM];split <;> simp,_,w,_,hst,hs,Eff.refl w,mbk_w (k:=0) wbk_one,by simp only;split <;> rfl,(hC d0 hd0 s.v hf.v).put q hj⟩
theorem sM_w2 (two:F.Mu≠F.Wg) {vo:Nat} (S:Stands b a ops i f #[x,y,z] j) (X:XF F.P f (Extern.Atomic.casT (.int .u64))) (q:Kn a n l) (hj:j < n) (hx:a.eval x=.pointer (some ⟨F.Wg,0,none⟩)) (hy:a.eval y=.int .u64 (wgI vo false)) (hz:a.eval z=.int .u64 (wgI vo true))
 (hC1:∀ d0,d0 < d->Behind (WmT F Fin m (mat .wm) own d0) b a ops rest kk cs n j l (.bool true)) (hC2:∀ d0,d0 < d->Behind (WmT F Fin m (mat .w1) own d0) b a ops rest kk cs n j l (.bool false)):WmT F Fin m { pc:=.w2,vo:=vo } own d (G (b.at a (.inRegion ops (i::rest)::kk)) cs):=by
 refine stopM_plain ⟨by simp,by simp⟩ rfl rfl (fun w s _ _ h=>by simp only [mvM] at h;split at h <;> cases h) fun d0 hd0 w s hs hf _=>?_;have hw:=(hf.w2 rfl).1;have hc:=hs.wg0;rw [hw] at hc;by_cases h:s.v=vo
 ·subst h;have hst:=S.hit (rest:=rest) (kk:=kk) (cs:=cs) (main:=true) X hx hy hz hc (hs.wgF 0);exact ⟨(mat .wm,{ s with wt:=true }),by simp [mvM],_,_,_,hst,hs.setV two s.v true,Eff.set (.inr rfl),mbk_w (k:=0) wbk_rw,rfl,(hC1 d0 hd0).put q hj⟩
 ·have hst:=S.miss (rest:=rest) (kk:=kk) (cs:=cs) (main:=true) X hx hy hz hc (hs.wgF 0) (fun e=>h (wgI_inj e).1);exact ⟨(mat .w1,s),by simp [mvM,h],_,w,_,hst,hs,Eff.refl w,mbk_w (k:=0) wbk_one,rfl,(hC2 d0 hd0).put q hj⟩
theorem sM_w3 (two:F.Mu≠F.Wg) (S:Stands b a ops i f xs j) (X:XF F.P f Extern.Sync.semacquire) (q:Kn a n l) (hj:j < n) (hx:(xs.map a.eval)[0]? = some (.pointer (some ⟨F.Wg,1,none⟩)))
 (hC:∀ d0,d0 < d->Behind (WmT F Fin m (mat .w4) own d0) b a ops rest kk cs n j l (.tuple #[])):WmT F Fin m (mat .w3) own d (G (b.at a (.inRegion ops (i::rest)::kk)) cs):=by
 refine stopM_plain ⟨by simp [mat],by simp [mat]⟩ rfl rfl (fun w s hs _ h=>?_) fun d0 hd0 w s hs hf h=>?_
 ·have h0:s.ws=0:=by
   by_cases h0:s.ws=0
   ·exact h0
   ·simp [mvM,mat,h0] at h
  exact S.semWait X hx (by rw [hs.wg1,h0];rfl)
 ·have h0:s.ws≠0:=fun h0=>h (by simp [mvM,mat,h0]);have hst:=S.sem (rest:=rest) (kk:=kk) (cs:=cs) (main:=true) X hx hs.wg1 (by omega) (hs.wgF 1);rw [show ((s.ws:Int) - 1)=((s.ws - 1:Nat):Int) by omega] at hst;exact ⟨(mat .w4,{ s with ws:=s.ws - 1 }),by simp [mvM,mat,h0],_,_,_,hst,hs.setWs two _,Eff.set (.inr rfl),mbk_w (k:=0) wbk_sem,deaf_sem,(hC d0 hd0).put q hj⟩
theorem sM_w4 (S:Stands b a ops i f #[x] j) (X:XF F.P f (Extern.Atomic.loadT (.int .u64))) (q:Kn a n l) (hj:j < n) (hx:a.eval x=.pointer (some ⟨F.Wg,0,none⟩))
 (hC:∀ d0,d0 < d->Behind (WmT F Fin m (mat .we) own d0) b a ops rest kk cs n j l (.int .u64 0)):WmT F Fin m (mat .w4) own d (G (b.at a (.inRegion ops (i::rest)::kk)) cs):=by
 refine stopM_plain ⟨by simp [mat],by simp [mat]⟩ rfl rfl (fun w s _ _ h=>by simp [mvM,mat] at h) fun d0 hd0 w s hs hf _=>?_;have hst:=S.load (rest:=rest) (kk:=kk) (cs:=cs) (main:=true) X hx hs.wg0;rw [(hf.w4 rfl).1,(hf.w4 rfl).2] at hst;exact ⟨(mat .we,s),by simp [mvM,mat],_,w,_,hst,hs,Eff.refl w,mbk_w (k:=0) wbk_one,rfl,(hC d0 hd0).put q hj⟩
theorem sM_aq (S:Stands b a ops i f #[x] j) (X:XF F.P f (Extern.Race.marked .acquire)) (q:Kn a n l) (hj:j < n) (hx:a.eval x=.pointer (some ⟨F.Wg,0,none⟩))
 (hC:∀ o,F.KI (fun j=>decide (j < F.n)) o->Behind (fun g=>Fin g (own.set F.C o)) b a ops rest kk cs n j l (.tuple #[])):WmT F Fin m (mat .aq) own d (G (b.at a (.inRegion ops (i::rest)::kk)) cs):=by
 refine ⟨0,?_⟩
 cases d with
 | zero=>trivial
 | succ d =>
  refine ⟨rfl,rfl,fun _ w s _ _ _ h=>by simp [mvM,mat] at h,fun _ w s _ hs hf _=>?_,fun h=>by cases h⟩;refine ⟨(mat .fin,s),by simp [mvM,mat],_,w,_,S.markAt .acquire (by simp) X hx,hs,Eff.refl w,rfl,fun o _ ho=>?_⟩;exact (hC o ho).put q hj
end
end Mt
end Go.Proofs.YtgkajecjbflbbaaGreatDoor
