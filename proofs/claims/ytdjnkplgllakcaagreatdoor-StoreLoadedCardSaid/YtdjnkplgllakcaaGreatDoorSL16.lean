/- StoreLoaded -/
import Derived.Test.YtdjnkplgllakcaaGreatDoorSL15
import Derived.Conc.CrowdSel
set_option maxHeartbeats 200000
set_option maxRecDepth 100000
set_option linter.all false
namespace Go.Proofs.YtdjnkplgllakcaaGreatDoor
namespace Mt
open Go Go.Conc
section
variable {P:Program} {gs:Array Goroutine} {w w₁:World} {sl:Option (Nat × Nat)} {i:Nat} {g g₂:Goroutine} {es:Array Event} {c0 c1 s0 r0 s1 r1:Nat} {tm0 tm1:Bool} {z0 z1:Value}
theorem choose_lt (w:World) (q:Question) (n:Nat) (hq:q=.select n\/∃ s,q=.extern s n) (hn:0 < n):∃ a d,(choose q).run P w=.ok a (w.at d)/\a < n:=by
 by_cases hf:q.forced=true
 ·exact ⟨0,w.drawn,by simp [choose,Sem.run,hf,World.at],hn⟩
 ·refine ⟨q.cut (w.tape w.drawn q),w.drawn+1,by simp [choose,Sem.run,hf,World.at],?_⟩;rcases hq with rfl | ⟨s,rfl⟩
  ·exact Nat.mod_lt _ hn
  ·simp only [Question.cut];rw [if_neg (by omega)];exact Nat.mod_lt _ hn
theorem pick_of (w:World) (R:List (Nat × CommCase × List Way)) (hR:R≠[]) (hne:∀ x∈R,x.2.2≠[]) :
 ∃ x∈R,∃ y∈x.2.2,∃ d,(do
  let a <- choose (.select R.length)
  let (k,c,ws):=R.getD a (0,default,[])
  let b <- choose (.extern "which waiting goroutine is the partner" ws.length)
  pure (k,c,ws.getD b .closed):Sem (Nat × CommCase × Way)).run P w=.ok (x.1,x.2.1,y) (w.at d):=by
 obtain ⟨a,d,h1,h2⟩:=choose_lt (P:=P) w (.select R.length) R.length (.inl rfl) (List.length_pos_iff.2 hR);have hx:R[a]∈R:=List.getElem_mem h2;have hy:=List.length_pos_iff.2 (hne _ hx);obtain ⟨b,d2,h3,h4⟩:=choose_lt (P:=P) (w.at d) (.extern "which waiting goroutine is the partner" (R[a]).2.2.length) (R[a]).2.2.length (.inr ⟨_,rfl⟩) hy;refine ⟨R[a],hx,(R[a]).2.2[b],List.getElem_mem h4,d2,?_⟩;simp only [Sem.run_bind,h1,Result.andThen,List.getD_eq_getElem?_getD,List.getElem?_eq_getElem h2,Option.getD_some,h3,List.getElem?_eq_getElem h4];rfl
theorem sel2_meets (hi:gs[i]? = some g) (h:stepG P (i == 0) g w=.comm g₂ #[rcase c0 z0,rcase c1 z1] true .select w₁ es)
 (hc0:w₁.heap[c0]? = some (.chan 0 #[] false s0 r0 tm0)) (hc1:w₁.heap[c1]? = some (.chan 0 #[] false s1 r1 tm1))
 (hne:partners (gs.setIfInBounds i ph) c0 true≠[]\/partners (gs.setIfInBounds i ph) c1 true≠[])
 (hall:∀ c j k,(j,k)∈partners (gs.setIfInBounds i ph) c true->c=c0\/c=c1->k=0/\j≠i/\∃ gj vj zj shj,gs[j]? = some (parked gj #[scase c vj zj] shj)) :
 ∃ (kk:Nat) (c s r:Nat) (tm:Bool) (j:Nat) (gj:Goroutine) (vj zj:Value) (shj:CommShape) (d:Nat),((kk=0/\c=c0/\s=s0/\r=r0/\tm=tm0)\/(kk=1/\c=c1/\s=s1/\r=r1/\tm=tm1))/\j≠i/\gs[j]? = some (parked gj #[scase c vj zj] shj) /\
  runT P (crowd gs w sl) i=(.next (crowd ((gs.setIfInBounds j (gj.finishComm P #[scase c vj zj] shj 0 undef false)).setIfInBounds i (g₂.finishComm P #[rcase c0 z0,rcase c1 z1] .select kk vj true)) ((w₁.at d).setChan c 0 #[] false (s+1) (r+1) tm) sl),
   MemOp.ofEvents i g.frame.fn g.frame.place es ++ #[{ g:=j,fn:=gj.frame.fn,pos:=gj.frame.place,act:=.send c s },{ g:=i,fn:=g₂.frame.fn,pos:=g₂.frame.place,act:=.recv c r 0 },
    { g:=j,fn:=gj.frame.fn,pos:=gj.frame.place,act:=.sendDone c s },{ g:=i,fn:=g₂.frame.fn,pos:=g₂.frame.place,act:=.recvDone c r }]):=by
 have hways:∀ c z s r tm,w₁.heap[c]? = some (.chan 0 #[] false s r tm)->ways w₁ (gs.setIfInBounds i ph) (rcase c z)=(partners (gs.setIfInBounds i ph) c true).map fun (h,k)=>Way.partner h k:=by
  intro c z s r tm hc;simp only [ways,rcase,hc]
  cases partners (gs.setIfInBounds i ph) c true with
  | nil=>simp
  | cons p ps=>simp
 let R:List (Nat × CommCase × List Way):=(#[rcase c0 z0,rcase c1 z1].zipIdx.toList.map fun (c,k)=>(k,c,ways w₁ (gs.setIfInBounds i ph) c)).filter fun (_,_,ws)=>!ws.isEmpty
 have hmem:∀ x,x∈R↔(x=(0,rcase c0 z0,ways w₁ (gs.setIfInBounds i ph) (rcase c0 z0))\/x=(1,rcase c1 z1,ways w₁ (gs.setIfInBounds i ph) (rcase c1 z1)))/\x.2.2≠[]:=by
  intro x;simp only [R,List.mem_filter,List.mem_map];constructor
  ·rintro ⟨⟨⟨c,k⟩,hm,rfl⟩,hx⟩;refine ⟨?_,by simpa using hx⟩;simp at hm;rcases hm with ⟨rfl,rfl⟩ | ⟨rfl,rfl⟩
   ·exact .inl rfl
   ·exact .inr rfl
  ·rintro ⟨rfl | rfl,hx⟩
   ·exact ⟨⟨(rcase c0 z0,0),by simp,rfl⟩,by simpa using hx⟩
   ·exact ⟨⟨(rcase c1 z1,1),by simp,rfl⟩,by simpa using hx⟩
 have hR:R≠[]:=by
  rcases hne with hn | hn
  ·have:(0,rcase c0 z0,ways w₁ (gs.setIfInBounds i ph) (rcase c0 z0))∈R:=(hmem _).2 ⟨.inl rfl,by rw [hways c0 z0 _ _ _ hc0];simpa using hn⟩;exact fun e=>by rw [e] at this;cases this
  ·have:(1,rcase c1 z1,ways w₁ (gs.setIfInBounds i ph) (rcase c1 z1))∈R:=(hmem _).2 ⟨.inr rfl,by rw [hways c1 z1 _ _ _ hc1];simpa using hn⟩;exact fun e=>by rw [e] at this;cases this
 obtain ⟨x,hx,y,hy,d,hpick⟩:=pick_of (P:=P) w₁ R hR fun x hx=>((hmem x).1 hx).2
 have hRe:R.isEmpty=false:=by cases hq:R with
  | nil=>exact absurd hq hR
  | cons=>rfl
 have hill:(#[rcase c0 z0,rcase c1 z1]:Array CommCase).any (illMade w₁)=false:=any_ill fun cc hcc=>by
  simp at hcc;rcases hcc with rfl | rfl
  ·exact made_recv z0 hc0
  ·exact made_recv z1 hc1
 have fin:∀ (kk c s r:Nat) (tm:Bool) (z:Value),w₁.heap[c]? = some (.chan 0 #[] false s r tm)->(c=c0\/c=c1)->x=(kk,rcase c z,ways w₁ (gs.setIfInBounds i ph) (rcase c z)) ->
  ∃ j gj vj zj shj,j≠i/\gs[j]? = some (parked gj #[scase c vj zj] shj) /\
  runT P (crowd gs w sl) i=(.next (crowd ((gs.setIfInBounds j (gj.finishComm P #[scase c vj zj] shj 0 undef false)).setIfInBounds i (g₂.finishComm P #[rcase c0 z0,rcase c1 z1] .select kk vj true)) ((w₁.at d).setChan c 0 #[] false (s+1) (r+1) tm) sl),
   MemOp.ofEvents i g.frame.fn g.frame.place es ++ #[{ g:=j,fn:=gj.frame.fn,pos:=gj.frame.place,act:=.send c s },{ g:=i,fn:=g₂.frame.fn,pos:=g₂.frame.place,act:=.recv c r 0 },
    { g:=j,fn:=gj.frame.fn,pos:=gj.frame.place,act:=.sendDone c s },{ g:=i,fn:=g₂.frame.fn,pos:=g₂.frame.place,act:=.recvDone c r }]):=by
  intro kk c s r tm z hc hcc hx2;subst hx2;simp only [hways c z s r tm hc,List.mem_map] at hy;obtain ⟨⟨j,k⟩,hjk,rfl⟩:=hy;obtain ⟨rfl,hij,gj,vj,zj,shj,hj⟩:=hall c j k hjk hcc;refine ⟨j,gj,vj,zj,shj,hij,hj,?_⟩;rw [runT_crowd_comm hi h];have hj':=stand_get (i:=i) hij hj;have hfp:=finishPartner_at P (gs.setIfInBounds i ph) hj' (cs:=#[scase c vj zj]) (sh:=shj) rfl 0 undef;have hgd:(gs.setIfInBounds i ph).getD j default=parked gj #[scase c vj zj] shj:=by rw [Array.getD_eq_getD_getElem?,hj'];rfl
  have hov:offeredValue (gs.setIfInBounds i ph) j 0=vj:=by simp [offeredValue,hj',parked,scase]
  have hc':(w₁.at d).heap[c]? = some (.chan 0 #[] false s r tm):=hc;unfold communicate;change ((if (#[rcase c0 z0,rcase c1 z1]:Array CommCase).any (illMade w₁)=true then _ else if R.isEmpty=true then _ else _:Stepped × Array MemOp).1,_ ++ (if (#[rcase c0 z0,rcase c1 z1]:Array CommCase).any (illMade w₁)=true then _ else if R.isEmpty=true then _ else _:Stepped × Array MemOp).2)=_;rw [if_neg (by rw [hill];simp),if_neg (by rw [hRe];simp)];change (Prod.fst (match (do
   let a <- choose (.select R.length)
   let (k,c,ws):=R.getD a (0,default,[])
   let b <- choose (.extern "which waiting goroutine is the partner" ws.length)
   pure (k,c,ws.getD b .closed):Sem (Nat × CommCase × Way)).run P w₁ with | .halt _ w=>_ | .ok (k,c,way) w=>_),_ ++ Prod.snd (match (do
   let a <- choose (.select R.length)
   let (k,c,ws):=R.getD a (0,default,[])
   let b <- choose (.extern "which waiting goroutine is the partner" ws.length)
   pure (k,c,ws.getD b .closed):Sem (Nat × CommCase × Way)).run P w₁ with | .halt _ w=>_ | .ok (k,c,way) w=>_))=_
  rw [hpick];simp [rcase,hc',World.setChan,crowd,hfp,hgd,hov,set_stand2,scase,parked];rfl
 rcases ((hmem x).1 hx).1 with hx2 | hx2
 ·obtain ⟨j,gj,vj,zj,shj,h1,h2,h3⟩:=fin 0 c0 s0 r0 tm0 z0 hc0 (.inl rfl) hx2;exact ⟨0,c0,s0,r0,tm0,j,gj,vj,zj,shj,d,.inl ⟨rfl,rfl,rfl,rfl,rfl⟩,h1,h2,h3⟩
 ·obtain ⟨j,gj,vj,zj,shj,h1,h2,h3⟩:=fin 1 c1 s1 r1 tm1 z1 hc1 (.inr rfl) hx2;exact ⟨1,c1,s1,r1,tm1,j,gj,vj,zj,shj,d,.inr ⟨rfl,rfl,rfl,rfl,rfl⟩,h1,h2,h3⟩
end
end Mt
namespace Mt
open Go Go.Conc
open Go.ConcN (sumTo upd sumTo_upd upd_ne upd_same)
def blockOf:Loc->Option Nat
 | .cell a=>some a.block
 | .obj r=>some r
 | _=>none
theorem block_low {B:Nat} {l:Loc} {r:Nat} (h:l.low B) (hb:blockOf l=some r):r < B:=by
 cases l <;> first | (cases hb;exact h) | cases hb
theorem block_mem {l:Loc} {r:Nat} (h:blockOf l=some r):l.isMemory=true:=by
 cases l <;> first | rfl | cases h
structure FT (t:Trace) (B:Nat) (Act:Nat->Prop) (own:Nat->Hold) (ro:Hold):Prop where
 clean:∀ said,¬ Race said t
 mine:∀ i a r,touchAt t i=some a->blockOf a.loc=some r->∀ g,Act g->keyOf (own g) r->Knows t g i
 shared:∀ i a r,touchAt t i=some a->blockOf a.loc=some r->a.write=true->keyOf ro r->∀ g,Act g->Knows t g i
 known:∀ i a,touchAt t i=some a->a.loc.isMemory=true->Knows t 0 i\/∃ g,g≠0/\Act g/\t.g? i=some g
 hears:∀ g,Act g->Deaf t g=0
 seen:∀ op∈t,op.act.low B
theorem touch_low {t:Trace} {B i:Nat} {a:Touch} {r:Nat} (h:∀ op∈t,op.act.low B) (ha:touchAt t i=some a) (hb:blockOf a.loc=some r):r < B:=by
 obtain ⟨op,ho,hx⟩:=touch_of ha;have hl:=h op (mem_of_getElem? ho);generalize hact:op.act=act at hl hx
 cases act with
 | access e=>simp only [MemAct.touch?,Option.some.injEq] at hx;subst hx;exact block_low hl hb
 | mark m=>cases m <;> simp [MemAct.touch?] at hx <;> (subst hx;cases hb;exact hl)
 | _=>simp [MemAct.touch?] at hx
theorem EvOwn.touch {own ro:Hold} {e:Event} {b:Touch} (h:EvOwn own ro e) (hb:(MemAct.ofEvent e).touch? = some b):∃ r,blockOf b.loc=some r/\(keyOf own r\/(b.write=false/\keyOf ro r)):=by
 obtain ⟨loc,wr,sy⟩:=e
 cases loc with
 | cell a =>
  obtain ⟨_,h⟩:=h;have hb:some (⟨.cell a,wr,if sy then .atomic else .plain⟩:Touch)=some b:=hb;cases hb;exact ⟨a.block,rfl,h⟩
 | mark m =>
  rcases h with rfl | ⟨f,rfl⟩ <;> cases hb
 | _=>exact h.elim
theorem EvOwn.calm {own ro:Hold} {e:Event} (h:EvOwn own ro e):e.loc≠.mark .disable/\e.loc≠.mark .enable:=by
 obtain ⟨loc,wr,sy⟩:=e;constructor <;> (rintro rfl;rcases h with h | ⟨f,h⟩ <;> cases h)
theorem EvOwn.low {own ro:Hold} {e:Event} {B:Nat} (h:EvOwn own ro e) (ho:∀ r,keyOf own r->r < B) (hr:∀ r,keyOf ro r->r < B):(MemAct.ofEvent e).low B:=by
 obtain ⟨loc,wr,sy⟩:=e
 cases loc with
 | cell a =>
  obtain ⟨_,h⟩:=h;show a.block < B;rcases h with h | ⟨_,h⟩
  ·exact ho _ h
  ·exact hr _ h
 | mark m =>
  rcases h with rfl | ⟨f,rfl⟩ <;> trivial
 | _=>exact h.elim
section
variable {t:Trace} {B:Nat} {Act:Nat->Prop} {own:Nat->Hold} {ro:Hold}
def Sep (Act:Nat->Prop) (own:Nat->Hold):Prop:=∀ g h r,Act g->Act h->keyOf (own g) r->keyOf (own h) r->g=h
theorem FT.turn {g:Nat} {own':Hold} {w w':World} {es:Array Event} (h:FT t w.heap.size Act own ro) (hg:Act g) (hsep:Sep Act own) (hm:∀ x,Act x->Meets w (own x) ro) (ht:Turn ro (own g) own' w w' es) (fn:FuncId) (pos:String) :
 FT (t ++ MemOp.ofEvents g fn pos es) w'.heap.size Act (upd own g own') ro:=by
 have hu:∀ op∈MemOp.ofEvents g fn pos es,op.g=g:=fun op hop=>by obtain ⟨e,_,rfl⟩:=Go.Conc.mem_ofEvents hop;rfl
 have htouch:∀ op∈MemOp.ofEvents g fn pos es,∀ b,op.act.touch? = some b->∃ r,blockOf b.loc=some r/\(keyOf own' r\/(b.write=false/\keyOf ro r)):=fun op hop b hb=>by
  obtain ⟨e,he,rfl⟩:=Go.Conc.mem_ofEvents hop;exact (ht.evs e he).touch hb
 have hold:∀ i a r,touchAt t i=some a->blockOf a.loc=some r->keyOf own' r->Knows t g i:=fun i a r ha hr hk=>by
  rcases ht.keys r hk with hk | hk
  ·exact h.mine i a r ha hr g hg hk
  ·exact absurd (touch_low h.seen ha hr) (by omega)
 refine ⟨fun said=>noRace_append (h.clean said) hu fun i a ha op hop b hb hc=>?_,fun i a r ha hr x hx hk=>?_,fun i a r ha hr hw hk x hx=>?_,fun i a ha hmem=>?_,fun x hx=>?_,fun op hop=>?_⟩
 ·obtain ⟨r,hr,hk⟩:=htouch op hop b hb;obtain ⟨hl,_,hwr,_⟩:=hc;rcases hk with hk | ⟨hbw,hk⟩
  ·exact hold i a r ha (by rw [hl];exact hr) hk
  ·rcases hwr with hwr | hwr
   ·exact h.shared i a r ha (by rw [hl];exact hr) hwr hk g hg
   ·rw [hbw] at hwr;cases hwr
 ·obtain ⟨op,ho,hox⟩:=touch_of ha;rcases getElem?_append_cases ho with ⟨hi,ho'⟩ | ⟨hi,hou⟩
  ·have ha':touchAt t i=some a:=by rw [touchAt_of ho'];exact hox
   by_cases hxg:x=g
   ·subst hxg;rw [upd_same] at hk;exact (hold i a r ha' hr hk).app _
   ·rw [upd_ne _ _ hxg] at hk;exact (h.mine i a r ha' hr x hx hk).app _
  ·obtain ⟨r',hr',hkk⟩:=htouch op hou a hox;obtain rfl:r=r':=by rw [hr] at hr';exact Option.some.inj hr'
   by_cases hxg:x=g
   ·subst hxg;have:=knows_own ho;rw [hu op hou] at this;exact this
   ·rw [upd_ne _ _ hxg] at hk;rcases hkk with hkk | ⟨_,hkk⟩
    ·rcases ht.keys r hkk with hkk | hkk
     ·exact absurd (hsep x g r hx hg hk hkk) hxg
     ·exact absurd ((hm x hx).mine.lt hk) (by omega)
    ·obtain ⟨o1,h1⟩:=hk;obtain ⟨o2,h2⟩:=hkk;rw [(hm x hx).apart r o1 h1] at h2;cases h2
 ·obtain ⟨op,ho,hox⟩:=touch_of ha;rcases getElem?_append_cases ho with ⟨hi,ho'⟩ | ⟨hi,hou⟩
  ·exact (h.shared i a r (by rw [touchAt_of ho'];exact hox) hr hw hk x hx).app _
  ·obtain ⟨r',hr',hkk⟩:=htouch op hou a hox;obtain rfl:r=r':=by rw [hr] at hr';exact Option.some.inj hr'
   rcases hkk with ⟨o1,h1⟩ | ⟨hkw,_⟩
   ·obtain ⟨o2,h2⟩:=hk;rw [ht.holds.apart r o1 h1] at h2;cases h2
   ·rw [hkw] at hw;cases hw
 ·obtain ⟨op,ho,hox⟩:=touch_of ha;rcases getElem?_append_cases ho with ⟨hi,ho'⟩ | ⟨hi,hou⟩
  ·rcases h.known i a (by rw [touchAt_of ho'];exact hox) hmem with hk | ⟨x,hx0,hx,hxg⟩
   ·exact .inl (hk.app _)
   ·exact .inr ⟨x,hx0,hx,by rw [g?_old hi];exact hxg⟩
  ·by_cases hg0:g=0
   ·subst hg0;have:=knows_own ho;rw [hu op hou] at this;exact .inl this
   ·exact .inr ⟨g,hg0,hg,by simp [Trace.g?,ho,hu op hou]⟩
 ·by_cases hxg:x=g
  ·subst hxg;rw [Deaf_own,deafBehind_still fun e he=>(ht.evs e he).calm];exact h.hears x hx
  ·rw [Deaf_other t (g:=x) (g':=g) (Ne.symm hxg) _ hu];exact h.hears x hx
 ·rcases Array.mem_append.1 hop with hop | hop
  ·exact MemAct.low_mono ht.size (h.seen op hop)
  ·obtain ⟨e,he,rfl⟩:=Go.Conc.mem_ofEvents hop;exact (ht.evs e he).low (fun r hr=>ht.holds.mine.lt hr) fun r hr=>ht.holds.shared.lt hr
theorem FT.push {y:MemOp} (h:FT t B Act own ro) (hn:y.act.touch? = none) (hc:y.act≠.mark .disable/\y.act≠.mark .enable) (hl:y.act.low B):FT (t ++ #[y]) B Act own ro:=by
 have hold:∀ i a,touchAt (t ++ #[y]) i=some a->touchAt t i=some a/\i < t.size:=fun i a ha=>by
  obtain ⟨op,ho,hox⟩:=touch_of ha;rcases getElem?_append_cases ho with ⟨hi,ho'⟩ | ⟨hi,hou⟩
  ·exact ⟨by rw [touchAt_of ho'];exact hox,hi⟩
  ·simp only [List.mem_toArray,List.mem_singleton] at hou;subst hou;rw [hn] at hox;cases hox
 have h1:∀ op∈(#[y]:Array MemOp),op=y:=fun op hop=>by simpa using hop
 refine ⟨fun said=>noRace_append (g:=y.g) (h.clean said) (fun op hop=>by rw [h1 op hop]) (fun i a ha op hop b hb hc=>(by rw [h1 op hop,hn] at hb;cases hb)),
  fun i a r ha hr g hg hk=>(h.mine i a r (hold i a ha).1 hr g hg hk).app _,fun i a r ha hr hw hk g hg=>(h.shared i a r (hold i a ha).1 hr hw hk g hg).app _,fun i a ha hm=>?_,fun g hg=>?_,fun op hop=>?_⟩
 ·obtain ⟨ha',hi⟩:=hold i a ha;rcases h.known i a ha' hm with hk | ⟨g,h0,hg,hgi⟩
  ·exact .inl (hk.app _)
  ·exact .inr ⟨g,h0,hg,by rw [g?_old hi];exact hgi⟩
 ·rw [Deaf_push,h.hears g hg];unfold deafStep;split
  ·exact absurd (by assumption) hc.1
  ·exact absurd (by assumption) hc.2
  ·rfl
 ·rcases Array.mem_append.1 hop with hop | hop
  ·exact h.seen op hop
  ·simp at hop;subst hop;exact hl
def Calm (y:MemOp):Prop:=y.act.touch? = none/\y.act≠.mark .disable/\y.act≠.mark .enable
theorem FT.pushes (h:FT t B Act own ro):∀ (u:List MemOp),(∀ y∈u,Calm y/\y.act.low B)->FT (t ++ u.toArray) B Act own ro:=by
 intro u
 induction u generalizing t with
 | nil=>intro _;simpa using h
 | cons y u ih =>
  intro hu;have e:t ++ (y::u).toArray=(t ++ #[y]) ++ u.toArray:=by rw [List.toArray_cons,Array.append_assoc]
  rw [e];obtain ⟨⟨h1,h2,h3⟩,h4⟩:=hu y (List.mem_cons_self ..);exact ih (h.push h1 ⟨h2,h3⟩ h4) fun z hz=>hu z (List.mem_cons_of_mem _ hz)
theorem deaf_calm (g:Nat):∀ (u:List MemOp),(∀ y∈u,Calm y)->Deaf (t ++ u.toArray) g=Deaf t g:=by
 intro u hu;rw [Deaf_append]
 induction u generalizing t with
 | nil=>rfl
 | cons y u ih =>
  simp only [List.foldl_cons];have:deafStep g (Deaf t g) y=Deaf t g:=by
   obtain ⟨_,h2,h3⟩:=hu y (List.mem_cons_self ..);unfold deafStep;split
   ·exact absurd (by assumption) h2
   ·exact absurd (by assumption) h3
   ·rfl
  rw [this];exact ih fun z hz=>hu z (List.mem_cons_of_mem _ hz)
theorem heard_at {u:List MemOp} (hu:∀ y∈u,Calm y) {j:Nat} {y:MemOp} (hy:u[j]? = some y) (hd:Deaf t y.g=0):(t ++ u.toArray).heard (t.size+j):=by
 have hlt:j < u.length:=(List.getElem?_eq_some_iff.1 hy).1;refine ⟨y.g,?_,?_⟩
 ·simp [Trace.g?,Array.getElem?_append,hy]
 ·have e:t ++ u.toArray=(t ++ (u.take j).toArray) ++ (u.drop j).toArray:=by
   rw [Array.append_assoc];congr 1;simp
  have hs:(t ++ (u.take j).toArray).size=t.size+j:=by simp;omega
  rw [e,deaf_old (by omega),<- hs];exact (deaf_calm y.g (u.take j) fun z hz=>hu z (List.mem_of_mem_take hz)).trans hd
theorem knows_over {u:List MemOp} (hu:∀ y∈u,Calm y) {j k c s:Nat} {x y:MemOp} (hx:u[j]? = some x) (hy:u[k]? = some y) (hxa:x.act=.send c s) (hya:y.act=.recvDone c s) (hdx:Deaf t x.g=0) (hdy:Deaf t y.g=0) {i:Nat} (hk:Knows t x.g i) :
 Knows (t ++ u.toArray) y.g i:=by
 have gx:(t ++ u.toArray)[t.size+j]? = some x:=by simp [Array.getElem?_append,hx]
 have gy:(t ++ u.toArray)[t.size+k]? = some y:=by simp [Array.getElem?_append,hy]
 have h1:HappensBefore (t ++ u.toArray) i (t.size+j):=hk.hb_new (by omega) gx rfl;have h2:HappensBefore (t ++ u.toArray) (t.size+j) (t.size+k) :=
  .single (.inr ⟨.handOver (c:=c) (k:=s) (by simp [Trace.act?,gx,hxa]) (by simp [Trace.act?,gy,hya]),heard_at hu hx hdx,heard_at hu hy hdy⟩)
 exact ⟨t.size+k,y,gy,rfl,.inr (h1.trans h2)⟩
theorem knows_fork {u:List MemOp} (hu:∀ y∈u,Calm y) {j k:Nat} {x y:MemOp} (hx:u[j]? = some x) (hy:u[k]? = some y) (hxa:x.act=.go y.g) (hya:y.act=.start) (hdx:Deaf t x.g=0) (hdy:Deaf t y.g=0) {i:Nat} (hk:Knows t x.g i) :
 Knows (t ++ u.toArray) y.g i:=by
 have gx:(t ++ u.toArray)[t.size+j]? = some x:=by simp [Array.getElem?_append,hx]
 have gy:(t ++ u.toArray)[t.size+k]? = some y:=by simp [Array.getElem?_append,hy]
 have h1:HappensBefore (t ++ u.toArray) i (t.size+j):=hk.hb_new (by omega) gx rfl;have h2:HappensBefore (t ++ u.toArray) (t.size+j) (t.size+k) :=
  .single (.inr ⟨.spawn (child:=y.g) (by simp [Trace.act?,gx,hxa]) (by simp [Trace.act?,gy,hya]) (by simp [Trace.g?,gy]),heard_at hu hx hdx,heard_at hu hy hdy⟩)
 exact ⟨t.size+k,y,gy,rfl,.inr (h1.trans h2)⟩
theorem old_touch {u:List MemOp} (hu:∀ y∈u,Calm y) {i:Nat} {a:Touch} (h:touchAt (t ++ u.toArray) i=some a):touchAt t i=some a/\i < t.size:=by
 obtain ⟨op,ho,hox⟩:=touch_of h;rcases getElem?_append_cases ho with ⟨hi,ho'⟩ | ⟨hi,hou⟩
 ·exact ⟨by rw [touchAt_of ho'];exact hox,hi⟩
 ·rw [(hu op (by simpa using hou)).1] at hox;cases hox
theorem FT.fork (h:FT t B Act own ro) (h0:Act 0) {n:Nat} (hnA:¬ Act n) (hd:Deaf t n=0) {H K:Hold} (hH:∀ r,keyOf H r->keyOf (own 0) r) (hK:∀ r,keyOf K r->keyOf (own 0) r) (f1 f2:FuncId) (p1 p2:String) :
 FT (t ++ ([{ g:=0,fn:=f1,pos:=p1,act:=.go n },{ g:=n,fn:=f2,pos:=p2,act:=.start }]:List MemOp).toArray) B (fun x=>Act x\/x=n) (upd (upd own 0 K) n H) ro:=by
 have hu:∀ y∈([{ g:=0,fn:=f1,pos:=p1,act:=.go n },{ g:=n,fn:=f2,pos:=p2,act:=.start }]:List MemOp),Calm y/\y.act.low B:=fun y hy=>by
  simp only [List.mem_cons,List.not_mem_nil,or_false] at hy;rcases hy with rfl | rfl <;> exact ⟨⟨rfl,by simp,by simp⟩,trivial⟩
 have hc:∀ y∈([{ g:=0,fn:=f1,pos:=p1,act:=.go n },{ g:=n,fn:=f2,pos:=p2,act:=.start }]:List MemOp),Calm y:=fun y hy=>(hu y hy).1;have base:=h.pushes _ hu;have fork:∀ i,Knows t 0 i->Knows (t ++ ([{ g:=0,fn:=f1,pos:=p1,act:=.go n },{ g:=n,fn:=f2,pos:=p2,act:=.start }]:List MemOp).toArray) n i:=fun i hk =>
  knows_fork hc (j:=0) (k:=1) rfl rfl rfl rfl (h.hears 0 h0) hd hk
 have hn0:n≠0:=fun e=>hnA (e ▸ h0);refine ⟨base.clean,fun i a r ha hr g hg hk=>?_,fun i a r ha hr hw hk g hg=>?_,fun i a ha hm=>?_,fun g hg=>?_,base.seen⟩
 ·by_cases hgn:g=n
  ·subst hgn;rw [upd_same] at hk;exact fork i (h.mine i a r (old_touch hc ha).1 hr 0 h0 (hH r hk))
  ·rw [upd_ne _ _ hgn] at hk;have hg':Act g:=hg.resolve_right hgn;by_cases hg0:g=0
   ·subst hg0;rw [upd_same] at hk;exact base.mine i a r ha hr 0 h0 (hK r hk)
   ·rw [upd_ne _ _ hg0] at hk;exact base.mine i a r ha hr g hg' hk
 ·by_cases hgn:g=n
  ·subst hgn;exact fork i (h.shared i a r (old_touch hc ha).1 hr hw hk 0 h0)
  ·exact base.shared i a r ha hr hw hk g (hg.resolve_right hgn)
 ·rcases base.known i a ha hm with hk | ⟨g,h1,h2,h3⟩
  ·exact .inl hk
  ·exact .inr ⟨g,h1,.inl h2,h3⟩
 ·by_cases hgn:g=n
  ·subst hgn;rw [deaf_calm g _ hc];exact hd
  ·exact base.hears g (hg.resolve_right hgn)
theorem FT.retire (h:FT t B Act own ro) {j:Nat} (hk:∀ i a,touchAt t i=some a->t.g? i=some j->Knows t 0 i):FT t B (fun x=>Act x/\x≠j) own ro:=by
 refine ⟨h.clean,fun i a r ha hr g hg=>h.mine i a r ha hr g hg.1,fun i a r ha hr hw hr2 g hg=>h.shared i a r ha hr hw hr2 g hg.1,fun i a ha hm=>?_,fun g hg=>h.hears g hg.1,h.seen⟩;rcases h.known i a ha hm with hk' | ⟨g,h1,h2,h3⟩
 ·exact .inl hk'
 ·by_cases hgj:g=j
  ·subst hgj;exact .inl (hk i a ha h3)
  ·exact .inr ⟨g,h1,⟨h2,hgj⟩,h3⟩
theorem FT.past (h:FT t B Act own ro) (h0:Act 0) (hA:∀ g,Act g->g=0):Past NS B t:=by
 have hk:∀ i a,touchAt t i=some a->a.loc.isMemory=true->Knows t 0 i:=fun i a ha hm=>(h.known i a ha hm).elim id fun ⟨g,h1,h2,_⟩=>absurd (hA g h2) h1;refine ⟨h.clean,fun i a ha hm=>.inl (hk i a ha hm),fun i g hg hne hc=>?_,h.hears 0 h0,h.seen⟩;obtain ⟨x,hx,hm,_⟩:=hc;obtain ⟨q,z,hz,hzg,hb⟩:=hk i x hx hm;rcases hb with rfl | hb
 ·simp [Trace.g?,hz,hzg] at hg;exact absurd hg.symm hne
 ·exact ⟨q,by simp [Trace.g?,hz,hzg],hb⟩
theorem FT.of_past (h:Past NS B t) (own:Nat->Hold) (ro:Hold):FT t B (·=0) own ro:=by
 have hk:∀ i a,touchAt t i=some a->a.loc.isMemory=true->Knows t 0 i:=fun i a ha hm=>(h.known i a ha hm).elim id fun x=>x.1.elim;exact ⟨h.clean,fun i a r ha hr g hg _=>hg ▸ hk i a ha (block_mem hr),fun i a r ha hr _ _ g hg=>hg ▸ hk i a ha (block_mem hr),fun i a ha hm=>.inl (hk i a ha hm),fun g hg=>hg ▸ h.hears,h.seen⟩
theorem FT.mono {B':Nat} (h:FT t B Act own ro) (hB:B<=B'):FT t B' Act own ro:=⟨h.clean,h.mine,h.shared,h.known,h.hears,fun op hop=>MemAct.low_mono hB (h.seen op hop)⟩
theorem FT.less {g:Nat} {own':Hold} (h:FT t B Act own ro) (hk:∀ r,keyOf own' r->keyOf (own g) r):FT t B Act (upd own g own') ro :=
 ⟨h.clean,fun i a r ha hr x hx hkx=>by
   by_cases e:x=g
   ·subst e;rw [upd_same] at hkx;exact h.mine i a r ha hr x hx (hk r hkx)
   ·rw [upd_ne _ _ e] at hkx;exact h.mine i a r ha hr x hx hkx,h.shared,h.known,h.hears,h.seen⟩
end
def AtComm (P:Program) (main:Bool) (ro:Hold) (cases:Array CommCase) (shape:CommShape) (g:Goroutine) (own:Hold):Prop :=
 g.status=.running/\∀ w,Meets w own ro->∃ es,stepG P main g w=.comm g cases true shape w es/\∀ e∈es,EvOwn own ro e
structure Farm where
 P:Program
 ro:Hold
 cO:Nat
 cD:Nat
 zO:Value
 zD:Value
 zs:Value
 n:Nat
 v:Nat->Value
 os:Os
 tape:Tape
 out:Array (Nat × ByteArray)
 lo:Nat
 b:Nat
def Farm.cases (F:Farm):Array CommCase:=#[rcase F.cO F.zO,rcase F.cD F.zD]
def sgn:Value:=.bool true
def After1 (F:Farm) (g:Goroutine):Prop:=∃ k,QuitsIn F.P k (Go.Conc.served g undef)
def S1 (F:Farm) (g:Goroutine) (own:Hold):Prop:=AtComm F.P false F.ro #[scase F.cD sgn F.zs] .send g own/\After1 F g
def After0 (F:Farm) (g:Goroutine) (own:Hold):Prop:=∃ k,Walk F.P false F.ro (S1 F) k (Go.Conc.served g undef) own
def S0 (F:Farm) (j:Nat) (g:Goroutine) (own:Hold):Prop:=AtComm F.P false F.ro #[scase F.cO (F.v j) F.zs] .send g own/\After0 F g own
inductive Ph
 | calc0 (k:Nat) | off0 | calc1 (k:Nat) | off1 | quit (k:Nat)
def Ph.weight:Ph->Nat
 | .calc0 k | .calc1 k=>k+1
 | .off0 | .off1=>0
 | .quit k=>k
def Ph.meets:Ph->Nat
 | .calc0 _ | .off0=>2
 | .calc1 _ | .off1=>1
 | .quit _=>0
def Ph.done:Ph->Bool
 | .quit _=>true
 | _=>false
def Ph.sent:Ph->Bool
 | .calc0 _ | .off0=>false
 | _=>true
def WOk (F:Farm) (j:Nat):Ph->Goroutine->Hold->Prop
 | .calc0 k,g,own=>Walk F.P false F.ro (S0 F j) k g own
 | .off0,g,own=>∃ g0,g=parked g0 #[scase F.cO (F.v j) F.zs] .send/\After0 F g0 own
 | .calc1 k,g,own=>Walk F.P false F.ro (S1 F) k g own
 | .off1,g,own=>∃ g0,g=parked g0 #[scase F.cD sgn F.zs] .send/\After1 F g0
 | .quit k,g,own=>QuitsIn F.P k g
structure Master (F:Farm) where
 MS:Nat->Goroutine->Hold->Prop
 MR:(Nat->Bool)->Nat->Goroutine->Hold->Prop
 Fin:Goroutine->Hold->Prop
 onSpawn:∀ j g own,MS j g own->j < F.n->g.status=.running/\∀ w,Meets w own F.ro->∃ g' child es own' H,stepG F.P true g w=.spawn g' child w es/\(∀ e∈es,EvOwn own F.ro e) /\
  (∀ r o,own' r=some o->own r=some o)/\(∀ r o,H r=some o->own r=some o)/\(∀ r,keyOf own' r->¬ keyOf H r)/\(∃ k,Walk F.P false F.ro (S0 F j) k child H) /\
  (j+1 < F.n->∃ k,Walk F.P true F.ro (MS (j+1)) k g' own')/\(j+1=F.n->∃ k,Walk F.P true F.ro (MR (fun _=>false) 0) k g' own')
 atSel:∀ σ c g own,MR σ c g own->AtComm F.P true F.ro F.cases .select g own
 onOut:∀ σ c g own j,MR σ c g own->j < F.n->σ j=false->∃ k,Walk F.P true F.ro (MR (upd σ j true) c) k (g.finishComm F.P F.cases .select (0:Nat) (F.v j) true) own
 onSign:∀ σ c g own,MR σ c g own->c+1 < F.n->∃ k,Walk F.P true F.ro (MR σ (c+1)) k (g.finishComm F.P F.cases .select (1:Nat) sgn true) own
 onLast:∀ σ c g own,MR σ c g own->c+1=F.n->(∀ j,j < F.n->σ j=true)->∃ k,Walk F.P true F.ro Fin k (g.finishComm F.P F.cases .select (1:Nat) sgn true) own
inductive MPh
 | start (j k:Nat) | recv (k:Nat) | wait | last (k:Nat)
def MPh.weight:MPh->Nat
 | .start _ k | .recv k | .last k=>k+1
 | .wait=>0
variable {F:Farm}
def doneOf (ph:Nat->Ph) (m:Nat):Nat:=sumTo m fun j=>if (ph j).done then 1 else 0
def MOk (M:Master F) (ph:Nat->Ph):MPh->Nat->Goroutine->Hold->Prop
 | .start j k,m,g,own=>j=m/\m < F.n/\(∀ i,i < m->(ph i).sent=false)/\Walk F.P true F.ro (M.MS j) k g own
 | .recv k,m,g,own=>m=F.n/\doneOf ph m < F.n/\∃ σ,(∀ i,i < m->σ i=(ph i).sent)/\Walk F.P true F.ro (M.MR σ (doneOf ph m)) k g own
 | .wait,m,g,own=>m=F.n/\doneOf ph m < F.n/\∃ σ g0,(∀ i,i < m->σ i=(ph i).sent)/\g=parked g0 F.cases .select/\M.MR σ (doneOf ph m) g0 own/\(∀ i,i < m->ph i≠.off0/\ph i≠.off1)
 | .last k,m,g,own=>m=F.n/\(∀ i,i < m->(ph i).done=true)/\Walk F.P true F.ro M.Fin k g own
def ActW (F:Farm) (ph:Nat->Ph) (m:Nat) (g:Nat):Prop:=g=0\/∃ j,j < m/\g=F.b+j/\(ph j).done=false
def Open (F:Farm) (w:World):Prop:=(∃ s tm,w.heap[F.cO]? = some (.chan 0 #[] false s s tm))/\∃ s tm,w.heap[F.cD]? = some (.chan 0 #[] false s s tm)
structure Core (F:Farm) (Act:Nat->Prop) (w:World) (t:Trace) (own:Nat->Hold):Prop where
 trace:FT t w.heap.size Act own F.ro
 sep:Sep Act own
 meets:∀ g,Act g->Meets w (own g) F.ro
 chans:Open F w
 two:F.cO≠F.cD
 free:∀ g,Act g->own g F.cO=none/\own g F.cD=none
 roFree:F.ro F.cO=none/\F.ro F.cD=none
 rest:w.os=F.os/\w.tape=F.tape/\w.output=F.out/\F.lo<=w.heap.size
structure Inv0 (M:Master F) (gs:Array Goroutine) (w:World) (t:Trace) (q:Nat->Nat) (m:Nat) (ph:Nat->Ph) (mp:MPh) (own:Nat->Hold):Prop where
 size:gs.size=F.b+m
 base:0 < F.b
 old:∀ i g,0 < i->i < F.b->gs[i]? = some g->QuitsD F.P (q i) (Deaf t i) g
 work:∀ j,j < m->∃ g,gs[F.b+j]? = some g/\WOk F j (ph j) g (own (F.b+j))
 main:∃ g,gs[0]? = some g/\MOk M ph mp m g (own 0)
 core:Core F (ActW F ph m) w t own
 deaf:∀ j,F.b<=j->Deaf t j=0
end Mt
namespace Mt
open Go Go.Conc
open Go.ConcN (sumTo upd sumTo_upd upd_ne upd_same sumTo_congr)
variable {F:Farm} {M:Master F} {gs:Array Goroutine} {w:World} {t:Trace} {q:Nat->Nat} {m:Nat} {ph:Nat->Ph} {mp:MPh} {own:Nat->Hold}
theorem walk_running {P:Program} {main:Bool} {ro:Hold} {Stop:Goroutine->Hold->Prop} (hS:∀ g own,Stop g own->g.status=.running) {k:Nat} {g:Goroutine} {own:Hold} (h:Walk P main ro Stop k g own):g.status=.running:=by
 cases k with
 | zero=>exact hS _ _ h
 | succ k=>exact h.elim (hS _ _) fun x=>x.1
def Ph.off:Ph->Bool
 | .off0 | .off1=>true
 | _=>false
def Seen (F:Farm) (g:Goroutine):Prop:=g.status=.running\/g.status=.finished\/∃ g0 cs sh,g=parked g0 cs sh/\∀ cc∈cs,∃ c,(c=F.cO\/c=F.cD)/\cc.chan=.chan (some c)
theorem WOk.seen {j:Nat} {p:Ph} {g:Goroutine} {o:Hold} (h:WOk F j p g o):Seen F g:=by
 cases p with
 | calc0 k=>exact .inl (walk_running (fun g own x=>x.1.1) h)
 | calc1 k=>exact .inl (walk_running (fun g own x=>x.1.1) h)
 | off0=>obtain ⟨g0,rfl,_⟩:=h;exact .inr (.inr ⟨g0,_,_,rfl,fun cc hcc=>by simp at hcc;subst hcc;exact ⟨F.cO,.inl rfl,rfl⟩⟩)
 | off1=>obtain ⟨g0,rfl,_⟩:=h;exact .inr (.inr ⟨g0,_,_,rfl,fun cc hcc=>by simp at hcc;subst hcc;exact ⟨F.cD,.inr rfl,rfl⟩⟩)
 | quit k=>exact (QuitsD.status (QuitsD.of_quitsIn h)).elim .inl fun x=>.inr (.inl x)
theorem MOk.seen (hfin:∀ g own,M.Fin g own->g.status=.running) {g:Goroutine} {o:Hold} (h:MOk M ph mp m g o):Seen F g:=by
 cases mp with
 | start j k=>obtain ⟨rfl,h1,_,h2⟩:=h;exact .inl (walk_running (fun g own x=>(M.onSpawn _ g own x h1).1) h2)
 | recv k=>obtain ⟨_,_,σ,_,h2⟩:=h;exact .inl (walk_running (fun g own x=>(M.atSel _ _ g own x).1) h2)
 | last k=>obtain ⟨_,_,h2⟩:=h;exact .inl (walk_running hfin h2)
 | wait =>
  obtain ⟨_,_,σ,g0,_,rfl,_⟩:=h;refine .inr (.inr ⟨g0,_,_,rfl,fun cc hcc=>?_⟩);simp [Farm.cases] at hcc;rcases hcc with rfl | rfl
  ·exact ⟨F.cO,.inl rfl,rfl⟩
  ·exact ⟨F.cD,.inr rfl,rfl⟩
theorem Inv0.all (h:Inv0 M gs w t q m ph mp own) (hfin:∀ g own,M.Fin g own->g.status=.running):∀ (i:Nat) (x:Goroutine),gs[i]? = some x->Seen F x:=by
 intro i x hx;rcases Nat.eq_zero_or_pos i with rfl | hpos
 ·obtain ⟨g,hg,hm⟩:=h.main;rw [hg] at hx;cases hx;exact hm.seen hfin
 ·rcases Nat.lt_or_ge i F.b with hlt | hge
  ·exact (h.old i x hpos hlt hx).status.elim .inl fun y=>.inr (.inl y)
  ·have hlt:i < gs.size:=(Array.getElem?_eq_some_iff.1 hx).1;rw [h.size] at hlt;obtain ⟨g,hg,hw⟩:=h.work (i - F.b) (by omega);rw [show F.b+(i - F.b)=i by omega] at hg;rw [hg] at hx;cases hx;exact hw.seen
theorem seen_woken {a a':Goroutine} {w':World} (ho:Open F w') {x:Goroutine} (h:Seen F x):woken F.P a a' w' x=x:=by
 rcases h with h | h | ⟨g0,cs,sh,rfl,hcs⟩
 ·exact woken_run h
 ·unfold Go.Conc.woken;split
  ·simp [Goroutine.again,h]
  ·rfl
 ·unfold Go.Conc.woken;split
  ·obtain ⟨⟨s,tm,h1⟩,s',tm',h2⟩:=ho;simp only [Goroutine.again,parked];rw [if_neg];intro hx;rw [Array.any_eq_true] at hx;obtain ⟨i,hi,hx⟩:=hx;obtain ⟨c,hc,e⟩:=hcs cs[i] (Array.getElem_mem hi);simp only [e] at hx;rcases hc with rfl | rfl
   ·simp [h1] at hx
   ·simp [h2] at hx
  ·rfl
theorem seen_awake {x:Goroutine} (h:Seen F x):awake x:=by
 rcases h with h | h | ⟨g0,cs,sh,rfl,_⟩
 ·exact awake_of (.inl h)
 ·exact awake_of (.inr (.inr h))
 ·exact awake_of (.inr (.inl rfl))
theorem map_woken {a a':Goroutine} {w':World} (ho:Open F w') (h:∀ (i:Nat) (x:Goroutine),gs[i]? = some x->Seen F x):gs.map (woken F.P a a' w')=gs:=by
 apply Array.ext_getElem?;intro i;rw [Array.getElem?_map]
 cases hx:gs[i]? with
 | none=>rfl
 | some x=>simp [seen_woken ho (h i x hx)]
theorem doneOf_congr {ph':Nat->Ph} (h:∀ i,i < m->(ph' i).done=(ph i).done):doneOf ph' m=doneOf ph m:=sumTo_congr fun i hi=>by rw [h i hi]
theorem mok_congr {ph':Nat->Ph} (h:∀ i,i < m->(ph' i).sent=(ph i).sent/\(ph' i).done=(ph i).done/\(mp=.wait->(ph' i).off=true->(ph i).off=true)) {g:Goroutine} {o:Hold} (hm:MOk M ph mp m g o):MOk M ph' mp m g o:=by
 have hd:doneOf ph' m=doneOf ph m:=doneOf_congr fun i hi=>(h i hi).2.1
 cases mp with
 | start j k=>obtain ⟨h1,h2,h3,h4⟩:=hm;exact ⟨h1,h2,fun i hi=>by rw [(h i hi).1];exact h3 i hi,h4⟩
 | recv k =>
  obtain ⟨h1,h2,σ,h3,h4⟩:=hm;exact ⟨h1,by rw [hd];exact h2,σ,fun i hi=>by rw [(h i hi).1];exact h3 i hi,by rw [hd];exact h4⟩
 | wait =>
  obtain ⟨h1,h2,σ,g0,h3,h4,h5,h6⟩:=hm;refine ⟨h1,by rw [hd];exact h2,σ,g0,fun i hi=>by rw [(h i hi).1];exact h3 i hi,h4,by rw [hd];exact h5,fun i hi=>?_⟩;have:=(h i hi).2.2 rfl;obtain ⟨a,b⟩:=h6 i hi;constructor
  ·intro e;rw [e] at this;have:=this rfl;cases hp:ph i <;> simp_all [Ph.off]
  ·intro e;rw [e] at this;have:=this rfl;cases hp:ph i <;> simp_all [Ph.off]
 | last k=>obtain ⟨h1,h2,h3⟩:=hm;exact ⟨h1,fun i hi=>by rw [(h i hi).2.1];exact h2 i hi,h3⟩
theorem not_key {H:Hold} {r:Nat} (h:H r=none):¬ keyOf H r:=fun ⟨o,e⟩=>by rw [h] at e;cases e
theorem key_none {H:Hold} {r:Nat} (h:¬ keyOf H r):H r=none:=by
 cases e:H r with
 | none=>rfl
 | some o=>exact absurd ⟨o,e⟩ h
section
variable {F:Farm} {Act:Nat->Prop} {w w':World} {t:Trace} {own:Nat->Hold}
theorem Core.at (h:Core F Act w t own) (d:Nat):Core F Act (w.at d) t own :=
 ⟨h.trace,h.sep,fun g hg=>⟨(h.meets g hg).mine,(h.meets g hg).shared,(h.meets g hg).apart⟩,h.chans,h.two,h.free,h.roFree,h.rest⟩
theorem Core.turn (h:Core F Act w t own) {x:Nat} (hx:Act x) {own':Hold} {es:Array Event} (ht:Turn F.ro (own x) own' w w' es) (fn:FuncId) (pos:String) :
 Core F Act w' (t ++ MemOp.ofEvents x fn pos es) (upd own x own'):=by
 have old:∀ c,own x c=none->(∃ o,w.heap[c]? = some o)->w'.heap[c]? = w.heap[c]? := fun c hc ⟨o,ho⟩=>ht.kept c (Array.getElem?_eq_some_iff.1 ho).1 (not_key hc);have fresh:∀ c,own x c=none->(∃ o,w.heap[c]? = some o)->own' c=none:=fun c hc ⟨o,ho⟩=>key_none fun hk=>by
  rcases ht.keys c hk with hk | hk
  ·exact not_key hc hk
  ·exact absurd (Array.getElem?_eq_some_iff.1 ho).1 (by omega)
 refine ⟨h.trace.turn hx h.sep h.meets ht fn pos,fun a b r ha hb hka hkb=>?_,fun a ha=>?_,?_,h.two,fun a ha=>?_,h.roFree,⟨ht.rest.1.trans h.rest.1,ht.rest.2.1.trans h.rest.2.1,ht.rest.2.2.trans h.rest.2.2.1,Nat.le_trans h.rest.2.2.2 ht.size⟩⟩
 ·by_cases e1:a=x
  ·by_cases e2:b=x
   ·rw [e1,e2]
   ·subst e1;rw [upd_same] at hka;rw [upd_ne _ _ e2] at hkb;rcases ht.keys r hka with hk | hk
    ·exact h.sep _ _ r hx hb hk hkb
    ·exact absurd ((h.meets b hb).mine.lt hkb) (by omega)
  ·rw [upd_ne _ _ e1] at hka;by_cases e2:b=x
   ·subst e2;rw [upd_same] at hkb;rcases ht.keys r hkb with hk | hk
    ·exact h.sep _ _ r ha hx hka hk
    ·exact absurd ((h.meets a ha).mine.lt hka) (by omega)
   ·rw [upd_ne _ _ e2] at hkb;exact h.sep _ _ r ha hb hka hkb
 ·by_cases e:a=x
  ·subst e;rw [upd_same];exact ht.holds
  ·rw [upd_ne _ _ e];refine ⟨fun r o hr=>?_,ht.holds.shared,(h.meets a ha).apart⟩;have hlt:=(h.meets a ha).mine.lt ⟨o,hr⟩;rw [ht.kept r hlt fun hk=>e (h.sep a x r ha hx ⟨o,hr⟩ hk)];exact (h.meets a ha).mine r o hr
 ·obtain ⟨⟨s,tm,h1⟩,s',tm',h2⟩:=h.chans;exact ⟨⟨s,tm,by rw [old _ (h.free x hx).1 ⟨_,h1⟩];exact h1⟩,s',tm',by rw [old _ (h.free x hx).2 ⟨_,h2⟩];exact h2⟩
 ·by_cases e:a=x
  ·subst e;rw [upd_same];obtain ⟨⟨s,tm,h1⟩,s',tm',h2⟩:=h.chans;exact ⟨fresh _ (h.free a ha).1 ⟨_,h1⟩,fresh _ (h.free a ha).2 ⟨_,h2⟩⟩
  ·rw [upd_ne _ _ e];exact h.free a ha
theorem Core.calm (h:Core F Act w t own) (u:List MemOp) (hu:∀ y∈u,Calm y/\y.act.low w.heap.size):Core F Act w (t ++ u.toArray) own :=
 ⟨h.trace.pushes u hu,h.sep,h.meets,h.chans,h.two,h.free,h.roFree,h.rest⟩
theorem Core.less (h:Core F Act w t own) {Act':Nat->Prop} (hA:∀ g,Act' g->Act g) (ht:FT t w.heap.size Act' own F.ro):Core F Act' w t own :=
 ⟨ht,fun a b r ha hb=>h.sep a b r (hA a ha) (hA b hb),fun g hg=>h.meets g (hA g hg),h.chans,h.two,fun g hg=>h.free g (hA g hg),h.roFree,h.rest⟩
theorem Core.passed (h:Core F Act w t own) {c s:Nat} {tm:Bool} (hc:c=F.cO\/c=F.cD) (d:Nat):Core F Act ((w.at d).setChan c 0 #[] false (s+1) (s+1) tm) t own:=by
 have hother:∀ r,r≠c->((w.at d).setChan c 0 #[] false (s+1) (s+1) tm).heap[r]? = w.heap[r]? := fun r hr=>by
  show (w.heap.setIfInBounds c _)[r]? = _;rw [Array.getElem?_setIfInBounds_ne (Ne.symm hr)]
 have hsz:((w.at d).setChan c 0 #[] false (s+1) (s+1) tm).heap.size=w.heap.size:=by simp [World.setChan,World.at]
 have hin:∀ o,w.heap[c]? = some o->((w.at d).setChan c 0 #[] false (s+1) (s+1) tm).heap[c]? = some (.chan 0 #[] false (s+1) (s+1) tm):=fun o ho=>by
  show (w.heap.setIfInBounds c _)[c]? = _;rw [Array.getElem?_setIfInBounds_self_of_lt (Array.getElem?_eq_some_iff.1 ho).1]
 have hne:∀ H:Hold,H F.cO=none/\H F.cD=none->∀ r o,H r=some o->r≠c:=fun H hH r o hr e=>by
  subst e;rcases hc with rfl | rfl
  ·rw [hH.1] at hr;cases hr
  ·rw [hH.2] at hr;cases hr
 refine ⟨by rw [hsz];exact h.trace,h.sep,fun g hg=>⟨fun r o hr=>?_,fun r o hr=>?_,(h.meets g hg).apart⟩,?_,h.two,h.free,h.roFree,⟨h.rest.1,h.rest.2.1,h.rest.2.2.1,by rw [hsz];exact h.rest.2.2.2⟩⟩
 ·rw [hother r (hne _ (h.free g hg) r o hr)];exact (h.meets g hg).mine r o hr
 ·rw [hother r (hne _ h.roFree r o hr)];exact (h.meets g hg).shared r o hr
 ·obtain ⟨⟨s1,tm1,h1⟩,s2,tm2,h2⟩:=h.chans;rcases hc with rfl | rfl
  ·exact ⟨⟨_,_,hin _ h1⟩,s2,tm2,by rw [hother _ (Ne.symm h.two)];exact h2⟩
  ·exact ⟨⟨s1,tm1,by rw [hother _ h.two];exact h1⟩,_,_,hin _ h2⟩
end
variable {F:Farm} {M:Master F} {gs:Array Goroutine} {w w':World} {t:Trace} {q:Nat->Nat} {m:Nat} {ph:Nat->Ph} {mp:MPh} {own:Nat->Hold}
theorem act_congr {ph':Nat->Ph} (h:∀ i,i < m->(ph' i).done=(ph i).done):∀ g,ActW F ph' m g↔ActW F ph m g:=fun g=>by
 unfold ActW;constructor
 ·rintro (h0 | ⟨j,a,b,c⟩)
  ·exact .inl h0
  ·exact .inr ⟨j,a,b,by rw [<- h j a];exact c⟩
 ·rintro (h0 | ⟨j,a,b,c⟩)
  ·exact .inl h0
  ·exact .inr ⟨j,a,b,by rw [h j a];exact c⟩
theorem Core.congr {Act Act':Nat->Prop} (h:Core F Act w t own) (e:∀ g,Act' g↔Act g):Core F Act' w t own:=by
 have:Act'=Act:=funext fun g=>propext (e g);rw [this];exact h
theorem Inv0.setMain (h:Inv0 M gs w t q m ph mp own) {g g':Goroutine} {own':Hold} {es:Array Event} {mp':MPh} (hg:gs[0]? = some g)
 (ht:Turn F.ro (own 0) own' w w' es) (hm:MOk M ph mp' m g' own') (fn:FuncId) (pos:String) :
 Inv0 M (gs.setIfInBounds 0 g') w' (t ++ MemOp.ofEvents 0 fn pos es) q m ph mp' (upd own 0 own'):=by
 have hc:=h.core.turn (.inl rfl) ht fn pos;have hlt:0 < gs.size:=(Array.getElem?_eq_some_iff.1 hg).1;have hb:=h.base;have hdo:∀ x,x≠0->Deaf (t ++ MemOp.ofEvents 0 fn pos es) x=Deaf t x:=fun x hx=>Deaf_other t (g:=x) (g':=0) (by omega) _ fun op hop=>by obtain ⟨e,_,rfl⟩:=Go.Conc.mem_ofEvents hop;rfl
 refine ⟨by simp [h.size],hb,fun i x hi hib hx=>?_,fun j hj=>?_,⟨g',by simp [hlt],by rw [upd_same];exact hm⟩,hc,fun j hj=>by rw [hdo j (by omega)];exact h.deaf j hj⟩
 ·rw [Array.getElem?_setIfInBounds_ne (by omega)] at hx;rw [hdo i (by omega)];exact h.old i x hi hib hx
 ·obtain ⟨x,hx,hw⟩:=h.work j hj;exact ⟨x,by rw [Array.getElem?_setIfInBounds_ne (by omega)];exact hx,by rw [upd_ne _ _ (by omega)];exact hw⟩
theorem Inv0.setWork (h:Inv0 M gs w t q m ph mp own) {j:Nat} (hj:j < m) {g g':Goroutine} {own':Hold} {es:Array Event} {p':Ph} (hg:gs[F.b+j]? = some g)
 (hact:(ph j).done=false) (hp1:p'.sent=(ph j).sent) (hp2:p'.done=(ph j).done) (hp3:mp=.wait->p'.off=true->(ph j).off=true)
 (ht:Turn F.ro (own (F.b+j)) own' w w' es) (hw:WOk F j p' g' own') (fn:FuncId) (pos:String) :
 Inv0 M (gs.setIfInBounds (F.b+j) g') w' (t ++ MemOp.ofEvents (F.b+j) fn pos es) q m (upd ph j p') mp (upd own (F.b+j) own'):=by
 have hx:ActW F ph m (F.b+j):=.inr ⟨j,hj,rfl,hact⟩;have hc:=h.core.turn hx ht fn pos;have hlt:F.b+j < gs.size:=(Array.getElem?_eq_some_iff.1 hg).1;have hb:=h.base;have hall:∀ i,i < m->(upd ph j p' i).sent=(ph i).sent/\(upd ph j p' i).done=(ph i).done/\(mp=.wait->(upd ph j p' i).off=true->(ph i).off=true):=fun i _=>by
  by_cases e:i=j
  ·subst e;rw [upd_same];exact ⟨hp1,hp2,hp3⟩
  ·rw [upd_ne _ _ e];exact ⟨rfl,rfl,fun _=>id⟩
 have hdo:∀ x,x≠F.b+j->Deaf (t ++ MemOp.ofEvents (F.b+j) fn pos es) x=Deaf t x:=fun x hx=>Deaf_other t (g:=x) (g':=F.b+j) (Ne.symm hx) _ fun op hop=>by obtain ⟨e,_,rfl⟩:=Go.Conc.mem_ofEvents hop;rfl
 refine ⟨by simp [h.size],hb,fun i x hi hib hx=>?_,fun i hi=>?_,?_,hc.congr (act_congr fun i hi=>(hall i hi).2.1),fun i hi=>?_⟩
 ·rw [Array.getElem?_setIfInBounds_ne (by omega)] at hx;rw [hdo i (by omega)];exact h.old i x hi hib hx
 ·by_cases e:i=j
  ·subst e;exact ⟨g',by simp [hlt],by rw [upd_same,upd_same];exact hw⟩
  ·obtain ⟨x,hx,hwx⟩:=h.work i hi;exact ⟨x,by rw [Array.getElem?_setIfInBounds_ne (by omega)];exact hx,by rw [upd_ne _ _ e,upd_ne _ _ (by omega)];exact hwx⟩
 ·obtain ⟨x,hx,hm⟩:=h.main;exact ⟨x,by rw [Array.getElem?_setIfInBounds_ne (by omega)];exact hx,by rw [upd_ne _ _ (by omega)];exact mok_congr hall hm⟩
 ·by_cases e:i=F.b+j
  ·subst e;rw [Deaf_own,deafBehind_still fun e he=>(ht.evs e he).calm];exact h.deaf _ hi
  ·rw [hdo i e];exact h.deaf i hi
variable {F:Farm} {M:Master F} {gs:Array Goroutine} {w w':World} {t:Trace} {q:Nat->Nat} {m:Nat} {ph:Nat->Ph} {mp:MPh} {own:Nat->Hold}
def meeting (x c s:Nat) (f1 f2:FuncId) (p1 p2:String):List MemOp :=
 [{ g:=x,fn:=f1,pos:=p1,act:=.send c s },{ g:=0,fn:=f2,pos:=p2,act:=.recv c s 0 },{ g:=x,fn:=f1,pos:=p1,act:=.sendDone c s },{ g:=0,fn:=f2,pos:=p2,act:=.recvDone c s }]
theorem meeting_calm {x c s:Nat} {f1 f2:FuncId} {p1 p2:String} {B:Nat} (h:c < B):∀ y∈meeting x c s f1 f2 p1 p2,Calm y/\y.act.low B:=fun y hy=>by
 simp only [meeting,List.mem_cons,List.not_mem_nil,or_false] at hy;rcases hy with rfl | rfl | rfl | rfl <;> exact ⟨⟨rfl,by simp,by simp⟩,h⟩
theorem upd_self {α:Type} (f:Nat->α) (x:Nat):upd f x (f x)=f:=funext fun y=>by
 by_cases e:y=x
 ·subst e;rw [upd_same]
 ·rw [upd_ne _ _ e]
theorem Core.meet {Act:Nat->Prop} (h:Core F Act w t own) {x y c s:Nat} {tm:Bool} {es:Array Event} (hx:Act x) (hc:c=F.cO\/c=F.cD) (hes:∀ e∈es,EvOwn (own x) F.ro e) (hch:w.heap[c]? = some (.chan 0 #[] false s s tm)) (d:Nat) (fn f1 f2:FuncId) (pos p1 p2:String) :
 Core F Act ((w.at d).setChan c 0 #[] false (s+1) (s+1) tm) (t ++ (MemOp.ofEvents x fn pos es ++ (meeting y c s f1 f2 p1 p2).toArray)) own:=by
 have h1:=h.turn hx (own':=own x) (w':=w) (es:=es) ⟨h.meets x hx,Nat.le_refl _,fun _ _ _=>rfl,⟨rfl,rfl,rfl⟩,fun _ h=>.inl h,hes⟩ fn pos;rw [upd_self] at h1;rw [<- Array.append_assoc];exact (h1.calm _ (meeting_calm (Array.getElem?_eq_some_iff.1 hch).1)).passed hc d
theorem deaf_meet {x y c s i:Nat} {es:Array Event} (hes:∀ e∈es,e.loc≠.mark .disable/\e.loc≠.mark .enable) (fn f1 f2:FuncId) (pos p1 p2:String):Deaf (t ++ (MemOp.ofEvents x fn pos es ++ (meeting y c s f1 f2 p1 p2).toArray)) i=Deaf t i:=by
 rw [<- Array.append_assoc,deaf_calm i _ fun z hz=>(meeting_calm (B:=c+1) (Nat.lt_succ_self c) z hz).1];by_cases e:i=x
 ·subst e;rw [Deaf_own,deafBehind_still hes]
 ·exact Deaf_other t (g:=i) (g':=x) (Ne.symm e) _ fun op hop=>by obtain ⟨e,_,rfl⟩:=Go.Conc.mem_ofEvents hop;rfl
theorem Inv0.arrays (h:Inv0 M gs w t q m ph mp own) {j:Nat} (hj:j < m) (gw gm:Goroutine) :
 ((gs.setIfInBounds (F.b+j) gw).setIfInBounds 0 gm)[0]? = some gm/\((gs.setIfInBounds (F.b+j) gw).setIfInBounds 0 gm)[F.b+j]? = some gw/\∀ i,i≠0->i≠F.b+j->((gs.setIfInBounds (F.b+j) gw).setIfInBounds 0 gm)[i]? = gs[i]? := by
 have hb:=h.base;have hs:=h.size;refine ⟨by rw [Array.getElem?_setIfInBounds_self_of_lt (by simp;omega)],by rw [Array.getElem?_setIfInBounds_ne (by omega),Array.getElem?_setIfInBounds_self_of_lt (by omega)],fun i h0 h1=>by rw [Array.getElem?_setIfInBounds_ne (Ne.symm h0),Array.getElem?_setIfInBounds_ne (Ne.symm h1)]⟩
theorem Inv0.meetOut (h:Inv0 M gs w t q m ph mp own) {j x s k d:Nat} {tm:Bool} {mp':MPh} {gw gm:Goroutine} {es:Array Event} (hj:j < m) (hd:(ph j).done=false) (hx:x=0\/x=F.b+j) (hes:∀ e∈es,EvOwn (own x) F.ro e)
 (hch:w.heap[F.cO]? = some (.chan 0 #[] false s s tm)) (hw:WOk F j (.calc1 k) gw (own (F.b+j))) (hm:MOk M (upd ph j (.calc1 k)) mp' m gm (own 0)) (fn f1 f2:FuncId) (pos p1 p2:String) :
 Inv0 M ((gs.setIfInBounds (F.b+j) gw).setIfInBounds 0 gm) ((w.at d).setChan F.cO 0 #[] false (s+1) (s+1) tm) (t ++ (MemOp.ofEvents x fn pos es ++ (meeting (F.b+j) F.cO s f1 f2 p1 p2).toArray)) q m (upd ph j (.calc1 k)) mp' own:=by
 obtain ⟨a0,aj,ao⟩:=h.arrays hj gw gm;have hb:=h.base;have hax:ActW F ph m x:=hx.elim .inl fun e=>.inr ⟨j,hj,e,hd⟩;have hcore:=h.core.meet (y:=F.b+j) hax (.inl rfl) hes hch d fn f1 f2 pos p1 p2;have hdeaf:=fun i=>deaf_meet (t:=t) (x:=x) (y:=F.b+j) (c:=F.cO) (s:=s) (i:=i) (fun e he=>(hes e he).calm) fn f1 f2 pos p1 p2;refine ⟨by simp [h.size],hb,fun i y hi hib hy=>?_,fun i hi=>?_,⟨gm,a0,hm⟩,hcore.congr (act_congr fun i hi=>?_),fun i hi=>by rw [hdeaf];exact h.deaf i hi⟩
 ·rw [ao i (by omega) (by omega)] at hy;rw [hdeaf];exact h.old i y hi hib hy
 ·by_cases e:i=j
  ·subst e;exact ⟨gw,aj,by rw [upd_same];exact hw⟩
  ·obtain ⟨y,hy,hwy⟩:=h.work i hi;exact ⟨y,by rw [ao _ (by omega) (by omega)];exact hy,by rw [upd_ne _ _ e];exact hwy⟩
 ·by_cases e:i=j
  ·subst e;rw [upd_same,hd];rfl
  ·rw [upd_ne _ _ e]
theorem Inv0.meetSign (h:Inv0 M gs w t q m ph mp own) {j x s k d:Nat} {tm:Bool} {mp':MPh} {gw gm:Goroutine} {es:Array Event} (hj:j < m) (hd:(ph j).done=false) (hx:x=0\/x=F.b+j) (hes:∀ e∈es,EvOwn (own x) F.ro e)
 (hch:w.heap[F.cD]? = some (.chan 0 #[] false s s tm)) (hw:WOk F j (.quit k) gw (own (F.b+j))) (hm:MOk M (upd ph j (.quit k)) mp' m gm (own 0)) (fn f1 f2:FuncId) (pos p1 p2:String) :
 Inv0 M ((gs.setIfInBounds (F.b+j) gw).setIfInBounds 0 gm) ((w.at d).setChan F.cD 0 #[] false (s+1) (s+1) tm) (t ++ (MemOp.ofEvents x fn pos es ++ (meeting (F.b+j) F.cD s f1 f2 p1 p2).toArray)) q m (upd ph j (.quit k)) mp' own:=by
 obtain ⟨a0,aj,ao⟩:=h.arrays hj gw gm;have hb:=h.base;have haj:ActW F ph m (F.b+j):=.inr ⟨j,hj,rfl,hd⟩;have hax:ActW F ph m x:=hx.elim .inl fun e=>e ▸ haj;have hcore:=h.core.meet (y:=F.b+j) hax (.inr rfl) hes hch d fn f1 f2 pos p1 p2;have hdeaf:=fun i=>deaf_meet (t:=t) (x:=x) (y:=F.b+j) (c:=F.cD) (s:=s) (i:=i) (fun e he=>(hes e he).calm) fn f1 f2 pos p1 p2;have hret:=hcore.trace.retire (j:=F.b+j) fun i a ha hgi=>by
  rw [<- Array.append_assoc] at ha hgi ⊢;have hcalm:∀ z∈meeting (F.b+j) F.cD s f1 f2 p1 p2,Calm z:=fun z hz=>(meeting_calm (B:=F.cD+1) (Nat.lt_succ_self _) z hz).1;obtain ⟨ha',hlt⟩:=old_touch hcalm ha;obtain ⟨op,ho,_⟩:=touch_of ha';have hog:op.g=F.b+j:=by
   rw [g?_old hlt] at hgi;simpa [Trace.g?,ho] using hgi
  have hk:Knows (t ++ MemOp.ofEvents x fn pos es) (F.b+j) i:=by have:=knows_own ho;rw [hog] at this;exact this
  have hdd:∀ z,ActW F ph m z->Deaf (t ++ MemOp.ofEvents x fn pos es) z=0:=fun z hz=>by
   by_cases e:z=x
   ·subst e;rw [Deaf_own,deafBehind_still fun e he=>(hes e he).calm];exact h.core.trace.hears z hz
   ·rw [Deaf_other t (g:=z) (g':=x) (Ne.symm e) _ fun op hop=>by obtain ⟨e,_,rfl⟩:=Go.Conc.mem_ofEvents hop;rfl];exact h.core.trace.hears z hz
  exact knows_over hcalm (j:=0) (k:=3) (x:={ g:=F.b+j,fn:=f1,pos:=p1,act:=.send F.cD s }) (y:={ g:=0,fn:=f2,pos:=p2,act:=.recvDone F.cD s }) rfl rfl rfl rfl (hdd _ haj) (hdd 0 (.inl rfl)) hk
 have hact:∀ g,ActW F (upd ph j (.quit k)) m g↔(ActW F ph m g/\g≠F.b+j):=fun g=>by
  constructor
  ·rintro (h0 | ⟨i,hi,rfl,hdi⟩)
   ·exact ⟨.inl h0,by omega⟩
   ·by_cases e:i=j
    ·subst e;rw [upd_same] at hdi;cases hdi
    ·rw [upd_ne _ _ e] at hdi;exact ⟨.inr ⟨i,hi,rfl,hdi⟩,by omega⟩
  ·rintro ⟨h0 | ⟨i,hi,rfl,hdi⟩,hne⟩
   ·exact .inl h0
   ·exact .inr ⟨i,hi,rfl,by rw [upd_ne _ _ (by omega)];exact hdi⟩
 refine ⟨by simp [h.size],hb,fun i y hi hib hy=>?_,fun i hi=>?_,⟨gm,a0,hm⟩,(hcore.less (fun g hg=>hg.1) hret).congr hact,fun i hi=>by rw [hdeaf];exact h.deaf i hi⟩
 ·rw [ao i (by omega) (by omega)] at hy;rw [hdeaf];exact h.old i y hi hib hy
 ·by_cases e:i=j
  ·subst e;exact ⟨gw,aj,by rw [upd_same];exact hw⟩
  ·obtain ⟨y,hy,hwy⟩:=h.work i hi;exact ⟨y,by rw [ao _ (by omega) (by omega)];exact hy,by rw [upd_ne _ _ e];exact hwy⟩
variable {F:Farm} {M:Master F} {gs:Array Goroutine} {w w':World} {t:Trace} {q:Nat->Nat} {m:Nat} {ph:Nat->Ph} {mp:MPh} {own:Nat->Hold}
theorem Inv0.spawn (h:Inv0 M gs w t q m ph mp own) {gm child:Goroutine} {es:Array Event} {own' H:Hold} {k:Nat} {mp':MPh} (hes:∀ e∈es,EvOwn (own 0) F.ro e)
 (h1:∀ r o,own' r=some o->own 0 r=some o) (h2:∀ r o,H r=some o->own 0 r=some o) (h3:∀ r,keyOf own' r->¬ keyOf H r) (hw:WOk F m (.calc0 k) child H) (hm:MOk M (upd ph m (.calc0 k)) mp' (m+1) gm own') (fn f1 f2:FuncId) (pos p1 p2:String) :
 Inv0 M ((gs.setIfInBounds 0 gm).push child) w (t ++ (MemOp.ofEvents 0 fn pos es ++ ([{ g:=0,fn:=f1,pos:=p1,act:=.go (F.b+m) },{ g:=F.b+m,fn:=f2,pos:=p2,act:=.start }]:List MemOp).toArray)) q (m+1) (upd ph m (.calc0 k)) mp' (upd (upd own 0 own') (F.b+m) H):=by
 have hb:=h.base;have hs:=h.size;have hnew:¬ ActW F ph m (F.b+m):=by
  rintro (h0 | ⟨i,hi,e,_⟩) <;> omega
 have hact:∀ g,ActW F (upd ph m (.calc0 k)) (m+1) g↔(ActW F ph m g\/g=F.b+m):=fun g=>by
  constructor
  ·rintro (h0 | ⟨i,hi,rfl,hdi⟩)
   ·exact .inl (.inl h0)
   ·by_cases e:i=m
    ·exact .inr (by omega)
    ·rw [upd_ne _ _ e] at hdi;exact .inl (.inr ⟨i,by omega,rfl,hdi⟩)
  ·rintro ((h0 | ⟨i,hi,rfl,hdi⟩) | rfl)
   ·exact .inl h0
   ·exact .inr ⟨i,by omega,rfl,by rw [upd_ne _ _ (by omega)];exact hdi⟩
   ·exact .inr ⟨m,by omega,rfl,by rw [upd_same];rfl⟩
 have c1:=h.core.turn (.inl rfl) (own':=own 0) (w':=w) (es:=es) ⟨h.core.meets 0 (.inl rfl),Nat.le_refl _,fun _ _ _=>rfl,⟨rfl,rfl,rfl⟩,fun _ h=>.inl h,hes⟩ fn pos;rw [upd_self] at c1;have hdE:∀ x,x≠0->Deaf (t ++ MemOp.ofEvents 0 fn pos es) x=Deaf t x:=fun x hx=>Deaf_other t (g:=x) (g':=0) (Ne.symm hx) _ fun op hop=>by obtain ⟨e,_,rfl⟩:=Go.Conc.mem_ofEvents hop;rfl
 have hf:=c1.trace.fork (.inl rfl) hnew (by rw [hdE _ (by omega)];exact h.deaf _ (by omega)) (H:=H) (K:=own') (fun r ⟨o,ho⟩=>⟨o,h2 r o ho⟩) (fun r ⟨o,ho⟩=>⟨o,h1 r o ho⟩) f1 f2 p1 p2;rw [<- Array.append_assoc];have hcalm:∀ y∈([{ g:=0,fn:=f1,pos:=p1,act:=.go (F.b+m) },{ g:=F.b+m,fn:=f2,pos:=p2,act:=.start }]:List MemOp),Calm y:=fun y hy=>by
  simp only [List.mem_cons,List.not_mem_nil,or_false] at hy;rcases hy with rfl | rfl <;> exact ⟨rfl,by simp,by simp⟩
 have hdeaf:∀ x,x≠0->Deaf (t ++ MemOp.ofEvents 0 fn pos es ++ ([{ g:=0,fn:=f1,pos:=p1,act:=.go (F.b+m) },{ g:=F.b+m,fn:=f2,pos:=p2,act:=.start }]:List MemOp).toArray) x=Deaf t x:=fun x hx=>(deaf_calm x _ hcalm).trans (hdE x hx);have own_of:∀ g r,(ActW F ph m g\/g=F.b+m)->keyOf (upd (upd own 0 own') (F.b+m) H g) r->(g=F.b+m/\keyOf H r)\/(g=0/\keyOf own' r)\/(g≠0/\g≠F.b+m/\ActW F ph m g/\keyOf (own g) r):=fun g r hg hk=>by
  by_cases e:g=F.b+m
  ·subst e;rw [upd_same] at hk;exact .inl ⟨rfl,hk⟩
  ·rw [upd_ne _ _ e] at hk;by_cases e0:g=0
   ·subst e0;rw [upd_same] at hk;exact .inr (.inl ⟨rfl,hk⟩)
   ·rw [upd_ne _ _ e0] at hk;exact .inr (.inr ⟨e0,e,hg.resolve_right e,hk⟩)
 have to0:∀ r,keyOf H r->keyOf (own 0) r:=fun r ⟨o,ho⟩=>⟨o,h2 r o ho⟩;have to0':∀ r,keyOf own' r->keyOf (own 0) r:=fun r ⟨o,ho⟩=>⟨o,h1 r o ho⟩;have m0:=h.core.meets 0 (.inl rfl);have hcore:Core F (fun x=>ActW F ph m x\/x=F.b+m) w (t ++ MemOp.ofEvents 0 fn pos es ++ ([{ g:=0,fn:=f1,pos:=p1,act:=.go (F.b+m) },{ g:=F.b+m,fn:=f2,pos:=p2,act:=.start }]:List MemOp).toArray) (upd (upd own 0 own') (F.b+m) H):=by
  refine ⟨hf,fun a c r ha hc hka hkc=>?_,fun g hg=>?_,h.core.chans,h.core.two,fun g hg=>?_,h.core.roFree,h.core.rest⟩
  ·rcases own_of a r ha hka with ⟨rfl,ka⟩ | ⟨rfl,ka⟩ | ⟨na0,nan,aa,ka⟩ <;> rcases own_of c r hc hkc with ⟨rfl,kc⟩ | ⟨rfl,kc⟩ | ⟨nc0,ncn,ac,kc⟩
   ·rfl
   ·exact absurd ka (h3 r kc)
   ·exact absurd (h.core.sep 0 c r (.inl rfl) ac (to0 r ka) kc).symm nc0
   ·exact absurd kc (h3 r ka)
   ·rfl
   ·exact absurd (h.core.sep 0 c r (.inl rfl) ac (to0' r ka) kc).symm nc0
   ·exact absurd (h.core.sep a 0 r aa (.inl rfl) ka (to0 r kc)) na0
   ·exact absurd (h.core.sep a 0 r aa (.inl rfl) ka (to0' r kc)) na0
   ·exact h.core.sep a c r aa ac ka kc
  ·by_cases e:g=F.b+m
   ·subst e;rw [upd_same];exact ⟨fun r o hr=>m0.mine r o (h2 r o hr),m0.shared,fun r o hr=>m0.apart r o (h2 r o hr)⟩
   ·rw [upd_ne _ _ e];by_cases e0:g=0
    ·subst e0;rw [upd_same];exact ⟨fun r o hr=>m0.mine r o (h1 r o hr),m0.shared,fun r o hr=>m0.apart r o (h1 r o hr)⟩
    ·rw [upd_ne _ _ e0];exact h.core.meets g (hg.resolve_right e)
  ·have f0:=h.core.free 0 (.inl rfl);by_cases e:g=F.b+m
   ·subst e;rw [upd_same];exact ⟨key_none fun ⟨o,ho⟩=>(by have:=h2 _ o ho;rw [f0.1] at this;cases this),key_none fun ⟨o,ho⟩=>(by have:=h2 _ o ho;rw [f0.2] at this;cases this)⟩
   ·rw [upd_ne _ _ e];by_cases e0:g=0
    ·subst e0;rw [upd_same];exact ⟨key_none fun ⟨o,ho⟩=>(by have:=h1 _ o ho;rw [f0.1] at this;cases this),key_none fun ⟨o,ho⟩=>(by have:=h1 _ o ho;rw [f0.2] at this;cases this)⟩
    ·rw [upd_ne _ _ e0];exact h.core.free g (hg.resolve_right e)
 have hget:∀ i,i≠0->i≠F.b+m->((gs.setIfInBounds 0 gm).push child)[i]? = gs[i]? := fun i h0 hi=>by
  rw [Array.getElem?_push];rw [if_neg (by simp;omega),Array.getElem?_setIfInBounds_ne (Ne.symm h0)]
 refine ⟨by simp [hs];omega,hb,fun i x hi hib hx=>?_,fun i hi=>?_,⟨gm,by rw [Array.getElem?_push,if_neg (by simp;omega),Array.getElem?_setIfInBounds_self_of_lt (by omega)],by rw [upd_ne _ _ (by omega),upd_same];exact hm⟩,hcore.congr hact,fun i hi=>by rw [hdeaf i (by omega)];exact h.deaf i hi⟩
 ·rw [hget i (by omega) (by omega)] at hx;rw [hdeaf i (by omega)];exact h.old i x hi hib hx
 ·by_cases e:i=m
  ·subst e;exact ⟨child,by rw [Array.getElem?_push,if_pos (by simp [hs])],by rw [upd_same,upd_same];exact hw⟩
  ·obtain ⟨x,hx,hwx⟩:=h.work i (by omega);exact ⟨x,by rw [hget _ (by omega) (by omega)];exact hx,by rw [upd_ne _ _ e,upd_ne _ _ (by omega),upd_ne _ _ (by omega)];exact hwx⟩
end Mt
end Go.Proofs.YtdjnkplgllakcaaGreatDoor
