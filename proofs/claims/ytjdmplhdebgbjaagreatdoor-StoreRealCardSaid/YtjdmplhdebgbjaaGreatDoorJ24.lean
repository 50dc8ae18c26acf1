/- Leads to StoreReal of chapter 6: End Loc Ops Sel FarmT. -/
import Derived.Test.YtjdmplhdebgbjaaGreatDoorJ23
import Derived.Conc.CrowdSel
set_option maxHeartbeats 200000
set_option maxRecDepth 100000
set_option linter.all false
namespace Go.Proofs.YtjdmplhdebgbjaaGreatDoor.Mt
open Go Go.Conc
section
variable {P:Program}
def Leaving0 (P:Program) (Post:Value->World->Prop) (fr:Frame) (cs:List Frame) (w:World):Prop :=
 cs=[]/\fr.mode=.returning/\fr.kind=.normal/\fr.defers=[]/\P.inits.idxOf? fr.fn=none /\
  ∃ v fn,P.funcs[fr.fn]? = some fn/\∀ d,Post v (w.at d)/\∃ es,(results fn fr.tmps).runT P (w.at d) #[]=(.ok v (w.at d),es)/\∀ e∈es,EvOk w.heap.size e
theorem runN_trans {m1:Machine} {r:Stepped}:∀ {a b:Nat} {m:Machine},runN P a m=.next m1->runN P b m1=r->runN P (a+b) m=r
 | 0,b,m,h,h2=>by
  simp only [runN] at h;cases h;rw [Nat.zero_add];exact h2
 | a+1,b,m,h,h2=>by
  rw [show a+1+b=(a+b)+1 by omega];simp only [runN] at h ⊢
  cases hs:step P m with
  | next m2=>rw [hs] at h;exact runN_trans (a:=a) h h2
  | ended o w=>rw [hs] at h;cases h
theorem ends_good {Post:Value->World->Prop} {f:FuncId} {args:Array Value} {W:World} (h:Leads P (Leaving0 P Post) (Frame.enter P f args .normal) [] W) :
 ∃ M last o w' t',runNT P (M+1) (solo (G (Frame.enter P f args .normal) []) W) #[]=(.ended o w',t')/\runN P M (solo (G (Frame.enter P f args .normal) []) W)=.next last/\step P last=.ended o w'/\Good P Post last o w' t':=by
 obtain ⟨N,gs,w,sl,t,q,fr,cs,hr,hc,rfl,hm,hk,hdf,hi,v,fn,hf,hd⟩:=h #[G (Frame.enter P f args .normal) []] none #[] (fun _=>0)
  ⟨rfl,leavers_one P _,past_nil.mono (Nat.zero_le _)⟩
 have hG:Goes P true AtRel (fun _ _ _=>False) (AtEnd P NS w.heap.size Post) 0 (G fr []) w:=by
  rintro w1 ⟨d,rfl⟩;obtain ⟨hp,es,hr2,hev⟩:=hd d;refine ⟨rfl,v,seen P fr.fn es ++ #[],?_,fun e he=>(hev e (seen_mem (by simpa using he))).evL,hp⟩;obtain ⟨fn0,tmps,td,dfs,md,kd,ro⟩:=fr;simp only at hk hm hdf hf hi hr2;subst hk hm hdf;show unwind P true ⟨fn0,tmps,td,[],.returning,.normal,ro⟩ [] none (w.at d)=_;unfold unwind;simp only [hf];rw [hr2];simp only [doReturn,hi];rfl
 obtain ⟨N2,last,o,w',t',h1,h2,h3,h4⟩:=beside_ends (sl:=sl) (fun _ _ _ x=>x.elim) hc.at0 hc.leav hc.past hG;refine ⟨N+N2,last,o,w',t',?_,?_,h3,h4⟩
 ·rw [Nat.add_assoc];exact runNT_trans hr h1
 ·refine runN_trans ?_ h2;rw [← runNT_fst P N _ #[]];exact congrArg Prod.fst hr
end
abbrev Hold:=Nat->Option Obj
def Holds (w:World) (F:Hold):Prop:=∀ r o,F r=some o->w.heap[r]? = some o
def keyOf (F:Hold) (r:Nat):Prop:=∃ o,F r=some o
def Hold.set (F:Hold) (r:Nat) (o:Obj):Hold:=fun x=>if x=r then some o else F x
theorem Hold.set_same (F:Hold) (r:Nat) (o:Obj):F.set r o r=some o:=by simp [Hold.set]
theorem Hold.set_ne (F:Hold) {r x:Nat} (o:Obj) (h:x≠r):F.set r o x=F x:=by simp [Hold.set,h]
structure Meets (w:World) (own ro:Hold):Prop where
 mine:Holds w own
 shared:Holds w ro
 apart:∀ r o,own r=some o->ro r=none
theorem Holds.lt {w:World} {F:Hold} (h:Holds w F) {r:Nat} (hr:keyOf F r):r < w.heap.size:=by
 obtain ⟨o,hx⟩:=hr;exact (Array.getElem?_eq_some_iff.1 (h r o hx)).1
def EvOwn (own ro:Hold) (e:Event):Prop :=
 match e.loc with
 | .cell a=>e.sync=false/\(keyOf own a.block∨(e.write=false/\keyOf ro a.block))
 | .mark m=>m=.noRoom∨∃ f,m=.extern f
 | _=>False
structure Turn (ro own own':Hold) (w w':World) (es:Array Event):Prop where
 holds:Meets w' own' ro
 size:w.heap.size<=w'.heap.size
 kept:∀ r,r < w.heap.size->¬ keyOf own r->w'.heap[r]? = w.heap[r]?
 rest:w'.os=w.os/\w'.tape=w.tape/\w'.output=w.output
 keys:∀ r,keyOf own' r->keyOf own r∨w.heap.size<=r
 evs:∀ e∈es,EvOwn own' ro e
theorem Turn.idle {ro own:Hold} {w:World} (h:Meets w own ro):Turn ro own own w w #[] :=
 ⟨h,Nat.le_refl _,fun _ _ _=>rfl,⟨rfl,rfl,rfl⟩,fun _ h=>.inl h,by simp⟩
def Walk (P:Program) (main:Bool) (ro:Hold) (Stop:Goroutine->Hold->Prop):Nat->Goroutine->Hold->Prop
 | 0,g,own=>Stop g own
 | n+1,g,own=>Stop g own∨(g.status=.running/\∀ w,Meets w own ro->∃ g' w' es own',stepG P main g w=.go g' w' es/\Turn ro own own' w w' es/\Walk P main ro Stop n g' own')
section
variable {P:Program} {main:Bool} {ro:Hold} {Stop:Goroutine->Hold->Prop}
theorem Walk.more {n:Nat} {g:Goroutine} {own:Hold} (h:Walk P main ro Stop n g own):Walk P main ro Stop (n+1) g own:=by
 induction n generalizing g own with
 | zero=>exact .inl h
 | succ n ih =>
  rcases h with h | ⟨hr,h⟩
  ·exact .inl h
  ·refine .inr ⟨hr,fun w hw=>?_⟩;obtain ⟨g',w',es,own',h1,h2,h3⟩:=h w hw;exact ⟨g',w',es,own',h1,h2,ih h3⟩
theorem Walk.mono {n n':Nat} {g:Goroutine} {own:Hold} (h:Walk P main ro Stop n g own) (hn:n<=n'):Walk P main ro Stop n' g own:=by
 induction hn with
 | refl=>exact h
 | step _ ih=>exact ih.more
theorem Walk.ctl {n:Nat} {fr fr':Frame} {cs cs':List Frame} {own:Hold} (h:∀ w,stepG P main (G fr cs) w=.go (G fr' cs') w) (hk:Walk P main ro Stop n (G fr' cs') own):Walk P main ro Stop (n+1) (G fr cs) own :=
 .inr ⟨rfl,fun w hw=>⟨_,w,#[],own,h w,.idle hw,hk⟩⟩
def AfterW (P:Program) (main:Bool) (ro:Hold) (Stop:Goroutine->Hold->Prop) (m:Nat) (b:Frame) (k:List Item) (cs:List Frame):Exit->Act->Hold->Prop
 | .normal,a,own=>Walk P main ro Stop m (G (b.at a k) cs) own
 | .exit id,a,own=>∃ k',exitTo id k=some k'/\Walk P main ro Stop m (G (b.at a k') cs) own
 | _,_,_=>False
theorem AfterW.mono {m m':Nat} {b:Frame} {k:List Item} {cs:List Frame} {e:Exit} {a:Act} {own:Hold} (h:AfterW P main ro Stop m b k cs e a own) (hm:m<=m'):AfterW P main ro Stop m' b k cs e a own:=by
 cases e with
 | normal=>exact Walk.mono h hm
 | exit id=>obtain ⟨k',hk,hg⟩:=h;exact ⟨k',hk,hg.mono hm⟩
 | _=>exact h
theorem AfterW.push {m:Nat} {b:Frame} {x:Item} {k:List Item} {cs:List Frame} {e:Exit} {a:Act} {own:Hold} (hx:x.plain=true) (he:e≠.normal)
 (h:AfterW P main ro Stop m b k cs e a own):AfterW P main ro Stop m b (x::k) cs e a own:=by
 cases e with
 | normal=>exact absurd rfl he
 | exit id=>obtain ⟨k',hk,hg⟩:=h;exact ⟨k',by cases x <;> simp_all [exitTo,Item.plain],hg⟩
 | _=>exact h
end
def WC (P:Program) (main:Bool) (ro:Hold) (c:Code) (n:Nat) (Q:Exit->Act->Hold->Prop) (a:Act) (own:Hold):Prop :=
 ∀ (b:Frame) (k:List Item) (cs:List Frame) (Stop:Goroutine->Hold->Prop) (m:Nat),b.kind≠.early->(∀ e a' own',Q e a' own'->AfterW P main ro Stop m b k cs e a' own')->Walk P main ro Stop (m+n) (G (b.at a (.code c::k)) cs) own
def WO (P:Program) (main:Bool) (ro:Hold) (ops:Array Oper) (todo:List Nat) (n:Nat) (Q:Act->Hold->Prop) (a:Act) (own:Hold):Prop :=
 ∀ (b:Frame) (k:List Item) (cs:List Frame) (Stop:Goroutine->Hold->Prop) (m:Nat),b.kind≠.early->(∀ a' own',Q a' own'->Walk P main ro Stop m (G (b.at a' k) cs) own')->Walk P main ro Stop (m+n) (G (b.at a (.inRegion ops todo::k)) cs) own
section
variable {P:Program} {main:Bool} {ro own:Hold} {Q:Exit->Act->Hold->Prop} {a:Act}
theorem wc_more {c:Code} {n n':Nat} (h:WC P main ro c n Q a own) (hn:n<=n'):WC P main ro c n' Q a own:=fun b k cs Stop m hb hk=>(h b k cs Stop m hb hk).mono (by omega)
theorem wc_mono {c:Code} {n:Nat} {Q':Exit->Act->Hold->Prop} (h:WC P main ro c n Q a own) (hq:∀ e a own,Q e a own->Q' e a own):WC P main ro c n Q' a own :=
 fun b k cs Stop m hb hk=>h b k cs Stop m hb fun e a' o q=>hk e a' o (hq e a' o q)
theorem wc_skip (h:Q .normal a own):WC P main ro .skip 1 Q a own:=fun b k cs Stop m hb hk=>Walk.ctl (fun w=>stepG_skip) (hk _ _ _ h)
theorem wc_exit {id:Nat} (h:Q (.exit id) a own):WC P main ro (.exit id) 1 Q a own:=fun b k cs Stop m hb hk=>by
 obtain ⟨k',h1,h2⟩:=hk _ _ _ h;exact Walk.ctl (fun w=>stepG_exit h1) h2
def ThenW (next:Act->Hold->Prop) (Q:Exit->Act->Hold->Prop):Exit->Act->Hold->Prop
 | .normal,a,own=>next a own
 | e,a,own=>Q e a own
theorem wc_seq {x y:Code} {n1 n2:Nat} (h:WC P main ro x n1 (ThenW (fun a' o'=>WC P main ro y n2 Q a' o') Q) a own):WC P main ro (.seq x y) (n1+n2+1) Q a own:=by
 intro b k cs Stop m hb hk;have hx:Walk P main ro Stop (m+n2+n1) (G (b.at a (.code x::.code y::k)) cs) own:=by
  refine h b (.code y::k) cs Stop (m+n2) hb fun e a' o' q=>?_
  cases e with
  | normal=>exact q b k cs Stop m hb hk
  | exit id=>exact ((hk _ _ _ q).mono (Nat.le_add_right _ _)).push rfl (by simp)
  | ret=>exact hk _ _ _ q
  | goto l=>exact hk _ _ _ q
  | panic ch=>exact hk _ _ _ q
  | outgrown=>exact hk _ _ _ q
 rw [show m+(n1+n2+1)=(m+n2+n1)+1 by omega];exact Walk.ctl (fun w=>stepG_seq) hx
theorem wc_cond {c:Operand} {x y:Code} {t:Bool} {n:Nat} (hc:a.eval c=.bool t) (h:WC P main ro (if t then x else y) n Q a own):WC P main ro (.cond c x y) (n+1) Q a own :=
 fun b k cs Stop m hb hk=>Walk.ctl (fun w=>stepG_cond hc) (h b k cs Stop m hb hk)
def BlockW (id:Nat) (Q:Exit->Act->Hold->Prop):Exit->Act->Hold->Prop
 | .exit id',a,own=>if id'=id then Q .normal a own else Q (.exit id') a own
 | e,a,own=>Q e a own
theorem wc_block {id:Nat} {c:Code} {n:Nat} (h:WC P main ro c n (BlockW id Q) a own):WC P main ro (.block id c) (n+2) Q a own:=by
 intro b k cs Stop m hb hk;have hx:Walk P main ro Stop (m+1+n) (G (b.at a (.code c::.inBlock id::k)) cs) own:=by
  refine h b (.inBlock id::k) cs Stop (m+1) hb fun e a' o' q=>?_
  cases e with
  | normal=>exact Walk.ctl (fun w=>stepG_inBlock) (hk _ _ _ q)
  | exit id' =>
   by_cases hid:id'=id
   ·simp only [BlockW,hid,if_true] at q;exact ⟨k,by simp [exitTo,hid],Walk.more (hk _ _ _ q)⟩
   ·simp only [BlockW,hid,if_false] at q;obtain ⟨k',hk',hg⟩:=hk _ _ _ q;have:(id == id')=false:=by simp;exact fun h=>hid h.symm
    exact ⟨k',by simp [exitTo,this,hk'],hg.more⟩
  | _=>exact hk _ _ _ q
 rw [show m+(n+2)=(m+1+n)+1 by omega];exact Walk.ctl (fun w=>stepG_block) hx
theorem wc_loop {c:Code} (I:Nat->Act->Hold->Prop) (r N:Nat) (h0:I N a own)
 (round:∀ n a own,I n a own->WC P main ro c r (ThenW (fun a' o'=>∃ n',n=n'+1/\I n' a' o') Q) a own):WC P main ro (.loop c) ((N+1) * (r+1)+1) Q a own:=by
 intro b k cs Stop m hb hk;have key:∀ N a own,I N a own->Walk P main ro Stop (m+(N+1) * (r+1)) (G (b.at a (.code c::.inLoop c::k)) cs) own:=by
  intro N
  induction N with
  | zero =>
   intro a own hI;have:=round 0 a own hI b (.inLoop c::k) cs Stop (m+1) hb fun e a' o' q=>by
    cases e with
    | normal=>obtain ⟨n',h,_⟩:=q;omega
    | exit id=>exact ((hk _ _ _ q).mono (by omega)).push rfl (by simp)
    | _=>exact hk _ _ _ q
   exact this.mono (by simp;omega)
  | succ N ih =>
   intro a own hI;have:=round (N+1) a own hI b (.inLoop c::k) cs Stop (m+(N+1) * (r+1)+1) hb fun e a' o' q=>by
    cases e with
    | normal =>
     obtain ⟨n',h,hI'⟩:=q;obtain rfl:N=n':=by omega
     exact Walk.ctl (fun w=>stepG_inLoop) (ih a' o' hI')
    | exit id=>exact ((hk _ _ _ q).mono (by omega)).push rfl (by simp)
    | _=>exact hk _ _ _ q
   refine this.mono ?_;have:(N+1+1) * (r+1)=(N+1) * (r+1)+(r+1):=by rw [Nat.succ_mul]
   omega
 rw [show m+((N+1) * (r+1)+1)=(m+(N+1) * (r+1))+1 by omega];exact Walk.ctl (fun w=>stepG_loop) (key N a own h0)
theorem wc_region {id:Nat} {ops:Array Oper} {n:Nat} (h:WO P main ro ops (List.range ops.size) n (fun a' o'=>Q .normal a' o') a own):WC P main ro (.region id ops false) (n+1) Q a own :=
 fun b k cs Stop m hb hk=>Walk.ctl (fun w=>stepG_region) (h b k cs Stop m hb fun a' o' q=>hk _ _ _ q)
theorem wo_nil {Q:Act->Hold->Prop} {ops:Array Oper} (h:Q a own):WO P main ro ops [] 1 Q a own:=fun b k cs Stop m hb hk=>Walk.ctl (fun w=>stepG_region_end) (hk _ _ h)
theorem wo_cons {Q:Act->Hold->Prop} {ops:Array Oper} {i:Nat} {rest:List Nat} {o:Oper} {n:Nat} (ho:ops[i]? = some o) (hw:Region.wanted o (yielded ops a.tmps)=true)
 (h:∀ w,Meets w own ro->∃ v w' own',((execOp a.eval o).run P w=.ok (.value v) w'∨(v=undef/\(execOp a.eval o).run P w=.ok .skip w'))/\Turn ro own own' w w' ((execOp a.eval o).events P w #[])/\WO P main ro ops rest n Q (a.put o.dst v) own') :
 WO P main ro ops (i::rest) (n+1) Q a own:=by
 intro b k cs Stop m hb hk;refine .inr ⟨rfl,fun w hH=>?_⟩;obtain ⟨v,w',own',hr,ht,hn⟩:=h w hH;refine ⟨G (b.at (a.put o.dst v) (.inRegion ops rest::k)) cs,w',listed P b.fn a o w,own',?_,⟨ht.holds,ht.size,ht.kept,ht.rest,ht.keys,fun e he=>ht.evs e (seen_mem he)⟩,hn b k cs Stop m hb hk⟩;rcases hr with hr | ⟨rfl,hr⟩
 ·exact stepG_value ho hw hb hr
 ·exact stepG_none ho hw hb hr
end
section
variable {P:Program} {main:Bool} {ro own:Hold} {Q:Act->Hold->Prop} {a:Act} {ops:Array Oper} {i:Nat} {rest:List Nat} {o:Oper} {n:Nat}
end
section
variable {P:Program} {gs:Array Goroutine} {w w₁:World} {sl:Option (Nat × Nat)} {i:Nat} {g g₂:Goroutine} {es:Array Event} {c0 c1 s0 r0 s1 r1:Nat} {tm0 tm1:Bool} {z0 z1:Value}
theorem choose_lt (w:World) (q:Question) (n:Nat) (hq:q=.select n∨∃ s,q=.extern s n) (hn:0 < n):∃ a d,(choose q).run P w=.ok a (w.at d)/\a < n:=by
 by_cases hf:q.forced=true
 ·exact ⟨0,w.drawn,by simp [choose,Sem.run,hf,World.at],hn⟩
 ·refine ⟨q.cut (w.tape w.drawn q),w.drawn+1,by simp [choose,Sem.run,hf,World.at],?_⟩;rcases hq with rfl | ⟨s,rfl⟩
  ·exact Nat.mod_lt _ hn
  ·simp only [Question.cut];rw [if_neg (by omega)];exact Nat.mod_lt _ hn
theorem pick_of (w:World) (R:List (Nat × CommCase × List Way)) (hR:R≠[]) (hne:∀ x∈R,x.2.2≠[]) :
 ∃ x∈R,∃ y∈x.2.2,∃ d,(do
  let a ← choose (.select R.length)
  let (k,c,ws):=R.getD a (0,default,[])
  let b ← choose (.extern "which waiting goroutine is the partner" ws.length)
  pure (k,c,ws.getD b .closed):Sem (Nat × CommCase × Way)).run P w=.ok (x.1,x.2.1,y) (w.at d):=by
 obtain ⟨a,d,h1,h2⟩:=choose_lt (P:=P) w (.select R.length) R.length (.inl rfl) (List.length_pos_iff.2 hR);have hx:R[a]∈R:=List.getElem_mem h2;have hy:=List.length_pos_iff.2 (hne _ hx);obtain ⟨b,d2,h3,h4⟩:=choose_lt (P:=P) (w.at d) (.extern "which waiting goroutine is the partner" (R[a]).2.2.length) (R[a]).2.2.length (.inr ⟨_,rfl⟩) hy;refine ⟨R[a],hx,(R[a]).2.2[b],List.getElem_mem h4,d2,?_⟩;simp only [Sem.run_bind,h1,Result.andThen,List.getD_eq_getElem?_getD,List.getElem?_eq_getElem h2,Option.getD_some,h3,List.getElem?_eq_getElem h4];rfl
theorem sel2_meets (hi:gs[i]? = some g) (h:stepG P (i == 0) g w=.comm g₂ #[rcase c0 z0,rcase c1 z1] true .select w₁ es)
 (hc0:w₁.heap[c0]? = some (.chan 0 #[] false s0 r0 tm0)) (hc1:w₁.heap[c1]? = some (.chan 0 #[] false s1 r1 tm1))
 (hne:partners (gs.setIfInBounds i ph) c0 true≠[]∨partners (gs.setIfInBounds i ph) c1 true≠[])
 (hall:∀ c j k,(j,k)∈partners (gs.setIfInBounds i ph) c true->c=c0∨c=c1->k=0/\j≠i/\∃ gj vj zj shj,gs[j]? = some (parked gj #[scase c vj zj] shj)) :
 ∃ (kk:Nat) (c s r:Nat) (tm:Bool) (j:Nat) (gj:Goroutine) (vj zj:Value) (shj:CommShape) (d:Nat),((kk=0/\c=c0/\s=s0/\r=r0/\tm=tm0)∨(kk=1/\c=c1/\s=s1/\r=r1/\tm=tm1))/\j≠i/\gs[j]? = some (parked gj #[scase c vj zj] shj) /\
  runT P (crowd gs w sl) i=(.next (crowd ((gs.setIfInBounds j (gj.finishComm P #[scase c vj zj] shj 0 undef false)).setIfInBounds i (g₂.finishComm P #[rcase c0 z0,rcase c1 z1] .select kk vj true)) ((w₁.at d).setChan c 0 #[] false (s+1) (r+1) tm) sl),
   MemOp.ofEvents i g.frame.fn g.frame.place es ++ #[{ g:=j,fn:=gj.frame.fn,pos:=gj.frame.place,act:=.send c s },{ g:=i,fn:=g₂.frame.fn,pos:=g₂.frame.place,act:=.recv c r 0 },
    { g:=j,fn:=gj.frame.fn,pos:=gj.frame.place,act:=.sendDone c s },{ g:=i,fn:=g₂.frame.fn,pos:=g₂.frame.place,act:=.recvDone c r }]):=by
 have hways:∀ c z s r tm,w₁.heap[c]? = some (.chan 0 #[] false s r tm)->ways w₁ (gs.setIfInBounds i ph) (rcase c z)=(partners (gs.setIfInBounds i ph) c true).map fun (h,k)=>Way.partner h k:=by
  intro c z s r tm hc;simp only [ways,rcase,hc]
  cases partners (gs.setIfInBounds i ph) c true with
  | nil=>simp
  | cons p ps=>simp
 let R:List (Nat × CommCase × List Way):=(#[rcase c0 z0,rcase c1 z1].zipIdx.toList.map fun (c,k)=>(k,c,ways w₁ (gs.setIfInBounds i ph) c)).filter fun (_,_,ws)=>!ws.isEmpty
 have hmem:∀ x,x∈R↔(x=(0,rcase c0 z0,ways w₁ (gs.setIfInBounds i ph) (rcase c0 z0))∨x=(1,rcase c1 z1,ways w₁ (gs.setIfInBounds i ph) (rcase c1 z1)))/\x.2.2≠[]:=by
  intro x;simp only [R,List.mem_filter,List.mem_map];constructor
  ·rintro ⟨⟨⟨c,k⟩,hm,rfl⟩,hx⟩;refine ⟨?_,by simpa using hx⟩;simp at hm;rcases hm with ⟨rfl,rfl⟩ | ⟨rfl,rfl⟩
   ·exact .inl rfl
   ·exact .inr rfl
  ·rintro ⟨rfl | rfl,hx⟩
   ·exact ⟨⟨(rcase c0 z0,0),by simp,rfl⟩,by simpa using hx⟩
   ·exact ⟨⟨(rcase c1 z1,1),by simp,rfl⟩,by simpa using hx⟩
 have hR:R≠[]:=by
  rcases hne with hn | hn
  ·have:(0,rcase c0 z0,ways w₁ (gs.setIfInBounds i ph) (rcase c0 z0))∈R:=(hmem _).2 ⟨.inl rfl,by rw [hways c0 z0 _ _ _ hc0];simpa using hn⟩;exact fun e=>by rw [e] at this;cases this
  ·have:(1,rcase c1 z1,ways w₁ (gs.setIfInBounds i ph) (rcase c1 z1))∈R:=(hmem _).2 ⟨.inr rfl,by rw [hways c1 z1 _ _ _ hc1];simpa using hn⟩;exact fun e=>by rw [e] at this;cases this
 obtain ⟨x,hx,y,hy,d,hpick⟩:=pick_of (P:=P) w₁ R hR fun x hx=>((hmem x).1 hx).2
 have hRe:R.isEmpty=false:=by cases hq:R with
  | nil=>exact absurd hq hR
  | cons=>rfl
 have hill:(#[rcase c0 z0,rcase c1 z1]:Array CommCase).any (illMade w₁)=false:=any_ill fun cc hcc=>by
  simp at hcc;rcases hcc with rfl | rfl
  ·exact made_recv z0 hc0
  ·exact made_recv z1 hc1
 have fin:∀ (kk c s r:Nat) (tm:Bool) (z:Value),w₁.heap[c]? = some (.chan 0 #[] false s r tm)->(c=c0∨c=c1)->x=(kk,rcase c z,ways w₁ (gs.setIfInBounds i ph) (rcase c z)) ->
  ∃ j gj vj zj shj,j≠i/\gs[j]? = some (parked gj #[scase c vj zj] shj) /\
  runT P (crowd gs w sl) i=(.next (crowd ((gs.setIfInBounds j (gj.finishComm P #[scase c vj zj] shj 0 undef false)).setIfInBounds i (g₂.finishComm P #[rcase c0 z0,rcase c1 z1] .select kk vj true)) ((w₁.at d).setChan c 0 #[] false (s+1) (r+1) tm) sl),
   MemOp.ofEvents i g.frame.fn g.frame.place es ++ #[{ g:=j,fn:=gj.frame.fn,pos:=gj.frame.place,act:=.send c s },{ g:=i,fn:=g₂.frame.fn,pos:=g₂.frame.place,act:=.recv c r 0 },
    { g:=j,fn:=gj.frame.fn,pos:=gj.frame.place,act:=.sendDone c s },{ g:=i,fn:=g₂.frame.fn,pos:=g₂.frame.place,act:=.recvDone c r }]):=by
  intro kk c s r tm z hc hcc hx2;subst hx2;simp only [hways c z s r tm hc,List.mem_map] at hy;obtain ⟨⟨j,k⟩,hjk,rfl⟩:=hy;obtain ⟨rfl,hij,gj,vj,zj,shj,hj⟩:=hall c j k hjk hcc;refine ⟨j,gj,vj,zj,shj,hij,hj,?_⟩;rw [runT_crowd_comm hi h];have hj':=stand_get (i:=i) hij hj;have hfp:=finishPartner_at P (gs.setIfInBounds i ph) hj' (cs:=#[scase c vj zj]) (sh:=shj) rfl 0 undef;have hgd:(gs.setIfInBounds i ph).getD j default=parked gj #[scase c vj zj] shj:=by rw [Array.getD_eq_getD_getElem?,hj'];rfl
  have hov:offeredValue (gs.setIfInBounds i ph) j 0=vj:=by simp [offeredValue,hj',parked,scase]
  have hc':(w₁.at d).heap[c]? = some (.chan 0 #[] false s r tm):=hc;unfold communicate;change ((if (#[rcase c0 z0,rcase c1 z1]:Array CommCase).any (illMade w₁)=true then _ else if R.isEmpty=true then _ else _:Stepped × Array MemOp).1,_ ++ (if (#[rcase c0 z0,rcase c1 z1]:Array CommCase).any (illMade w₁)=true then _ else if R.isEmpty=true then _ else _:Stepped × Array MemOp).2)=_;rw [if_neg (by rw [hill];simp),if_neg (by rw [hRe];simp)];change (Prod.fst (match (do
   let a ← choose (.select R.length)
   let (k,c,ws):=R.getD a (0,default,[])
   let b ← choose (.extern "which waiting goroutine is the partner" ws.length)
   pure (k,c,ws.getD b .closed):Sem (Nat × CommCase × Way)).run P w₁ with | .halt _ w=>_ | .ok (k,c,way) w=>_),_ ++ Prod.snd (match (do
   let a ← choose (.select R.length)
   let (k,c,ws):=R.getD a (0,default,[])
   let b ← choose (.extern "which waiting goroutine is the partner" ws.length)
   pure (k,c,ws.getD b .closed):Sem (Nat × CommCase × Way)).run P w₁ with | .halt _ w=>_ | .ok (k,c,way) w=>_))=_
  rw [hpick];simp [rcase,hc',World.setChan,crowd,hfp,hgd,hov,set_stand2,scase,parked];rfl
 rcases ((hmem x).1 hx).1 with hx2 | hx2
 ·obtain ⟨j,gj,vj,zj,shj,h1,h2,h3⟩:=fin 0 c0 s0 r0 tm0 z0 hc0 (.inl rfl) hx2;exact ⟨0,c0,s0,r0,tm0,j,gj,vj,zj,shj,d,.inl ⟨rfl,rfl,rfl,rfl,rfl⟩,h1,h2,h3⟩
 ·obtain ⟨j,gj,vj,zj,shj,h1,h2,h3⟩:=fin 1 c1 s1 r1 tm1 z1 hc1 (.inr rfl) hx2;exact ⟨1,c1,s1,r1,tm1,j,gj,vj,zj,shj,d,.inr ⟨rfl,rfl,rfl,rfl,rfl⟩,h1,h2,h3⟩
end
end Go.Proofs.YtjdmplhdebgbjaaGreatDoor.Mt
namespace Go.Proofs.YtjdmplhdebgbjaaGreatDoor.Mt
open Go Go.Conc
open Go.ConcN (sumTo upd sumTo_upd upd_ne upd_same)
def blockOf:Loc->Option Nat
 | .cell a=>some a.block
 | .obj r=>some r
 | _=>none
theorem block_low {B:Nat} {l:Loc} {r:Nat} (h:l.low B) (hb:blockOf l=some r):r < B:=by
 cases l <;> first | (cases hb;exact h) | cases hb
theorem block_mem {l:Loc} {r:Nat} (h:blockOf l=some r):l.isMemory=true:=by
 cases l <;> first | rfl | cases h
structure FT (t:Trace) (B:Nat) (Act:Nat->Prop) (own:Nat->Hold) (ro:Hold):Prop where
 clean:∀ said,¬ Race said t
 mine:∀ i a r,touchAt t i=some a->blockOf a.loc=some r->∀ g,Act g->keyOf (own g) r->Knows t g i
 shared:∀ i a r,touchAt t i=some a->blockOf a.loc=some r->a.write=true->keyOf ro r->∀ g,Act g->Knows t g i
 known:∀ i a,touchAt t i=some a->a.loc.isMemory=true->Knows t 0 i∨∃ g,g≠0/\Act g/\t.g? i=some g
 hears:∀ g,Act g->Deaf t g=0
 seen:∀ op∈t,op.act.low B
theorem touch_low {t:Trace} {B i:Nat} {a:Touch} {r:Nat} (h:∀ op∈t,op.act.low B) (ha:touchAt t i=some a) (hb:blockOf a.loc=some r):r < B:=by
 obtain ⟨op,ho,hx⟩:=touch_of ha;have hl:=h op (mem_of_getElem? ho);generalize hact:op.act=act at hl hx
 cases act with
 | access e=>simp only [MemAct.touch?,Option.some.injEq] at hx;subst hx;exact block_low hl hb
 | mark m=>cases m <;> simp [MemAct.touch?] at hx <;> (subst hx;cases hb;exact hl)
 | _=>simp [MemAct.touch?] at hx
theorem EvOwn.touch {own ro:Hold} {e:Event} {b:Touch} (h:EvOwn own ro e) (hb:(MemAct.ofEvent e).touch? = some b):∃ r,blockOf b.loc=some r/\(keyOf own r∨(b.write=false/\keyOf ro r)):=by
 obtain ⟨loc,wr,sy⟩:=e
 cases loc with
 | cell a =>
  obtain ⟨_,h⟩:=h;have hb:some (⟨.cell a,wr,if sy then .atomic else .plain⟩:Touch)=some b:=hb;cases hb;exact ⟨a.block,rfl,h⟩
 | mark m =>
  rcases h with rfl | ⟨f,rfl⟩ <;> cases hb
 | _=>exact h.elim
theorem EvOwn.calm {own ro:Hold} {e:Event} (h:EvOwn own ro e):e.loc≠.mark .disable/\e.loc≠.mark .enable:=by
 obtain ⟨loc,wr,sy⟩:=e;constructor <;> (rintro rfl;rcases h with h | ⟨f,h⟩ <;> cases h)
theorem EvOwn.low {own ro:Hold} {e:Event} {B:Nat} (h:EvOwn own ro e) (ho:∀ r,keyOf own r->r < B) (hr:∀ r,keyOf ro r->r < B):(MemAct.ofEvent e).low B:=by
 obtain ⟨loc,wr,sy⟩:=e
 cases loc with
 | cell a =>
  obtain ⟨_,h⟩:=h;show a.block < B;rcases h with h | ⟨_,h⟩
  ·exact ho _ h
  ·exact hr _ h
 | mark m =>
  rcases h with rfl | ⟨f,rfl⟩ <;> trivial
 | _=>exact h.elim
section
variable {t:Trace} {B:Nat} {Act:Nat->Prop} {own:Nat->Hold} {ro:Hold}
def Sep (Act:Nat->Prop) (own:Nat->Hold):Prop:=∀ g h r,Act g->Act h->keyOf (own g) r->keyOf (own h) r->g=h
theorem FT.turn {g:Nat} {own':Hold} {w w':World} {es:Array Event} (h:FT t w.heap.size Act own ro) (hg:Act g) (hsep:Sep Act own) (hm:∀ x,Act x->Meets w (own x) ro) (ht:Turn ro (own g) own' w w' es) (fn:FuncId) (pos:String) :
 FT (t ++ MemOp.ofEvents g fn pos es) w'.heap.size Act (upd own g own') ro:=by
 have hu:∀ op∈MemOp.ofEvents g fn pos es,op.g=g:=fun op hop=>by obtain ⟨e,_,rfl⟩:=Go.Conc.mem_ofEvents hop;rfl
 have htouch:∀ op∈MemOp.ofEvents g fn pos es,∀ b,op.act.touch? = some b->∃ r,blockOf b.loc=some r/\(keyOf own' r∨(b.write=false/\keyOf ro r)):=fun op hop b hb=>by
  obtain ⟨e,he,rfl⟩:=Go.Conc.mem_ofEvents hop;exact (ht.evs e he).touch hb
 have hold:∀ i a r,touchAt t i=some a->blockOf a.loc=some r->keyOf own' r->Knows t g i:=fun i a r ha hr hk=>by
  rcases ht.keys r hk with hk | hk
  ·exact h.mine i a r ha hr g hg hk
  ·exact absurd (touch_low h.seen ha hr) (by omega)
 refine ⟨fun said=>noRace_append (h.clean said) hu fun i a ha op hop b hb hc=>?_,fun i a r ha hr x hx hk=>?_,fun i a r ha hr hw hk x hx=>?_,fun i a ha hmem=>?_,fun x hx=>?_,fun op hop=>?_⟩
 ·obtain ⟨r,hr,hk⟩:=htouch op hop b hb;obtain ⟨hl,_,hwr,_⟩:=hc;rcases hk with hk | ⟨hbw,hk⟩
  ·exact hold i a r ha (by rw [hl];exact hr) hk
  ·rcases hwr with hwr | hwr
   ·exact h.shared i a r ha (by rw [hl];exact hr) hwr hk g hg
   ·rw [hbw] at hwr;cases hwr
 ·obtain ⟨op,ho,hox⟩:=touch_of ha;rcases getElem?_append_cases ho with ⟨hi,ho'⟩ | ⟨hi,hou⟩
  ·have ha':touchAt t i=some a:=by rw [touchAt_of ho'];exact hox
   by_cases hxg:x=g
   ·subst hxg;rw [upd_same] at hk;exact (hold i a r ha' hr hk).app _
   ·rw [upd_ne _ _ hxg] at hk;exact (h.mine i a r ha' hr x hx hk).app _
  ·obtain ⟨r',hr',hkk⟩:=htouch op hou a hox;obtain rfl:r=r':=by rw [hr] at hr';exact Option.some.inj hr'
   by_cases hxg:x=g
   ·subst hxg;have:=knows_own ho;rw [hu op hou] at this;exact this
   ·rw [upd_ne _ _ hxg] at hk;rcases hkk with hkk | ⟨_,hkk⟩
    ·rcases ht.keys r hkk with hkk | hkk
     ·exact absurd (hsep x g r hx hg hk hkk) hxg
     ·exact absurd ((hm x hx).mine.lt hk) (by omega)
    ·obtain ⟨o1,h1⟩:=hk;obtain ⟨o2,h2⟩:=hkk;rw [(hm x hx).apart r o1 h1] at h2;cases h2
 ·obtain ⟨op,ho,hox⟩:=touch_of ha;rcases getElem?_append_cases ho with ⟨hi,ho'⟩ | ⟨hi,hou⟩
  ·exact (h.shared i a r (by rw [touchAt_of ho'];exact hox) hr hw hk x hx).app _
  ·obtain ⟨r',hr',hkk⟩:=htouch op hou a hox;obtain rfl:r=r':=by rw [hr] at hr';exact Option.some.inj hr'
   rcases hkk with ⟨o1,h1⟩ | ⟨hkw,_⟩
   ·obtain ⟨o2,h2⟩:=hk;rw [ht.holds.apart r o1 h1] at h2;cases h2
   ·rw [hkw] at hw;cases hw
 ·obtain ⟨op,ho,hox⟩:=touch_of ha;rcases getElem?_append_cases ho with ⟨hi,ho'⟩ | ⟨hi,hou⟩
  ·rcases h.known i a (by rw [touchAt_of ho'];exact hox) hmem with hk | ⟨x,hx0,hx,hxg⟩
   ·exact .inl (hk.app _)
   ·exact .inr ⟨x,hx0,hx,by rw [g?_old hi];exact hxg⟩
  ·by_cases hg0:g=0
   ·subst hg0;have:=knows_own ho;rw [hu op hou] at this;exact .inl this
   ·exact .inr ⟨g,hg0,hg,by simp [Trace.g?,ho,hu op hou]⟩
 ·by_cases hxg:x=g
  ·subst hxg;rw [Deaf_own,deafBehind_still fun e he=>(ht.evs e he).calm];exact h.hears x hx
  ·rw [Deaf_other t (g:=x) (g':=g) (Ne.symm hxg) _ hu];exact h.hears x hx
 ·rcases Array.mem_append.1 hop with hop | hop
  ·exact MemAct.low_mono ht.size (h.seen op hop)
  ·obtain ⟨e,he,rfl⟩:=Go.Conc.mem_ofEvents hop;exact (ht.evs e he).low (fun r hr=>ht.holds.mine.lt hr) fun r hr=>ht.holds.shared.lt hr
theorem FT.push {y:MemOp} (h:FT t B Act own ro) (hn:y.act.touch? = none) (hc:y.act≠.mark .disable/\y.act≠.mark .enable) (hl:y.act.low B):FT (t ++ #[y]) B Act own ro:=by
 have hold:∀ i a,touchAt (t ++ #[y]) i=some a->touchAt t i=some a/\i < t.size:=fun i a ha=>by
  obtain ⟨op,ho,hox⟩:=touch_of ha;rcases getElem?_append_cases ho with ⟨hi,ho'⟩ | ⟨hi,hou⟩
  ·exact ⟨by rw [touchAt_of ho'];exact hox,hi⟩
  ·simp only [List.mem_toArray,List.mem_singleton] at hou;subst hou;rw [hn] at hox;cases hox
 have h1:∀ op∈(#[y]:Array MemOp),op=y:=fun op hop=>by simpa using hop
 refine ⟨fun said=>noRace_append (g:=y.g) (h.clean said) (fun op hop=>by rw [h1 op hop]) (fun i a ha op hop b hb hc=>(by rw [h1 op hop,hn] at hb;cases hb)),
  fun i a r ha hr g hg hk=>(h.mine i a r (hold i a ha).1 hr g hg hk).app _,fun i a r ha hr hw hk g hg=>(h.shared i a r (hold i a ha).1 hr hw hk g hg).app _,fun i a ha hm=>?_,fun g hg=>?_,fun op hop=>?_⟩
 ·obtain ⟨ha',hi⟩:=hold i a ha;rcases h.known i a ha' hm with hk | ⟨g,h0,hg,hgi⟩
  ·exact .inl (hk.app _)
  ·exact .inr ⟨g,h0,hg,by rw [g?_old hi];exact hgi⟩
 ·rw [Deaf_push,h.hears g hg];unfold deafStep;split
  ·exact absurd (by assumption) hc.1
  ·exact absurd (by assumption) hc.2
  ·rfl
 ·rcases Array.mem_append.1 hop with hop | hop
  ·exact h.seen op hop
  ·simp at hop;subst hop;exact hl
def Calm (y:MemOp):Prop:=y.act.touch? = none/\y.act≠.mark .disable/\y.act≠.mark .enable
theorem FT.pushes (h:FT t B Act own ro):∀ (u:List MemOp),(∀ y∈u,Calm y/\y.act.low B)->FT (t ++ u.toArray) B Act own ro:=by
 intro u
 induction u generalizing t with
 | nil=>intro _;simpa using h
 | cons y u ih =>
  intro hu;have e:t ++ (y::u).toArray=(t ++ #[y]) ++ u.toArray:=by rw [List.toArray_cons,Array.append_assoc]
  rw [e];obtain ⟨⟨h1,h2,h3⟩,h4⟩:=hu y (List.mem_cons_self ..);exact ih (h.push h1 ⟨h2,h3⟩ h4) fun z hz=>hu z (List.mem_cons_of_mem _ hz)
theorem deaf_calm (g:Nat):∀ (u:List MemOp),(∀ y∈u,Calm y)->Deaf (t ++ u.toArray) g=Deaf t g:=by
 intro u hu;rw [Deaf_append]
 induction u generalizing t with
 | nil=>rfl
 | cons y u ih =>
  simp only [List.foldl_cons];have:deafStep g (Deaf t g) y=Deaf t g:=by
   obtain ⟨_,h2,h3⟩:=hu y (List.mem_cons_self ..);unfold deafStep;split
   ·exact absurd (by assumption) h2
   ·exact absurd (by assumption) h3
   ·rfl
  rw [this];exact ih fun z hz=>hu z (List.mem_cons_of_mem _ hz)
theorem heard_at {u:List MemOp} (hu:∀ y∈u,Calm y) {j:Nat} {y:MemOp} (hy:u[j]? = some y) (hd:Deaf t y.g=0):(t ++ u.toArray).heard (t.size+j):=by
 have hlt:j < u.length:=(List.getElem?_eq_some_iff.1 hy).1;refine ⟨y.g,?_,?_⟩
 ·simp [Trace.g?,Array.getElem?_append,hy]
 ·have e:t ++ u.toArray=(t ++ (u.take j).toArray) ++ (u.drop j).toArray:=by
   rw [Array.append_assoc];congr 1;simp
  have hs:(t ++ (u.take j).toArray).size=t.size+j:=by simp;omega
  rw [e,deaf_old (by omega),← hs];exact (deaf_calm y.g (u.take j) fun z hz=>hu z (List.mem_of_mem_take hz)).trans hd
theorem knows_over {u:List MemOp} (hu:∀ y∈u,Calm y) {j k c s:Nat} {x y:MemOp} (hx:u[j]? = some x) (hy:u[k]? = some y) (hxa:x.act=.send c s) (hya:y.act=.recvDone c s) (hdx:Deaf t x.g=0) (hdy:Deaf t y.g=0) {i:Nat} (hk:Knows t x.g i) :
 Knows (t ++ u.toArray) y.g i:=by
 have gx:(t ++ u.toArray)[t.size+j]? = some x:=by simp [Array.getElem?_append,hx]
 have gy:(t ++ u.toArray)[t.size+k]? = some y:=by simp [Array.getElem?_append,hy]
 have h1:HappensBefore (t ++ u.toArray) i (t.size+j):=hk.hb_new (by omega) gx rfl;have h2:HappensBefore (t ++ u.toArray) (t.size+j) (t.size+k) :=
  .single (.inr ⟨.handOver (c:=c) (k:=s) (by simp [Trace.act?,gx,hxa]) (by simp [Trace.act?,gy,hya]),heard_at hu hx hdx,heard_at hu hy hdy⟩)
 exact ⟨t.size+k,y,gy,rfl,.inr (h1.trans h2)⟩
theorem knows_fork {u:List MemOp} (hu:∀ y∈u,Calm y) {j k:Nat} {x y:MemOp} (hx:u[j]? = some x) (hy:u[k]? = some y) (hxa:x.act=.go y.g) (hya:y.act=.start) (hdx:Deaf t x.g=0) (hdy:Deaf t y.g=0) {i:Nat} (hk:Knows t x.g i) :
 Knows (t ++ u.toArray) y.g i:=by
 have gx:(t ++ u.toArray)[t.size+j]? = some x:=by simp [Array.getElem?_append,hx]
 have gy:(t ++ u.toArray)[t.size+k]? = some y:=by simp [Array.getElem?_append,hy]
 have h1:HappensBefore (t ++ u.toArray) i (t.size+j):=hk.hb_new (by omega) gx rfl;have h2:HappensBefore (t ++ u.toArray) (t.size+j) (t.size+k) :=
  .single (.inr ⟨.spawn (child:=y.g) (by simp [Trace.act?,gx,hxa]) (by simp [Trace.act?,gy,hya]) (by simp [Trace.g?,gy]),heard_at hu hx hdx,heard_at hu hy hdy⟩)
 exact ⟨t.size+k,y,gy,rfl,.inr (h1.trans h2)⟩
theorem old_touch {u:List MemOp} (hu:∀ y∈u,Calm y) {i:Nat} {a:Touch} (h:touchAt (t ++ u.toArray) i=some a):touchAt t i=some a/\i < t.size:=by
 obtain ⟨op,ho,hox⟩:=touch_of h;rcases getElem?_append_cases ho with ⟨hi,ho'⟩ | ⟨hi,hou⟩
 ·exact ⟨by rw [touchAt_of ho'];exact hox,hi⟩
 ·rw [(hu op (by simpa using hou)).1] at hox;cases hox
theorem FT.fork (h:FT t B Act own ro) (h0:Act 0) {n:Nat} (hnA:¬ Act n) (hd:Deaf t n=0) {H K:Hold} (hH:∀ r,keyOf H r->keyOf (own 0) r) (hK:∀ r,keyOf K r->keyOf (own 0) r) (f1 f2:FuncId) (p1 p2:String) :
 FT (t ++ ([{ g:=0,fn:=f1,pos:=p1,act:=.go n },{ g:=n,fn:=f2,pos:=p2,act:=.start }]:List MemOp).toArray) B (fun x=>Act x∨x=n) (upd (upd own 0 K) n H) ro:=by
 have hu:∀ y∈([{ g:=0,fn:=f1,pos:=p1,act:=.go n },{ g:=n,fn:=f2,pos:=p2,act:=.start }]:List MemOp),Calm y/\y.act.low B:=fun y hy=>by
  simp only [List.mem_cons,List.not_mem_nil,or_false] at hy;rcases hy with rfl | rfl <;> exact ⟨⟨rfl,by simp,by simp⟩,trivial⟩
 have hc:∀ y∈([{ g:=0,fn:=f1,pos:=p1,act:=.go n },{ g:=n,fn:=f2,pos:=p2,act:=.start }]:List MemOp),Calm y:=fun y hy=>(hu y hy).1;have base:=h.pushes _ hu;have fork:∀ i,Knows t 0 i->Knows (t ++ ([{ g:=0,fn:=f1,pos:=p1,act:=.go n },{ g:=n,fn:=f2,pos:=p2,act:=.start }]:List MemOp).toArray) n i:=fun i hk =>
  knows_fork hc (j:=0) (k:=1) rfl rfl rfl rfl (h.hears 0 h0) hd hk
 have hn0:n≠0:=fun e=>hnA (e ▸ h0);refine ⟨base.clean,fun i a r ha hr g hg hk=>?_,fun i a r ha hr hw hk g hg=>?_,fun i a ha hm=>?_,fun g hg=>?_,base.seen⟩
 ·by_cases hgn:g=n
  ·subst hgn;rw [upd_same] at hk;exact fork i (h.mine i a r (old_touch hc ha).1 hr 0 h0 (hH r hk))
  ·rw [upd_ne _ _ hgn] at hk;have hg':Act g:=hg.resolve_right hgn;by_cases hg0:g=0
   ·subst hg0;rw [upd_same] at hk;exact base.mine i a r ha hr 0 h0 (hK r hk)
   ·rw [upd_ne _ _ hg0] at hk;exact base.mine i a r ha hr g hg' hk
 ·by_cases hgn:g=n
  ·subst hgn;exact fork i (h.shared i a r (old_touch hc ha).1 hr hw hk 0 h0)
  ·exact base.shared i a r ha hr hw hk g (hg.resolve_right hgn)
 ·rcases base.known i a ha hm with hk | ⟨g,h1,h2,h3⟩
  ·exact .inl hk
  ·exact .inr ⟨g,h1,.inl h2,h3⟩
 ·by_cases hgn:g=n
  ·subst hgn;rw [deaf_calm g _ hc];exact hd
  ·exact base.hears g (hg.resolve_right hgn)
theorem FT.retire (h:FT t B Act own ro) {j:Nat} (hk:∀ i a,touchAt t i=some a->t.g? i=some j->Knows t 0 i):FT t B (fun x=>Act x/\x≠j) own ro:=by
 refine ⟨h.clean,fun i a r ha hr g hg=>h.mine i a r ha hr g hg.1,fun i a r ha hr hw hr2 g hg=>h.shared i a r ha hr hw hr2 g hg.1,fun i a ha hm=>?_,fun g hg=>h.hears g hg.1,h.seen⟩;rcases h.known i a ha hm with hk' | ⟨g,h1,h2,h3⟩
 ·exact .inl hk'
 ·by_cases hgj:g=j
  ·subst hgj;exact .inl (hk i a ha h3)
  ·exact .inr ⟨g,h1,⟨h2,hgj⟩,h3⟩
theorem FT.past (h:FT t B Act own ro) (h0:Act 0) (hA:∀ g,Act g->g=0):Past NS B t:=by
 have hk:∀ i a,touchAt t i=some a->a.loc.isMemory=true->Knows t 0 i:=fun i a ha hm=>(h.known i a ha hm).elim id fun ⟨g,h1,h2,_⟩=>absurd (hA g h2) h1;refine ⟨h.clean,fun i a ha hm=>.inl (hk i a ha hm),fun i g hg hne hc=>?_,h.hears 0 h0,h.seen⟩;obtain ⟨x,hx,hm,_⟩:=hc;obtain ⟨q,z,hz,hzg,hb⟩:=hk i x hx hm;rcases hb with rfl | hb
 ·simp [Trace.g?,hz,hzg] at hg;exact absurd hg.symm hne
 ·exact ⟨q,by simp [Trace.g?,hz,hzg],hb⟩
theorem FT.of_past (h:Past NS B t) (own:Nat->Hold) (ro:Hold):FT t B (·=0) own ro:=by
 have hk:∀ i a,touchAt t i=some a->a.loc.isMemory=true->Knows t 0 i:=fun i a ha hm=>(h.known i a ha hm).elim id fun x=>x.1.elim;exact ⟨h.clean,fun i a r ha hr g hg _=>hg ▸ hk i a ha (block_mem hr),fun i a r ha hr _ _ g hg=>hg ▸ hk i a ha (block_mem hr),fun i a ha hm=>.inl (hk i a ha hm),fun g hg=>hg ▸ h.hears,h.seen⟩
end
end Go.Proofs.YtjdmplhdebgbjaaGreatDoor.Mt

