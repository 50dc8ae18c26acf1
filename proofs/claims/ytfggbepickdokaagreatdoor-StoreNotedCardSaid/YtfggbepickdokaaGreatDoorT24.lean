/- Leads to the Store laws of chapter 6: Seg End Loc Ops Sel. -/
import Derived.Test.YtfggbepickdokaaGreatDoorT23
import Derived.Conc.CrowdSel
set_option maxHeartbeats 200000
set_option maxRecDepth 100000
set_option linter.all false
namespace Go.Proofs.YtfggbepickdokaaGreatDoor.Mt
open Go Go.Conc
open Go.ConcN (sumTo upd sumTo_upd upd_ne upd_same)
def muteObj (o:Obj):Obj:=if bad o then .coro none else o
def muted (w:World):World:={ w with heap:=w.heap.map muteObj }
def muteOf (w:World):Mute:=⟨fun r=>∃ o,w.heap[r]? = some o∧bad o=true,fun r=>w.heap[r]?⟩
theorem muted_like (P:Program) (w:World):Like P (muteOf w) w (muted w):=by
 refine ⟨⟨rfl,rfl,0,rfl,rfl⟩,rfl,rfl,by simp [muted],fun r hr=>?_,fun r hr=>?_,fun r o ho=>?_⟩
 ·show (w.heap.map muteObj)[r]? = w.heap[r]?
  rw [Array.getElem?_map]
  cases hc:w.heap[r]? with
  | none=>rfl
  | some o =>
   have:bad o=false:=by
    cases hb:bad o with
    | false=>rfl
    | true=>exact absurd ⟨o,hc,hb⟩ hr
   simp [muteObj,this]
 ·obtain ⟨o,ho,hb⟩:=hr
  refine ⟨⟨o,ho,hb,ho⟩,?_⟩
  show (w.heap.map muteObj)[r]? = _
  rw [Array.getElem?_map,ho]
  simp [muteObj,hb]
 ·have ho:(w.heap.map muteObj)[r]? = some o:=ho
  rw [Array.getElem?_map] at ho
  obtain ⟨o',ho',rfl⟩:=Option.map_eq_some_iff.1 ho
  unfold muteObj
  split
  ·trivial
  ·rename_i hb
   cases o' <;> first | trivial | exact absurd rfl hb
section
variable {P:Program} {b:Frame} {a:Act} {w w':World} {k:List Item} {cs:List Frame} {S:Mute}
def MarksOnly (ds:List Deferred):Prop:=∀ d∈ds,∃ r,d.target=.collected r
theorem wp_leads (hP:ProgOk P) {c:Code} (hl:Like P S w w') (hc:codeOk P c=true) (hb:b.kind=.normal) (hd:MarksOnly a.defers) {Z:Act→World→Prop}
 (h:∀ t,c.wp P (fun e a' w2=>e=.normal∧∃ t d,Z a' (w2.on t d)) a (w'.on t 0)) :
 Leads P (fun fr' cs' w1=>∃ a' w1',fr'=b.at a' k∧cs'=cs∧Like P S w1 w1'∧∃ t d,Z a' (w1'.on t d)) (b.at a (.code c::k)) cs w:=by
 have hst:StackOk P (b.at a [.code c]) []:=⟨⟨fun it hit=>by
  simp only [Frame.at,List.mem_singleton] at hit
  subst hit
  exact hc,hb,hd⟩,fun _ x=>(by cases x),fun _ x=>(by cases x),rfl⟩
 have hbar:=bar_of_reach (seg:=true) (kb:=k) (cs:=cs) (Z:=fun fr w1=>∃ a' w1',fr=b.at a' []∧Like P S w1 w1'∧∃ t d,Z a' (w1'.on t d)) (Z0:=fun fr w2=>∃ a',fr=b.at a' []∧∃ t d,Z a' (w2.on t d)) hP (fun x=>by cases x)
  (fun fr w1 w1' hl1 ⟨t,d,a',e,t2,d2,hz⟩=>⟨a',w1',e,hl1,t2,d2,hz⟩) hst hl fun t=>by
    obtain ⟨e,a',w2,⟨rfl,hz⟩,n,hn⟩:=h t b [] [bottom]
    exact ⟨n,b.at a' [],w2,hn,⟨rfl,rfl⟩,a',rfl,hz⟩
 refine (hbar.leads).mono fun fr' cs' w1 ⟨fr2,e1,e2,_,a',w1',e3,hl1,hz⟩=>⟨a',w1',?_,e2,hl1,hz⟩
 rw [e1,e3]
 rfl
theorem calls_leads (hP:ProgOk P) {f:FuncId} {args:Array Value} {c:Frame} (hl:Like P S w w') {Z:Value→World→Prop}
 (h:∀ t,Calls P f args (w'.on t 0) fun e w2=>∃ v,e=.returned v∧∃ t d,Z v (w2.on t d)) :
 Leads P (fun fr' cs' w1=>∃ v w1',fr'=c.finish v∧cs'=cs∧Like P S w1 w1'∧∃ t d,Z v (w1'.on t d)) (Frame.enter P f args .normal) (c::cs) w:=by
 have hst:StackOk P (Frame.enter P f args .normal) []:=⟨enter_ok hP f args,fun _ x=>(by cases x),fun _ x=>(by cases x),rfl⟩
 have hbar:=bar_of_reach (seg:=false) (kb:=[]) (cs:=c::cs) (Z:=fun fr w1=>∃ v w1',Like P S w1 w1'∧fr.kind=.normal∧fr.mode=.returning∧fr.defers=[]∧(∃ fn t d,P.funcs[fr.fn]? = some fn∧(results fn fr.tmps).run P (w1'.on t d)=.ok v (w1'.on t d))∧∃ t d,Z v (w1'.on t d))
  (Z0:=fun fr w2=>∃ v,fr.kind=.normal∧fr.mode=.returning∧fr.defers=[]∧(∃ fn,P.funcs[fr.fn]? = some fn∧∃ t d,(results fn fr.tmps).run P (w2.on t d)=.ok v (w2.on t d))∧∃ t d,Z v (w2.on t d)) hP (fun _=>rfl)
  (fun fr w1 w1' hl1 ⟨t,d,v,h1,h2,h3,⟨fn,h4,t4,d4,h5⟩,t2,d2,hz⟩=>⟨v,w1',hl1,h1,h2,h3,⟨fn,t4,d4,h4,h5⟩,t2,d2,hz⟩) hst hl fun t=>by
    obtain ⟨e,w2,fr2,⟨v,rfl,hz⟩,⟨n,hn⟩,_,h1,h2,h3,fn,h4,h5⟩:=h t [bottom]
    exact ⟨n,fr2,w2,hn,(show fr2.mode≠.run∧fr2.defers=[] from ⟨by rw [h1];simp,h2⟩),v,h3,h1,h2,⟨fn,h4,w2.tape,w2.drawn,h5⟩,hz⟩
 have hL:=hbar.leads
 simp only [kOf,ups,upF_nil,List.nil_append] at hL
 refine hL.trans fun fr' cs' w1 ⟨fr2,e1,e2,_,v,w1',hl1,hk,hm,hdf,⟨fn,t,d,hf,hr⟩,hz⟩=>?_
 subst e1 e2
 refine .step fun d1=>?_
 rcases sem_mirror (φ:=fun _=>True) tm_results (hl1.sim ⟨d,w1.tape,t,d1,d,fun j q hj=>by omega⟩) (by rw [Sem.runT_fst,hr];exact Nat.le_refl _) with ⟨v',w2,w2',evs,q1,q2,hev,hsim,hle,_⟩ | ⟨v',w2,w2',evs,q1,_⟩ | ⟨x,w2',q1,_⟩
 ·rw [Sem.runT_fst,hr] at q1
  cases q1
  refine ⟨c.finish v,cs,w2,seen P fr'.fn evs ++ #[],?_,fun e he=>hev e (seen_mem (by simpa using he)),hle,.done ⟨v,w1',rfl,rfl,?_,hz⟩⟩
  ·obtain ⟨fn0,tmps,td,dfs,md,kd,ro⟩:=fr'
   simp only at hk hm hdf hf
   subst hk hm hdf
   show unwind P true ⟨fn0,tmps,td,[],.returning,.normal,ro⟩ (c::cs) none (w1.at d1)=_
   unfold unwind
   simp only [hf]
   rw [show (results fn tmps).runT P (w1.at d1) #[]=(.ok v w2,evs) from q2]
   rfl
  ·have:=hsim.like
   exact ⟨⟨rfl,rfl,0,rfl,rfl⟩,this.os,this.output,this.size,this.block,this.mute,this.heapOk⟩
 ·rw [Sem.runT_fst,hr] at q1;cases q1
 ·rw [Sem.runT_fst,hr] at q1;cases q1
theorem leads_go {K:Frame→List Frame→World→Prop} {fr fr1:Frame} {cs1:List Frame} (h:∀ d,stepG P true (G fr cs) (w.at d)=.go (G fr1 cs1) (w.at d)) (hk:∀ d,Leads P K fr1 cs1 (w.at d)):Leads P K fr cs w :=
 .step fun d=>⟨fr1,cs1,w.at d,#[],h d,by simp,Nat.le_refl _,hk d⟩
theorem leads_seq {K:Frame→List Frame→World→Prop} {x y:Code} (h:∀ d,Leads P K (b.at a (.code x::.code y::k)) cs (w.at d)):Leads P K (b.at a (.code (.seq x y)::k)) cs w:=leads_go (fun d=>rfl) h
theorem leads_skip {K:Frame→List Frame→World→Prop} (h:∀ d,Leads P K (b.at a k) cs (w.at d)):Leads P K (b.at a (.code .skip::k)) cs w:=leads_go (fun d=>rfl) h
theorem leads_block {K:Frame→List Frame→World→Prop} {id:Nat} {x:Code} (h:∀ d,Leads P K (b.at a (.code x::.inBlock id::k)) cs (w.at d)):Leads P K (b.at a (.code (.block id x)::k)) cs w:=leads_go (fun d=>rfl) h
theorem leads_cond {K:Frame→List Frame→World→Prop} {x:Operand} {y z:Code} {t:Bool} (hx:a.eval x=.bool t) (h:∀ d,Leads P K (b.at a (.code (if t then y else z)::k)) cs (w.at d)):Leads P K (b.at a (.code (.cond x y z)::k)) cs w :=
 leads_go (fun d=>by
  have:=Frame.eval_at b a (.code (.cond x y z)::k) x
  simp only [Frame.at] at this
  simp [G,stepG,stepG.exec,Frame.at,this,hx]) h
theorem leads_ret {K:Frame→List Frame→World→Prop} (h:∀ d,Leads P K { b.at a (.code .ret::k) with mode:=.returning } cs (w.at d)):Leads P K (b.at a (.code .ret::k)) cs w:=leads_go (fun d=>rfl) h
end
end Go.Proofs.YtfggbepickdokaaGreatDoor.Mt
namespace Go.Proofs.YtfggbepickdokaaGreatDoor.Mt
open Go Go.Conc
section
variable {P:Program}
def Leaving0 (P:Program) (Post:Value→World→Prop) (fr:Frame) (cs:List Frame) (w:World):Prop :=
 cs=[]∧fr.mode=.returning∧fr.kind=.normal∧fr.defers=[]∧P.inits.idxOf? fr.fn=none ∧
  ∃ v fn,P.funcs[fr.fn]? = some fn∧∀ d,Post v (w.at d)∧∃ es,(results fn fr.tmps).runT P (w.at d) #[]=(.ok v (w.at d),es)∧∀ e∈es,EvOk w.heap.size e
theorem runN_trans {m1:Machine} {r:Stepped}:∀ {a b:Nat} {m:Machine},runN P a m=.next m1→runN P b m1=r→runN P (a+b) m=r
 | 0,b,m,h,h2=>by
  simp only [runN] at h
  cases h
  rw [Nat.zero_add];exact h2
 | a+1,b,m,h,h2=>by
  rw [show a+1+b=(a+b)+1 by omega]
  simp only [runN] at h ⊢
  cases hs:step P m with
  | next m2=>rw [hs] at h;exact runN_trans (a:=a) h h2
  | ended o w=>rw [hs] at h;cases h
theorem ends_good {Post:Value→World→Prop} {f:FuncId} {args:Array Value} {W:World} (h:Leads P (Leaving0 P Post) (Frame.enter P f args .normal) [] W) :
 ∃ M last o w' t',runNT P (M+1) (solo (G (Frame.enter P f args .normal) []) W) #[]=(.ended o w',t')∧runN P M (solo (G (Frame.enter P f args .normal) []) W)=.next last∧step P last=.ended o w'∧Good P Post last o w' t':=by
 obtain ⟨N,gs,w,sl,t,q,fr,cs,hr,hc,rfl,hm,hk,hdf,hi,v,fn,hf,hd⟩:=h #[G (Frame.enter P f args .normal) []] none #[] (fun _=>0)
  ⟨rfl,leavers_one P _,past_nil.mono (Nat.zero_le _)⟩
 have hG:Goes P true AtRel (fun _ _ _=>False) (AtEnd P NS w.heap.size Post) 0 (G fr []) w:=by
  rintro w1 ⟨d,rfl⟩
  obtain ⟨hp,es,hr2,hev⟩:=hd d
  refine ⟨rfl,v,seen P fr.fn es ++ #[],?_,fun e he=>(hev e (seen_mem (by simpa using he))).evL,hp⟩
  obtain ⟨fn0,tmps,td,dfs,md,kd,ro⟩:=fr
  simp only at hk hm hdf hf hi hr2
  subst hk hm hdf
  show unwind P true ⟨fn0,tmps,td,[],.returning,.normal,ro⟩ [] none (w.at d)=_
  unfold unwind
  simp only [hf]
  rw [hr2]
  simp only [doReturn,hi]
  rfl
 obtain ⟨N2,last,o,w',t',h1,h2,h3,h4⟩:=beside_ends (sl:=sl) (fun _ _ _ x=>x.elim) hc.at0 hc.leav hc.past hG
 refine ⟨N+N2,last,o,w',t',?_,?_,h3,h4⟩
 ·rw [Nat.add_assoc]
  exact runNT_trans hr h1
 ·refine runN_trans ?_ h2
  rw [← runNT_fst P N _ #[]]
  exact congrArg Prod.fst hr
end
abbrev Hold:=Nat→Option Obj
def Holds (w:World) (F:Hold):Prop:=∀ r o,F r=some o→w.heap[r]? = some o
def keyOf (F:Hold) (r:Nat):Prop:=∃ o,F r=some o
def Hold.set (F:Hold) (r:Nat) (o:Obj):Hold:=fun x=>if x=r then some o else F x
theorem Hold.set_same (F:Hold) (r:Nat) (o:Obj):F.set r o r=some o:=by simp [Hold.set]
theorem Hold.set_ne (F:Hold) {r x:Nat} (o:Obj) (h:x≠r):F.set r o x=F x:=by simp [Hold.set,h]
structure Meets (w:World) (own ro:Hold):Prop where
 mine:Holds w own
 shared:Holds w ro
 apart:∀ r o,own r=some o→ro r=none
theorem Holds.lt {w:World} {F:Hold} (h:Holds w F) {r:Nat} (hr:keyOf F r):r < w.heap.size:=by
 obtain ⟨o,hx⟩:=hr
 exact (Array.getElem?_eq_some_iff.1 (h r o hx)).1
def EvOwn (own ro:Hold) (e:Event):Prop :=
 match e.loc with
 | .cell a=>e.sync=false∧(keyOf own a.block∨(e.write=false∧keyOf ro a.block))
 | .mark m=>m=.noRoom∨∃ f,m=.extern f
 | _=>False
structure Turn (ro own own':Hold) (w w':World) (es:Array Event):Prop where
 holds:Meets w' own' ro
 size:w.heap.size≤w'.heap.size
 kept:∀ r,r < w.heap.size→¬ keyOf own r→w'.heap[r]? = w.heap[r]?
 rest:w'.os=w.os∧w'.tape=w.tape∧w'.output=w.output
 keys:∀ r,keyOf own' r→keyOf own r∨w.heap.size≤r
 evs:∀ e∈es,EvOwn own' ro e
theorem Turn.idle {ro own:Hold} {w:World} (h:Meets w own ro):Turn ro own own w w #[] :=
 ⟨h,Nat.le_refl _,fun _ _ _=>rfl,⟨rfl,rfl,rfl⟩,fun _ h=>.inl h,by simp⟩
def Walk (P:Program) (main:Bool) (ro:Hold) (Stop:Goroutine→Hold→Prop):Nat→Goroutine→Hold→Prop
 | 0,g,own=>Stop g own
 | n+1,g,own=>Stop g own∨(g.status=.running∧∀ w,Meets w own ro→∃ g' w' es own',stepG P main g w=.go g' w' es∧Turn ro own own' w w' es∧Walk P main ro Stop n g' own')
section
variable {P:Program} {main:Bool} {ro:Hold} {Stop:Goroutine→Hold→Prop}
theorem Walk.more {n:Nat} {g:Goroutine} {own:Hold} (h:Walk P main ro Stop n g own):Walk P main ro Stop (n+1) g own:=by
 induction n generalizing g own with
 | zero=>exact .inl h
 | succ n ih =>
  rcases h with h | ⟨hr,h⟩
  ·exact .inl h
  ·refine .inr ⟨hr,fun w hw=>?_⟩
   obtain ⟨g',w',es,own',h1,h2,h3⟩:=h w hw
   exact ⟨g',w',es,own',h1,h2,ih h3⟩
theorem Walk.mono {n n':Nat} {g:Goroutine} {own:Hold} (h:Walk P main ro Stop n g own) (hn:n≤n'):Walk P main ro Stop n' g own:=by
 induction hn with
 | refl=>exact h
 | step _ ih=>exact ih.more
theorem Walk.ctl {n:Nat} {fr fr':Frame} {cs cs':List Frame} {own:Hold} (h:∀ w,stepG P main (G fr cs) w=.go (G fr' cs') w) (hk:Walk P main ro Stop n (G fr' cs') own):Walk P main ro Stop (n+1) (G fr cs) own :=
 .inr ⟨rfl,fun w hw=>⟨_,w,#[],own,h w,.idle hw,hk⟩⟩
def AfterW (P:Program) (main:Bool) (ro:Hold) (Stop:Goroutine→Hold→Prop) (m:Nat) (b:Frame) (k:List Item) (cs:List Frame):Exit→Act→Hold→Prop
 | .normal,a,own=>Walk P main ro Stop m (G (b.at a k) cs) own
 | .exit id,a,own=>∃ k',exitTo id k=some k'∧Walk P main ro Stop m (G (b.at a k') cs) own
 | _,_,_=>False
theorem AfterW.mono {m m':Nat} {b:Frame} {k:List Item} {cs:List Frame} {e:Exit} {a:Act} {own:Hold} (h:AfterW P main ro Stop m b k cs e a own) (hm:m≤m'):AfterW P main ro Stop m' b k cs e a own:=by
 cases e with
 | normal=>exact Walk.mono h hm
 | exit id=>obtain ⟨k',hk,hg⟩:=h;exact ⟨k',hk,hg.mono hm⟩
 | _=>exact h
theorem AfterW.push {m:Nat} {b:Frame} {x:Item} {k:List Item} {cs:List Frame} {e:Exit} {a:Act} {own:Hold} (hx:x.plain=true) (he:e≠.normal)
 (h:AfterW P main ro Stop m b k cs e a own):AfterW P main ro Stop m b (x::k) cs e a own:=by
 cases e with
 | normal=>exact absurd rfl he
 | exit id=>obtain ⟨k',hk,hg⟩:=h;exact ⟨k',by cases x <;> simp_all [exitTo,Item.plain],hg⟩
 | _=>exact h
end
def WC (P:Program) (main:Bool) (ro:Hold) (c:Code) (n:Nat) (Q:Exit→Act→Hold→Prop) (a:Act) (own:Hold):Prop :=
 ∀ (b:Frame) (k:List Item) (cs:List Frame) (Stop:Goroutine→Hold→Prop) (m:Nat),b.kind≠.early→(∀ e a' own',Q e a' own'→AfterW P main ro Stop m b k cs e a' own')→Walk P main ro Stop (m+n) (G (b.at a (.code c::k)) cs) own
def WO (P:Program) (main:Bool) (ro:Hold) (ops:Array Oper) (todo:List Nat) (n:Nat) (Q:Act→Hold→Prop) (a:Act) (own:Hold):Prop :=
 ∀ (b:Frame) (k:List Item) (cs:List Frame) (Stop:Goroutine→Hold→Prop) (m:Nat),b.kind≠.early→(∀ a' own',Q a' own'→Walk P main ro Stop m (G (b.at a' k) cs) own')→Walk P main ro Stop (m+n) (G (b.at a (.inRegion ops todo::k)) cs) own
section
variable {P:Program} {main:Bool} {ro own:Hold} {Q:Exit→Act→Hold→Prop} {a:Act}
theorem wc_more {c:Code} {n n':Nat} (h:WC P main ro c n Q a own) (hn:n≤n'):WC P main ro c n' Q a own:=fun b k cs Stop m hb hk=>(h b k cs Stop m hb hk).mono (by omega)
theorem wc_mono {c:Code} {n:Nat} {Q':Exit→Act→Hold→Prop} (h:WC P main ro c n Q a own) (hq:∀ e a own,Q e a own→Q' e a own):WC P main ro c n Q' a own :=
 fun b k cs Stop m hb hk=>h b k cs Stop m hb fun e a' o q=>hk e a' o (hq e a' o q)
theorem wc_skip (h:Q .normal a own):WC P main ro .skip 1 Q a own:=fun b k cs Stop m hb hk=>Walk.ctl (fun w=>stepG_skip) (hk _ _ _ h)
theorem wc_exit {id:Nat} (h:Q (.exit id) a own):WC P main ro (.exit id) 1 Q a own:=fun b k cs Stop m hb hk=>by
 obtain ⟨k',h1,h2⟩:=hk _ _ _ h
 exact Walk.ctl (fun w=>stepG_exit h1) h2
def ThenW (next:Act→Hold→Prop) (Q:Exit→Act→Hold→Prop):Exit→Act→Hold→Prop
 | .normal,a,own=>next a own
 | e,a,own=>Q e a own
theorem wc_seq {x y:Code} {n1 n2:Nat} (h:WC P main ro x n1 (ThenW (fun a' o'=>WC P main ro y n2 Q a' o') Q) a own):WC P main ro (.seq x y) (n1+n2+1) Q a own:=by
 intro b k cs Stop m hb hk
 have hx:Walk P main ro Stop (m+n2+n1) (G (b.at a (.code x::.code y::k)) cs) own:=by
  refine h b (.code y::k) cs Stop (m+n2) hb fun e a' o' q=>?_
  cases e with
  | normal=>exact q b k cs Stop m hb hk
  | exit id=>exact ((hk _ _ _ q).mono (Nat.le_add_right _ _)).push rfl (by simp)
  | ret=>exact hk _ _ _ q
  | goto l=>exact hk _ _ _ q
  | panic ch=>exact hk _ _ _ q
  | outgrown=>exact hk _ _ _ q
 rw [show m+(n1+n2+1)=(m+n2+n1)+1 by omega]
 exact Walk.ctl (fun w=>stepG_seq) hx
theorem wc_cond {c:Operand} {x y:Code} {t:Bool} {n:Nat} (hc:a.eval c=.bool t) (h:WC P main ro (if t then x else y) n Q a own):WC P main ro (.cond c x y) (n+1) Q a own :=
 fun b k cs Stop m hb hk=>Walk.ctl (fun w=>stepG_cond hc) (h b k cs Stop m hb hk)
def BlockW (id:Nat) (Q:Exit→Act→Hold→Prop):Exit→Act→Hold→Prop
 | .exit id',a,own=>if id'=id then Q .normal a own else Q (.exit id') a own
 | e,a,own=>Q e a own
theorem wc_block {id:Nat} {c:Code} {n:Nat} (h:WC P main ro c n (BlockW id Q) a own):WC P main ro (.block id c) (n+2) Q a own:=by
 intro b k cs Stop m hb hk
 have hx:Walk P main ro Stop (m+1+n) (G (b.at a (.code c::.inBlock id::k)) cs) own:=by
  refine h b (.inBlock id::k) cs Stop (m+1) hb fun e a' o' q=>?_
  cases e with
  | normal=>exact Walk.ctl (fun w=>stepG_inBlock) (hk _ _ _ q)
  | exit id' =>
   by_cases hid:id'=id
   ·simp only [BlockW,hid,if_true] at q
    exact ⟨k,by simp [exitTo,hid],Walk.more (hk _ _ _ q)⟩
   ·simp only [BlockW,hid,if_false] at q
    obtain ⟨k',hk',hg⟩:=hk _ _ _ q
    have:(id == id')=false:=by simp;exact fun h=>hid h.symm
    exact ⟨k',by simp [exitTo,this,hk'],hg.more⟩
  | _=>exact hk _ _ _ q
 rw [show m+(n+2)=(m+1+n)+1 by omega]
 exact Walk.ctl (fun w=>stepG_block) hx
theorem wc_loop {c:Code} (I:Nat→Act→Hold→Prop) (r N:Nat) (h0:I N a own)
 (round:∀ n a own,I n a own→WC P main ro c r (ThenW (fun a' o'=>∃ n',n=n'+1∧I n' a' o') Q) a own):WC P main ro (.loop c) ((N+1) * (r+1)+1) Q a own:=by
 intro b k cs Stop m hb hk
 have key:∀ N a own,I N a own→Walk P main ro Stop (m+(N+1) * (r+1)) (G (b.at a (.code c::.inLoop c::k)) cs) own:=by
  intro N
  induction N with
  | zero =>
   intro a own hI
   have:=round 0 a own hI b (.inLoop c::k) cs Stop (m+1) hb fun e a' o' q=>by
    cases e with
    | normal=>obtain ⟨n',h,_⟩:=q;omega
    | exit id=>exact ((hk _ _ _ q).mono (by omega)).push rfl (by simp)
    | _=>exact hk _ _ _ q
   exact this.mono (by simp;omega)
  | succ N ih =>
   intro a own hI
   have:=round (N+1) a own hI b (.inLoop c::k) cs Stop (m+(N+1) * (r+1)+1) hb fun e a' o' q=>by
    cases e with
    | normal =>
     obtain ⟨n',h,hI'⟩:=q
     obtain rfl:N=n':=by omega
     exact Walk.ctl (fun w=>stepG_inLoop) (ih a' o' hI')
    | exit id=>exact ((hk _ _ _ q).mono (by omega)).push rfl (by simp)
    | _=>exact hk _ _ _ q
   refine this.mono ?_
   have:(N+1+1) * (r+1)=(N+1) * (r+1)+(r+1):=by rw [Nat.succ_mul]
   omega
 rw [show m+((N+1) * (r+1)+1)=(m+(N+1) * (r+1))+1 by omega]
 exact Walk.ctl (fun w=>stepG_loop) (key N a own h0)
theorem wc_region {id:Nat} {ops:Array Oper} {n:Nat} (h:WO P main ro ops (List.range ops.size) n (fun a' o'=>Q .normal a' o') a own):WC P main ro (.region id ops false) (n+1) Q a own :=
 fun b k cs Stop m hb hk=>Walk.ctl (fun w=>stepG_region) (h b k cs Stop m hb fun a' o' q=>hk _ _ _ q)
theorem wo_nil {Q:Act→Hold→Prop} {ops:Array Oper} (h:Q a own):WO P main ro ops [] 1 Q a own:=fun b k cs Stop m hb hk=>Walk.ctl (fun w=>stepG_region_end) (hk _ _ h)
theorem wo_cons {Q:Act→Hold→Prop} {ops:Array Oper} {i:Nat} {rest:List Nat} {o:Oper} {n:Nat} (ho:ops[i]? = some o) (hw:Region.wanted o (yielded ops a.tmps)=true)
 (h:∀ w,Meets w own ro→∃ v w' own',((execOp a.eval o).run P w=.ok (.value v) w'∨(v=undef∧(execOp a.eval o).run P w=.ok .skip w'))∧Turn ro own own' w w' ((execOp a.eval o).events P w #[])∧WO P main ro ops rest n Q (a.put o.dst v) own') :
 WO P main ro ops (i::rest) (n+1) Q a own:=by
 intro b k cs Stop m hb hk
 refine .inr ⟨rfl,fun w hH=>?_⟩
 obtain ⟨v,w',own',hr,ht,hn⟩:=h w hH
 refine ⟨G (b.at (a.put o.dst v) (.inRegion ops rest::k)) cs,w',listed P b.fn a o w,own',?_,⟨ht.holds,ht.size,ht.kept,ht.rest,ht.keys,fun e he=>ht.evs e (seen_mem he)⟩,hn b k cs Stop m hb hk⟩
 rcases hr with hr | ⟨rfl,hr⟩
 ·exact stepG_value ho hw hb hr
 ·exact stepG_none ho hw hb hr
end
section
variable {P:Program} {main:Bool} {ro own:Hold} {Q:Act→Hold→Prop} {a:Act} {ops:Array Oper} {i:Nat} {rest:List Nat} {o:Oper} {n:Nat}
end
section
variable {P:Program} {gs:Array Goroutine} {w w₁:World} {sl:Option (Nat × Nat)} {i:Nat} {g g₂:Goroutine} {es:Array Event} {c0 c1 s0 r0 s1 r1:Nat} {tm0 tm1:Bool} {z0 z1:Value}
theorem choose_lt (w:World) (q:Question) (n:Nat) (hq:q=.select n∨∃ s,q=.extern s n) (hn:0 < n):∃ a d,(choose q).run P w=.ok a (w.at d)∧a < n:=by
 by_cases hf:q.forced=true
 ·exact ⟨0,w.drawn,by simp [choose,Sem.run,hf,World.at],hn⟩
 ·refine ⟨q.cut (w.tape w.drawn q),w.drawn+1,by simp [choose,Sem.run,hf,World.at],?_⟩
  rcases hq with rfl | ⟨s,rfl⟩
  ·exact Nat.mod_lt _ hn
  ·simp only [Question.cut]
   rw [if_neg (by omega)]
   exact Nat.mod_lt _ hn
theorem pick_of (w:World) (R:List (Nat × CommCase × List Way)) (hR:R≠[]) (hne:∀ x∈R,x.2.2≠[]) :
 ∃ x∈R,∃ y∈x.2.2,∃ d,(do
  let a ← choose (.select R.length)
  let (k,c,ws):=R.getD a (0,default,[])
  let b ← choose (.extern "which waiting goroutine is the partner" ws.length)
  pure (k,c,ws.getD b .closed):Sem (Nat × CommCase × Way)).run P w=.ok (x.1,x.2.1,y) (w.at d):=by
 obtain ⟨a,d,h1,h2⟩:=choose_lt (P:=P) w (.select R.length) R.length (.inl rfl) (List.length_pos_iff.2 hR)
 have hx:R[a]∈R:=List.getElem_mem h2
 have hy:=List.length_pos_iff.2 (hne _ hx)
 obtain ⟨b,d2,h3,h4⟩:=choose_lt (P:=P) (w.at d) (.extern "which waiting goroutine is the partner" (R[a]).2.2.length) (R[a]).2.2.length (.inr ⟨_,rfl⟩) hy
 refine ⟨R[a],hx,(R[a]).2.2[b],List.getElem_mem h4,d2,?_⟩
 simp only [Sem.run_bind,h1,Result.andThen,List.getD_eq_getElem?_getD,List.getElem?_eq_getElem h2,Option.getD_some,h3,List.getElem?_eq_getElem h4]
 rfl
theorem sel2_meets (hi:gs[i]? = some g) (h:stepG P (i == 0) g w=.comm g₂ #[rcase c0 z0,rcase c1 z1] true .select w₁ es)
 (hc0:w₁.heap[c0]? = some (.chan 0 #[] false s0 r0 tm0)) (hc1:w₁.heap[c1]? = some (.chan 0 #[] false s1 r1 tm1))
 (hne:partners (gs.setIfInBounds i ph) c0 true≠[]∨partners (gs.setIfInBounds i ph) c1 true≠[])
 (hall:∀ c j k,(j,k)∈partners (gs.setIfInBounds i ph) c true→c=c0∨c=c1→k=0∧j≠i∧∃ gj vj zj shj,gs[j]? = some (parked gj #[scase c vj zj] shj)) :
 ∃ (kk:Nat) (c s r:Nat) (tm:Bool) (j:Nat) (gj:Goroutine) (vj zj:Value) (shj:CommShape) (d:Nat),((kk=0∧c=c0∧s=s0∧r=r0∧tm=tm0)∨(kk=1∧c=c1∧s=s1∧r=r1∧tm=tm1))∧j≠i∧gs[j]? = some (parked gj #[scase c vj zj] shj) ∧
  runT P (crowd gs w sl) i=(.next (crowd ((gs.setIfInBounds j (gj.finishComm P #[scase c vj zj] shj 0 undef false)).setIfInBounds i (g₂.finishComm P #[rcase c0 z0,rcase c1 z1] .select kk vj true)) ((w₁.at d).setChan c 0 #[] false (s+1) (r+1) tm) sl),
   MemOp.ofEvents i g.frame.fn g.frame.place es ++ #[{ g:=j,fn:=gj.frame.fn,pos:=gj.frame.place,act:=.send c s },{ g:=i,fn:=g₂.frame.fn,pos:=g₂.frame.place,act:=.recv c r 0 },
    { g:=j,fn:=gj.frame.fn,pos:=gj.frame.place,act:=.sendDone c s },{ g:=i,fn:=g₂.frame.fn,pos:=g₂.frame.place,act:=.recvDone c r }]):=by
 have hways:∀ c z s r tm,w₁.heap[c]? = some (.chan 0 #[] false s r tm)→ways w₁ (gs.setIfInBounds i ph) (rcase c z)=(partners (gs.setIfInBounds i ph) c true).map fun (h,k)=>Way.partner h k:=by
  intro c z s r tm hc
  simp only [ways,rcase,hc]
  cases partners (gs.setIfInBounds i ph) c true with
  | nil=>simp
  | cons p ps=>simp
 let R:List (Nat × CommCase × List Way):=(#[rcase c0 z0,rcase c1 z1].zipIdx.toList.map fun (c,k)=>(k,c,ways w₁ (gs.setIfInBounds i ph) c)).filter fun (_,_,ws)=>!ws.isEmpty
 have hmem:∀ x,x∈R↔(x=(0,rcase c0 z0,ways w₁ (gs.setIfInBounds i ph) (rcase c0 z0))∨x=(1,rcase c1 z1,ways w₁ (gs.setIfInBounds i ph) (rcase c1 z1)))∧x.2.2≠[]:=by
  intro x
  simp only [R,List.mem_filter,List.mem_map]
  constructor
  ·rintro ⟨⟨⟨c,k⟩,hm,rfl⟩,hx⟩
   refine ⟨?_,by simpa using hx⟩
   simp at hm
   rcases hm with ⟨rfl,rfl⟩ | ⟨rfl,rfl⟩
   ·exact .inl rfl
   ·exact .inr rfl
  ·rintro ⟨rfl | rfl,hx⟩
   ·exact ⟨⟨(rcase c0 z0,0),by simp,rfl⟩,by simpa using hx⟩
   ·exact ⟨⟨(rcase c1 z1,1),by simp,rfl⟩,by simpa using hx⟩
 have hR:R≠[]:=by
  rcases hne with hn | hn
  ·have:(0,rcase c0 z0,ways w₁ (gs.setIfInBounds i ph) (rcase c0 z0))∈R:=(hmem _).2 ⟨.inl rfl,by rw [hways c0 z0 _ _ _ hc0];simpa using hn⟩
   exact fun e=>by rw [e] at this;cases this
  ·have:(1,rcase c1 z1,ways w₁ (gs.setIfInBounds i ph) (rcase c1 z1))∈R:=(hmem _).2 ⟨.inr rfl,by rw [hways c1 z1 _ _ _ hc1];simpa using hn⟩
   exact fun e=>by rw [e] at this;cases this
 obtain ⟨x,hx,y,hy,d,hpick⟩:=pick_of (P:=P) w₁ R hR fun x hx=>((hmem x).1 hx).2
 have hRe:R.isEmpty=false:=by cases hq:R with
  | nil=>exact absurd hq hR
  | cons=>rfl
 have hill:(#[rcase c0 z0,rcase c1 z1]:Array CommCase).any (illMade w₁)=false:=any_ill fun cc hcc=>by
  simp at hcc
  rcases hcc with rfl | rfl
  ·exact made_recv z0 hc0
  ·exact made_recv z1 hc1
 have fin:∀ (kk c s r:Nat) (tm:Bool) (z:Value),w₁.heap[c]? = some (.chan 0 #[] false s r tm)→(c=c0∨c=c1)→x=(kk,rcase c z,ways w₁ (gs.setIfInBounds i ph) (rcase c z)) →
  ∃ j gj vj zj shj,j≠i∧gs[j]? = some (parked gj #[scase c vj zj] shj) ∧
  runT P (crowd gs w sl) i=(.next (crowd ((gs.setIfInBounds j (gj.finishComm P #[scase c vj zj] shj 0 undef false)).setIfInBounds i (g₂.finishComm P #[rcase c0 z0,rcase c1 z1] .select kk vj true)) ((w₁.at d).setChan c 0 #[] false (s+1) (r+1) tm) sl),
   MemOp.ofEvents i g.frame.fn g.frame.place es ++ #[{ g:=j,fn:=gj.frame.fn,pos:=gj.frame.place,act:=.send c s },{ g:=i,fn:=g₂.frame.fn,pos:=g₂.frame.place,act:=.recv c r 0 },
    { g:=j,fn:=gj.frame.fn,pos:=gj.frame.place,act:=.sendDone c s },{ g:=i,fn:=g₂.frame.fn,pos:=g₂.frame.place,act:=.recvDone c r }]):=by
  intro kk c s r tm z hc hcc hx2
  subst hx2
  simp only [hways c z s r tm hc,List.mem_map] at hy
  obtain ⟨⟨j,k⟩,hjk,rfl⟩:=hy
  obtain ⟨rfl,hij,gj,vj,zj,shj,hj⟩:=hall c j k hjk hcc
  refine ⟨j,gj,vj,zj,shj,hij,hj,?_⟩
  rw [runT_crowd_comm hi h]
  have hj':=stand_get (i:=i) hij hj
  have hfp:=finishPartner_at P (gs.setIfInBounds i ph) hj' (cs:=#[scase c vj zj]) (sh:=shj) rfl 0 undef
  have hgd:(gs.setIfInBounds i ph).getD j default=parked gj #[scase c vj zj] shj:=by rw [Array.getD_eq_getD_getElem?,hj'];rfl
  have hov:offeredValue (gs.setIfInBounds i ph) j 0=vj:=by simp [offeredValue,hj',parked,scase]
  have hc':(w₁.at d).heap[c]? = some (.chan 0 #[] false s r tm):=hc
  unfold communicate
  change ((if (#[rcase c0 z0,rcase c1 z1]:Array CommCase).any (illMade w₁)=true then _ else if R.isEmpty=true then _ else _:Stepped × Array MemOp).1,_ ++ (if (#[rcase c0 z0,rcase c1 z1]:Array CommCase).any (illMade w₁)=true then _ else if R.isEmpty=true then _ else _:Stepped × Array MemOp).2)=_
  rw [if_neg (by rw [hill];simp),if_neg (by rw [hRe];simp)]
  change (Prod.fst (match (do
   let a ← choose (.select R.length)
   let (k,c,ws):=R.getD a (0,default,[])
   let b ← choose (.extern "which waiting goroutine is the partner" ws.length)
   pure (k,c,ws.getD b .closed):Sem (Nat × CommCase × Way)).run P w₁ with | .halt _ w=>_ | .ok (k,c,way) w=>_),_ ++ Prod.snd (match (do
   let a ← choose (.select R.length)
   let (k,c,ws):=R.getD a (0,default,[])
   let b ← choose (.extern "which waiting goroutine is the partner" ws.length)
   pure (k,c,ws.getD b .closed):Sem (Nat × CommCase × Way)).run P w₁ with | .halt _ w=>_ | .ok (k,c,way) w=>_))=_
  rw [hpick]
  simp [rcase,hc',World.setChan,crowd,hfp,hgd,hov,set_stand2,scase,parked]
  rfl
 rcases ((hmem x).1 hx).1 with hx2 | hx2
 ·obtain ⟨j,gj,vj,zj,shj,h1,h2,h3⟩:=fin 0 c0 s0 r0 tm0 z0 hc0 (.inl rfl) hx2
  exact ⟨0,c0,s0,r0,tm0,j,gj,vj,zj,shj,d,.inl ⟨rfl,rfl,rfl,rfl,rfl⟩,h1,h2,h3⟩
 ·obtain ⟨j,gj,vj,zj,shj,h1,h2,h3⟩:=fin 1 c1 s1 r1 tm1 z1 hc1 (.inr rfl) hx2
  exact ⟨1,c1,s1,r1,tm1,j,gj,vj,zj,shj,d,.inr ⟨rfl,rfl,rfl,rfl,rfl⟩,h1,h2,h3⟩
end
end Go.Proofs.YtfggbepickdokaaGreatDoor.Mt
