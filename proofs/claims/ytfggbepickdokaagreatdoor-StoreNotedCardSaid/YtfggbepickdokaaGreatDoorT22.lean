/- Leads to the Store laws of chapter 6: Sim2 Lost. -/
import Derived.Test.YtfggbepickdokaaGreatDoorT21
set_option maxHeartbeats 200000
set_option maxRecDepth 100000
set_option linter.all false
namespace Go.Proofs.YtfggbepickdokaaGreatDoor.Mt
open Go Go.Conc
section
variable {P:Program} {S:Mute} {c:Cast} {kb:List Item} {cs0 cs:List Frame} {w w':World}
def LoopOk (P:Program) (r:Loop):Prop:=codeOk P r.assign=true∧codeOk P r.body=true∧∀ c,r.pending=some c→codeOk P c=true
theorem tm_getLoop' {α:Type} {φ:α→Prop} {rs:List Nat} {l:Nat} {k:Loop→Sem α} (hk:∀ r,LoopOk P r→Tm P φ (l::rs) (k r)):Tm P φ rs (Instr.getLoop l >>= k):=by
 unfold Instr.getLoop
 rw [bind_assoc]
 refine Tm.getObj ⟨_,rfl⟩ fun o ho=>?_
 cases o <;> first | exact Tm.stuck | (show Tm P φ _ (k _);exact hk _ ho)
theorem tm_setLoop {rs:List Nat} {l:Nat} {r:Loop} (hl:l∈rs) (h:LoopOk P r):T P rs (Go.setObj l (.loop r)):=Tm.setObj hl h rfl
theorem tm_enterLoop {fn:FuncId} {tmps:Array Value} {ps:Array Tmp} {a b:Code} {ar:Option Nat} (ha:codeOk P a=true) (hb:codeOk P b=true) {rs:List Nat} :
 Tm P (fun x:Nat × List Deferred=>∀ d∈x.2,∃ r,d.target=.collected r) rs (Instr.enterLoop fn tmps ps a b ar):=by
 unfold Instr.enterLoop
 have fin:∀ (x:Nat) (mark:List Deferred) (rs:List Nat),(∀ d∈mark,∃ r,d.target=.collected r) →
  Tm P (fun x:Nat × List Deferred=>∀ d∈x.2,∃ r,d.target=.collected r) rs (do pure (← Go.newObj (.loop { state:=.ready,pending:=none,fn,tmps,params:=ps,assign:=a,body:=b,defers:=x }),mark)):=fun x mark rs hm =>
  Tm.bindT (Tm.newObj ⟨ha,hb,by simp⟩) fun _=>Tm.pure hm
 split
 ·exact tm_getLoop' fun r hr=>fin _ _ _ (by simp)
 ·exact Tm.bindT (Tm.newObj (.inl rfl)) fun r=>fin _ _ _ (by simp)
theorem tm_beginRound {l:Nat} {rs:List Nat}:T P rs (Instr.beginRound l):=by
 unfold Instr.beginRound
 refine tm_getLoop' fun r hr=>Tm.bindT (tm_setLoop (by simp) hr) fun _=>?_
 split <;> (repeat' (first | with_reducible exact tm_runtimePanic | ((with_reducible refine Tm.pure ?_);first | trivial | skip) | (with_reducible refine Tm.bindT ?_ fun _=>?_) | split | (dsimp only)))
theorem tm_endRound {l:Nat} {j:Option Code} {rs:List Nat} (hj:∀ c,j=some c→codeOk P c=true):T P rs (Instr.endRound l j):=by
 unfold Instr.endRound
 exact tm_getLoop' fun r hr=>Tm.bindT (tm_setLoop (by simp) ⟨hr.1,hr.2.1,hj⟩) fun _=>Tm.pure trivial
theorem tm_endLoop {l:Nat} {rs:List Nat}:Tm P (fun j=>∀ c,j=some c→codeOk P c=true) rs (Instr.endLoop l):=by
 unfold Instr.endLoop
 refine tm_getLoop' fun r hr=>Tm.ite (fun _=>Tm.bindT tm_runtimePanic fun _=>?_) fun _=>?_
 all_goals exact Tm.bindT (tm_setLoop (by simp) hr) fun _=>Tm.pure hr.2.2
theorem tm_takeDeferred {b:Nat} {rs:List Nat}:Tm P (fun l=>l=[]) rs (Instr.takeDeferred b):=by
 unfold Instr.takeDeferred
 refine Tm.getObj ⟨_,rfl⟩ fun o ho=>?_
 split
 ·rename_i ds
  have:ds=[]:=by
   rcases ho with h | h
   ·exact Option.some.inj h
   ·cases h
  subst this
  exact Tm.bindT (Tm.setObj (by simp) (.inr rfl) rfl) fun _=>Tm.pure rfl
 ·exact Tm.stuck
theorem tm_results {fn:Func} {tmps:Array Value} {rs:List Nat}:T P rs (results fn tmps):=by
 unfold results
 refine Tm.bindT (Tm.mapMArray fun c=>?_) fun _=>Tm.pure trivial
 split <;> (repeat' (first | with_reducible exact tm_asAddr | with_reducible exact tm_loadVar | ((with_reducible refine Tm.pure ?_);first | trivial | skip) | (with_reducible refine Tm.bindT ?_ fun _=>?_) | (with_reducible refine Tm.mapMArray fun _=>?_) | split | (dsimp only)))
theorem exitTo_ok {id:Nat}:∀ {k k':List Item},exitTo id k=some k'→(∀ it∈k,ItemOk P it)→∀ it∈k',ItemOk P it
 | [],k',h,_=>by cases h
 | x::k,k',h,hk=>by
  have hk2:∀ it∈k,ItemOk P it:=fun it hit=>hk it (List.mem_cons_of_mem _ hit)
  cases x with
  | inBlock id' =>
   simp only [exitTo] at h
   split at h
   ·cases h;exact hk2
   ·exact exitTo_ok h hk2
  | _=>exact exitTo_ok (k:=k) (by simpa only [exitTo] using h) hk2
theorem findLabel_ok {l:Nat}:∀ {c r:Code},findLabel c l=some r→codeOk P c=true→codeOk P r=true
 | .seq a b,r,h,hc=>by
  simp only [codeOk,Bool.and_eq_true] at hc
  simp only [findLabel] at h
  split at h
  ·rename_i x hx
   cases h
   simp only [codeOk,Bool.and_eq_true]
   exact ⟨findLabel_ok hx hc.1,hc.2⟩
  ·exact findLabel_ok h hc.2
 | .label l',r,h,hc=>by
  simp only [findLabel] at h
  split at h
  ·cases h;rfl
  ·cases h
 | .skip,_,h,_ | .region ..,_,h,_ | .cond ..,_,h,_ | .block ..,_,h,_ | .loop ..,_,h,_ | .exit ..,_,h,_ | .ret,_,h,_ | .goto ..,_,h,_ | .scope ..,_,h,_ | .rangeFunc ..,_,h,_ | .refuse ..,_,h,_=>by simp [findLabel] at h
theorem gotoIn_ok {l:Nat}:∀ {k k':List Item},gotoIn l k=some k'→(∀ it∈k,ItemOk P it)→∀ it∈k',ItemOk P it
 | [],k',h,_=>by cases h
 | x::k,k',h,hk=>by
  have hk2:∀ it∈k,ItemOk P it:=fun it hit=>hk it (List.mem_cons_of_mem _ hit)
  cases x with
  | inScope body =>
   simp only [gotoIn] at h
   have hb:ItemOk P (.inScope body):=hk _ (List.mem_cons_self ..)
   split at h
   ·rename_i r hr
    cases h
    intro it hit
    rcases List.mem_cons.1 hit with rfl | hit
    ·exact findLabel_ok hr hb
    rcases List.mem_cons.1 hit with rfl | hit
    ·exact hb
    ·exact hk2 it hit
   ·exact gotoIn_ok h hk2
  | _=>exact gotoIn_ok (k:=k) (by simpa only [gotoIn] using h) hk2
variable {fr:Frame} {ex:List Frame} {seg:Bool}
theorem exitTo_app {id:Nat} (l:List Item):∀ {k k':List Item},exitTo id k=some k'→exitTo id (k ++ l)=some (k' ++ l)
 | [],k',h=>by cases h
 | x::k,k',h=>by
  cases x with
  | inBlock id' =>
   simp only [List.cons_append,exitTo] at h ⊢
   split at h
   ·rename_i hh;cases h;rw [if_pos hh]
   ·rename_i hh;rw [if_neg hh];exact exitTo_app l h
  | _=>exact exitTo_app l (k:=k) (by simpa only [exitTo] using h)
theorem gotoIn_app {id:Nat} (l:List Item):∀ {k k':List Item},gotoIn id k=some k'→gotoIn id (k ++ l)=some (k' ++ l)
 | [],k',h=>by cases h
 | x::k,k',h=>by
  cases x with
  | inScope body =>
   cases hb:findLabel body id with
   | none =>
    simp only [List.cons_append,gotoIn,hb] at h ⊢
    exact gotoIn_app l h
   | some r =>
    simp only [List.cons_append,gotoIn,hb] at h ⊢
    cases h
    rfl
  | _=>exact gotoIn_app l (k:=k) (by simpa only [gotoIn] using h)
theorem return_world (hst:StackOk P fr ex) (hne:ex≠[]) (v:Value):(doReturn P true fr (ex ++ cs0) none v w').world=w':=by
 cases ex with
 | nil=>exact absurd rfl hne
 | cons c ex=>simp only [doReturn,List.cons_append,hst.top.kind];rfl
theorem mirror_return (hst:StackOk P fr ex) (hne:ex≠[]) (v:Value) (h:Sim P S c w w') :
 GM P S c kb cs0 cs w (doReturn P true fr (ex ++ cs0) none v w') (doReturn P true (upF (kOf kb ex) fr) (ups kb ex ++ cs) none v w):=by
 cases ex with
 | nil=>exact absurd rfl hne
 | cons c ex =>
  have hk:(upF (kOf kb (c::ex)) fr).kind=.normal:=hst.top.kind
  simp only [doReturn,List.cons_append,hst.top.kind,hk,ups]
  rw [finish_up (hst.busy c (List.mem_cons_self ..))]
  exact gm_go h (hst.pop.set (finish_ok hst.pop.top v) (finish_roundOf c v))
theorem round_ne (hst:StackOk P fr ex) {l:Nat} (hr:fr.roundOf=some l):ex≠[]:=fun e=>by
 have:=hst.bot
 rw [e] at this
 rw [show fr.roundOf=none from this] at hr
 cases hr
theorem kOf_ne (h:ex≠[]):kOf kb ex=[]:=by
 cases ex with
 | nil=>exact absurd rfl h
 | cons=>rfl
theorem mirror_leave (hst:StackOk P fr ex) {jump:Option Code} (hj:∀ c,jump=some c→codeOk P c=true) (h:Sim P S c w w') (why why':String) :
 GM P S c kb cs0 cs w
  (match fr.roundOf with
    | none=>if jump matches none | some .ret then .go { frame:={ fr with mode:=.returning },callers:=ex ++ cs0,status:=.running,dying:=none } w' else .ended (.stuck why (fr.pos P)) w'
    | some l=>GStep.after (seen P fr.fn ((Instr.endRound l jump).runT P w' #[]).2) (match ((Instr.endRound l jump).runT P w' #[]).1 with
     | .ok v w=>doReturn P true fr (ex ++ cs0) none v w
     | .halt _ w=>.ended (.stuck why' (fr.pos P)) w))
  (match fr.roundOf with
    | none=>if jump matches none | some .ret then .go { frame:={ upF (kOf kb ex) fr with mode:=.returning },callers:=ups kb ex ++ cs,status:=.running,dying:=none } w else .ended (.stuck why ((upF (kOf kb ex) fr).pos P)) w
    | some l=>GStep.after (seen P fr.fn ((Instr.endRound l jump).runT P w #[]).2) (match ((Instr.endRound l jump).runT P w #[]).1 with
     | .ok v w=>doReturn P true (upF (kOf kb ex) fr) (ups kb ex ++ cs) none v w
     | .halt _ w=>.ended (.stuck why' ((upF (kOf kb ex) fr).pos P)) w)):=by
 obtain ⟨fn,tmps,td,dfs,md,kd,ro⟩:=fr
 cases ro with
 | none =>
  have key:=gm_go (k:=kb) (cs0:=cs0) (cs:=cs) (es':=#[]) h (hst.set (fr1:=⟨fn,tmps,td,dfs,.returning,kd,none⟩) ⟨hst.top.todo,hst.top.kind,hst.top.defers⟩ rfl)
  rcases jump with _ | c
  ·exact key
  ·cases c <;> first | exact key | exact fun _=>trivial
 | some l =>
  have hne:ex≠[]:=round_ne hst rfl
  exact mirror_run (tm_endRound hj) h fn (fun r=>match r with | .ok v w=>doReturn P true (upF (kOf kb ex) ⟨fn,tmps,td,dfs,md,kd,some l⟩) (ups kb ex ++ cs) none v w | .halt _ w=>.ended (.stuck why' ((upF (kOf kb ex) ⟨fn,tmps,td,dfs,md,kd,some l⟩).pos P)) w)
   (fun r=>match r with | .ok v w=>doReturn P true ⟨fn,tmps,td,dfs,md,kd,some l⟩ (ex ++ cs0) none v w | .halt _ w=>.ended (.stuck why' ((⟨fn,tmps,td,dfs,md,kd,some l⟩:Frame).pos P)) w) (fun a w1' _ _=>Nat.le_of_eq (by dsimp only;rw [return_world hst hne])) (fun x w1' _=>Nat.le_refl _) (fun a w1 w1' _ hs=>mirror_return hst hne a hs) (fun v w1 w1' hs _=>trivial) fun x w1' _ _=>⟨_,_,_,rfl⟩
theorem mirror_exec (hP:ProgOk P) (hst:StackOk P fr ex) (hn:fr.todo=[]→kOf kb ex=[]) (h:Sim P S c w w') :
 GM P S c kb cs0 cs w (stepG.exec P true true fr (ex ++ cs0) none w') (stepG.exec P true true (upF (kOf kb ex) fr) (ups kb ex ++ cs) none w):=by
 obtain ⟨fn,tmps,td,dfs,md,kd,ro⟩:=fr
 have ht:∀ it∈td,ItemOk P it:=hst.top.todo
 have hto:∀ l,(∀ it∈l,ItemOk P it)→GM P S c kb cs0 cs w (.go { frame:=⟨fn,tmps,l,dfs,md,kd,ro⟩,callers:=ex ++ cs0,status:=.running,dying:=none } w') (.go { frame:=⟨fn,tmps,l ++ kOf kb ex,dfs,md,kd,ro⟩,callers:=ups kb ex ++ cs,status:=.running,dying:=none } w) :=
  fun l hl=>gm_go h (hst.set (fr1:=⟨fn,tmps,l,dfs,md,kd,ro⟩) ⟨hl,hst.top.kind,hst.top.defers⟩ rfl)
 cases td with
 | nil =>
  have key:=mirror_leave (kb:=kb) (cs0:=cs0) (cs:=cs) (jump:=none) hst (by simp) h "exit, goto: no such block or label" "range over a function: no such loop"
  rw [hn rfl,upF_nil] at key ⊢
  unfold stepG.exec
  exact key
 | cons it k =>
  have hit:ItemOk P it:=ht it (List.mem_cons_self ..)
  have hk:∀ it∈k,ItemOk P it:=fun x hx=>ht x (List.mem_cons_of_mem _ hx)
  have hcons:∀ {x:Item} {l:List Item},ItemOk P x→(∀ it∈l,ItemOk P it)→∀ it∈x::l,ItemOk P it:=fun hx hl y hy=>(List.mem_cons.1 hy).elim (fun e=>e ▸ hx) (hl y)
  change GM P S c kb cs0 cs w _ (stepG.exec P true true ⟨fn,tmps,it::(k ++ kOf kb ex),dfs,md,kd,ro⟩ (ups kb ex ++ cs) none w)
  cases it with
  | code c =>
   have hc:codeOk P c=true:=hit
   cases c with
   | ret =>
    have key:=mirror_leave (kb:=kb) (cs0:=cs0) (cs:=cs) (jump:=some .ret) hst (by rintro c hc;cases hc;rfl) h "exit, goto: no such block or label" "range over a function: no such loop"
    unfold stepG.exec
    exact key
   | skip=>exact hto _ hk
   | label l=>exact hto _ hk
   | seq a b =>
    simp only [codeOk,Bool.and_eq_true] at hc
    exact hto (.code a::.code b::k) (hcons hc.1 (hcons hc.2 hk))
   | cond c a b =>
    simp only [codeOk,Bool.and_eq_true] at hc
    unfold stepG.exec
    have e:Frame.eval (⟨fn,tmps,.code (.cond c a b)::(k ++ kOf kb ex),dfs,md,kd,ro⟩:Frame) c=Frame.eval (⟨fn,tmps,.code (.cond c a b)::k,dfs,md,kd,ro⟩:Frame) c:=rfl
    dsimp only
    rw [e]
    split
    ·rename_i b' _
     exact hto (.code (if b' then a else b)::k) (hcons (by cases b' <;> simp [ItemOk,hc.1,hc.2]) hk)
    ·exact fun _=>trivial
   | block id b=>exact hto (.code b::.inBlock id::k) (hcons (x:=.code b) hc (hcons (x:=.inBlock id) trivial hk))
   | loop b=>exact hto (.code b::.inLoop b::k) (hcons (x:=.code b) hc (hcons (x:=.inLoop b) hc hk))
   | scope b=>exact hto (.code b::.inScope b::k) (hcons (x:=.code b) hc (hcons (x:=.inScope b) hc hk))
   | exit id =>
    cases he:exitTo id k with
    | none =>
     cases ro with
     | none=>unfold stepG.exec;dsimp only;rw [he];exact fun _=>trivial
     | some l =>
      have hne:ex≠[]:=round_ne hst rfl
      have key:=mirror_leave (kb:=kb) (cs0:=cs0) (cs:=cs) (jump:=some (.exit id)) hst (by rintro c hc;cases hc;rfl) h "exit, goto: no such block or label" "range over a function: no such loop"
      rw [kOf_ne hne,upF_nil] at key
      rw [kOf_ne hne,List.append_nil]
      unfold stepG.exec
      dsimp only
      rw [he]
      exact key
    | some k' =>
     unfold stepG.exec
     dsimp only
     rw [he,exitTo_app _ he]
     exact hto _ (exitTo_ok he hk)
   | goto l =>
    cases he:gotoIn l k with
    | none =>
     cases ro with
     | none=>unfold stepG.exec;dsimp only;rw [he];exact fun _=>trivial
     | some l' =>
      have hne:ex≠[]:=round_ne hst rfl
      have key:=mirror_leave (kb:=kb) (cs0:=cs0) (cs:=cs) (jump:=some (.goto l)) hst (by rintro c hc;cases hc;rfl) h "exit, goto: no such block or label" "range over a function: no such loop"
      rw [kOf_ne hne,upF_nil] at key
      rw [kOf_ne hne,List.append_nil]
      unfold stepG.exec
      dsimp only
      rw [he]
      exact key
    | some k' =>
     unfold stepG.exec
     dsimp only
     rw [he,gotoIn_app _ he]
     exact hto _ (gotoIn_ok he hk)
   | rangeFunc f ps a b =>
    simp only [codeOk,Bool.and_eq_true] at hc
    let K:=fun (kx:List Item) (cs:List Frame) (r:Result (Nat × List Deferred))=>match r with
     | .ok (l,mark) w=>stepG.apply P true (⟨fn,tmps,.inRangeFunc l::(k ++ kx),mark ++ dfs,md,kd,ro⟩:Frame) cs none (do let d ← resolve (⟨fn,tmps,.inRangeFunc l::(k ++ kx),mark ++ dfs,md,kd,ro⟩:Frame).eval { callee:=.value f,args:=#[.const (.func (.yield l) #[] #[])],argTypes:=#[] } 0;invoke d.target d.args) w
     | .halt _ w=>.ended (.stuck "range over a function: no such loop" ((⟨fn,tmps,.code (.rangeFunc f ps a b)::(k ++ kx),dfs,md,kd,ro⟩:Frame).pos P)) w
    let K':=fun (r:Result (Nat × List Deferred))=>match r with
     | .ok (l,mark) w=>stepG.apply P true (⟨fn,tmps,.inRangeFunc l::k,mark ++ dfs,md,kd,ro⟩:Frame) (ex ++ cs0) none (do let d ← resolve (⟨fn,tmps,.inRangeFunc l::k,mark ++ dfs,md,kd,ro⟩:Frame).eval { callee:=.value f,args:=#[.const (.func (.yield l) #[] #[])],argTypes:=#[] } 0;invoke d.target d.args) w
     | .halt _ w=>.ended (.stuck "range over a function: no such loop" ((⟨fn,tmps,.code (.rangeFunc f ps a b)::k,dfs,md,kd,ro⟩:Frame).pos P)) w
    refine mirror_run (tm_enterLoop hc.1 hc.2) h fn (K (kOf kb ex) (ups kb ex ++ cs)) K' (fun x w1' hx hh=>?_) (fun x w1' _=>Nat.le_refl _) (fun x w1 w1' hx hs=>?_) (fun v w1 w1' hs _=>trivial) fun x w1' _ _=>⟨_,_,_,rfl⟩
    case refine_1 =>
     obtain ⟨l,mark⟩:=x
     show w1'.drawn≤(stepG.apply P true _ (ex ++ cs0) none _ w1').world.drawn
     refine Nat.le_trans ?_ (Nat.le_of_eq (congrArg World.drawn (apply_world (show kd=.normal from hst.top.kind) ?_ hh)).symm)
     ·rw [Sem.runT_fst];exact sem_drawn _ _
     ·exact Tm.bind (tm_resolve fun b hb=>by cases hb) fun d hd=>tm_invoke hP hd
    obtain ⟨l,mark⟩:=x
    refine mirror_apply (fr:=⟨fn,tmps,.inRangeFunc l::k,mark ++ dfs,md,kd,ro⟩) hP (hst.set ⟨hcons (x:=.inRangeFunc l) trivial hk,hst.top.kind,fun d hd=>?_⟩ rfl) (by simp) (Tm.bind (tm_resolve fun b hb=>by cases hb) fun d hd=>tm_invoke hP hd) hs
    rcases List.mem_append.1 hd with hd | hd
    ·exact hx d hd
    ·exact hst.top.defers d hd
   | refuse why=>exact fun _=>trivial
   | region id ops draw =>
    have ho:∀ o∈ops,opOk P o.op=true:=by
     intro o ho
     have:=hc
     simp only [codeOk] at this
     rw [Array.all_eq_true] at this
     obtain ⟨i,hi,rfl⟩:=Array.mem_iff_getElem.1 ho
     exact this i hi
    unfold stepG.exec
    dsimp only
    split
    ·exact hto (.inRegion ops _::k) (hcons (x:=.inRegion ops _) ho hk)
    ·have hrun:∀ w:World,(choose (.order fn id)).run P w=.ok ((Question.order fn id).cut (w.tape w.drawn (.order fn id))) { w with drawn:=w.drawn+1 }:=fun w=>by simp [choose,Sem.run,Question.forced]
     rw [hrun,hrun]
     intro hg
     have hlt:w'.drawn < c.e:=hg
     have e:(Question.order fn id).cut (w'.tape w'.drawn (.order fn id))=(Question.order fn id).cut (w.tape w.drawn (.order fn id)):=by rw [h.tape.answer _ hlt]
     rw [e]
     exact Mirror.base (w2:={ w with drawn:=w.drawn+1 }) (Nat.le_refl _) (mirror_go h.drew (hst.set (fr1:=⟨fn,tmps,.inRegion ops _::k,dfs,md,kd,ro⟩) ⟨hcons (x:=.inRegion ops _) ho hk,hst.top.kind,hst.top.defers⟩ rfl))
  | inBlock id=>exact hto _ hk
  | inScope b=>exact hto _ hk
  | inLoop b=>exact hto (.code b::.inLoop b::k) (hcons (x:=.code b) hit (hcons (x:=.inLoop b) hit hk))
  | inRegion ops l =>
   cases l with
   | nil=>exact hto _ hk
   | cons i rest =>
    unfold stepG.exec
    dsimp only
    split
    ·unfold stepG.oper
     dsimp only [Frame.oper?]
     cases hi:ops[i]? with
     | none=>exact fun _=>trivial
     | some o =>
      have hok:opOk P o.op=true:=hit o (Array.mem_of_getElem? hi)
      have key:=mirror_apply (k:=kb) (cs0:=cs0) (cs:=cs) hP hst (by simp) (tm_execOp hP (ρ:=Frame.eval ⟨fn,tmps,.inRegion ops (i::rest)::k,dfs,md,kd,ro⟩) (fun v=>rfl) hok) h
      dsimp only
      split
      ·rename_i heq;rw [heq] at hok;cases hok
      ·exact key
    ·exact gm_go h (hst.set (finish_ok hst.top undef) (finish_roundOf _ undef))
  | inRangeFunc l=>exact fun _=>trivial
  | endRangeFunc l =>
   let K:=fun (kx:List Item) (cs:List Frame) (r:Result (Option Code))=>match r with
    | .ok jump w=>GStep.go { frame:=⟨fn,tmps,(jump.map Item.code).toList ++ (k ++ kx),dfs,md,kd,ro⟩,callers:=cs,status:=.running,dying:=none } w
    | .halt (.panic v) w=>.go { frame:=(⟨fn,tmps,.endRangeFunc l::(k ++ kx),dfs,md,kd,ro⟩:Frame).raise [{ v,recovered:=false }],callers:=cs,status:=.running,dying:=none } w
    | .halt _ w=>.ended (.stuck "range over a function: no such loop" ((⟨fn,tmps,.endRangeFunc l::(k ++ kx),dfs,md,kd,ro⟩:Frame).pos P)) w
   let K':=fun (r:Result (Option Code))=>match r with
    | .ok jump w=>GStep.go { frame:=⟨fn,tmps,(jump.map Item.code).toList ++ k,dfs,md,kd,ro⟩,callers:=ex ++ cs0,status:=.running,dying:=none } w
    | .halt (.panic v) w=>.go { frame:=(⟨fn,tmps,.endRangeFunc l::k,dfs,md,kd,ro⟩:Frame).raise [{ v,recovered:=false }],callers:=ex ++ cs0,status:=.running,dying:=none } w
    | .halt _ w=>.ended (.stuck "range over a function: no such loop" ((⟨fn,tmps,.endRangeFunc l::k,dfs,md,kd,ro⟩:Frame).pos P)) w
   refine mirror_run tm_endLoop h fn (K (kOf kb ex) (ups kb ex ++ cs)) K' (fun j w1' _ _=>Nat.le_refl _) (fun x w1' _=>by cases x <;> exact Nat.le_refl _) (fun j w1 w1' hj hs=>?_) (fun v w1 w1' hs=>?_) fun x w1' _ hx=>?_
   ·cases j with
    | none=>exact gm_go hs (hst.set (fr1:=⟨fn,tmps,k,dfs,md,kd,ro⟩) ⟨hk,hst.top.kind,hst.top.defers⟩ rfl)
    | some c'=>exact gm_go hs (hst.set (fr1:=⟨fn,tmps,.code c'::k,dfs,md,kd,ro⟩) ⟨hcons (x:=.code c') (hj c' rfl) hk,hst.top.kind,hst.top.defers⟩ rfl)
   ·have key:=gm_go (k:=kb) (cs0:=cs0) (cs:=cs) (es':=#[]) hs (hst.set (raise_ok hst.top [{ v,recovered:=false }]).1 (raise_ok hst.top _).2)
    unfold Gk at key;rw [← raise_up] at key;exact key
   ·cases x <;> first | exact ⟨_,_,_,rfl⟩ | exact absurd rfl (hx _)
  | beginRound =>
   refine mirror_apply hP hst (by simp) (Tm.bindT ?_ fun _=>Tm.pure trivial) h
   cases ro with
   | none=>exact Tm.stuck
   | some l=>exact tm_beginRound
  | call d b r l=>exact (show False from hit).elim
  | extern r a=>exact (show False from hit).elim
theorem mirror_unwind (hP:ProgOk P) (hst:StackOk P fr ex) (hd:¬ Door seg fr ex) (hm:fr.mode≠.run) (h:Sim P S c w w') :
 GM P S c kb cs0 cs w (unwind P true fr (ex ++ cs0) none w') (unwind P true (upF (kOf kb ex) fr) (ups kb ex ++ cs) none w):=by
 obtain ⟨fn,tmps,td,dfs,md,kd,ro⟩:=fr
 cases dfs with
 | cons d ds =>
  obtain ⟨r,hr⟩:=hst.top.defers d (List.mem_cons_self ..)
  obtain ⟨t,a⟩:=d
  simp only at hr
  subst hr
  unfold unwind
  let K:=fun (kx:List Item) (cs:List Frame) (res:Result (List Deferred))=>match res with
   | .ok calls w=>GStep.go { frame:=⟨fn,tmps,td ++ kx,calls ++ ds,md,kd,ro⟩,callers:=cs,status:=.running,dying:=none } w
   | .halt _ w=>.ended (.stuck "the deferred calls of a range-over-func loop have been taken" ((⟨fn,tmps,td ++ kx,⟨.collected r,a⟩::ds,md,kd,ro⟩:Frame).pos P)) w
  let K':=fun (res:Result (List Deferred))=>match res with
   | .ok calls w=>GStep.go { frame:=⟨fn,tmps,td,calls ++ ds,md,kd,ro⟩,callers:=ex ++ cs0,status:=.running,dying:=none } w
   | .halt _ w=>.ended (.stuck "the deferred calls of a range-over-func loop have been taken" ((⟨fn,tmps,td,⟨.collected r,a⟩::ds,md,kd,ro⟩:Frame).pos P)) w
  refine mirror_run tm_takeDeferred h fn (K (kOf kb ex) (ups kb ex ++ cs)) K' (fun l w1' _ _=>Nat.le_refl _) (fun x w1' _=>Nat.le_refl _) (fun l w1 w1' hl hs=>?_) (fun v w1 w1' hs _=>trivial) fun x w1' _ _=>⟨_,_,_,rfl⟩
  subst hl
  exact gm_go hs (hst.set (fr1:=⟨fn,tmps,td,ds,md,kd,ro⟩) ⟨hst.top.todo,hst.top.kind,fun d hd=>hst.top.defers d (List.mem_cons_of_mem _ hd)⟩ rfl)
 | nil =>
  have hne:ex≠[]:=fun e=>hd ⟨e,.inr ⟨hm,rfl⟩⟩
  have hcat:(⟨fn,tmps,td,[],md,kd,ro⟩:Frame).catches P=false:=by
   have:=hst.top.todo
   unfold Frame.catches
   split
   ·rename_i heq;rw [show td=_ from heq] at this;exact (show False from this _ (List.mem_cons_self ..)).elim
   ·rfl
  cases md with
  | run=>exact absurd rfl hm
  | panicking chain =>
   cases ex with
   | nil=>exact absurd rfl hne
   | cons c' ex' =>
    rw [show kOf kb (c'::ex')=[] from rfl,upF_nil]
    unfold unwind
    simp only [hcat,Bool.false_eq_true,if_false,List.cons_append,ups]
    rw [raise_up]
    exact gm_go h (hst.pop.set (raise_ok hst.pop.top _).1 (raise_ok hst.pop.top _).2)
  | returning =>
   have hret:=fun (v:Value) (w1 w1':World) (hs:Sim P S c w1 w1')=>mirror_return (kb:=kb) (cs0:=cs0) (cs:=cs) hst hne v hs
   rw [kOf_ne hne,upF_nil] at hret ⊢
   unfold unwind
   dsimp only
   cases hf:P.funcs[fn]? with
   | none=>exact hret _ _ _ h
   | some fd =>
    let K:=fun (cs:List Frame) (r:Result Value)=>match r with
     | .ok v w=>doReturn P true ⟨fn,tmps,td,[],.returning,kd,ro⟩ cs none v w
     | .halt (.stuck s) w=>.ended (.stuck s ((⟨fn,tmps,td,[],.returning,kd,ro⟩:Frame).pos P)) w
     | .halt _ w=>.ended (.stuck "return: the result variables cannot be read" ((⟨fn,tmps,td,[],.returning,kd,ro⟩:Frame).pos P)) w
    refine mirror_run tm_results h fn (K (ups kb ex ++ cs)) (K (ex ++ cs0)) (fun a w1' _ _=>Nat.le_of_eq (by show w1'.drawn=(doReturn P true _ (ex ++ cs0) none a w1').world.drawn;rw [return_world hst hne])) (fun x w1' _=>by cases x <;> exact Nat.le_refl _) (fun a w1 w1' _ hs=>hret a w1 w1' hs) (fun v w1 w1' hs _=>trivial) fun x w1' _ hx=>?_
    cases x <;> exact ⟨_,_,_,rfl⟩
theorem mirror_step (hP:ProgOk P) (hst:StackOk P fr ex) (hk:seg=false→kb=[]) (hd:¬ Door seg fr ex) (h:Sim P S c w w') :
 GM P S c kb cs0 cs w (stepG P true (G fr (ex ++ cs0)) w') (stepG P true (Gk kb fr ex cs) w):=by
 obtain ⟨fn,tmps,td,dfs,md,kd,ro⟩:=fr
 cases md with
 | run =>
  refine mirror_exec hP hst (fun ht=>?_) h
  cases ex with
  | cons c' ex'=>rfl
  | nil =>
   cases seg with
   | false=>exact hk rfl
   | true=>exact absurd ⟨rfl,.inl ⟨rfl,rfl,ht⟩⟩ hd
 | returning=>exact mirror_unwind hP hst hd (by simp) h
 | panicking ch=>exact mirror_unwind hP hst hd (by simp) h
end
set_option linter.unusedSimpArgs false
def Single (g:Goroutine) (w:World):Machine:={ world:=w,gs:=#[g],rest:={ timers:=#[],alone:=none,slice:=none } }
theorem lone_single (fr:Frame) (cs:List Frame) (w:World):lone fr cs w=Single (G fr cs) w:=rfl
def Lost (m:Machine):Prop:=1 < m.gs.size∨∃ g w,m=Single g w∧(g.status=.blocked∨Fatally g)
section
variable {P:Program}
theorem step_blocked {g:Goroutine} {w:World} (h:g.status=.blocked):∃ o w',step P (Single g w)=.ended o w':=by
 have hm:∃ o w',move P (Single g w)=.machine (.ended o w') #[]:=by
  simp [move,ask,askOn,Single,runnable_eq,due,ahead,Goroutine.canRun,List.range_succ,h,pure,Sem.run]
  split <;> exact ⟨_,_,rfl⟩
 obtain ⟨o,w',hm⟩:=hm
 exact ⟨o,w',by rw [step,stepT,hm]⟩
theorem move_single {g:Goroutine} {w:World} (h:g.status=.running):move P (Single g w)=.goroutine (Single g w) 0:=by
 simp [move,ask,askOn,Single,runnable_eq,due,ahead,Goroutine.canRun,List.range_succ,choose,pure,Sem.run,Question.forced,h]
theorem runT_single {g:Goroutine} {w:World}:runT P (Single g w) 0=match stepG P true g w with
 | .ended o w e=>(.ended o w,MemOp.ofEvents 0 g.frame.fn g.frame.place e)
 | .go g' w' e=>(.next (Single g' w'),MemOp.ofEvents 0 g.frame.fn g.frame.place e)
 | _=>runT P (Single g w) 0:=by
 cases hs:stepG P true g w <;> simp [runT,Single,Array.swapAt!,hs,GStep.es]
theorem fatal_step {g:Goroutine} {w:World} (h:Fatally g) (hr:g.status=.running):(∃ g' w',step P (Single g w)=.next (Single g' w')∧Fatally g')∨∃ o w',step P (Single g w)=.ended o w':=by
 obtain ⟨_,d,hd,hc,hf⟩:=h
 obtain ⟨fr,cs,st,dy,off⟩:=g
 simp only at hr hd
 subst hr hd
 obtain ⟨f,hf'⟩:=Option.isSome_iff_exists.1 hf
 have key:(∃ g' w' e,stepG P true { frame:=fr,callers:=cs,status:=.running,dying:=some d,offers:=off } w=.go g' w' e∧Fatally g')∨∃ o w' e,stepG P true { frame:=fr,callers:=cs,status:=.running,dying:=some d,offers:=off } w=.ended o w' e:=by
  obtain ⟨todo,texts,calling,pending,re,hand,fatal⟩:=d
  simp only at hc hf'
  subst hc hf'
  simp only [stepG,die,writeOn]
  split
  ·exact .inr ⟨_,_,_,rfl⟩
  ·split
   ·exact .inl ⟨_,_,_,rfl,.inl rfl,_,rfl,rfl,rfl⟩
   ·exact .inl ⟨_,_,_,rfl,.inr rfl,_,rfl,rfl,rfl⟩
   ·exact .inr ⟨_,_,_,rfl⟩
   ·exact .inr ⟨_,_,_,rfl⟩
 rcases key with ⟨g',w',e,hs,hg⟩ | ⟨o,w',e,hs⟩
 ·exact .inl ⟨g',w',by rw [step,stepT,move_single rfl];simp only [runT_single,hs],hg⟩
 ·exact .inr ⟨o,w',by rw [step,stepT,move_single rfl];simp only [runT_single,hs]⟩
theorem lost_step {m m':Machine} (h:Lost m) (hs:step P m=.next m'):Lost m':=by
 rcases h with h | ⟨g,w,rfl,h⟩
 ·exact .inl (Nat.lt_of_lt_of_le h (stepT_size P m m' true hs))
 ·have blk:g.status=.blocked→Lost m':=fun hb=>by
   obtain ⟨o,w',he⟩:=step_blocked (P:=P) (w:=w) hb
   rw [he] at hs;cases hs
  rcases h with h | h
  ·exact blk h
  ·rcases h.1 with hr | hb
   ·rcases fatal_step (P:=P) (w:=w) h hr with ⟨g',w',he,hg⟩ | ⟨o,w',he⟩
    ·rw [he] at hs;cases hs;exact .inr ⟨g',w',rfl,.inr hg⟩
    ·rw [he] at hs;cases hs
   ·exact blk hb
theorem lost_never {m:Machine} (h:Lost m):∀ (n:Nat) (fr:Frame) (cs:List Frame) (w:World),runN P n m≠.next (lone fr cs w):=by
 intro n
 induction n generalizing m with
 | zero =>
  intro fr cs w e
  cases e
  rcases h with h | ⟨g,w2,e,h⟩
  ·simp [lone] at h
  ·have e1:g=G fr cs:=by
    have:=congrArg Machine.gs e
    simp only [lone,Single] at this
    exact (Array.singleton_inj.1 this).symm
   subst e1
   rcases h with h | ⟨_,d,hd,_⟩
   ·cases h
   ·cases hd
 | succ n ih =>
  intro fr cs w e
  cases hs:step P m with
  | next m1=>exact ih (lost_step h hs) fr cs w (by simpa only [runN,hs] using e)
  | ended o w1=>simp only [runN,hs] at e;cases e
theorem comm_lost {fr:Frame} {cs:List Frame} {w w1:World} {g1:Goroutine} {cases:Array CommCase} {sh:CommShape} {e:Array Event}
 (h:stepG P true (G fr cs) w=.comm g1 cases true sh w1 e) (hh:∀ (r:Nat) (o:Obj),w1.heap[r]? = some o→HeapOk P o) :
 (∃ m1,step P (lone fr cs w)=.next m1∧Lost m1)∨∃ o w',step P (lone fr cs w)=.ended o w':=by
 have hways:∀ c:CommCase,ways w1 #[{ (default:Goroutine) with status:=.finished }] c=[]:=by
  intro c
  unfold ways
  split
  ·rename_i r _
   split
   ·rename_i cap buf closed _ _ _ v hc hs
    obtain ⟨h1,h2,h3⟩:=hh _ _ hc
    subst h1 h2 h3
    simp [partners]
   ·rename_i cap buf closed _ _ _ hc hs
    obtain ⟨h1,h2,h3⟩:=hh _ _ hc
    subst h1 h2 h3
    simp [partners]
   ·rfl
  ·rfl
 have hready:((cases.zipIdx.toList.map fun (c,k)=>(k,c,ways w1 #[{ (default:Goroutine) with status:=.finished }] c)).filter fun (_,_,ws)=>!ws.isEmpty)=[]:=by
  rw [List.filter_eq_nil_iff]
  intro x hx
  obtain ⟨⟨c,k⟩,_,rfl⟩:=List.mem_map.1 hx
  simp [hways]
 have key:(∃ g w2,(communicate P { timers:=#[],alone:=none,slice:=none } #[{ (default:Goroutine) with status:=.finished }] 0 g1 cases true sh w1).1=.next (Single g w2)∧g.status=.blocked)∨∃ o w',(communicate P { timers:=#[],alone:=none,slice:=none } #[{ (default:Goroutine) with status:=.finished }] 0 g1 cases true sh w1).1=.ended o w':=by
  unfold communicate
  dsimp only
  split
  ·exact .inr ⟨_,_,rfl⟩
  ·rw [hready]
   simp only [List.isEmpty_nil,if_true]
   split
   ·exact .inl ⟨{ g1 with status:=.blocked,offers:=some (cases,sh) },_,rfl,rfl⟩
   ·exact .inr ⟨_,_,rfl⟩
 have hst:step P (lone fr cs w)=(communicate P { timers:=#[],alone:=none,slice:=none } #[{ (default:Goroutine) with status:=.finished }] 0 g1 cases true sh w1).1:=by
  rw [step,stepT,lone_single,move_single rfl]
  simp [runT,Single,Array.swapAt!,h]
 rcases key with ⟨g,w2,e,hb⟩ | ⟨o,w2,e⟩
 ·exact .inl ⟨Single g w2,hst.trans e,.inr ⟨g,w2,rfl,.inl hb⟩⟩
 ·exact .inr ⟨o,w2,hst.trans e⟩
end
end Go.Proofs.YtfggbepickdokaaGreatDoor.Mt
