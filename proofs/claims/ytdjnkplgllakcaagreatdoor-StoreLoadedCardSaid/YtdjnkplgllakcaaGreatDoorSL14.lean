/- StoreLoaded -/
import Derived.Test.YtdjnkplgllakcaaGreatDoorSL13
set_option maxHeartbeats 200000
set_option maxRecDepth 100000
set_option linter.all false
namespace Go
def GStep.world:GStep->World
 | .go _ w _ | .comm _ _ _ _ w _ | .spawn _ _ w _ | .count _ w _ | .timer _ _ w _ | .alone _ _ w _ | .newcoro _ _ _ w _ | .coroswitch _ _ _ w _ | .collect _ w _ | .watch _ w _ | .ended _ w _=>w
end Go
namespace Go.Proofs.YtdjnkplgllakcaaGreatDoor.Mt
open Go Go.Conc
def ItemOk (P:Program):Item->Prop
 | .code c=>codeOk P c=true
 | .inRegion ops _=>∀ o∈ops,opOk P o.op=true
 | .inLoop c | .inScope c=>codeOk P c=true
 | .inBlock _ | .inRangeFunc _ | .endRangeFunc _ | .beginRound=>True
 | .call .. | .extern ..=>False
structure FrameOk (P:Program) (fr:Frame):Prop where
 todo:∀ it∈fr.todo,ItemOk P it
 kind:fr.kind=.normal
 defers:∀ d∈fr.defers,∃ r,d.target=.collected r
def BotOk:Frame->List Frame->Prop
 | fr,[]=>fr.roundOf=none
 | _,c::cs=>BotOk c cs
structure StackOk (P:Program) (fr:Frame) (ex:List Frame):Prop where
 top:FrameOk P fr
 rest:∀ c∈ex,FrameOk P c
 busy:∀ c∈ex,c.todo≠[]
 bot:BotOk fr ex
def upF (k:List Item) (fr:Frame):Frame:={ fr with todo:=fr.todo ++ k }
def kOf (k:List Item):List Frame->List Item
 | []=>k
 | _::_=>[]
def ups (k:List Item):List Frame->List Frame
 | []=>[]
 | c::l=>upF (kOf k l) c::ups k l
def Gk (k:List Item) (fr:Frame) (ex cs:List Frame):Goroutine:=G (upF (kOf k ex) fr) (ups k ex ++ cs)
theorem upF_nil (fr:Frame):upF [] fr=fr:=by unfold upF;rw [List.append_nil]
def Door (seg:Bool) (fr:Frame) (ex:List Frame):Prop:=ex=[]/\((seg=true/\fr.mode=.run/\fr.todo=[])\/(fr.mode≠.run/\fr.defers=[]))
def Fatally (g:Goroutine):Prop:=(g.status=.running\/g.status=.blocked)/\∃ d,g.dying=some d/\d.calling=false/\d.fatal.isSome=true
section
variable {P:Program} {S:Mute} {c:Cast} {k:List Item} {cs0 cs:List Frame} {w w':World}
def Mirror (P:Program) (S:Mute) (c:Cast) (k:List Item) (cs0 cs:List Frame) (w:World):GStep->GStep->Prop
 | .go g1 w1' _,two=>Fatally g1\/∃ fr1 ex1 w1 es,g1=G fr1 (ex1 ++ cs0)/\two=.go (Gk k fr1 ex1 cs) w1 es/\(∀ e∈es,EvOk w1.heap.size e)/\Sim P S c w1 w1'/\w.heap.size<=w1.heap.size/\StackOk P fr1 ex1
 | .ended ..,_=>True
 | .spawn ..,_=>True
 | .comm _ _ blocking _ w1' _,_=>blocking=true/\∃ w1,Sim P S c w1 w1'
 | _,_=>False
theorem after_world {es:Array Event} {g:GStep}:(g.after es).world=g.world:=by cases g <;> rfl
def GM (P:Program) (S:Mute) (c:Cast) (k:List Item) (cs0 cs:List Frame) (w:World) (one two:GStep):Prop:=one.world.drawn<=c.e->Mirror P S c k cs0 cs w one two
theorem mirror_go {fr1:Frame} {ex1:List Frame} {es':Array Event} (hs:Sim P S c w w') (h:StackOk P fr1 ex1):Mirror P S c k cs0 cs w (.go (G fr1 (ex1 ++ cs0)) w' es') (.go (Gk k fr1 ex1 cs) w) :=
 .inr ⟨fr1,ex1,w,#[],rfl,rfl,by simp,hs,Nat.le_refl _,h⟩
theorem gm_go {fr1:Frame} {ex1:List Frame} {es':Array Event} (hs:Sim P S c w w') (h:StackOk P fr1 ex1):GM P S c k cs0 cs w (.go (G fr1 (ex1 ++ cs0)) w' es') (.go (Gk k fr1 ex1 cs) w):=fun _=>mirror_go hs h
theorem StackOk.set {fr fr1:Frame} {ex:List Frame} (h:StackOk P fr ex) (h1:FrameOk P fr1) (hr:fr1.roundOf=fr.roundOf):StackOk P fr1 ex :=
 ⟨h1,h.rest,h.busy,by
   have:=h.bot
   cases ex with
   | nil=>exact hr.trans this
   | cons c ex=>exact this⟩
theorem StackOk.push {fr fr1:Frame} {ex:List Frame} (h:StackOk P fr ex) (hb:fr.todo≠[]) (h1:FrameOk P fr1):StackOk P fr1 (fr::ex) :=
 ⟨h1,fun c hc=>by
   rcases List.mem_cons.1 hc with rfl | hc
   ·exact h.top
   ·exact h.rest c hc,fun c hc=>by
   rcases List.mem_cons.1 hc with rfl | hc
   ·exact hb
   ·exact h.busy c hc,h.bot⟩
theorem StackOk.pop {fr c:Frame} {ex:List Frame} (h:StackOk P fr (c::ex)):StackOk P c ex:=⟨h.rest c (by simp),fun x hx=>h.rest x (by simp [hx]),fun x hx=>h.busy x (by simp [hx]),h.bot⟩
theorem finish_roundOf (fr:Frame) (v:Value):(fr.finish v).roundOf=fr.roundOf:=by unfold Frame.finish;split <;> rfl
theorem finish_up {fr:Frame} (h:fr.todo≠[]) (k:List Item) (v:Value):(upF k fr).finish v=upF k (fr.finish v):=by
 obtain ⟨fn,tmps,td,ds,md,kd,ro⟩:=fr
 cases td with
 | nil=>exact absurd rfl h
 | cons it rest =>
  cases it <;> try rfl
  rename_i ops l
  cases l <;> rfl
theorem raise_up {fr:Frame} (k:List Item) (v:List PanicEntry):(upF k fr).raise v=upF k (fr.raise v):=by
 obtain ⟨fn,tmps,td,ds,md,kd,ro⟩:=fr;cases md <;> rfl
theorem finish_ok {fr:Frame} (h:FrameOk P fr) (v:Value):FrameOk P (fr.finish v):=by
 obtain ⟨h1,h2,h3⟩:=h;unfold Frame.finish;split
 ·rename_i ops i rest k heq
  refine ⟨fun it hit=>?_,h2,h3⟩;simp only [heq] at h1;rcases List.mem_cons.1 hit with rfl | hit
  ·exact h1 (.inRegion ops (i::rest)) (by simp)
  ·exact h1 it (by simp [hit])
 ·rename_i l k heq
  refine ⟨fun it hit=>?_,h2,h3⟩;simp only [heq] at h1;rcases List.mem_cons.1 hit with rfl | hit
  ·trivial
  ·exact h1 it (by simp [hit])
 ·rename_i k heq
  exact ⟨fun it hit=>by simp only [heq] at h1;exact h1 it (by simp at hit ⊢;exact .inr hit),h2,h3⟩
 ·rename_i heq;simp only [heq] at h1;exact (show False from h1 _ (List.mem_cons_self ..)).elim
 ·rename_i heq;simp only [heq] at h1;exact (show False from h1 _ (List.mem_cons_self ..)).elim
 ·exact ⟨h1,h2,h3⟩
theorem raise_ok {fr:Frame} (h:FrameOk P fr) (v:List PanicEntry):FrameOk P (fr.raise v)/\(fr.raise v).roundOf=fr.roundOf:=by
 obtain ⟨h1,h2,h3⟩:=h;unfold Frame.raise;split <;> exact ⟨⟨h1,h2,h3⟩,rfl⟩
theorem enter_ok (hP:ProgOk P) (f:FuncId) (args:Array Value):FrameOk P (Frame.enter P f args .normal):=by
 refine ⟨fun it hit=>?_,rfl,fun d hd=>by simp [Frame.enter] at hd⟩;simp only [Frame.enter,List.mem_singleton] at hit;subst hit;show codeOk P _=true
 cases hf:P.funcs[f]? with
 | none=>rfl
 | some fn =>
  cases hb:fn.body with
  | none=>simp [hb];rfl
  | some c=>simp only [Option.bind_some,hb,Option.getD_some];exact hP.code f fn hf c hb
theorem seen_mem {fn:FuncId} {es:Array Event} {e:Event} (h:e∈seen P fn es):e∈es:=by
 unfold seen at h;dsimp only at h;obtain ⟨l⟩:=es;simp only [List.foldl_toArray'] at h
 have key:∀ (l:List Event) (q:Bool) (kept:Array Event),e∈(l.foldl (fun (x:Bool × Array Event) e=>match e.loc with
  | .mark (.extern f)=>((P.funcs[f]?).any (·.norace),x.2)
  | _=>(x.1,if x.1 && !e.sync then x.2 else x.2.push e)) (q,kept)).2->e∈kept\/e∈l:=by
  intro l
  induction l with
  | nil=>exact fun q kept h=>.inl h
  | cons a l ih =>
   intro q kept h;rw [List.foldl_cons] at h;split at h
   ·exact (ih _ _ h).imp id fun x=>List.mem_cons_of_mem _ x
   ·rcases ih _ _ h with h | h
    ·split at h
     ·exact .inl h
     ·rcases Array.mem_push.1 h with h | h
      ·exact .inl h
      ·exact .inr (h ▸ List.mem_cons_self ..)
    ·exact .inr (List.mem_cons_of_mem _ h)
 rcases key l _ _ h with h | h
 ·simp at h
 ·simpa using h
theorem pair_of {α β:Type} {x:α × β} {a:α} (h:x.1=a):∃ b,x=(a,b):=⟨x.2,by rw [<- h]⟩
theorem sem_mirror {α:Type} {φ:α->Prop} {s:Sem α} (hs:Tm P φ [] s) (h:Sim P S c w w') (hg:(s.runT P w' #[]).1.world.drawn<=c.e) :
 (∃ a w1 w1' evs,(s.runT P w' #[]).1=.ok a w1'/\s.runT P w #[]=(.ok a w1,evs)/\(∀ e∈evs,EvOk w1.heap.size e)/\Sim P S c w1 w1'/\w.heap.size<=w1.heap.size/\φ a) \/
 (∃ v w1 w1' evs,(s.runT P w' #[]).1=.halt (.panic v) w1'/\s.runT P w #[]=(.halt (.panic v) w1,evs)/\(∀ e∈evs,EvOk w1.heap.size e)/\Sim P S c w1 w1'/\w.heap.size<=w1.heap.size) \/
 (∃ h w1',(s.runT P w' #[]).1=.halt h w1'/\haltOk h/\∀ v,h≠.panic v):=by
 rw [Sem.runT_fst] at hg ⊢;have key:=tame_run s [] w w' #[] (hs (fun a _=>φ a) [] (by simp) fun a ok' ha _=>ha) h (by simp) hg
 cases hr:s.run P w' with
 | ok a w1' =>
  rw [hr] at key;obtain ⟨w1,evs,a1,a2,a3,a4,_,a5⟩:=key;exact .inl ⟨a,w1,w1',evs,rfl,by simpa using a1,a2,a3,a4,a5⟩
 | halt x w1' =>
  rw [hr] at key;by_cases hx:∃ v,x=.panic v
  ·obtain ⟨v,rfl⟩:=hx;obtain ⟨w1,evs,a1,a2,a3,a4⟩:=key;exact .inr (.inl ⟨v,w1,w1',evs,rfl,by simpa using a1,a2,a3,a4⟩)
  ·refine .inr (.inr ⟨x,w1',rfl,?_,fun v e=>hx ⟨v,e⟩⟩);cases x <;> first | exact key | exact absurd ⟨_,rfl⟩ hx
theorem mirror_after {es es':Array Event} {one two:GStep} (hes:∀ e∈es,∀ B,w.heap.size<=B->EvOk B e) (h:Mirror P S c k cs0 cs w one two):Mirror P S c k cs0 cs w (GStep.after es' one) (GStep.after es two):=by
 cases one with
 | go g1 w1' e1 =>
  obtain h | ⟨fr1,ex1,w1,e2,a,rfl,b,c,d,f⟩:=h
  ·exact .inl h
  exact .inr ⟨fr1,ex1,w1,es ++ e2,a,rfl,fun e he=>(Array.mem_append.1 he).elim (fun he=>hes e he _ d) (b e),c,d,f⟩
 | comm g1 cases bl sh w1' e1=>exact h
 | spawn=>exact h
 | ended=>exact h
 | _=>exact h.elim
theorem Mirror.base {w2:World} {one two:GStep} (hle:w.heap.size<=w2.heap.size) (h:Mirror P S c k cs0 cs w2 one two):Mirror P S c k cs0 cs w one two:=by
 cases one with
 | go g1 w1' e1 =>
  obtain h | ⟨fr1,ex1,w1,e2,a,b,c,d,e,f⟩:=h
  ·exact .inl h
  exact .inr ⟨fr1,ex1,w1,e2,a,b,c,d,Nat.le_trans hle e,f⟩
 | comm g1 cases bl sh w1' e1=>exact h
 | spawn=>exact h
 | ended=>exact h
 | _=>exact h.elim
theorem sem_one {α:Type} {φ:α->Prop} {s:Sem α} (hs:Tm P φ [] s) (h:∀ (r:Nat) (o:Obj),w'.heap[r]? = some o->HeapOk P o) :
 (∃ a w1',(s.runT P w' #[]).1=.ok a w1'/\φ a/\∀ (r:Nat) (o:Obj),w1'.heap[r]? = some o->HeapOk P o)\/(∃ x w1',(s.runT P w' #[]).1=.halt x w1'/\haltOk x):=by
 have hself:Sim P Mute.no ⟨(s.runT P w' #[]).1.world.drawn,w'.tape,w'.tape,w'.drawn,w'.drawn,fun _ _ _=>rfl⟩ w' w' :=
  ⟨⟨rfl,rfl,0,rfl,rfl⟩,rfl,rfl,rfl,fun _ _=>rfl,fun _ x=>x.elim,h⟩
 rcases sem_mirror hs hself (Nat.le_refl _) with ⟨a,w1,w1',evs,e1,_,_,h3,_,hφ⟩ | ⟨v,w1,w1',evs,e1,_⟩ | ⟨x,w1',e1,hx,_⟩
 ·exact .inl ⟨a,w1',e1,hφ,h3.heapOk⟩
 ·exact .inr ⟨_,w1',e1,trivial⟩
 ·exact .inr ⟨x,w1',e1,hx⟩
theorem mirror_run {α:Type} {φ:α->Prop} {s:Sem α} (hs:Tm P φ [] s) (h:Sim P S c w w') (fn:FuncId) (K K':Result α->GStep)
 (hK:∀ a w1',φ a->(∀ (r:Nat) (o:Obj),w1'.heap[r]? = some o->HeapOk P o)->w1'.drawn<=(K' (.ok a w1')).world.drawn)
 (hKh:∀ x w1',haltOk x->w1'.drawn<=(K' (.halt x w1')).world.drawn)
 (hok:∀ a w1 w1',φ a->Sim P S c w1 w1'->GM P S c k cs0 cs w1 (K' (.ok a w1')) (K (.ok a w1)))
 (hpanic:∀ v w1 w1',Sim P S c w1 w1'->GM P S c k cs0 cs w1 (K' (.halt (.panic v) w1')) (K (.halt (.panic v) w1)))
 (hhalt:∀ x w1',haltOk x->(∀ v,x≠.panic v)->∃ o w2 e,K' (.halt x w1')=.ended o w2 e) :
 GM P S c k cs0 cs w (GStep.after (seen P fn (s.runT P w' #[]).2) (K' (s.runT P w' #[]).1)) (GStep.after (seen P fn (s.runT P w #[]).2) (K (s.runT P w #[]).1)):=by
 intro hg;rw [after_world] at hg;have hg':(s.runT P w' #[]).1.world.drawn<=c.e:=by
  rcases sem_one hs h.heapOk with ⟨a,w1',e1,hφ,hh⟩ | ⟨x,w1',e1,hx⟩
  ·rw [e1] at hg ⊢;exact Nat.le_trans (hK a w1' hφ hh) hg
  ·rw [e1] at hg ⊢;exact Nat.le_trans (hKh x w1' hx) hg
 rcases sem_mirror hs h hg' with ⟨a,w1,w1',evs,e1,e2,hev,hsim,hle,hφ⟩ | ⟨v,w1,w1',evs,e1,e2,hev,hsim,hle⟩ | ⟨x,w1',e1,hx,hx'⟩
 ·rw [e1] at hg;rw [e1,e2];exact (mirror_after (fun e he B hB=>(hev e (seen_mem he)).mono hB) (hok a w1 w1' hφ hsim hg)).base hle
 ·rw [e1] at hg;rw [e1,e2];exact (mirror_after (fun e he B hB=>(hev e (seen_mem he)).mono hB) (hpanic v w1 w1' hsim hg)).base hle
 ·rw [e1];obtain ⟨o,w2,e,he⟩:=hhalt x w1' hx hx';rw [he];trivial
theorem apply_world {fr:Frame} {cs:List Frame} {s:Sem Next} (hk:fr.kind=.normal) (hs:Tm P (NextOk P) [] s) (h:∀ (r:Nat) (o:Obj),w'.heap[r]? = some o->HeapOk P o) :
 (stepG.apply P true fr cs none s w').world=(s.runT P w' #[]).1.world:=by
 have hk:(fr.kind == CallKind.early)=false:=by rw [hk];rfl
 rcases sem_one hs h with ⟨a,w1',e1,hφ,_⟩ | ⟨x,w1',e1,hx⟩
 ·obtain ⟨es,hx2⟩:=pair_of e1;unfold stepG.apply;simp only [if_true,hx2,hk,Bool.false_eq_true,if_false,after_world]
  cases a with
  | spawn d =>
   dsimp only
   repeat' split
   all_goals rfl
  | value | skip | enter | round | comm=>rfl
  | _=>exact hφ.elim
 ·obtain ⟨es,hx2⟩:=pair_of e1;unfold stepG.apply;simp only [if_true,hx2,hk,Bool.false_eq_true,if_false,after_world]
  cases x with
  | unsupported u=>cases u <;> first | exact hx.elim | rfl
  | stuck s=>rfl
  | panic v=>rfl
  | _=>exact hx.elim
theorem mirror_apply {fr:Frame} {ex:List Frame} {s:Sem Next} (hP:ProgOk P) (hst:StackOk P fr ex) (hb:fr.todo≠[]) (hs:Tm P (NextOk P) [] s) (h:Sim P S c w w') :
 GM P S c k cs0 cs w (stepG.apply P true fr (ex ++ cs0) none s w') (stepG.apply P true (upF (kOf k ex) fr) (ups k ex ++ cs) none s w):=by
 intro hg;have hno:∀ d b r l k,fr.todo≠.call d b r l::k:=fun d b r l k e=>by
  have:=hst.top.todo;rw [e] at this;exact (show False from this _ (List.mem_cons_self ..)).elim
 have hno':∀ d b r l k',(upF (kOf k ex) fr).todo≠.call d b r l::k':=fun d b r l k' e=>by
  have e:fr.todo ++ kOf k ex=.call d b r l::k':=e
  cases htd:fr.todo with
  | nil=>exact hb htd
  | cons it rest =>
   rw [htd] at e;cases e;exact hno _ _ _ _ _ htd
 have hk:(fr.kind == CallKind.early)=false:=by rw [hst.top.kind];rfl
 have hk':((upF (kOf k ex) fr).kind == CallKind.early)=false:=hk;rw [apply_world hst.top.kind hs h.heapOk] at hg;rcases sem_mirror hs h hg with ⟨a,w1,w1',evs,e1,e2,hev,hsim,hle,hφ⟩ | ⟨v,w1,w1',evs,e1,e2,hev,hsim,hle⟩ | ⟨x,w1',e1,hx,hx'⟩
 ·have hev':∀ e∈seen P fr.fn evs,∀ B,w1.heap.size<=B->EvOk B e:=fun e he B hB=>(hev e (seen_mem he)).mono hB;obtain ⟨es,hx2⟩:=pair_of e1;unfold stepG.apply;simp only [if_true,e2,hx2,hk,hk',Bool.false_eq_true,if_false];refine (mirror_after hev' ?_).base hle
  cases a with
  | value v =>
   have key:=mirror_go (k:=k) (cs0:=cs0) (cs:=cs) (es':=#[]) hsim (hst.set (finish_ok hst.top v) (finish_roundOf fr v));unfold Gk at key;rw [<- finish_up hb] at key;exact key
  | skip =>
   have key:=mirror_go (k:=k) (cs0:=cs0) (cs:=cs) (es':=#[]) hsim (hst.set (finish_ok hst.top undef) (finish_roundOf fr undef));unfold Gk at key;rw [<- finish_up hb] at key;exact key
  | enter f args =>
   have e1:∀ fr:Frame,(∀ d b r l k',fr.todo≠.call d b r l::k')->(match fr.todo with | .call _ true _ _::_=>CallKind.wrapped | _=>CallKind.normal)=CallKind.normal:=fun fr h=>by
    split
    ·rename_i heq;exact absurd heq (h _ _ _ _ _)
    ·rfl
   have key:=mirror_go (k:=k) (cs0:=cs0) (cs:=cs) (ex1:=fr::ex) (es':=#[]) hsim (hst.push hb (enter_ok hP f args));unfold Gk at key;rw [show kOf k (fr::ex)=[] from rfl,upF_nil] at key;have e2:=e1 fr hno;have e3:=e1 (upF (kOf k ex) fr) hno';dsimp only;split
   ·rename_i heq;exact absurd heq (hno _ _ _ _ _)
   ·split
    ·rename_i heq;exact absurd heq (hno' _ _ _ _ _)
    ·exact key
  | round l f tmps a b =>
   have key:=fun hx=>mirror_go (k:=k) (cs0:=cs0) (cs:=cs) (ex1:=fr::ex) (es':=#[]) hsim (hst.push hb (fr1:=Frame.round l f tmps a b .normal) ⟨hx,rfl,fun d hd=>by simp [Frame.round] at hd⟩);unfold Gk at key;rw [show kOf k (fr::ex)=[] from rfl,upF_nil] at key;refine key fun it hit=>?_;simp only [Frame.round,List.mem_cons,List.not_mem_nil,or_false] at hit;rcases hit with rfl | rfl | rfl
   ·exact hφ.1
   ·trivial
   ·exact hφ.2
  | spawn d =>
   dsimp only
   repeat' split
   all_goals first
    | trivial
    | exact Or.inl ⟨.inl rfl,_,rfl,rfl,rfl⟩
  | comm cases bl sh=>exact ⟨hφ,w1,hsim⟩
  | _=>exact hφ.elim
 ·have hev':∀ e∈seen P fr.fn evs,∀ B,w1.heap.size<=B->EvOk B e:=fun e he B hB=>(hev e (seen_mem he)).mono hB;obtain ⟨es,hx2⟩:=pair_of e1;unfold stepG.apply;simp only [if_true,e2,hx2,hk,hk',Bool.false_eq_true,if_false];have key:=mirror_go (k:=k) (cs0:=cs0) (cs:=cs) (es':=#[]) hsim (hst.set (raise_ok hst.top [{ v,recovered:=false }]).1 (raise_ok hst.top _).2);unfold Gk at key;rw [<- raise_up] at key;exact (mirror_after hev' key).base hle
 ·obtain ⟨es,hx2⟩:=pair_of e1;unfold stepG.apply;simp only [if_true,hx2,hk,Bool.false_eq_true,if_false]
  cases x with
  | unsupported u=>cases u <;> first | exact hx.elim | trivial
  | stuck s=>trivial
  | panic v=>exact (hx' v rfl).elim
  | _=>exact hx.elim
end
section
variable {P:Program} {S:Mute} {c:Cast} {kb:List Item} {cs0 cs:List Frame} {w w':World}
def LoopOk (P:Program) (r:Loop):Prop:=codeOk P r.assign=true/\codeOk P r.body=true/\∀ c,r.pending=some c->codeOk P c=true
theorem tm_getLoop' {α:Type} {φ:α->Prop} {rs:List Nat} {l:Nat} {k:Loop->Sem α} (hk:∀ r,LoopOk P r->Tm P φ (l::rs) (k r)):Tm P φ rs (Instr.getLoop l >>= k):=by
 unfold Instr.getLoop;rw [bind_assoc];refine Tm.getObj ⟨_,rfl⟩ fun o ho=>?_;cases o <;> first | exact Tm.stuck | (show Tm P φ _ (k _);exact hk _ ho)
theorem tm_setLoop {rs:List Nat} {l:Nat} {r:Loop} (hl:l∈rs) (h:LoopOk P r):T P rs (Go.setObj l (.loop r)):=Tm.setObj hl h rfl
theorem tm_enterLoop {fn:FuncId} {tmps:Array Value} {ps:Array Tmp} {a b:Code} {ar:Option Nat} (ha:codeOk P a=true) (hb:codeOk P b=true) {rs:List Nat} :
 Tm P (fun x:Nat × List Deferred=>∀ d∈x.2,∃ r,d.target=.collected r) rs (Instr.enterLoop fn tmps ps a b ar):=by
 unfold Instr.enterLoop;have fin:∀ (x:Nat) (mark:List Deferred) (rs:List Nat),(∀ d∈mark,∃ r,d.target=.collected r) ->
  Tm P (fun x:Nat × List Deferred=>∀ d∈x.2,∃ r,d.target=.collected r) rs (do pure (<- Go.newObj (.loop { state:=.ready,pending:=none,fn,tmps,params:=ps,assign:=a,body:=b,defers:=x }),mark)):=fun x mark rs hm =>
  Tm.bindT (Tm.newObj ⟨ha,hb,by simp⟩) fun _=>Tm.pure hm
 split
 ·exact tm_getLoop' fun r hr=>fin _ _ _ (by simp)
 ·exact Tm.bindT (Tm.newObj (.inl rfl)) fun r=>fin _ _ _ (by simp)
theorem tm_beginRound {l:Nat} {rs:List Nat}:T P rs (Instr.beginRound l):=by
 unfold Instr.beginRound;refine tm_getLoop' fun r hr=>Tm.bindT (tm_setLoop (by simp) hr) fun _=>?_;split <;> (repeat' (first | (with_reducible first | exact tm_runtimePanic | refine Tm.bindT ?_ fun _=>?_) | ((with_reducible refine Tm.pure ?_);first | trivial | skip) | split | (dsimp only)))
theorem tm_endRound {l:Nat} {j:Option Code} {rs:List Nat} (hj:∀ c,j=some c->codeOk P c=true):T P rs (Instr.endRound l j):=by
 unfold Instr.endRound;exact tm_getLoop' fun r hr=>Tm.bindT (tm_setLoop (by simp) ⟨hr.1,hr.2.1,hj⟩) fun _=>Tm.pure trivial
theorem tm_endLoop {l:Nat} {rs:List Nat}:Tm P (fun j=>∀ c,j=some c->codeOk P c=true) rs (Instr.endLoop l):=by
 unfold Instr.endLoop;refine tm_getLoop' fun r hr=>Tm.ite (fun _=>Tm.bindT tm_runtimePanic fun _=>?_) fun _=>?_
 all_goals exact Tm.bindT (tm_setLoop (by simp) hr) fun _=>Tm.pure hr.2.2
theorem tm_takeDeferred {b:Nat} {rs:List Nat}:Tm P (fun l=>l=[]) rs (Instr.takeDeferred b):=by
 unfold Instr.takeDeferred;refine Tm.getObj ⟨_,rfl⟩ fun o ho=>?_;split
 ·rename_i ds
  have:ds=[]:=by
   rcases ho with h | h
   ·exact Option.some.inj h
   ·cases h
  subst this;exact Tm.bindT (Tm.setObj (by simp) (.inr rfl) rfl) fun _=>Tm.pure rfl
 ·exact Tm.stuck
theorem tm_results {fn:Func} {tmps:Array Value} {rs:List Nat}:T P rs (results fn tmps):=by
 unfold results;refine Tm.bindT (Tm.mapMArray fun c=>?_) fun _=>Tm.pure trivial;split <;> (repeat' (first | (with_reducible first | exact tm_asAddr | exact tm_loadVar | refine Tm.bindT ?_ fun _=>?_ | refine Tm.mapMArray fun _=>?_) | ((with_reducible refine Tm.pure ?_);first | trivial | skip) | split | (dsimp only)))
theorem exitTo_ok {id:Nat}:∀ {k k':List Item},exitTo id k=some k'->(∀ it∈k,ItemOk P it)->∀ it∈k',ItemOk P it
 | [],k',h,_=>by cases h
 | x::k,k',h,hk=>by
  have hk2:∀ it∈k,ItemOk P it:=fun it hit=>hk it (List.mem_cons_of_mem _ hit)
  cases x with
  | inBlock id' =>
   simp only [exitTo] at h;split at h
   ·cases h;exact hk2
   ·exact exitTo_ok h hk2
  | _=>exact exitTo_ok (k:=k) (by simpa only [exitTo] using h) hk2
theorem findLabel_ok {l:Nat}:∀ {c r:Code},findLabel c l=some r->codeOk P c=true->codeOk P r=true
 | .seq a b,r,h,hc=>by
  simp only [codeOk,Bool.and_eq_true] at hc;simp only [findLabel] at h;split at h
  ·rename_i x hx
   cases h;simp only [codeOk,Bool.and_eq_true];exact ⟨findLabel_ok hx hc.1,hc.2⟩
  ·exact findLabel_ok h hc.2
 | .label l',r,h,hc=>by
  simp only [findLabel] at h;split at h
  ·cases h;rfl
  ·cases h
 | .skip,_,h,_ | .region ..,_,h,_ | .cond ..,_,h,_ | .block ..,_,h,_ | .loop ..,_,h,_ | .exit ..,_,h,_ | .ret,_,h,_ | .goto ..,_,h,_ | .scope ..,_,h,_ | .rangeFunc ..,_,h,_ | .refuse ..,_,h,_=>by simp [findLabel] at h
theorem gotoIn_ok {l:Nat}:∀ {k k':List Item},gotoIn l k=some k'->(∀ it∈k,ItemOk P it)->∀ it∈k',ItemOk P it
 | [],k',h,_=>by cases h
 | x::k,k',h,hk=>by
  have hk2:∀ it∈k,ItemOk P it:=fun it hit=>hk it (List.mem_cons_of_mem _ hit)
  cases x with
  | inScope body =>
   simp only [gotoIn] at h;have hb:ItemOk P (.inScope body):=hk _ (List.mem_cons_self ..);split at h
   ·rename_i r hr
    cases h;intro it hit;rcases List.mem_cons.1 hit with rfl | hit
    ·exact findLabel_ok hr hb
    rcases List.mem_cons.1 hit with rfl | hit
    ·exact hb
    ·exact hk2 it hit
   ·exact gotoIn_ok h hk2
  | _=>exact gotoIn_ok (k:=k) (by simpa only [gotoIn] using h) hk2
variable {fr:Frame} {ex:List Frame} {seg:Bool}
theorem exitTo_app {id:Nat} (l:List Item):∀ {k k':List Item},exitTo id k=some k'->exitTo id (k ++ l)=some (k' ++ l)
 | [],k',h=>by cases h
 | x::k,k',h=>by
  cases x with
  | inBlock id' =>
   simp only [List.cons_append,exitTo] at h ⊢;split at h
   ·rename_i hh;cases h;rw [if_pos hh]
   ·rename_i hh;rw [if_neg hh];exact exitTo_app l h
  | _=>exact exitTo_app l (k:=k) (by simpa only [exitTo] using h)
theorem gotoIn_app {id:Nat} (l:List Item):∀ {k k':List Item},gotoIn id k=some k'->gotoIn id (k ++ l)=some (k' ++ l)
 | [],k',h=>by cases h
 | x::k,k',h=>by
  cases x with
  | inScope body =>
   cases hb:findLabel body id with
   | none =>
    simp only [List.cons_append,gotoIn,hb] at h ⊢;exact gotoIn_app l h
   | some r =>
    simp only [List.cons_append,gotoIn,hb] at h ⊢;cases h;rfl
  | _=>exact gotoIn_app l (k:=k) (by simpa only [gotoIn] using h)
theorem return_world (hst:StackOk P fr ex) (hne:ex≠[]) (v:Value):(doReturn P true fr (ex ++ cs0) none v w').world=w':=by
 cases ex with
 | nil=>exact absurd rfl hne
 | cons c ex=>simp only [doReturn,List.cons_append,hst.top.kind];rfl
theorem mirror_return (hst:StackOk P fr ex) (hne:ex≠[]) (v:Value) (h:Sim P S c w w') :
 GM P S c kb cs0 cs w (doReturn P true fr (ex ++ cs0) none v w') (doReturn P true (upF (kOf kb ex) fr) (ups kb ex ++ cs) none v w):=by
 cases ex with
 | nil=>exact absurd rfl hne
 | cons c ex =>
  have hk:(upF (kOf kb (c::ex)) fr).kind=.normal:=hst.top.kind;simp only [doReturn,List.cons_append,hst.top.kind,hk,ups];rw [finish_up (hst.busy c (List.mem_cons_self ..))];exact gm_go h (hst.pop.set (finish_ok hst.pop.top v) (finish_roundOf c v))
theorem round_ne (hst:StackOk P fr ex) {l:Nat} (hr:fr.roundOf=some l):ex≠[]:=fun e=>by
 have:=hst.bot;rw [e] at this;rw [show fr.roundOf=none from this] at hr;cases hr
theorem kOf_ne (h:ex≠[]):kOf kb ex=[]:=by
 cases ex with
 | nil=>exact absurd rfl h
 | cons=>rfl
theorem mirror_leave (hst:StackOk P fr ex) {jump:Option Code} (hj:∀ c,jump=some c->codeOk P c=true) (h:Sim P S c w w') (why why':String) :
 GM P S c kb cs0 cs w
  (match fr.roundOf with
    | none=>if jump matches none | some .ret then .go { frame:={ fr with mode:=.returning },callers:=ex ++ cs0,status:=.running,dying:=none } w' else .ended (.stuck why (fr.pos P)) w'
    | some l=>GStep.after (seen P fr.fn ((Instr.endRound l jump).runT P w' #[]).2) (match ((Instr.endRound l jump).runT P w' #[]).1 with
     | .ok v w=>doReturn P true fr (ex ++ cs0) none v w
     | .halt _ w=>.ended (.stuck why' (fr.pos P)) w))
  (match fr.roundOf with
    | none=>if jump matches none | some .ret then .go { frame:={ upF (kOf kb ex) fr with mode:=.returning },callers:=ups kb ex ++ cs,status:=.running,dying:=none } w else .ended (.stuck why ((upF (kOf kb ex) fr).pos P)) w
    | some l=>GStep.after (seen P fr.fn ((Instr.endRound l jump).runT P w #[]).2) (match ((Instr.endRound l jump).runT P w #[]).1 with
     | .ok v w=>doReturn P true (upF (kOf kb ex) fr) (ups kb ex ++ cs) none v w
     | .halt _ w=>.ended (.stuck why' ((upF (kOf kb ex) fr).pos P)) w)):=by
 obtain ⟨fn,tmps,td,dfs,md,kd,ro⟩:=fr
 cases ro with
 | none =>
  have key:=gm_go (k:=kb) (cs0:=cs0) (cs:=cs) (es':=#[]) h (hst.set (fr1:=⟨fn,tmps,td,dfs,.returning,kd,none⟩) ⟨hst.top.todo,hst.top.kind,hst.top.defers⟩ rfl);rcases jump with _ | c
  ·exact key
  ·cases c <;> first | exact key | exact fun _=>trivial
 | some l =>
  have hne:ex≠[]:=round_ne hst rfl;exact mirror_run (tm_endRound hj) h fn (fun r=>match r with | .ok v w=>doReturn P true (upF (kOf kb ex) ⟨fn,tmps,td,dfs,md,kd,some l⟩) (ups kb ex ++ cs) none v w | .halt _ w=>.ended (.stuck why' ((upF (kOf kb ex) ⟨fn,tmps,td,dfs,md,kd,some l⟩).pos P)) w)
   (fun r=>match r with | .ok v w=>doReturn P true ⟨fn,tmps,td,dfs,md,kd,some l⟩ (ex ++ cs0) none v w | .halt _ w=>.ended (.stuck why' ((⟨fn,tmps,td,dfs,md,kd,some l⟩:Frame).pos P)) w) (fun a w1' _ _=>Nat.le_of_eq (by dsimp only;rw [return_world hst hne])) (fun x w1' _=>Nat.le_refl _) (fun a w1 w1' _ hs=>mirror_return hst hne a hs) (fun v w1 w1' hs _=>trivial) fun x w1' _ _=>⟨_,_,_,rfl⟩
theorem mirror_exec (hP:ProgOk P) (hst:StackOk P fr ex) (hn:fr.todo=[]->kOf kb ex=[]) (h:Sim P S c w w') :
 GM P S c kb cs0 cs w (stepG.exec P true true fr (ex ++ cs0) none w') (stepG.exec P true true (upF (kOf kb ex) fr) (ups kb ex ++ cs) none w):=by
 obtain ⟨fn,tmps,td,dfs,md,kd,ro⟩:=fr;have ht:∀ it∈td,ItemOk P it:=hst.top.todo;have hto:∀ l,(∀ it∈l,ItemOk P it)->GM P S c kb cs0 cs w (.go { frame:=⟨fn,tmps,l,dfs,md,kd,ro⟩,callers:=ex ++ cs0,status:=.running,dying:=none } w') (.go { frame:=⟨fn,tmps,l ++ kOf kb ex,dfs,md,kd,ro⟩,callers:=ups kb ex ++ cs,status:=.running,dying:=none } w) :=
  fun l hl=>gm_go h (hst.set (fr1:=⟨fn,tmps,l,dfs,md,kd,ro⟩) ⟨hl,hst.top.kind,hst.top.defers⟩ rfl)
 cases td with
 | nil =>
  have key:=mirror_leave (kb:=kb) (cs0:=cs0) (cs:=cs) (jump:=none) hst (by simp) h "exit, goto: no such block or label" "range over a function: no such loop";rw [hn rfl,upF_nil] at key ⊢;unfold stepG.exec;exact key
 | cons it k =>
  have hit:ItemOk P it:=ht it (List.mem_cons_self ..);have hk:∀ it∈k,ItemOk P it:=fun x hx=>ht x (List.mem_cons_of_mem _ hx);have hcons:∀ {x:Item} {l:List Item},ItemOk P x->(∀ it∈l,ItemOk P it)->∀ it∈x::l,ItemOk P it:=fun hx hl y hy=>(List.mem_cons.1 hy).elim (fun e=>e ▸ hx) (hl y);change GM P S c kb cs0 cs w _ (stepG.exec P true true ⟨fn,tmps,it::(k ++ kOf kb ex),dfs,md,kd,ro⟩ (ups kb ex ++ cs) none w)
  cases it with
  | code c =>
   have hc:codeOk P c=true:=hit
   cases c with
   | ret =>
    have key:=mirror_leave (kb:=kb) (cs0:=cs0) (cs:=cs) (jump:=some .ret) hst (by rintro c hc;cases hc;rfl) h "exit, goto: no such block or label" "range over a function: no such loop";unfold stepG.exec;exact key
   | skip=>exact hto _ hk
   | label l=>exact hto _ hk
   | seq a b =>
    simp only [codeOk,Bool.and_eq_true] at hc;exact hto (.code a::.code b::k) (hcons hc.1 (hcons hc.2 hk))
   | cond c a b =>
    simp only [codeOk,Bool.and_eq_true] at hc;unfold stepG.exec;have e:Frame.eval (⟨fn,tmps,.code (.cond c a b)::(k ++ kOf kb ex),dfs,md,kd,ro⟩:Frame) c=Frame.eval (⟨fn,tmps,.code (.cond c a b)::k,dfs,md,kd,ro⟩:Frame) c:=rfl;dsimp only;rw [e];split
    ·rename_i b' _
     exact hto (.code (if b' then a else b)::k) (hcons (by cases b' <;> simp [ItemOk,hc.1,hc.2]) hk)
    ·exact fun _=>trivial
   | block id b=>exact hto (.code b::.inBlock id::k) (hcons (x:=.code b) hc (hcons (x:=.inBlock id) trivial hk))
   | loop b=>exact hto (.code b::.inLoop b::k) (hcons (x:=.code b) hc (hcons (x:=.inLoop b) hc hk))
   | scope b=>exact hto (.code b::.inScope b::k) (hcons (x:=.code b) hc (hcons (x:=.inScope b) hc hk))
   | exit id =>
    cases he:exitTo id k with
    | none =>
     cases ro with
     | none=>unfold stepG.exec;dsimp only;rw [he];exact fun _=>trivial
     | some l =>
      have hne:ex≠[]:=round_ne hst rfl;have key:=mirror_leave (kb:=kb) (cs0:=cs0) (cs:=cs) (jump:=some (.exit id)) hst (by rintro c hc;cases hc;rfl) h "exit, goto: no such block or label" "range over a function: no such loop";rw [kOf_ne hne,upF_nil] at key;rw [kOf_ne hne,List.append_nil];unfold stepG.exec;dsimp only;rw [he];exact key
    | some k' =>
     unfold stepG.exec;dsimp only;rw [he,exitTo_app _ he];exact hto _ (exitTo_ok he hk)
   | goto l =>
    cases he:gotoIn l k with
    | none =>
     cases ro with
     | none=>unfold stepG.exec;dsimp only;rw [he];exact fun _=>trivial
     | some l' =>
      have hne:ex≠[]:=round_ne hst rfl;have key:=mirror_leave (kb:=kb) (cs0:=cs0) (cs:=cs) (jump:=some (.goto l)) hst (by rintro c hc;cases hc;rfl) h "exit, goto: no such block or label" "range over a function: no such loop";rw [kOf_ne hne,upF_nil] at key;rw [kOf_ne hne,List.append_nil];unfold stepG.exec;dsimp only;rw [he];exact key
    | some k' =>
     unfold stepG.exec;dsimp only;rw [he,gotoIn_app _ he];exact hto _ (gotoIn_ok he hk)
   | rangeFunc f ps a b =>
    simp only [codeOk,Bool.and_eq_true] at hc
    let K:=fun (kx:List Item) (cs:List Frame) (r:Result (Nat × List Deferred))=>match r with
     | .ok (l,mark) w=>stepG.apply P true (⟨fn,tmps,.inRangeFunc l::(k ++ kx),mark ++ dfs,md,kd,ro⟩:Frame) cs none (do let d <- resolve (⟨fn,tmps,.inRangeFunc l::(k ++ kx),mark ++ dfs,md,kd,ro⟩:Frame).eval { callee:=.value f,args:=#[.const (.func (.yield l) #[] #[])],argTypes:=#[] } 0;invoke d.target d.args) w
     | .halt _ w=>.ended (.stuck "range over a function: no such loop" ((⟨fn,tmps,.code (.rangeFunc f ps a b)::(k ++ kx),dfs,md,kd,ro⟩:Frame).pos P)) w
    let K':=fun (r:Result (Nat × List Deferred))=>match r with
     | .ok (l,mark) w=>stepG.apply P true (⟨fn,tmps,.inRangeFunc l::k,mark ++ dfs,md,kd,ro⟩:Frame) (ex ++ cs0) none (do let d <- resolve (⟨fn,tmps,.inRangeFunc l::k,mark ++ dfs,md,kd,ro⟩:Frame).eval { callee:=.value f,args:=#[.const (.func (.yield l) #[] #[])],argTypes:=#[] } 0;invoke d.target d.args) w
     | .halt _ w=>.ended (.stuck "range over a function: no such loop" ((⟨fn,tmps,.code (.rangeFunc f ps a b)::k,dfs,md,kd,ro⟩:Frame).pos P)) w
    refine mirror_run (tm_enterLoop hc.1 hc.2) h fn (K (kOf kb ex) (ups kb ex ++ cs)) K' (fun x w1' hx hh=>?_) (fun x w1' _=>Nat.le_refl _) (fun x w1 w1' hx hs=>?_) (fun v w1 w1' hs _=>trivial) fun x w1' _ _=>⟨_,_,_,rfl⟩
    case refine_1 =>
     obtain ⟨l,mark⟩:=x;show w1'.drawn<=(stepG.apply P true _ (ex ++ cs0) none _ w1').world.drawn;refine Nat.le_trans ?_ (Nat.le_of_eq (congrArg World.drawn (apply_world (show kd=.normal from hst.top.kind) ?_ hh)).symm)
     ·rw [Sem.runT_fst];exact sem_drawn _ _
     ·exact Tm.bind (tm_resolve fun b hb=>by cases hb) fun d hd=>tm_invoke hP hd
    obtain ⟨l,mark⟩:=x;refine mirror_apply (fr:=⟨fn,tmps,.inRangeFunc l::k,mark ++ dfs,md,kd,ro⟩) hP (hst.set ⟨hcons (x:=.inRangeFunc l) trivial hk,hst.top.kind,fun d hd=>?_⟩ rfl) (by simp) (Tm.bind (tm_resolve fun b hb=>by cases hb) fun d hd=>tm_invoke hP hd) hs;rcases List.mem_append.1 hd with hd | hd
    ·exact hx d hd
    ·exact hst.top.defers d hd
   | refuse why=>exact fun _=>trivial
   | region id ops draw =>
    have ho:∀ o∈ops,opOk P o.op=true:=by
     intro o ho;have:=hc;simp only [codeOk] at this;rw [Array.all_eq_true] at this;obtain ⟨i,hi,rfl⟩:=Array.mem_iff_getElem.1 ho;exact this i hi
    unfold stepG.exec;dsimp only;split
    ·exact hto (.inRegion ops _::k) (hcons (x:=.inRegion ops _) ho hk)
    ·have hrun:∀ w:World,(choose (.order fn id)).run P w=.ok ((Question.order fn id).cut (w.tape w.drawn (.order fn id))) { w with drawn:=w.drawn+1 }:=fun w=>by simp [choose,Sem.run,Question.forced]
     rw [hrun,hrun];intro hg;have hlt:w'.drawn < c.e:=hg;have e:(Question.order fn id).cut (w'.tape w'.drawn (.order fn id))=(Question.order fn id).cut (w.tape w.drawn (.order fn id)):=by rw [h.tape.answer _ hlt]
     rw [e];exact Mirror.base (w2:={ w with drawn:=w.drawn+1 }) (Nat.le_refl _) (mirror_go h.drew (hst.set (fr1:=⟨fn,tmps,.inRegion ops _::k,dfs,md,kd,ro⟩) ⟨hcons (x:=.inRegion ops _) ho hk,hst.top.kind,hst.top.defers⟩ rfl))
  | inBlock id=>exact hto _ hk
  | inScope b=>exact hto _ hk
  | inLoop b=>exact hto (.code b::.inLoop b::k) (hcons (x:=.code b) hit (hcons (x:=.inLoop b) hit hk))
  | inRegion ops l =>
   cases l with
   | nil=>exact hto _ hk
   | cons i rest =>
    unfold stepG.exec;dsimp only;split
    ·unfold stepG.oper;dsimp only [Frame.oper?]
     cases hi:ops[i]? with
     | none=>exact fun _=>trivial
     | some o =>
      have hok:opOk P o.op=true:=hit o (Array.mem_of_getElem? hi);have key:=mirror_apply (k:=kb) (cs0:=cs0) (cs:=cs) hP hst (by simp) (tm_execOp hP (ρ:=Frame.eval ⟨fn,tmps,.inRegion ops (i::rest)::k,dfs,md,kd,ro⟩) (fun v=>rfl) hok) h;dsimp only;split
      ·rename_i heq;rw [heq] at hok;cases hok
      ·exact key
    ·exact gm_go h (hst.set (finish_ok hst.top undef) (finish_roundOf _ undef))
  | inRangeFunc l=>exact fun _=>trivial
  | endRangeFunc l =>
   let K:=fun (kx:List Item) (cs:List Frame) (r:Result (Option Code))=>match r with
    | .ok jump w=>GStep.go { frame:=⟨fn,tmps,(jump.map Item.code).toList ++ (k ++ kx),dfs,md,kd,ro⟩,callers:=cs,status:=.running,dying:=none } w
    | .halt (.panic v) w=>.go { frame:=(⟨fn,tmps,.endRangeFunc l::(k ++ kx),dfs,md,kd,ro⟩:Frame).raise [{ v,recovered:=false }],callers:=cs,status:=.running,dying:=none } w
    | .halt _ w=>.ended (.stuck "range over a function: no such loop" ((⟨fn,tmps,.endRangeFunc l::(k ++ kx),dfs,md,kd,ro⟩:Frame).pos P)) w
   let K':=fun (r:Result (Option Code))=>match r with
    | .ok jump w=>GStep.go { frame:=⟨fn,tmps,(jump.map Item.code).toList ++ k,dfs,md,kd,ro⟩,callers:=ex ++ cs0,status:=.running,dying:=none } w
    | .halt (.panic v) w=>.go { frame:=(⟨fn,tmps,.endRangeFunc l::k,dfs,md,kd,ro⟩:Frame).raise [{ v,recovered:=false }],callers:=ex ++ cs0,status:=.running,dying:=none } w
    | .halt _ w=>.ended (.stuck "range over a function: no such loop" ((⟨fn,tmps,.endRangeFunc l::k,dfs,md,kd,ro⟩:Frame).pos P)) w
   refine mirror_run tm_endLoop h fn (K (kOf kb ex) (ups kb ex ++ cs)) K' (fun j w1' _ _=>Nat.le_refl _) (fun x w1' _=>by cases x <;> exact Nat.le_refl _) (fun j w1 w1' hj hs=>?_) (fun v w1 w1' hs=>?_) fun x w1' _ hx=>?_
   ·cases j with
    | none=>exact gm_go hs (hst.set (fr1:=⟨fn,tmps,k,dfs,md,kd,ro⟩) ⟨hk,hst.top.kind,hst.top.defers⟩ rfl)
    | some c'=>exact gm_go hs (hst.set (fr1:=⟨fn,tmps,.code c'::k,dfs,md,kd,ro⟩) ⟨hcons (x:=.code c') (hj c' rfl) hk,hst.top.kind,hst.top.defers⟩ rfl)
   ·have key:=gm_go (k:=kb) (cs0:=cs0) (cs:=cs) (es':=#[]) hs (hst.set (raise_ok hst.top [{ v,recovered:=false }]).1 (raise_ok hst.top _).2);unfold Gk at key;rw [<- raise_up] at key;exact key
   ·cases x <;> first | exact ⟨_,_,_,rfl⟩ | exact absurd rfl (hx _)
  | beginRound =>
   refine mirror_apply hP hst (by simp) (Tm.bindT ?_ fun _=>Tm.pure trivial) h
   cases ro with
   | none=>exact Tm.stuck
   | some l=>exact tm_beginRound
  | call d b r l=>exact (show False from hit).elim
  | extern r a=>exact (show False from hit).elim
theorem mirror_unwind (hP:ProgOk P) (hst:StackOk P fr ex) (hd:¬ Door seg fr ex) (hm:fr.mode≠.run) (h:Sim P S c w w') :
 GM P S c kb cs0 cs w (unwind P true fr (ex ++ cs0) none w') (unwind P true (upF (kOf kb ex) fr) (ups kb ex ++ cs) none w):=by
 obtain ⟨fn,tmps,td,dfs,md,kd,ro⟩:=fr
 cases dfs with
 | cons d ds =>
  obtain ⟨r,hr⟩:=hst.top.defers d (List.mem_cons_self ..);obtain ⟨t,a⟩:=d;simp only at hr;subst hr;unfold unwind
  let K:=fun (kx:List Item) (cs:List Frame) (res:Result (List Deferred))=>match res with
   | .ok calls w=>GStep.go { frame:=⟨fn,tmps,td ++ kx,calls ++ ds,md,kd,ro⟩,callers:=cs,status:=.running,dying:=none } w
   | .halt _ w=>.ended (.stuck "the deferred calls of a range-over-func loop have been taken" ((⟨fn,tmps,td ++ kx,⟨.collected r,a⟩::ds,md,kd,ro⟩:Frame).pos P)) w
  let K':=fun (res:Result (List Deferred))=>match res with
   | .ok calls w=>GStep.go { frame:=⟨fn,tmps,td,calls ++ ds,md,kd,ro⟩,callers:=ex ++ cs0,status:=.running,dying:=none } w
   | .halt _ w=>.ended (.stuck "the deferred calls of a range-over-func loop have been taken" ((⟨fn,tmps,td,⟨.collected r,a⟩::ds,md,kd,ro⟩:Frame).pos P)) w
  refine mirror_run tm_takeDeferred h fn (K (kOf kb ex) (ups kb ex ++ cs)) K' (fun l w1' _ _=>Nat.le_refl _) (fun x w1' _=>Nat.le_refl _) (fun l w1 w1' hl hs=>?_) (fun v w1 w1' hs _=>trivial) fun x w1' _ _=>⟨_,_,_,rfl⟩;subst hl;exact gm_go hs (hst.set (fr1:=⟨fn,tmps,td,ds,md,kd,ro⟩) ⟨hst.top.todo,hst.top.kind,fun d hd=>hst.top.defers d (List.mem_cons_of_mem _ hd)⟩ rfl)
 | nil =>
  have hne:ex≠[]:=fun e=>hd ⟨e,.inr ⟨hm,rfl⟩⟩;have hcat:(⟨fn,tmps,td,[],md,kd,ro⟩:Frame).catches P=false:=by
   have:=hst.top.todo;unfold Frame.catches;split
   ·rename_i heq;rw [show td=_ from heq] at this;exact (show False from this _ (List.mem_cons_self ..)).elim
   ·rfl
  cases md with
  | run=>exact absurd rfl hm
  | panicking chain =>
   cases ex with
   | nil=>exact absurd rfl hne
   | cons c' ex' =>
    rw [show kOf kb (c'::ex')=[] from rfl,upF_nil];unfold unwind;simp only [hcat,Bool.false_eq_true,if_false,List.cons_append,ups];rw [raise_up];exact gm_go h (hst.pop.set (raise_ok hst.pop.top _).1 (raise_ok hst.pop.top _).2)
  | returning =>
   have hret:=fun (v:Value) (w1 w1':World) (hs:Sim P S c w1 w1')=>mirror_return (kb:=kb) (cs0:=cs0) (cs:=cs) hst hne v hs;rw [kOf_ne hne,upF_nil] at hret ⊢;unfold unwind;dsimp only
   cases hf:P.funcs[fn]? with
   | none=>exact hret _ _ _ h
   | some fd =>
    let K:=fun (cs:List Frame) (r:Result Value)=>match r with
     | .ok v w=>doReturn P true ⟨fn,tmps,td,[],.returning,kd,ro⟩ cs none v w
     | .halt (.stuck s) w=>.ended (.stuck s ((⟨fn,tmps,td,[],.returning,kd,ro⟩:Frame).pos P)) w
     | .halt _ w=>.ended (.stuck "return: the result variables cannot be read" ((⟨fn,tmps,td,[],.returning,kd,ro⟩:Frame).pos P)) w
    refine mirror_run tm_results h fn (K (ups kb ex ++ cs)) (K (ex ++ cs0)) (fun a w1' _ _=>Nat.le_of_eq (by show w1'.drawn=(doReturn P true _ (ex ++ cs0) none a w1').world.drawn;rw [return_world hst hne])) (fun x w1' _=>by cases x <;> exact Nat.le_refl _) (fun a w1 w1' _ hs=>hret a w1 w1' hs) (fun v w1 w1' hs _=>trivial) fun x w1' _ hx=>?_;cases x <;> exact ⟨_,_,_,rfl⟩
theorem mirror_step (hP:ProgOk P) (hst:StackOk P fr ex) (hk:seg=false->kb=[]) (hd:¬ Door seg fr ex) (h:Sim P S c w w') :
 GM P S c kb cs0 cs w (stepG P true (G fr (ex ++ cs0)) w') (stepG P true (Gk kb fr ex cs) w):=by
 obtain ⟨fn,tmps,td,dfs,md,kd,ro⟩:=fr
 cases md with
 | run =>
  refine mirror_exec hP hst (fun ht=>?_) h
  cases ex with
  | cons c' ex'=>rfl
  | nil =>
   cases seg with
   | false=>exact hk rfl
   | true=>exact absurd ⟨rfl,.inl ⟨rfl,rfl,ht⟩⟩ hd
 | returning=>exact mirror_unwind hP hst hd (by simp) h
 | panicking ch=>exact mirror_unwind hP hst hd (by simp) h
end
set_option linter.unusedSimpArgs false
def Single (g:Goroutine) (w:World):Machine:={ world:=w,gs:=#[g],rest:={ timers:=#[],alone:=none,slice:=none } }
theorem lone_single (fr:Frame) (cs:List Frame) (w:World):lone fr cs w=Single (G fr cs) w:=rfl
def Lost (m:Machine):Prop:=1 < m.gs.size\/∃ g w,m=Single g w/\(g.status=.blocked\/Fatally g)
section
variable {P:Program}
theorem step_blocked {g:Goroutine} {w:World} (h:g.status=.blocked):∃ o w',step P (Single g w)=.ended o w':=by
 have hm:∃ o w',move P (Single g w)=.machine (.ended o w') #[]:=by
  simp [move,ask,askOn,Single,runnable_eq,due,ahead,Goroutine.canRun,List.range_succ,h,pure,Sem.run];split <;> exact ⟨_,_,rfl⟩
 obtain ⟨o,w',hm⟩:=hm;exact ⟨o,w',by rw [step,stepT,hm]⟩
theorem move_single {g:Goroutine} {w:World} (h:g.status=.running):move P (Single g w)=.goroutine (Single g w) 0:=by
 simp [move,ask,askOn,Single,runnable_eq,due,ahead,Goroutine.canRun,List.range_succ,choose,pure,Sem.run,Question.forced,h]
theorem runT_single {g:Goroutine} {w:World}:runT P (Single g w) 0=match stepG P true g w with
 | .ended o w e=>(.ended o w,MemOp.ofEvents 0 g.frame.fn g.frame.place e)
 | .go g' w' e=>(.next (Single g' w'),MemOp.ofEvents 0 g.frame.fn g.frame.place e)
 | _=>runT P (Single g w) 0:=by
 cases hs:stepG P true g w <;> simp [runT,Single,Array.swapAt!,hs,GStep.es]
theorem fatal_step {g:Goroutine} {w:World} (h:Fatally g) (hr:g.status=.running):(∃ g' w',step P (Single g w)=.next (Single g' w')/\Fatally g')\/∃ o w',step P (Single g w)=.ended o w':=by
 obtain ⟨_,d,hd,hc,hf⟩:=h;obtain ⟨fr,cs,st,dy,off⟩:=g;simp only at hr hd;subst hr hd;obtain ⟨f,hf'⟩:=Option.isSome_iff_exists.1 hf;have key:(∃ g' w' e,stepG P true { frame:=fr,callers:=cs,status:=.running,dying:=some d,offers:=off } w=.go g' w' e/\Fatally g')\/∃ o w' e,stepG P true { frame:=fr,callers:=cs,status:=.running,dying:=some d,offers:=off } w=.ended o w' e:=by
  obtain ⟨todo,texts,calling,pending,re,hand,fatal⟩:=d;simp only at hc hf';subst hc hf';simp only [stepG,die,writeOn];split
  ·exact .inr ⟨_,_,_,rfl⟩
  ·split
   ·exact .inl ⟨_,_,_,rfl,.inl rfl,_,rfl,rfl,rfl⟩
   ·exact .inl ⟨_,_,_,rfl,.inr rfl,_,rfl,rfl,rfl⟩
   ·exact .inr ⟨_,_,_,rfl⟩
   ·exact .inr ⟨_,_,_,rfl⟩
 rcases key with ⟨g',w',e,hs,hg⟩ | ⟨o,w',e,hs⟩
 ·exact .inl ⟨g',w',by rw [step,stepT,move_single rfl];simp only [runT_single,hs],hg⟩
 ·exact .inr ⟨o,w',by rw [step,stepT,move_single rfl];simp only [runT_single,hs]⟩
theorem lost_step {m m':Machine} (h:Lost m) (hs:step P m=.next m'):Lost m':=by
 rcases h with h | ⟨g,w,rfl,h⟩
 ·exact .inl (Nat.lt_of_lt_of_le h (stepT_size P m m' true hs))
 ·have blk:g.status=.blocked->Lost m':=fun hb=>by
   obtain ⟨o,w',he⟩:=step_blocked (P:=P) (w:=w) hb;rw [he] at hs;cases hs
  rcases h with h | h
  ·exact blk h
  ·rcases h.1 with hr | hb
   ·rcases fatal_step (P:=P) (w:=w) h hr with ⟨g',w',he,hg⟩ | ⟨o,w',he⟩
    ·rw [he] at hs;cases hs;exact .inr ⟨g',w',rfl,.inr hg⟩
    ·rw [he] at hs;cases hs
   ·exact blk hb
theorem lost_never {m:Machine} (h:Lost m):∀ (n:Nat) (fr:Frame) (cs:List Frame) (w:World),runN P n m≠.next (lone fr cs w):=by
 intro n
 induction n generalizing m with
 | zero =>
  intro fr cs w e;cases e;rcases h with h | ⟨g,w2,e,h⟩
  ·simp [lone] at h
  ·have e1:g=G fr cs:=by
    have:=congrArg Machine.gs e;simp only [lone,Single] at this;exact (Array.singleton_inj.1 this).symm
   subst e1;rcases h with h | ⟨_,d,hd,_⟩
   ·cases h
   ·cases hd
 | succ n ih =>
  intro fr cs w e
  cases hs:step P m with
  | next m1=>exact ih (lost_step h hs) fr cs w (by simpa only [runN,hs] using e)
  | ended o w1=>simp only [runN,hs] at e;cases e
theorem comm_lost {fr:Frame} {cs:List Frame} {w w1:World} {g1:Goroutine} {cases:Array CommCase} {sh:CommShape} {e:Array Event}
 (h:stepG P true (G fr cs) w=.comm g1 cases true sh w1 e) (hh:∀ (r:Nat) (o:Obj),w1.heap[r]? = some o->HeapOk P o) :
 (∃ m1,step P (lone fr cs w)=.next m1/\Lost m1)\/∃ o w',step P (lone fr cs w)=.ended o w':=by
 have hways:∀ c:CommCase,ways w1 #[{ (default:Goroutine) with status:=.finished }] c=[]:=by
  intro c;unfold ways;split
  ·rename_i r _
   split
   ·rename_i cap buf closed _ _ _ v hc hs
    obtain ⟨h1,h2,h3⟩:=hh _ _ hc;subst h1 h2 h3;simp [partners]
   ·rename_i cap buf closed _ _ _ hc hs
    obtain ⟨h1,h2,h3⟩:=hh _ _ hc;subst h1 h2 h3;simp [partners]
   ·rfl
  ·rfl
 have hready:((cases.zipIdx.toList.map fun (c,k)=>(k,c,ways w1 #[{ (default:Goroutine) with status:=.finished }] c)).filter fun (_,_,ws)=>!ws.isEmpty)=[]:=by
  rw [List.filter_eq_nil_iff];intro x hx;obtain ⟨⟨c,k⟩,_,rfl⟩:=List.mem_map.1 hx;simp [hways]
 have key:(∃ g w2,(communicate P { timers:=#[],alone:=none,slice:=none } #[{ (default:Goroutine) with status:=.finished }] 0 g1 cases true sh w1).1=.next (Single g w2)/\g.status=.blocked)\/∃ o w',(communicate P { timers:=#[],alone:=none,slice:=none } #[{ (default:Goroutine) with status:=.finished }] 0 g1 cases true sh w1).1=.ended o w':=by
  unfold communicate;dsimp only;split
  ·exact .inr ⟨_,_,rfl⟩
  ·rw [hready];simp only [List.isEmpty_nil,if_true];split
   ·exact .inl ⟨{ g1 with status:=.blocked,offers:=some (cases,sh) },_,rfl,rfl⟩
   ·exact .inr ⟨_,_,rfl⟩
 have hst:step P (lone fr cs w)=(communicate P { timers:=#[],alone:=none,slice:=none } #[{ (default:Goroutine) with status:=.finished }] 0 g1 cases true sh w1).1:=by
  rw [step,stepT,lone_single,move_single rfl];simp [runT,Single,Array.swapAt!,h]
 rcases key with ⟨g,w2,e,hb⟩ | ⟨o,w2,e⟩
 ·exact .inl ⟨Single g w2,hst.trans e,.inr ⟨g,w2,rfl,.inl hb⟩⟩
 ·exact .inr ⟨o,w2,hst.trans e⟩
end
end Go.Proofs.YtdjnkplgllakcaaGreatDoor.Mt
namespace Go
def World.on (w:World) (t:Tape) (d:Nat):World:={ w with tape:=t,drawn:=d }
end Go
namespace Go.Proofs.YtdjnkplgllakcaaGreatDoor.Mt
open Go Go.Conc
def bottom:Frame:={ fn:=0,tmps:=#[],todo:=[.code (.refuse "")],defers:=[{ target:=.nil,args:=#[] }],mode:=.run,kind:=.normal }
def Like (P:Program) (S:Mute) (w w':World):Prop:=Sim P S ⟨0,w.tape,w'.tape,w.drawn,w'.drawn,fun _ _ h=>absurd h (Nat.not_lt_zero _)⟩ w w'
theorem Sim.like {P:Program} {S:Mute} {c:Cast} {w w':World} (h:Sim P S c w w'):Like P S w w':=⟨⟨rfl,rfl,0,rfl,rfl⟩,h.os,h.output,h.size,h.block,h.mute,h.heapOk⟩
theorem Like.sim {P:Program} {S:Mute} {w w':World} (h:Like P S w w') (c:Cast):Sim P S c (w.on c.t c.d) (w'.on c.t' c.d'):=⟨⟨rfl,rfl,0,rfl,rfl⟩,h.os,h.output,h.size,h.block,h.mute,h.heapOk⟩
def Whole (P:Program) (w:World):Prop:=∀ (r:Nat) (o:Obj),w.heap[r]? = some o->HeapOk P o
theorem Whole.like {P:Program} {w:World} (h:Whole P w):Like P Mute.no w w:=⟨⟨rfl,rfl,0,rfl,rfl⟩,rfl,rfl,rfl,fun _ _=>rfl,fun _ x=>x.elim,h⟩
section
variable {P:Program} {fr:Frame} {ex:List Frame} {w w':World} {seg:Bool}
theorem Gk_nil (fr:Frame) (cs:List Frame):∀ ex:List Frame,Gk [] fr ex cs=G fr (ex ++ cs):=fun ex=>by
 have h1:∀ l:List Frame,kOf [] l=[]:=fun l=>by cases l <;> rfl
 have h2:∀ l:List Frame,ups [] l=l:=fun l=>by
  induction l with
  | nil=>rfl
  | cons c l ih=>simp only [ups,h1,upF_nil,ih]
 unfold Gk;rw [h1,h2,upF_nil]
def At (seg:Bool) (fr:Frame):Prop:=match seg with
 | true=>fr.mode=.run/\fr.todo=[]
 | false=>fr.mode≠.run/\fr.defers=[]
theorem lone_next (hP:ProgOk P) (hst:StackOk P fr ex) (hd:¬ Door seg fr ex) (hw:Whole P w') {n:Nat} {fr2:Frame} {w2:World}
 (h:runN P (n+1) (lone fr (ex ++ [bottom]) w')=.next (lone fr2 [bottom] w2)) :
 ∃ fr1 ex1 w1 es,stepG P true (G fr (ex ++ [bottom])) w'=.go (G fr1 (ex1 ++ [bottom])) w1 es/\StackOk P fr1 ex1/\Whole P w1/\runN P n (lone fr1 (ex1 ++ [bottom]) w1)=.next (lone fr2 [bottom] w2):=by
 have hm:=mirror_step (kb:=[]) (cs0:=[bottom]) (cs:=[bottom]) (c:=⟨(stepG P true (G fr (ex ++ [bottom])) w').world.drawn,w'.tape,w'.tape,w'.drawn,w'.drawn,fun _ _ _=>rfl⟩) hP hst (fun _=>rfl) hd (hw.like.sim _) (Nat.le_refl _);have never:∀ m1,step P (lone fr (ex ++ [bottom]) w')=.next m1->Lost m1->False:=fun m1 e hl=>by
  simp only [runN,e] at h;exact lost_never hl n _ _ _ h
 have nend:∀ o w3,step P (lone fr (ex ++ [bottom]) w')=.ended o w3->False:=fun o w3 e=>by
  simp only [runN,e] at h;cases h
 have hstep:step P (lone fr (ex ++ [bottom]) w')=(runT P (Single (G fr (ex ++ [bottom])) w') 0).1:=by
  rw [step,stepT,lone_single,move_single rfl]
 change Mirror P _ _ _ _ _ _ (stepG P true (G fr (ex ++ [bottom])) w') _ at hm
 cases hs:stepG P true (G fr (ex ++ [bottom])) w' with
 | go g1 w1 es =>
  rw [hs] at hm;have hst1:step P (lone fr (ex ++ [bottom]) w')=.next (Single g1 w1):=by rw [hstep,runT_single,hs]
  rcases hm with hf | ⟨fr1,ex1,w1',e2,rfl,_,_,hsim,_,hst2⟩
  ·exact (never _ hst1 (.inr ⟨g1,w1,rfl,.inr hf⟩)).elim
  ·refine ⟨fr1,ex1,w1,es,rfl,hst2,hsim.heapOk,?_⟩;simp only [runN,hst1] at h;exact h
 | ended o w1 es=>exact (nend o w1 (by rw [hstep,runT_single,hs])).elim
 | comm g1 cases bl sh w1 es =>
  rw [hs] at hm;obtain ⟨hb,w2,hsim⟩:=hm;subst hb;rcases comm_lost (P:=P) hs hsim.heapOk with ⟨m1,e1,hl⟩ | ⟨o,w3,e1⟩
  ·exact (never _ e1 hl).elim
  ·exact (nend _ _ e1).elim
 | spawn g1 child w1 es =>
  refine (never _ (by rw [hstep];simp [runT,Single,Array.swapAt!,hs];rfl) (.inl ?_)).elim;simp
 | _=>rw [hs] at hm;exact hm.elim
theorem bottom_ends {b:Frame} (hb:b=bottom\/∃ ch,b=bottom.raise ch) {n:Nat} {fr2:Frame} {w1 w2:World}:runN P n (lone b [] w1)≠.next (lone fr2 [bottom] w2):=by
 cases n with
 | zero =>
  intro h;have:=congrArg (fun s=>match s with | .next m=>m.gs | .ended _ _=>#[]) h;simp [runN,lone] at this
 | succ n =>
  have hend:∃ o w3 e,stepG P true (G b []) w1=.ended o w3 e:=by
   rcases hb with rfl | ⟨ch,rfl⟩
   ·exact ⟨_,_,_,rfl⟩
   ·exact ⟨_,_,_,rfl⟩
  obtain ⟨o,w3,e,he⟩:=hend;have hs:step P (lone b [] w1)=.ended o w3:=by
   rw [step,stepT,lone_single,move_single rfl];simp only [runT_single,he]
  intro h;simp only [runN,hs] at h;cases h
theorem left_ends (hst:StackOk P fr []) (hm:fr.mode≠.run) (hdf:fr.defers=[]) {n:Nat} {fr2:Frame} {w2:World}:runN P (n+1) (lone fr ([] ++ [bottom]) w')≠.next (lone fr2 [bottom] w2):=by
 have hcat:fr.catches P=false:=by
  have:=hst.top.todo;unfold Frame.catches;split
  ·rename_i heq;rw [heq] at this;exact (show False from this _ (List.mem_cons_self ..)).elim
  ·rfl
 have key:(∃ b w1 e,stepG P true (G fr ([] ++ [bottom])) w'=.go (G b []) w1 e/\(b=bottom\/∃ ch,b=bottom.raise ch))\/∃ o w1 e,stepG P true (G fr ([] ++ [bottom])) w'=.ended o w1 e:=by
  have hret:∀ v w1,doReturn P true fr ([] ++ [bottom]) none v w1=.go (G bottom []) w1:=fun v w1=>by
   simp only [doReturn,List.nil_append,hst.top.kind];rfl
  unfold stepG G;dsimp only
  cases hmd:fr.mode with
  | run=>exact (hm hmd).elim
  | panicking ch =>
   dsimp only;unfold unwind;rw [hdf];simp only [hmd,hcat,Bool.false_eq_true,if_false,List.nil_append];exact .inl ⟨_,_,_,rfl,.inr ⟨ch,rfl⟩⟩
  | returning =>
   dsimp only;unfold unwind;rw [hdf];simp only [hmd];split
   ·rw [hret];exact .inl ⟨_,_,_,rfl,.inl rfl⟩
   ·split
    ·rw [hret];exact .inl ⟨_,_,_,rfl,.inl rfl⟩
    ·exact .inr ⟨_,_,_,rfl⟩
    ·exact .inr ⟨_,_,_,rfl⟩
 intro h;rcases key with ⟨b,w1,e,hs,hb⟩ | ⟨o,w1,e,hs⟩
 ·have hs1:step P (lone fr ([] ++ [bottom]) w')=.next (lone b [] w1):=by
   rw [step,stepT,lone_single,move_single rfl];simp only [runT_single,hs];rfl
  simp only [runN,hs1] at h;exact bottom_ends hb h
 ·have hs1:step P (lone fr ([] ++ [bottom]) w')=.ended o w1:=by
   rw [step,stepT,lone_single,move_single rfl];simp only [runT_single,hs]
  simp only [runN,hs1] at h;cases h
theorem unwinding (hP:ProgOk P):∀ (n:Nat) {fr fr2:Frame} {w w2:World},StackOk P fr []->Whole P w->fr.mode≠.run->fr2.mode=.run->runN P n (lone fr ([] ++ [bottom]) w)≠.next (lone fr2 [bottom] w2):=by
 intro n
 induction n with
 | zero =>
  intro fr fr2 w w2 hst hw hm hm2 h;have h1:(#[G fr ([] ++ [bottom])]:Array Goroutine)=#[G fr2 [bottom]]:=congrArg (fun s=>match s with | .next m=>m.gs | .ended _ _=>#[]) h;have h2:fr=fr2:=congrArg Goroutine.frame (Array.singleton_inj.1 h1);exact hm (h2 ▸ hm2)
 | succ n ih =>
  intro fr fr2 w w2 hst hw hm hm2 h;by_cases hdf:fr.defers=[]
  ·exact left_ends hst hm hdf h
  have hd:¬ Door false fr []:=fun hd=>by
   rcases hd.2 with h | h
   ·cases h.1
   ·exact hdf h.2
  obtain ⟨fr1,ex1,w1,es,hs,hst1,hw1,h1⟩:=lone_next hP hst hd hw h;have key:fr1.mode=fr.mode/\ex1=[]:=by
   obtain ⟨fn,tmps,td,dfs,md,kd,ro⟩:=fr
   cases dfs with
   | nil=>exact absurd rfl hdf
   | cons d ds =>
    obtain ⟨r,hr⟩:=hst.top.defers d (List.mem_cons_self ..);obtain ⟨t,a⟩:=d;simp only at hr;subst hr;have hu:stepG P true (G ⟨fn,tmps,td,⟨.collected r,a⟩::ds,md,kd,ro⟩ ([] ++ [bottom])) w=unwind P true ⟨fn,tmps,td,⟨.collected r,a⟩::ds,md,kd,ro⟩ ([] ++ [bottom]) none w:=by
     cases md with
     | run=>exact absurd rfl hm
     | _=>rfl
    rw [hu] at hs;unfold unwind at hs;simp only at hs;split at hs
    ·simp only [GStep.after] at hs;have e1:=(GStep.go.inj hs).1;have e2:_=fr1:=congrArg Goroutine.frame e1;have e3:[] ++ [bottom]=ex1 ++ [bottom]:=congrArg Goroutine.callers e1;exact ⟨by rw [<- e2],(List.append_cancel_right e3).symm⟩
    ·cases hs
  obtain ⟨k1,rfl⟩:=key;exact ih hst1 hw1 (by rw [k1];exact hm) hm2 h1
theorem door_ends (hP:ProgOk P) (hst:StackOk P fr ex) (hw:Whole P w') (hd:Door seg fr ex) {n:Nat} {fr2:Frame} {w2:World} (ha:At seg fr2):runN P (n+1) (lone fr (ex ++ [bottom]) w')≠.next (lone fr2 [bottom] w2):=by
 obtain ⟨rfl,⟨rfl,hm,ht⟩ | ⟨hm,hdf⟩⟩:=hd
 ·have hro:fr.roundOf=none:=hst.bot;have hs:stepG P true (G fr ([] ++ [bottom])) w'=.go (G { fr with mode:=.returning } ([] ++ [bottom])) w':=by
   obtain ⟨fn,tmps,td,dfs,md,kd,ro⟩:=fr;simp only at hm ht hro;subst hm ht hro;rfl
  have hs1:step P (lone fr ([] ++ [bottom]) w')=.next (lone { fr with mode:=.returning } ([] ++ [bottom]) w'):=by
   rw [step,stepT,lone_single,move_single rfl];simp only [runT_single,hs];rfl
  intro h;simp only [runN,hs1] at h;exact unwinding hP n (fr:={ fr with mode:=.returning }) (hst.set ⟨hst.top.todo,hst.top.kind,hst.top.defers⟩ rfl) hw (by simp) ha.1 h
 ·exact left_ends hst hm hdf
end
section
variable {P:Program} {seg:Bool}
theorem lone_shift (hP:ProgOk P) {fr fr1:Frame} {ex ex1:List Frame} {w wl:World} {t t2:Tape} {d d2:Nat} {es:Array Event} (hst:StackOk P fr ex) (hd:¬ Door seg fr ex) (hw:Whole P w)
 (h:stepG P true (G fr (ex ++ [bottom])) (w.on t d)=.go (G fr1 (ex1 ++ [bottom])) wl es) (ha:∀ j q,d+j < wl.drawn->t (d+j) q=t2 (d2+j) q) :
 ∃ es2,d<=wl.drawn/\wl.tape=t/\stepG P true (G fr (ex ++ [bottom])) (w.on t2 d2)=.go (G fr1 (ex1 ++ [bottom])) (wl.on t2 (d2+(wl.drawn - d))) es2:=by
 have hm:=mirror_step (kb:=[]) (cs0:=[bottom]) (cs:=[bottom]) (c:=⟨wl.drawn,t2,t,d2,d,fun j q hj=>ha j q hj⟩) hP hst (fun _=>rfl) hd (hw.like.sim _) (Nat.le_of_eq (by show (stepG P true (G fr (ex ++ [bottom])) (w.on t d)).world.drawn=_;rw [h];rfl));rw [Gk_nil] at hm;change Mirror P _ _ _ _ _ _ (stepG P true (G fr (ex ++ [bottom])) (w.on t d)) (stepG P true (G fr (ex ++ [bottom])) (w.on t2 d2)) at hm;rw [h] at hm;rcases hm with ⟨_,y,hy,_⟩ | ⟨fr1',ex1',w1,e2,hg,h2,_,hsim,_,_⟩
 ·cases hy
 ·have e1:fr1=fr1':=congrArg Goroutine.frame hg;have e2':ex1 ++ [bottom]=ex1' ++ [bottom]:=congrArg Goroutine.callers hg;have e3:ex1=ex1':=List.append_cancel_right e2';subst e1 e3;obtain ⟨a1,a2,k,a3,a4⟩:=hsim.tape;simp only at a1 a2 a3 a4;refine ⟨e2,by omega,a2,?_⟩;rw [h2,Gk_nil];congr 1;obtain ⟨hp,tp,dr,os,out⟩:=w1;obtain ⟨hp',tp',dr',os',out'⟩:=wl;have b1:hp=hp':=by
   apply Array.ext_getElem?;intro i;exact (hsim.block i (fun x=>x)).symm
  have b2:os=os':=hsim.os.symm;have b3:out=out':=hsim.output.symm;simp only at a1 a2 a3 a4;subst b1 b2 b3 a1 a3;simp only [World.on,a4];congr 1;omega
end
end Go.Proofs.YtdjnkplgllakcaaGreatDoor.Mt
