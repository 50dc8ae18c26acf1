/- the fault laws -/
import Derived.Test.YtgkajecjbflbbaaGreatDoorGB01
set_option maxHeartbeats 200000
set_option maxRecDepth 100000
set_option linter.all false
namespace Go.Proofs.YtgkajecjbflbbaaGreatDoor.Mt
open Go
section
variable {P:Program} {B:Nat->Bool} {rs:List Nat}
theorem tm_clear {a:Array TypeId} {t:TypeId} {x:Array Value}:T P B rs (Builtin.clear_ a t x):=by unfold Builtin.clear_;(repeat' (first | (with_reducible first | exact tm_storeCells _ _ | exact tm_zeroValue | exact tm_underlying | exact Tm.stuck) | ((with_reducible refine Tm.setObj ?_ ?_ ?_);(· simp);(· trivial);(· rfl)) | ((with_reducible refine Tm.pure ?_);first | trivial | skip) | ((with_reducible refine Tm.getObj ?_ fun o ho=>?_);(· exact ⟨_,rfl⟩)) | (with_reducible refine Tm.bindT ?_ fun _=>?_) | split | (dsimp only)))
structure ProgOk (P:Program) (B:Nat->Bool):Prop where
 code:∀ (f:Nat) (fn:Func),B f=false->P.funcs[f]? = some fn->∀ c,fn.body=some c->codeOk P c=true
 outer:∀ (f:Nat) (fn:Func),B f=false->P.funcs[f]? = some fn->(fn.name == "runtime.NumGoroutine")=false/\(fn.body.isNone=true->Extern.findNext fn=none/\∀ e,Extern.find fn=some e->∀ (P':Program) (B':Nat->Bool) (args:Array Value) (rs:List Nat),T P' B' rs (e args))
def NextOk (P:Program) (B:Nat->Bool):Next->Prop
 | .value _ | .skip | .spawn _=>True
 | .enter f _=>B f=false
 | .comm _ b _=>b=true
 | .round _ f _ a b=>codeOk P a=true/\codeOk P b=true/\B f=false
 | _=>False
def TargetOk:Target->Prop
 | .builtin b ..=>builtinOk b=true
 | .coroexit _=>False
 | _=>True
theorem tm_callFunc (hP:ProgOk P B) {f:FuncId} {args:Array Value}:Tm P B (NextOk P B) rs (callFunc f args):=by
 unfold callFunc
 cases hB:B f with
 | true =>
  cases hf:P.funcs[f]? with
  | none =>
   have e:(muteP B P).funcs[f]? = none:=by
    show (P.funcs.mapIdx _)[f]? = none;rw [Array.getElem?_mapIdx,hf];rfl
   refine Tm.program_bind (by simp only [e,hf]) ?_;simp only [hf];exact Tm.stuck
  | some fn =>
   refine Tm.program_ends ?_;simp only [muteP_bad hB hf,bad_next,bad_find];exact Ends.mark (Ends.halt (h:=.unsupported _) trivial (by simp))
 | false =>
  refine Tm.program_bind (by simp only [muteP_good hB]) ?_;split
  ·exact Tm.stuck
  ·rename_i fn hf
   obtain ⟨h1,h2⟩:=hP.outer f fn hB hf;simp only [h1,Bool.false_eq_true,if_false];refine Tm.ite (fun h=>?_) fun h=>Tm.pure hB;obtain ⟨h3,h4⟩:=h2 h;simp only [h3]
   cases he:Extern.find fn with
   | none=>(repeat' (first | with_reducible exact Tm.stuck | exact Tm.uns (by simp) | (with_reducible first | exact Tm.extern | refine Tm.bindT ?_ fun _=>?_ | refine Tm.ite (fun _=>?_) (fun _=>?_)) | ((with_reducible refine Tm.pure ?_);first | trivial | skip) | split | (dsimp only)))
   | some e =>
    refine Tm.bindT Tm.extern fun _=>?_;exact Tm.bindT (h4 e he P B args _) fun _=>Tm.pure trivial
theorem tm_wrap {t:TypeId} {p:Value} {m:String}:T P B rs (Builtin.ssaWrapNilChk_ #[t] t #[p,strVal "",strVal m]):=by
 unfold Builtin.ssaWrapNilChk_
 cases p with
 | pointer a=>cases a with
  | some a=>exact (Tm.pure trivial:T P B rs (Pure.pure (Value.pointer (some a))))
  | none =>
   refine Tm.bindT (s:=choose (.extern "ssa:wrapnilchk.dereferenced" 2)) Tm.choose fun n=>?_;refine Tm.ite (fun _=>?_) fun _=>?_ <;> (repeat' (first | (with_reducible first | exact tm_runtimePanic | exact tm_typeInfo | exact tm_underlying | exact Tm.stuck) | exact Tm.uns (by simp) | (with_reducible first | exact Tm.choose | refine Tm.bindT ?_ fun _=>?_ | refine Tm.ite (fun _=>?_) (fun _=>?_)) | ((with_reducible refine Tm.pure ?_);first | trivial | skip) | split | (dsimp only)))
 | _=>exact Tm.stuck
theorem tm_get {t:TypeId} {x:Place}:T P B rs (x.get t):=by unfold Place.get;(repeat' (first | with_reducible exact tm_loadVar | ((with_reducible refine Tm.pure ?_);first | trivial | skip) | split | (dsimp only)))
theorem tm_follow:∀ (l:List FieldStep) {t:TypeId} {x:Place},T P B rs (follow l t x)
 | [],t,x=>by unfold follow;(repeat' (first | (with_reducible first | exact tm_get | exact tm_fieldPlace | exact tm_asAddr | exact tm_part | exact tm_underlying | exact Tm.stuck | refine Tm.bindT ?_ fun _=>?_ | refine Tm.ite (fun _=>?_) (fun _=>?_)) | ((with_reducible refine Tm.pure ?_);first | trivial | skip) | split | (dsimp only)))
 | s::l,t,x=>by
  have ih:∀ {t:TypeId} {x:Place},T P B rs (follow l t x):=tm_follow l;unfold follow
  repeat' (first | with_reducible exact ih | (first | (with_reducible first | exact tm_get | exact tm_fieldPlace | exact tm_asAddr | exact tm_part | exact tm_underlying | exact Tm.stuck | refine Tm.bindT ?_ fun _=>?_ | refine Tm.ite (fun _=>?_) (fun _=>?_)) | ((with_reducible refine Tm.pure ?_);first | trivial | skip) | split | (dsimp only)))
theorem tm_receiverAt {t:TypeId} {x:Place} {b:Bool} {w:Option String}:T P B rs (receiverAt t x b w):=by unfold receiverAt;(repeat' (first | (with_reducible first | exact tm_wrap | exact tm_get | exact tm_asAddr | exact tm_loadVar | exact tm_underlying | exact Tm.stuck | refine Tm.bindT ?_ fun _=>?_) | ((with_reducible refine Tm.pure ?_);first | trivial | skip) | split | (dsimp only)))
theorem tm_receiverVia {t:TypeId} {v:Value} {p:Array FieldStep} {b:Bool}:T P B rs (receiverVia t v p b):=by unfold receiverVia;(repeat' (first | (with_reducible first | exact tm_follow _ | exact tm_receiverAt | refine Tm.bindT ?_ fun _=>?_) | split | (dsimp only)))
theorem tm_method:∀ (d:Nat) {t:TypeId} {v:Value} {n:String},T P B rs (method d t v n)
 | 0,t,v,n=>by unfold method;(repeat' (first | (with_reducible first | exact tm_follow _ | exact tm_receiverAt | exact tm_get | exact tm_runtimePanic | exact tm_typeInfo | exact Tm.stuck) | exact Tm.uns (by simp) | ((with_reducible refine Tm.pure ?_);first | trivial | skip) | (with_reducible refine Tm.bindT ?_ fun _=>?_) | split | (dsimp only)))
 | d+1,t,v,n=>by
  have ih:∀ {t:TypeId} {v:Value} {n:String},T P B rs (method d t v n):=tm_method d;unfold method
  repeat' (first | with_reducible exact ih | (first | (with_reducible first | exact tm_follow _ | exact tm_receiverAt | exact tm_get | exact tm_runtimePanic | exact tm_typeInfo | exact Tm.stuck) | exact Tm.uns (by simp) | ((with_reducible refine Tm.pure ?_);first | trivial | skip) | (with_reducible refine Tm.bindT ?_ fun _=>?_) | split | (dsimp only)))
theorem tm_followBlind:∀ (l:List FieldStep) {t:TypeId} {x:Option Value},T P B rs (followBlind l t x)
 | [],t,x=>by unfold followBlind;(repeat' (first | (with_reducible first | exact tm_part | exact tm_underlying | exact Tm.stuck | refine Tm.bindT ?_ fun _=>?_) | ((with_reducible refine Tm.pure ?_);first | trivial | skip) | split | (dsimp only)))
 | s::l,t,x=>by
  have ih:∀ {t:TypeId} {x:Option Value},T P B rs (followBlind l t x):=tm_followBlind l;unfold followBlind
  repeat' (first | with_reducible exact ih | (first | (with_reducible first | exact tm_part | exact tm_underlying | exact Tm.stuck | refine Tm.bindT ?_ fun _=>?_) | ((with_reducible refine Tm.pure ?_);first | trivial | skip) | split | (dsimp only)))
theorem tm_nilAhead:∀ (d:Nat) {t:TypeId} {v:Value} {n:String},T P B rs (nilAhead d t v n)
 | 0,t,v,n=>by unfold nilAhead;(repeat' (first | (with_reducible first | exact tm_followBlind _ | exact tm_typeInfo | exact tm_underlying | exact Tm.stuck | refine Tm.bindT ?_ fun _=>?_) | ((with_reducible refine Tm.pure ?_);first | trivial | skip) | split | (dsimp only)))
 | d+1,t,v,n=>by
  have ih:∀ {t:TypeId} {v:Value} {n:String},T P B rs (nilAhead d t v n):=tm_nilAhead d;unfold nilAhead
  repeat' (first | with_reducible exact ih | (first | (with_reducible first | exact tm_followBlind _ | exact tm_typeInfo | exact tm_underlying | exact Tm.stuck | refine Tm.bindT ?_ fun _=>?_) | ((with_reducible refine Tm.pure ?_);first | trivial | skip) | split | (dsimp only)))
theorem tm_callMethod (hP:ProgOk P B) {r:Value} {n:String} {args:Array Value}:Tm P B (NextOk P B) rs (callMethod r n args):=by
 unfold callMethod
 repeat' (first | with_reducible exact tm_callFunc hP | (first | (with_reducible first | exact tm_method _ | exact tm_runtimePanic | exact Tm.stuck) | ((with_reducible refine Tm.program_bind ?_ ?_);(· first | (simp only [stood_mute,holdsPacked_mute,eqGuardType_mute,cellAtBytes_mute,depth_mute,cells_mute,bytes_mute];done) | (simp only [stood_mute,holdsPacked_mute,eqGuardType_mute,cellAtBytes_mute,depth_mute,cells_mute,bytes_mute];rfl) | rfl)) | (with_reducible refine Tm.bindT ?_ fun _=>?_) | split | (dsimp only)))
theorem tm_getLoop {l:Nat}:Tm P B (fun r=>codeOk P r.assign=true/\codeOk P r.body=true/\(∀ c,r.pending=some c->codeOk P c=true)/\B r.fn=false) rs (Instr.getLoop l):=by
 unfold Instr.getLoop;refine Tm.getObj ⟨_,rfl⟩ fun o ho=>?_;split
 ·exact Tm.pure ho
 ·exact Tm.stuck
theorem tm_yield {l:Nat} {args:Array Value}:Tm P B (NextOk P B) rs (Instr.yield l args):=by
 unfold Instr.yield;refine Tm.bind tm_getLoop fun r hr=>?_;refine Tm.ite (fun _=>Tm.bindT Tm.stuck fun _=>Tm.pure ⟨hr.1,hr.2.1,hr.2.2.2⟩) fun _=>Tm.pure ⟨hr.1,hr.2.1,hr.2.2.2⟩
theorem tm_builtin {b:Builtin} (h:builtinOk b=true) {a:Array TypeId} {t:TypeId} {c:Array Bool} {x:Array Value}:Tm P B (NextOk P B) rs (builtin b a t c x):=by
 unfold builtin;cases b <;> first | (cases h;done) | (dsimp only;(repeat' (first | (with_reducible first | exact tm_clear | exact tm_append | exact tm_cap | exact tm_copy | exact tm_len | exact tm_max | exact tm_min | exact tm_delete | refine Tm.bindT ?_ fun _=>?_) | ((with_reducible refine Tm.pure ?_);first | trivial | skip) | split | (dsimp only))))
theorem tm_invoke (hP:ProgOk P B) {t:Target} (h:TargetOk t) {args:Array Value}:Tm P B (NextOk P B) rs (invoke t args):=by
 unfold invoke;split
 ·(repeat' (first | (with_reducible first | exact tm_receiverVia | exact tm_runtimePanic | exact tm_underlying | exact Tm.stuck | refine Tm.bindT ?_ fun _=>?_) | split | (dsimp only)))
 ·exact tm_builtin h
 ·exact tm_callFunc hP
 ·repeat' (first | with_reducible exact tm_callMethod hP | (first | (with_reducible first | exact tm_receiverVia | exact tm_runtimePanic | exact tm_underlying | exact Tm.stuck | refine Tm.bindT ?_ fun _=>?_) | split | (dsimp only)))
 ·repeat' (first | with_reducible exact tm_callMethod hP | (first | (with_reducible first | exact tm_receiverVia | exact tm_runtimePanic | exact tm_underlying | exact Tm.stuck | refine Tm.bindT ?_ fun _=>?_) | split | (dsimp only)))
 ·repeat' (first | with_reducible exact tm_callFunc hP | (first | (with_reducible first | exact tm_receiverVia | exact tm_runtimePanic | exact tm_underlying | exact Tm.stuck | refine Tm.bindT ?_ fun _=>?_) | split | (dsimp only)))
 ·exact tm_yield
 ·(repeat' (first | (with_reducible first | exact tm_receiverVia | exact tm_runtimePanic | exact tm_underlying | exact Tm.stuck | refine Tm.bindT ?_ fun _=>?_) | split | (dsimp only)))
 ·exact h.elim
theorem tm_ofValue {v:Value} {args:Array Value}:Tm P B (fun d=>TargetOk d.target) rs (Deferred.ofValue v args):=by
 unfold Deferred.ofValue;(repeat' (first | with_reducible exact Tm.stuck | ((with_reducible refine Tm.pure ?_);first | trivial | skip) | split | (dsimp only)))
theorem tm_resolve {ρ:Operand->Value} {c:Call} {t:TypeId} (h:∀ b,c.callee=.builtin b->builtinOk b=true):Tm P B (fun d=>TargetOk d.target) rs (resolve ρ c t):=by
 unfold resolve;dsimp only;split
 ·rename_i b hb;exact Tm.pure (h b hb)
 ·exact Tm.pure trivial
 ·exact tm_ofValue
theorem tm_resolve' {ρ:Operand->Value} {c:Call} {t:TypeId}:T P B rs (resolve ρ c t):=by
 unfold resolve;dsimp only;split
 ·(repeat' (first | ((with_reducible refine Tm.pure ?_);first | trivial | skip) | split | (dsimp only)))
 ·(repeat' (first | ((with_reducible refine Tm.pure ?_);first | trivial | skip) | split | (dsimp only)))
 ·exact tm_ofValue.mono fun _ _=>trivial
theorem tm_execOp (hP:ProgOk P B) {ρ:Operand->Value} (hρ:∀ v,ρ (.const v)=v) {o:Oper} (h:opOk P o.op=true):Tm P B (NextOk P B) rs (execOp ρ o):=by
 unfold execOp;dsimp only;split <;> rename_i heq <;> rw [heq] at h <;> first
  | (cases h;done)
  | (dsimp only [opOk] at h;split at h
     ·rw [hρ];exact Tm.bindT tm_makeChan fun _=>Tm.pure trivial
     ·cases h)
  | (exact Tm.bindT (tm_convert h) fun _=>Tm.pure trivial)
  | (refine Tm.bind (tm_resolve fun b hb=>?_) fun d hd=>tm_invoke hP hd
     simpa [opOk,hb] using h)
  | (refine Tm.bindT tm_resolve' fun d=>Tm.pure trivial)
  | ((repeat' (first | (with_reducible first | exact tm_nilAhead _ | exact tm_lookup | exact tm_mapUpdate | exact tm_mapEntry | exact tm_entryStore | exact tm_range | exact tm_next | exact tm_entry | exact tm_alloc | exact tm_loadAt | exact tm_storeAt | exact tm_fieldAt | exact tm_indexAt | exact tm_sliceAt | exact tm_box | exact tm_build | exact tm_buildSlice | exact tm_makeInterface | exact tm_makeFunc | exact tm_makeMap | exact tm_makeSlice | exact tm_field | exact tm_index | exact tm_extract | exact tm_eqGuard | exact tm_binOp | exact tm_unary | exact tm_asBool | exact tm_runtimePanic | exact tm_zeroValue | exact tm_underlying | exact Tm.stuck) | exact Tm.uns (by simp) | ((with_reducible refine Tm.pure ?_);first | trivial | skip) | ((with_reducible refine Tm.program_bind ?_ ?_);(· first | (simp only [stood_mute,holdsPacked_mute,eqGuardType_mute,cellAtBytes_mute,depth_mute,cells_mute,bytes_mute];done) | (simp only [stood_mute,holdsPacked_mute,eqGuardType_mute,cellAtBytes_mute,depth_mute,cells_mute,bytes_mute];rfl) | rfl)) | (with_reducible first | refine Tm.bindT ?_ fun _=>?_ | refine Tm.mapMArray fun _=>?_ | refine Tm.ite (fun _=>?_) (fun _=>?_)) | split | (dsimp only)));done)
  | ((repeat' (first | (with_reducible first | exact tm_nilAhead _ | exact tm_lookup | exact tm_mapUpdate | exact tm_mapEntry | exact tm_entryStore | exact tm_range | exact tm_next | exact tm_entry | exact tm_alloc | exact tm_loadAt | exact tm_storeAt | exact tm_fieldAt | exact tm_indexAt | exact tm_sliceAt | exact tm_box | exact tm_build | exact tm_buildSlice | exact tm_makeInterface | exact tm_makeFunc | exact tm_makeMap | exact tm_makeSlice | exact tm_field | exact tm_index | exact tm_extract | exact tm_eqGuard | exact tm_binOp | exact tm_unary | exact tm_asBool | exact tm_runtimePanic | exact tm_zeroValue | exact tm_underlying | exact Tm.stuck) | exact Tm.uns (by simp) | ((with_reducible refine Tm.pure ?_);first | trivial | skip) | ((with_reducible refine Tm.program_bind ?_ ?_);(· first | (simp only [stood_mute,holdsPacked_mute,eqGuardType_mute,cellAtBytes_mute,depth_mute,cells_mute,bytes_mute];done) | (simp only [stood_mute,holdsPacked_mute,eqGuardType_mute,cellAtBytes_mute,depth_mute,cells_mute,bytes_mute];rfl) | rfl)) | (with_reducible first | refine Tm.bindT ?_ fun _=>?_ | refine Tm.mapMArray fun _=>?_ | refine Tm.ite (fun _=>?_) (fun _=>?_)) | split | (dsimp only)));exact h)
end
end Go.Proofs.YtgkajecjbflbbaaGreatDoor.Mt
namespace Go
def GStep.world:GStep->World
 | .go _ w _ | .comm _ _ _ _ w _ | .spawn _ _ w _ | .count _ w _ | .timer _ _ w _ | .alone _ _ w _ | .newcoro _ _ _ w _ | .coroswitch _ _ _ w _ | .collect _ w _ | .watch _ w _ | .ended _ w _=>w
end Go
namespace Go.Proofs.YtgkajecjbflbbaaGreatDoor.Mt
open Go Go.Conc
def ItemOk (P:Program):Item->Prop
 | .code c=>codeOk P c=true
 | .inRegion ops _=>∀ o∈ops,opOk P o.op=true
 | .inLoop c | .inScope c=>codeOk P c=true
 | .inBlock _ | .inRangeFunc _ | .endRangeFunc _ | .beginRound=>True
 | .call .. | .extern ..=>False
structure FrameOk (P:Program) (B:Nat->Bool) (fr:Frame):Prop where
 todo:∀ it∈fr.todo,ItemOk P it
 kind:fr.kind=.normal
 defers:∀ d∈fr.defers,∃ r,d.target=.collected r
 good:B fr.fn=false
def BotOk:Frame->List Frame->Prop
 | fr,[]=>fr.roundOf=none
 | _,c::cs=>BotOk c cs
structure StackOk (P:Program) (B:Nat->Bool) (fr:Frame) (ex:List Frame):Prop where
 top:FrameOk P B fr
 rest:∀ c∈ex,FrameOk P B c
 busy:∀ c∈ex,c.todo≠[]
 bot:BotOk fr ex
def upF (k:List Item) (fr:Frame):Frame:={ fr with todo:=fr.todo ++ k }
def kOf (k:List Item):List Frame->List Item
 | []=>k
 | _::_=>[]
def ups (k:List Item):List Frame->List Frame
 | []=>[]
 | c::l=>upF (kOf k l) c::ups k l
def Gk (k:List Item) (fr:Frame) (ex cs:List Frame):Goroutine:=G (upF (kOf k ex) fr) (ups k ex ++ cs)
theorem upF_nil (fr:Frame):upF [] fr=fr:=by unfold upF;rw [List.append_nil]
def Door (seg:Bool) (fr:Frame) (ex:List Frame):Prop:=ex=[]/\((seg=true/\fr.mode=.run/\fr.todo=[])\/(fr.mode≠.run/\fr.defers=[]))
def Fatally (g:Goroutine):Prop:=(g.status=.running\/g.status=.blocked)/\∃ d,g.dying=some d/\d.calling=false/\d.fatal.isSome=true
section
variable {P:Program} {B:Nat->Bool} {S:Mute} {c:Cast} {k:List Item} {cs0 cs:List Frame} {w w':World}
def Mirror (P:Program) (B:Nat->Bool) (S:Mute) (c:Cast) (k:List Item) (cs0 cs:List Frame) (w:World):GStep->GStep->Prop
 | .go g1 w1' _,two=>Fatally g1\/∃ fr1 ex1 w1 es,g1=G fr1 (ex1 ++ cs0)/\two=.go (Gk k fr1 ex1 cs) w1 es/\(∀ e∈es,EvOk S w1.heap.size e)/\Sim P B S c w1 w1'/\w.heap.size<=w1.heap.size/\StackOk P B fr1 ex1
 | .ended ..,_=>True
 | .spawn ..,_=>True
 | .comm _ _ blocking _ w1' _,_=>blocking=true/\∃ w1,Sim P B S c w1 w1'
 | _,_=>False
theorem after_world {es:Array Event} {g:GStep}:(g.after es).world=g.world:=by cases g <;> rfl
def GM (P:Program) (B:Nat->Bool) (S:Mute) (c:Cast) (k:List Item) (cs0 cs:List Frame) (w:World) (one two:GStep):Prop:=one.world.drawn<=c.e->Mirror P B S c k cs0 cs w one two
theorem mirror_go {fr1:Frame} {ex1:List Frame} {es':Array Event} (hs:Sim P B S c w w') (h:StackOk P B fr1 ex1):Mirror P B S c k cs0 cs w (.go (G fr1 (ex1 ++ cs0)) w' es') (.go (Gk k fr1 ex1 cs) w) :=
 .inr ⟨fr1,ex1,w,#[],rfl,rfl,by simp,hs,Nat.le_refl _,h⟩
theorem gm_go {fr1:Frame} {ex1:List Frame} {es':Array Event} (hs:Sim P B S c w w') (h:StackOk P B fr1 ex1):GM P B S c k cs0 cs w (.go (G fr1 (ex1 ++ cs0)) w' es') (.go (Gk k fr1 ex1 cs) w):=fun _=>mirror_go hs h
theorem StackOk.set {fr fr1:Frame} {ex:List Frame} (h:StackOk P B fr ex) (h1:FrameOk P B fr1) (hr:fr1.roundOf=fr.roundOf):StackOk P B fr1 ex :=
 ⟨h1,h.rest,h.busy,by
   have:=h.bot
   cases ex with
   | nil=>exact hr.trans this
   | cons c ex=>exact this⟩
theorem StackOk.push {fr fr1:Frame} {ex:List Frame} (h:StackOk P B fr ex) (hb:fr.todo≠[]) (h1:FrameOk P B fr1):StackOk P B fr1 (fr::ex) :=
 ⟨h1,fun c hc=>by
   rcases List.mem_cons.1 hc with rfl | hc
   ·exact h.top
   ·exact h.rest c hc,fun c hc=>by
   rcases List.mem_cons.1 hc with rfl | hc
   ·exact hb
   ·exact h.busy c hc,h.bot⟩
theorem StackOk.pop {fr c:Frame} {ex:List Frame} (h:StackOk P B fr (c::ex)):StackOk P B c ex:=⟨h.rest c (by simp),fun x hx=>h.rest x (by simp [hx]),fun x hx=>h.busy x (by simp [hx]),h.bot⟩
theorem finish_roundOf (fr:Frame) (v:Value):(fr.finish v).roundOf=fr.roundOf:=by unfold Frame.finish;split <;> rfl
theorem finish_up {fr:Frame} (h:fr.todo≠[]) (k:List Item) (v:Value):(upF k fr).finish v=upF k (fr.finish v):=by
 obtain ⟨fn,tmps,td,ds,md,kd,ro⟩:=fr
 cases td with
 | nil=>exact absurd rfl h
 | cons it rest =>
  cases it <;> try rfl
  rename_i ops l
  cases l <;> rfl
theorem raise_up {fr:Frame} (k:List Item) (v:List PanicEntry):(upF k fr).raise v=upF k (fr.raise v):=by
 obtain ⟨fn,tmps,td,ds,md,kd,ro⟩:=fr;cases md <;> rfl
theorem finish_ok {fr:Frame} (h:FrameOk P B fr) (v:Value):FrameOk P B (fr.finish v):=by
 obtain ⟨h1,h2,h3,h4⟩:=h;unfold Frame.finish;split
 ·rename_i ops i rest k heq
  refine ⟨fun it hit=>?_,h2,h3,h4⟩;simp only [heq] at h1;rcases List.mem_cons.1 hit with rfl | hit
  ·exact h1 (.inRegion ops (i::rest)) (by simp)
  ·exact h1 it (by simp [hit])
 ·rename_i l k heq
  refine ⟨fun it hit=>?_,h2,h3,h4⟩;simp only [heq] at h1;rcases List.mem_cons.1 hit with rfl | hit
  ·trivial
  ·exact h1 it (by simp [hit])
 ·rename_i k heq
  exact ⟨fun it hit=>by simp only [heq] at h1;exact h1 it (by simp at hit ⊢;exact .inr hit),h2,h3,h4⟩
 ·rename_i heq;simp only [heq] at h1;exact (show False from h1 _ (List.mem_cons_self ..)).elim
 ·rename_i heq;simp only [heq] at h1;exact (show False from h1 _ (List.mem_cons_self ..)).elim
 ·exact ⟨h1,h2,h3,h4⟩
theorem raise_ok {fr:Frame} (h:FrameOk P B fr) (v:List PanicEntry):FrameOk P B (fr.raise v)/\(fr.raise v).roundOf=fr.roundOf:=by
 obtain ⟨h1,h2,h3,h4⟩:=h;unfold Frame.raise;split <;> exact ⟨⟨h1,h2,h3,h4⟩,rfl⟩
theorem enter_mute {f:FuncId} (hf:B f=false) (args:Array Value) (k:CallKind):Frame.enter (muteP B P) f args k=Frame.enter P f args k:=by
 unfold Frame.enter;rw [muteP_good hf]
theorem enter_ok (hP:ProgOk P B) {f:FuncId} (hB:B f=false) (args:Array Value):FrameOk P B (Frame.enter P f args .normal):=by
 refine ⟨fun it hit=>?_,rfl,fun d hd=>by simp [Frame.enter] at hd,hB⟩;simp only [Frame.enter,List.mem_singleton] at hit;subst hit;show codeOk P _=true
 cases hf:P.funcs[f]? with
 | none=>rfl
 | some fn =>
  cases hb:fn.body with
  | none=>simp [hb];rfl
  | some c=>simp only [Option.bind_some,hb,Option.getD_some];exact hP.code f fn hB hf c hb
theorem seen_mem {fn:FuncId} {es:Array Event} {e:Event} (h:e∈seen P fn es):e∈es:=by
 unfold seen at h;dsimp only at h;obtain ⟨l⟩:=es;simp only [List.foldl_toArray'] at h
 have key:∀ (l:List Event) (q:Bool) (kept:Array Event),e∈(l.foldl (fun (x:Bool × Array Event) e=>match e.loc with
  | .mark (.extern f)=>((P.funcs[f]?).any (·.norace),x.2)
  | _=>(x.1,if x.1 && !e.sync then x.2 else x.2.push e)) (q,kept)).2->e∈kept\/e∈l:=by
  intro l
  induction l with
  | nil=>exact fun q kept h=>.inl h
  | cons a l ih =>
   intro q kept h;rw [List.foldl_cons] at h;split at h
   ·exact (ih _ _ h).imp id fun x=>List.mem_cons_of_mem _ x
   ·rcases ih _ _ h with h | h
    ·split at h
     ·exact .inl h
     ·rcases Array.mem_push.1 h with h | h
      ·exact .inl h
      ·exact .inr (h ▸ List.mem_cons_self ..)
    ·exact .inr (List.mem_cons_of_mem _ h)
 rcases key l _ _ h with h | h
 ·simp at h
 ·simpa using h
theorem pair_of {α β:Type} {x:α × β} {a:α} (h:x.1=a):∃ b,x=(a,b):=⟨x.2,by rw [<- h]⟩
theorem sem_mirror {α:Type} {φ:α->Prop} {s:Sem α} (hs:Tm P B φ [] s) (h:Sim P B S c w w') (hg:(s.runT (muteP B P) w' #[]).1.world.drawn<=c.e) :
 (∃ a w1 w1' evs,(s.runT (muteP B P) w' #[]).1=.ok a w1'/\s.runT P w #[]=(.ok a w1,evs)/\(∀ e∈evs,EvOk S w1.heap.size e)/\Sim P B S c w1 w1'/\w.heap.size<=w1.heap.size/\φ a) \/
 (∃ v w1 w1' evs,(s.runT (muteP B P) w' #[]).1=.halt (.panic v) w1'/\s.runT P w #[]=(.halt (.panic v) w1,evs)/\(∀ e∈evs,EvOk S w1.heap.size e)/\Sim P B S c w1 w1'/\w.heap.size<=w1.heap.size) \/
 (∃ h w1',(s.runT (muteP B P) w' #[]).1=.halt h w1'/\haltOk h/\∀ v,h≠.panic v):=by
 rw [Sem.runT_fst] at hg ⊢;have key:=tame_run s [] w w' #[] (hs (fun a _=>φ a) [] (by simp) fun a ok' ha _=>ha) h (fun x hx=>by cases hx) hg
 cases hr:s.run (muteP B P) w' with
 | ok a w1' =>
  rw [hr] at key;obtain ⟨w1,evs,a1,a2,a3,a4,_,a5⟩:=key;exact .inl ⟨a,w1,w1',evs,rfl,by simpa using a1,a2,a3,a4,a5⟩
 | halt x w1' =>
  rw [hr] at key;by_cases hx:∃ v,x=.panic v
  ·obtain ⟨v,rfl⟩:=hx;obtain ⟨w1,evs,a1,a2,a3,a4⟩:=key;exact .inr (.inl ⟨v,w1,w1',evs,rfl,by simpa using a1,a2,a3,a4⟩)
  ·refine .inr (.inr ⟨x,w1',rfl,?_,fun v e=>hx ⟨v,e⟩⟩);cases x <;> first | exact key | exact absurd ⟨_,rfl⟩ hx
theorem mirror_after {es es':Array Event} {one two:GStep} (hes:∀ e∈es,∀ N,w.heap.size<=N->EvOk S N e) (h:Mirror P B S c k cs0 cs w one two):Mirror P B S c k cs0 cs w (GStep.after es' one) (GStep.after es two):=by
 cases one with
 | go g1 w1' e1 =>
  obtain h | ⟨fr1,ex1,w1,e2,a,rfl,b,c,d,f⟩:=h
  ·exact .inl h
  exact .inr ⟨fr1,ex1,w1,es ++ e2,a,rfl,fun e he=>(Array.mem_append.1 he).elim (fun he=>hes e he _ d) (b e),c,d,f⟩
 | comm g1 cases bl sh w1' e1=>exact h
 | spawn=>exact h
 | ended=>exact h
 | _=>exact h.elim
theorem Mirror.base {w2:World} {one two:GStep} (hle:w.heap.size<=w2.heap.size) (h:Mirror P B S c k cs0 cs w2 one two):Mirror P B S c k cs0 cs w one two:=by
 cases one with
 | go g1 w1' e1 =>
  obtain h | ⟨fr1,ex1,w1,e2,a,b,c,d,e,f⟩:=h
  ·exact .inl h
  exact .inr ⟨fr1,ex1,w1,e2,a,b,c,d,Nat.le_trans hle e,f⟩
 | comm g1 cases bl sh w1' e1=>exact h
 | spawn=>exact h
 | ended=>exact h
 | _=>exact h.elim
theorem sem_one {α:Type} {φ:α->Prop} {s:Sem α} (hs:Tm P B φ [] s) (h:∀ (r:Nat) (o:Obj),w'.heap[r]? = some o->HeapOk P B o) :
 (∃ a w1',(s.runT (muteP B P) w' #[]).1=.ok a w1'/\φ a/\∀ (r:Nat) (o:Obj),w1'.heap[r]? = some o->HeapOk P B o)\/(∃ x w1',(s.runT (muteP B P) w' #[]).1=.halt x w1'/\haltOk x):=by
 have hself:Sim P B Mute.no ⟨(s.runT (muteP B P) w' #[]).1.world.drawn,w'.tape,w'.tape,w'.drawn,w'.drawn,fun _ _ _=>rfl⟩ w' w' :=
  ⟨⟨rfl,rfl,0,rfl,rfl⟩,rfl,rfl,rfl,fun _ _=>rfl,fun _ x=>x.elim,h⟩
 rcases sem_mirror (B:=B) hs hself (Nat.le_refl _) with ⟨a,w1,w1',evs,e1,_,_,h3,_,hφ⟩ | ⟨v,w1,w1',evs,e1,_⟩ | ⟨x,w1',e1,hx,_⟩
 ·exact .inl ⟨a,w1',e1,hφ,h3.heapOk⟩
 ·exact .inr ⟨_,w1',e1,trivial⟩
 ·exact .inr ⟨x,w1',e1,hx⟩
theorem mirror_run {α:Type} {φ:α->Prop} {s:Sem α} (hs:Tm P B φ [] s) (h:Sim P B S c w w') (fn:FuncId) (K K':Result α->GStep)
 (hK:∀ a w1',φ a->(∀ (r:Nat) (o:Obj),w1'.heap[r]? = some o->HeapOk P B o)->w1'.drawn<=(K' (.ok a w1')).world.drawn)
 (hKh:∀ x w1',haltOk x->w1'.drawn<=(K' (.halt x w1')).world.drawn)
 (hok:∀ a w1 w1',φ a->Sim P B S c w1 w1'->GM P B S c k cs0 cs w1 (K' (.ok a w1')) (K (.ok a w1)))
 (hpanic:∀ v w1 w1',Sim P B S c w1 w1'->GM P B S c k cs0 cs w1 (K' (.halt (.panic v) w1')) (K (.halt (.panic v) w1)))
 (hhalt:∀ x w1',haltOk x->(∀ v,x≠.panic v)->∃ o w2 e,K' (.halt x w1')=.ended o w2 e) :
 GM P B S c k cs0 cs w (GStep.after (seen (muteP B P) fn (s.runT (muteP B P) w' #[]).2) (K' (s.runT (muteP B P) w' #[]).1)) (GStep.after (seen P fn (s.runT P w #[]).2) (K (s.runT P w #[]).1)):=by
 intro hg;rw [after_world] at hg;have hg':(s.runT (muteP B P) w' #[]).1.world.drawn<=c.e:=by
  rcases sem_one hs h.heapOk with ⟨a,w1',e1,hφ,hh⟩ | ⟨x,w1',e1,hx⟩
  ·rw [e1] at hg ⊢;exact Nat.le_trans (hK a w1' hφ hh) hg
  ·rw [e1] at hg ⊢;exact Nat.le_trans (hKh x w1' hx) hg
 rcases sem_mirror hs h hg' with ⟨a,w1,w1',evs,e1,e2,hev,hsim,hle,hφ⟩ | ⟨v,w1,w1',evs,e1,e2,hev,hsim,hle⟩ | ⟨x,w1',e1,hx,hx'⟩
 ·rw [e1] at hg;rw [e1,e2];exact (mirror_after (fun e he B hB=>(hev e (seen_mem he)).mono hB) (hok a w1 w1' hφ hsim hg)).base hle
 ·rw [e1] at hg;rw [e1,e2];exact (mirror_after (fun e he B hB=>(hev e (seen_mem he)).mono hB) (hpanic v w1 w1' hsim hg)).base hle
 ·rw [e1];obtain ⟨o,w2,e,he⟩:=hhalt x w1' hx hx';rw [he];trivial
theorem apply_world {fr:Frame} {cs:List Frame} {s:Sem Next} (hk:fr.kind=.normal) (hs:Tm P B (NextOk P B) [] s) (h:∀ (r:Nat) (o:Obj),w'.heap[r]? = some o->HeapOk P B o) :
 (stepG.apply (muteP B P) true fr cs none s w').world=(s.runT (muteP B P) w' #[]).1.world:=by
 have hk:(fr.kind == CallKind.early)=false:=by rw [hk];rfl
 rcases sem_one hs h with ⟨a,w1',e1,hφ,_⟩ | ⟨x,w1',e1,hx⟩
 ·obtain ⟨es,hx2⟩:=pair_of e1;unfold stepG.apply;simp only [if_true,hx2,hk,Bool.false_eq_true,if_false,after_world]
  cases a with
  | spawn d =>
   dsimp only
   repeat' split
   all_goals rfl
  | value | skip | enter | round | comm=>rfl
  | _=>exact hφ.elim
 ·obtain ⟨es,hx2⟩:=pair_of e1;unfold stepG.apply;simp only [if_true,hx2,hk,Bool.false_eq_true,if_false,after_world]
  cases x with
  | unsupported u=>cases u <;> first | exact hx.elim | rfl
  | stuck s=>rfl
  | panic v=>rfl
  | _=>exact hx.elim
theorem mirror_apply {fr:Frame} {ex:List Frame} {s:Sem Next} (hP:ProgOk P B) (hst:StackOk P B fr ex) (hb:fr.todo≠[]) (hs:Tm P B (NextOk P B) [] s) (h:Sim P B S c w w') :
 GM P B S c k cs0 cs w (stepG.apply (muteP B P) true fr (ex ++ cs0) none s w') (stepG.apply P true (upF (kOf k ex) fr) (ups k ex ++ cs) none s w):=by
 intro hg;have hno:∀ d b r l k,fr.todo≠.call d b r l::k:=fun d b r l k e=>by
  have:=hst.top.todo;rw [e] at this;exact (show False from this _ (List.mem_cons_self ..)).elim
 have hno':∀ d b r l k',(upF (kOf k ex) fr).todo≠.call d b r l::k':=fun d b r l k' e=>by
  have e:fr.todo ++ kOf k ex=.call d b r l::k':=e
  cases htd:fr.todo with
  | nil=>exact hb htd
  | cons it rest =>
   rw [htd] at e;cases e;exact hno _ _ _ _ _ htd
 have hk:(fr.kind == CallKind.early)=false:=by rw [hst.top.kind];rfl
 have hk':((upF (kOf k ex) fr).kind == CallKind.early)=false:=hk;rw [apply_world hst.top.kind hs h.heapOk] at hg;rcases sem_mirror hs h hg with ⟨a,w1,w1',evs,e1,e2,hev,hsim,hle,hφ⟩ | ⟨v,w1,w1',evs,e1,e2,hev,hsim,hle⟩ | ⟨x,w1',e1,hx,hx'⟩
 ·have hev':∀ e∈seen P fr.fn evs,∀ N,w1.heap.size<=N->EvOk S N e:=fun e he B hB=>(hev e (seen_mem he)).mono hB;obtain ⟨es,hx2⟩:=pair_of e1;unfold stepG.apply;simp only [if_true,e2,hx2,hk,hk',Bool.false_eq_true,if_false];refine (mirror_after hev' ?_).base hle
  cases a with
  | value v =>
   have key:=mirror_go (k:=k) (cs0:=cs0) (cs:=cs) (es':=#[]) hsim (hst.set (finish_ok hst.top v) (finish_roundOf fr v));unfold Gk at key;rw [<- finish_up hb] at key;exact key
  | skip =>
   have key:=mirror_go (k:=k) (cs0:=cs0) (cs:=cs) (es':=#[]) hsim (hst.set (finish_ok hst.top undef) (finish_roundOf fr undef));unfold Gk at key;rw [<- finish_up hb] at key;exact key
  | enter f args =>
   have e1:∀ fr:Frame,(∀ d b r l k',fr.todo≠.call d b r l::k')->(match fr.todo with | .call _ true _ _::_=>CallKind.wrapped | _=>CallKind.normal)=CallKind.normal:=fun fr h=>by
    split
    ·rename_i heq;exact absurd heq (h _ _ _ _ _)
    ·rfl
   have key:=mirror_go (k:=k) (cs0:=cs0) (cs:=cs) (ex1:=fr::ex) (es':=#[]) hsim (hst.push hb (enter_ok hP hφ args));unfold Gk at key;rw [show kOf k (fr::ex)=[] from rfl,upF_nil] at key;have e2:=e1 fr hno;have e3:=e1 (upF (kOf k ex) fr) hno';dsimp only;split
   ·rename_i heq;exact absurd heq (hno _ _ _ _ _)
   ·split
    ·rename_i heq;exact absurd heq (hno' _ _ _ _ _)
    ·rw [enter_mute hφ];exact key
  | round l f tmps a b =>
   have key:=fun hx=>mirror_go (k:=k) (cs0:=cs0) (cs:=cs) (ex1:=fr::ex) (es':=#[]) hsim (hst.push hb (fr1:=Frame.round l f tmps a b .normal) ⟨hx,rfl,(fun d hd=>by simp [Frame.round] at hd),hφ.2.2⟩);unfold Gk at key;rw [show kOf k (fr::ex)=[] from rfl,upF_nil] at key;refine key fun it hit=>?_;simp only [Frame.round,List.mem_cons,List.not_mem_nil,or_false] at hit;rcases hit with rfl | rfl | rfl
   ·exact hφ.1
   ·trivial
   ·exact hφ.2.1
  | spawn d =>
   dsimp only
   repeat' split
   all_goals first
    | trivial
    | exact Or.inl ⟨.inl rfl,_,rfl,rfl,rfl⟩
  | comm cases bl sh=>exact ⟨hφ,w1,hsim⟩
  | _=>exact hφ.elim
 ·have hev':∀ e∈seen P fr.fn evs,∀ N,w1.heap.size<=N->EvOk S N e:=fun e he B hB=>(hev e (seen_mem he)).mono hB;obtain ⟨es,hx2⟩:=pair_of e1;unfold stepG.apply;simp only [if_true,e2,hx2,hk,hk',Bool.false_eq_true,if_false];have key:=mirror_go (k:=k) (cs0:=cs0) (cs:=cs) (es':=#[]) hsim (hst.set (raise_ok hst.top [{ v,recovered:=false }]).1 (raise_ok hst.top _).2);unfold Gk at key;rw [<- raise_up] at key;exact (mirror_after hev' key).base hle
 ·obtain ⟨es,hx2⟩:=pair_of e1;unfold stepG.apply;simp only [if_true,hx2,hk,Bool.false_eq_true,if_false]
  cases x with
  | unsupported u=>cases u <;> first | exact hx.elim | trivial
  | stuck s=>trivial
  | panic v=>exact (hx' v rfl).elim
  | _=>exact hx.elim
end
section
variable {P:Program} {B:Nat->Bool} {S:Mute} {c:Cast} {kb:List Item} {cs0 cs:List Frame} {w w':World}
def LoopOk (P:Program) (B:Nat->Bool) (r:Loop):Prop:=codeOk P r.assign=true/\codeOk P r.body=true/\(∀ c,r.pending=some c->codeOk P c=true)/\B r.fn=false
theorem tm_getLoop' {α:Type} {φ:α->Prop} {rs:List Nat} {l:Nat} {k:Loop->Sem α} (hk:∀ r,LoopOk P B r->Tm P B φ (l::rs) (k r)):Tm P B φ rs (Instr.getLoop l >>= k):=by
 unfold Instr.getLoop;rw [bind_assoc];refine Tm.getObj ⟨_,rfl⟩ fun o ho=>?_;cases o <;> first | exact Tm.stuck | (show Tm P B φ _ (k _);exact hk _ ho)
theorem tm_setLoop {rs:List Nat} {l:Nat} {r:Loop} (hl:l∈rs) (h:LoopOk P B r):T P B rs (Go.setObj l (.loop r)):=Tm.setObj hl h rfl
theorem tm_enterLoop {fn:FuncId} {tmps:Array Value} {ps:Array Tmp} {a b:Code} {ar:Option Nat} (ha:codeOk P a=true) (hb:codeOk P b=true) (hf:B fn=false) {rs:List Nat} :
 Tm P B (fun x:Nat × List Deferred=>∀ d∈x.2,∃ r,d.target=.collected r) rs (Instr.enterLoop fn tmps ps a b ar):=by
 unfold Instr.enterLoop;have fin:∀ (x:Nat) (mark:List Deferred) (rs:List Nat),(∀ d∈mark,∃ r,d.target=.collected r) ->
  Tm P B (fun x:Nat × List Deferred=>∀ d∈x.2,∃ r,d.target=.collected r) rs (do pure (<- Go.newObj (.loop { state:=.ready,pending:=none,fn,tmps,params:=ps,assign:=a,body:=b,defers:=x }),mark)):=fun x mark rs hm =>
  Tm.bindT (Tm.newObj ⟨ha,hb,(by simp),hf⟩) fun _=>Tm.pure hm
 split
 ·exact tm_getLoop' fun r hr=>fin _ _ _ (by simp)
 ·exact Tm.bindT (Tm.newObj (.inl rfl)) fun r=>fin _ _ _ (by simp)
theorem tm_beginRound {l:Nat} {rs:List Nat}:T P B rs (Instr.beginRound l):=by
 unfold Instr.beginRound;refine tm_getLoop' fun r hr=>Tm.bindT (tm_setLoop (by simp) hr) fun _=>?_;split <;> (repeat' (first | (with_reducible first | exact tm_runtimePanic | refine Tm.bindT ?_ fun _=>?_) | ((with_reducible refine Tm.pure ?_);first | trivial | skip) | split | (dsimp only)))
theorem tm_endRound {l:Nat} {j:Option Code} {rs:List Nat} (hj:∀ c,j=some c->codeOk P c=true):T P B rs (Instr.endRound l j):=by
 unfold Instr.endRound;exact tm_getLoop' fun r hr=>Tm.bindT (tm_setLoop (by simp) ⟨hr.1,hr.2.1,hj,hr.2.2.2⟩) fun _=>Tm.pure trivial
theorem tm_endLoop {l:Nat} {rs:List Nat}:Tm P B (fun j=>∀ c,j=some c->codeOk P c=true) rs (Instr.endLoop l):=by
 unfold Instr.endLoop;refine tm_getLoop' fun r hr=>Tm.ite (fun _=>Tm.bindT tm_runtimePanic fun _=>?_) fun _=>?_
 all_goals exact Tm.bindT (tm_setLoop (by simp) hr) fun _=>Tm.pure hr.2.2.1
theorem tm_takeDeferred {b:Nat} {rs:List Nat}:Tm P B (fun l=>l=[]) rs (Instr.takeDeferred b):=by
 unfold Instr.takeDeferred;refine Tm.getObj ⟨_,rfl⟩ fun o ho=>?_;split
 ·rename_i ds
  have:ds=[]:=by
   rcases ho with h | h
   ·exact Option.some.inj h
   ·cases h
  subst this;exact Tm.bindT (Tm.setObj (by simp) (.inr rfl) rfl) fun _=>Tm.pure rfl
 ·exact Tm.stuck
theorem tm_results {fn:Func} {tmps:Array Value} {rs:List Nat}:T P B rs (results fn tmps):=by
 unfold results;refine Tm.bindT (Tm.mapMArray fun c=>?_) fun _=>Tm.pure trivial;split <;> (repeat' (first | (with_reducible first | exact tm_asAddr | exact tm_loadVar | refine Tm.bindT ?_ fun _=>?_ | refine Tm.mapMArray fun _=>?_) | ((with_reducible refine Tm.pure ?_);first | trivial | skip) | split | (dsimp only)))
theorem exitTo_ok {id:Nat}:∀ {k k':List Item},exitTo id k=some k'->(∀ it∈k,ItemOk P it)->∀ it∈k',ItemOk P it
 | [],k',h,_=>by cases h
 | x::k,k',h,hk=>by
  have hk2:∀ it∈k,ItemOk P it:=fun it hit=>hk it (List.mem_cons_of_mem _ hit)
  cases x with
  | inBlock id' =>
   simp only [exitTo] at h;split at h
   ·cases h;exact hk2
   ·exact exitTo_ok h hk2
  | _=>exact exitTo_ok (k:=k) (by simpa only [exitTo] using h) hk2
theorem findLabel_ok {l:Nat}:∀ {c r:Code},findLabel c l=some r->codeOk P c=true->codeOk P r=true
 | .seq a b,r,h,hc=>by
  simp only [codeOk,Bool.and_eq_true] at hc;simp only [findLabel] at h;split at h
  ·rename_i x hx
   cases h;simp only [codeOk,Bool.and_eq_true];exact ⟨findLabel_ok hx hc.1,hc.2⟩
  ·exact findLabel_ok h hc.2
 | .label l',r,h,hc=>by
  simp only [findLabel] at h;split at h
  ·cases h;rfl
  ·cases h
 | .skip,_,h,_ | .region ..,_,h,_ | .cond ..,_,h,_ | .block ..,_,h,_ | .loop ..,_,h,_ | .exit ..,_,h,_ | .ret,_,h,_ | .goto ..,_,h,_ | .scope ..,_,h,_ | .rangeFunc ..,_,h,_ | .refuse ..,_,h,_=>by simp [findLabel] at h
theorem gotoIn_ok {l:Nat}:∀ {k k':List Item},gotoIn l k=some k'->(∀ it∈k,ItemOk P it)->∀ it∈k',ItemOk P it
 | [],k',h,_=>by cases h
 | x::k,k',h,hk=>by
  have hk2:∀ it∈k,ItemOk P it:=fun it hit=>hk it (List.mem_cons_of_mem _ hit)
  cases x with
  | inScope body =>
   simp only [gotoIn] at h;have hb:ItemOk P (.inScope body):=hk _ (List.mem_cons_self ..);split at h
   ·rename_i r hr
    cases h;intro it hit;rcases List.mem_cons.1 hit with rfl | hit
    ·exact findLabel_ok hr hb
    rcases List.mem_cons.1 hit with rfl | hit
    ·exact hb
    ·exact hk2 it hit
   ·exact gotoIn_ok h hk2
  | _=>exact gotoIn_ok (k:=k) (by simpa only [gotoIn] using h) hk2
variable {fr:Frame} {ex:List Frame} {seg:Bool}
theorem exitTo_app {id:Nat} (l:List Item):∀ {k k':List Item},exitTo id k=some k'->exitTo id (k ++ l)=some (k' ++ l)
 | [],k',h=>by cases h
 | x::k,k',h=>by
  cases x with
  | inBlock id' =>
   simp only [List.cons_append,exitTo] at h ⊢;split at h
   ·rename_i hh;cases h;rw [if_pos hh]
   ·rename_i hh;rw [if_neg hh];exact exitTo_app l h
  | _=>exact exitTo_app l (k:=k) (by simpa only [exitTo] using h)
theorem gotoIn_app {id:Nat} (l:List Item):∀ {k k':List Item},gotoIn id k=some k'->gotoIn id (k ++ l)=some (k' ++ l)
 | [],k',h=>by cases h
 | x::k,k',h=>by
  cases x with
  | inScope body =>
   cases hb:findLabel body id with
   | none =>
    simp only [List.cons_append,gotoIn,hb] at h ⊢;exact gotoIn_app l h
   | some r =>
    simp only [List.cons_append,gotoIn,hb] at h ⊢;cases h;rfl
  | _=>exact gotoIn_app l (k:=k) (by simpa only [gotoIn] using h)
theorem return_world (hst:StackOk P B fr ex) (hne:ex≠[]) (v:Value):(doReturn (muteP B P) true fr (ex ++ cs0) none v w').world=w':=by
 cases ex with
 | nil=>exact absurd rfl hne
 | cons c ex=>simp only [doReturn,List.cons_append,hst.top.kind];rfl
theorem mirror_return (hst:StackOk P B fr ex) (hne:ex≠[]) (v:Value) (h:Sim P B S c w w') :
 GM P B S c kb cs0 cs w (doReturn (muteP B P) true fr (ex ++ cs0) none v w') (doReturn P true (upF (kOf kb ex) fr) (ups kb ex ++ cs) none v w):=by
 cases ex with
 | nil=>exact absurd rfl hne
 | cons c ex =>
  have hk:(upF (kOf kb (c::ex)) fr).kind=.normal:=hst.top.kind;simp only [doReturn,List.cons_append,hst.top.kind,hk,ups];rw [finish_up (hst.busy c (List.mem_cons_self ..))];exact gm_go h (hst.pop.set (finish_ok hst.pop.top v) (finish_roundOf c v))
theorem round_ne (hst:StackOk P B fr ex) {l:Nat} (hr:fr.roundOf=some l):ex≠[]:=fun e=>by
 have:=hst.bot;rw [e] at this;rw [show fr.roundOf=none from this] at hr;cases hr
theorem kOf_ne (h:ex≠[]):kOf kb ex=[]:=by
 cases ex with
 | nil=>exact absurd rfl h
 | cons=>rfl
theorem mirror_leave (hst:StackOk P B fr ex) {jump:Option Code} (hj:∀ c,jump=some c->codeOk P c=true) (h:Sim P B S c w w') (why why':String) :
 GM P B S c kb cs0 cs w
  (match fr.roundOf with
    | none=>if jump matches none | some .ret then .go { frame:={ fr with mode:=.returning },callers:=ex ++ cs0,status:=.running,dying:=none } w' else .ended (.stuck why (fr.pos (muteP B P))) w'
    | some l=>GStep.after (seen (muteP B P) fr.fn ((Instr.endRound l jump).runT (muteP B P) w' #[]).2) (match ((Instr.endRound l jump).runT (muteP B P) w' #[]).1 with
     | .ok v w=>doReturn (muteP B P) true fr (ex ++ cs0) none v w
     | .halt _ w=>.ended (.stuck why' (fr.pos (muteP B P))) w))
  (match fr.roundOf with
    | none=>if jump matches none | some .ret then .go { frame:={ upF (kOf kb ex) fr with mode:=.returning },callers:=ups kb ex ++ cs,status:=.running,dying:=none } w else .ended (.stuck why ((upF (kOf kb ex) fr).pos P)) w
    | some l=>GStep.after (seen P fr.fn ((Instr.endRound l jump).runT P w #[]).2) (match ((Instr.endRound l jump).runT P w #[]).1 with
     | .ok v w=>doReturn P true (upF (kOf kb ex) fr) (ups kb ex ++ cs) none v w
     | .halt _ w=>.ended (.stuck why' ((upF (kOf kb ex) fr).pos P)) w)):=by
 obtain ⟨fn,tmps,td,dfs,md,kd,ro⟩:=fr
 cases ro with
 | none =>
  have key:=gm_go (k:=kb) (cs0:=cs0) (cs:=cs) (es':=#[]) h (hst.set (fr1:=⟨fn,tmps,td,dfs,.returning,kd,none⟩) ⟨hst.top.todo,hst.top.kind,hst.top.defers,hst.top.good⟩ rfl);rcases jump with _ | c
  ·exact key
  ·cases c <;> first | exact key | exact fun _=>trivial
 | some l =>
  have hne:ex≠[]:=round_ne hst rfl;exact mirror_run (tm_endRound hj) h fn (fun r=>match r with | .ok v w=>doReturn P true (upF (kOf kb ex) ⟨fn,tmps,td,dfs,md,kd,some l⟩) (ups kb ex ++ cs) none v w | .halt _ w=>.ended (.stuck why' ((upF (kOf kb ex) ⟨fn,tmps,td,dfs,md,kd,some l⟩).pos P)) w)
   (fun r=>match r with | .ok v w=>doReturn (muteP B P) true ⟨fn,tmps,td,dfs,md,kd,some l⟩ (ex ++ cs0) none v w | .halt _ w=>.ended (.stuck why' ((⟨fn,tmps,td,dfs,md,kd,some l⟩:Frame).pos (muteP B P))) w) (fun a w1' _ _=>Nat.le_of_eq (by dsimp only;rw [return_world hst hne])) (fun x w1' _=>Nat.le_refl _) (fun a w1 w1' _ hs=>mirror_return hst hne a hs) (fun v w1 w1' hs _=>trivial) fun x w1' _ _=>⟨_,_,_,rfl⟩
theorem mirror_exec (hP:ProgOk P B) (hst:StackOk P B fr ex) (hn:fr.todo=[]->kOf kb ex=[]) (h:Sim P B S c w w') :
 GM P B S c kb cs0 cs w (stepG.exec (muteP B P) true true fr (ex ++ cs0) none w') (stepG.exec P true true (upF (kOf kb ex) fr) (ups kb ex ++ cs) none w):=by
 obtain ⟨fn,tmps,td,dfs,md,kd,ro⟩:=fr;have ht:∀ it∈td,ItemOk P it:=hst.top.todo;have hto:∀ l,(∀ it∈l,ItemOk P it)->GM P B S c kb cs0 cs w (.go { frame:=⟨fn,tmps,l,dfs,md,kd,ro⟩,callers:=ex ++ cs0,status:=.running,dying:=none } w') (.go { frame:=⟨fn,tmps,l ++ kOf kb ex,dfs,md,kd,ro⟩,callers:=ups kb ex ++ cs,status:=.running,dying:=none } w) :=
  fun l hl=>gm_go h (hst.set (fr1:=⟨fn,tmps,l,dfs,md,kd,ro⟩) ⟨hl,hst.top.kind,hst.top.defers,hst.top.good⟩ rfl)
 cases td with
 | nil =>
  have key:=mirror_leave (kb:=kb) (cs0:=cs0) (cs:=cs) (jump:=none) hst (by simp) h "exit, goto: no such block or label" "range over a function: no such loop";rw [hn rfl,upF_nil] at key ⊢;unfold stepG.exec;exact key
 | cons it k =>
  have hit:ItemOk P it:=ht it (List.mem_cons_self ..);have hk:∀ it∈k,ItemOk P it:=fun x hx=>ht x (List.mem_cons_of_mem _ hx);have hcons:∀ {x:Item} {l:List Item},ItemOk P x->(∀ it∈l,ItemOk P it)->∀ it∈x::l,ItemOk P it:=fun hx hl y hy=>(List.mem_cons.1 hy).elim (fun e=>e ▸ hx) (hl y);change GM P B S c kb cs0 cs w _ (stepG.exec P true true ⟨fn,tmps,it::(k ++ kOf kb ex),dfs,md,kd,ro⟩ (ups kb ex ++ cs) none w)
  cases it with
  | code c =>
   have hc:codeOk P c=true:=hit
   cases c with
   | ret =>
    have key:=mirror_leave (kb:=kb) (cs0:=cs0) (cs:=cs) (jump:=some .ret) hst (by rintro c hc;cases hc;rfl) h "exit, goto: no such block or label" "range over a function: no such loop";unfold stepG.exec;exact key
   | skip=>exact hto _ hk
   | label l=>exact hto _ hk
   | seq a b =>
    simp only [codeOk,Bool.and_eq_true] at hc;exact hto (.code a::.code b::k) (hcons hc.1 (hcons hc.2 hk))
   | cond c a b =>
    simp only [codeOk,Bool.and_eq_true] at hc;unfold stepG.exec;have e:Frame.eval (⟨fn,tmps,.code (.cond c a b)::(k ++ kOf kb ex),dfs,md,kd,ro⟩:Frame) c=Frame.eval (⟨fn,tmps,.code (.cond c a b)::k,dfs,md,kd,ro⟩:Frame) c:=rfl;dsimp only;rw [e];split
    ·rename_i b' _
     exact hto (.code (if b' then a else b)::k) (hcons (by cases b' <;> simp [ItemOk,hc.1,hc.2]) hk)
    ·exact fun _=>trivial
   | block id b=>exact hto (.code b::.inBlock id::k) (hcons (x:=.code b) hc (hcons (x:=.inBlock id) trivial hk))
   | loop b=>exact hto (.code b::.inLoop b::k) (hcons (x:=.code b) hc (hcons (x:=.inLoop b) hc hk))
   | scope b=>exact hto (.code b::.inScope b::k) (hcons (x:=.code b) hc (hcons (x:=.inScope b) hc hk))
   | exit id =>
    cases he:exitTo id k with
    | none =>
     cases ro with
     | none=>unfold stepG.exec;dsimp only;rw [he];exact fun _=>trivial
     | some l =>
      have hne:ex≠[]:=round_ne hst rfl;have key:=mirror_leave (kb:=kb) (cs0:=cs0) (cs:=cs) (jump:=some (.exit id)) hst (by rintro c hc;cases hc;rfl) h "exit, goto: no such block or label" "range over a function: no such loop";rw [kOf_ne hne,upF_nil] at key;rw [kOf_ne hne,List.append_nil];unfold stepG.exec;dsimp only;rw [he];exact key
    | some k' =>
     unfold stepG.exec;dsimp only;rw [he,exitTo_app _ he];exact hto _ (exitTo_ok he hk)
   | goto l =>
    cases he:gotoIn l k with
    | none =>
     cases ro with
     | none=>unfold stepG.exec;dsimp only;rw [he];exact fun _=>trivial
     | some l' =>
      have hne:ex≠[]:=round_ne hst rfl;have key:=mirror_leave (kb:=kb) (cs0:=cs0) (cs:=cs) (jump:=some (.goto l)) hst (by rintro c hc;cases hc;rfl) h "exit, goto: no such block or label" "range over a function: no such loop";rw [kOf_ne hne,upF_nil] at key;rw [kOf_ne hne,List.append_nil];unfold stepG.exec;dsimp only;rw [he];exact key
    | some k' =>
     unfold stepG.exec;dsimp only;rw [he,gotoIn_app _ he];exact hto _ (gotoIn_ok he hk)
   | rangeFunc f ps a b =>
    simp only [codeOk,Bool.and_eq_true] at hc
    let K:=fun (kx:List Item) (cs:List Frame) (r:Result (Nat × List Deferred))=>match r with
     | .ok (l,mark) w=>stepG.apply P true (⟨fn,tmps,.inRangeFunc l::(k ++ kx),mark ++ dfs,md,kd,ro⟩:Frame) cs none (do let d <- resolve (⟨fn,tmps,.inRangeFunc l::(k ++ kx),mark ++ dfs,md,kd,ro⟩:Frame).eval { callee:=.value f,args:=#[.const (.func (.yield l) #[] #[])],argTypes:=#[] } 0;invoke d.target d.args) w
     | .halt _ w=>.ended (.stuck "range over a function: no such loop" ((⟨fn,tmps,.code (.rangeFunc f ps a b)::(k ++ kx),dfs,md,kd,ro⟩:Frame).pos P)) w
    let K':=fun (r:Result (Nat × List Deferred))=>match r with
     | .ok (l,mark) w=>stepG.apply (muteP B P) true (⟨fn,tmps,.inRangeFunc l::k,mark ++ dfs,md,kd,ro⟩:Frame) (ex ++ cs0) none (do let d <- resolve (⟨fn,tmps,.inRangeFunc l::k,mark ++ dfs,md,kd,ro⟩:Frame).eval { callee:=.value f,args:=#[.const (.func (.yield l) #[] #[])],argTypes:=#[] } 0;invoke d.target d.args) w
     | .halt _ w=>.ended (.stuck "range over a function: no such loop" ((⟨fn,tmps,.code (.rangeFunc f ps a b)::k,dfs,md,kd,ro⟩:Frame).pos (muteP B P))) w
    refine mirror_run (tm_enterLoop hc.1 hc.2 hst.top.good) h fn (K (kOf kb ex) (ups kb ex ++ cs)) K' (fun x w1' hx hh=>?_) (fun x w1' _=>Nat.le_refl _) (fun x w1 w1' hx hs=>?_) (fun v w1 w1' hs _=>trivial) fun x w1' _ _=>⟨_,_,_,rfl⟩
    case refine_1 =>
     obtain ⟨l,mark⟩:=x;show w1'.drawn<=(stepG.apply (muteP B P) true _ (ex ++ cs0) none _ w1').world.drawn;refine Nat.le_trans ?_ (Nat.le_of_eq (congrArg World.drawn (apply_world (show kd=.normal from hst.top.kind) ?_ hh)).symm)
     ·rw [Sem.runT_fst];exact sem_drawn _ _
     ·exact Tm.bind (tm_resolve fun b hb=>by cases hb) fun d hd=>tm_invoke hP hd
    obtain ⟨l,mark⟩:=x;refine mirror_apply (fr:=⟨fn,tmps,.inRangeFunc l::k,mark ++ dfs,md,kd,ro⟩) hP (hst.set ⟨hcons (x:=.inRangeFunc l) trivial hk,hst.top.kind,fun d hd=>?_,hst.top.good⟩ rfl) (by simp) (Tm.bind (tm_resolve fun b hb=>by cases hb) fun d hd=>tm_invoke hP hd) hs;rcases List.mem_append.1 hd with hd | hd
    ·exact hx d hd
    ·exact hst.top.defers d hd
   | refuse why=>exact fun _=>trivial
   | region id ops draw =>
    have ho:∀ o∈ops,opOk P o.op=true:=by
     intro o ho;have:=hc;simp only [codeOk] at this;rw [Array.all_eq_true] at this;obtain ⟨i,hi,rfl⟩:=Array.mem_iff_getElem.1 ho;exact this i hi
    unfold stepG.exec;dsimp only;split
    ·exact hto (.inRegion ops _::k) (hcons (x:=.inRegion ops _) ho hk)
    ·have hrun:∀ (P0:Program) (w:World),(choose (.order fn id)).run P0 w=.ok ((Question.order fn id).cut (w.tape w.drawn (.order fn id))) { w with drawn:=w.drawn+1 }:=fun P0 w=>by simp [choose,Sem.run,Question.forced]
     rw [hrun,hrun];intro hg;have hlt:w'.drawn < c.e:=hg;have e:(Question.order fn id).cut (w'.tape w'.drawn (.order fn id))=(Question.order fn id).cut (w.tape w.drawn (.order fn id)):=by rw [h.tape.answer _ hlt]
     rw [e];exact Mirror.base (w2:={ w with drawn:=w.drawn+1 }) (Nat.le_refl _) (mirror_go h.drew (hst.set (fr1:=⟨fn,tmps,.inRegion ops _::k,dfs,md,kd,ro⟩) ⟨hcons (x:=.inRegion ops _) ho hk,hst.top.kind,hst.top.defers,hst.top.good⟩ rfl))
  | inBlock id=>exact hto _ hk
  | inScope b=>exact hto _ hk
  | inLoop b=>exact hto (.code b::.inLoop b::k) (hcons (x:=.code b) hit (hcons (x:=.inLoop b) hit hk))
  | inRegion ops l =>
   cases l with
   | nil=>exact hto _ hk
   | cons i rest =>
    unfold stepG.exec;dsimp only;split
    ·unfold stepG.oper;dsimp only [Frame.oper?]
     cases hi:ops[i]? with
     | none=>exact fun _=>trivial
     | some o =>
      have hok:opOk P o.op=true:=hit o (Array.mem_of_getElem? hi);have key:=mirror_apply (k:=kb) (cs0:=cs0) (cs:=cs) hP hst (by simp) (tm_execOp hP (ρ:=Frame.eval ⟨fn,tmps,.inRegion ops (i::rest)::k,dfs,md,kd,ro⟩) (fun v=>rfl) hok) h;dsimp only;split
      ·rename_i heq;rw [heq] at hok;cases hok
      ·exact key
    ·exact gm_go h (hst.set (finish_ok hst.top undef) (finish_roundOf _ undef))
  | inRangeFunc l=>exact fun _=>trivial
  | endRangeFunc l =>
   let K:=fun (kx:List Item) (cs:List Frame) (r:Result (Option Code))=>match r with
    | .ok jump w=>GStep.go { frame:=⟨fn,tmps,(jump.map Item.code).toList ++ (k ++ kx),dfs,md,kd,ro⟩,callers:=cs,status:=.running,dying:=none } w
    | .halt (.panic v) w=>.go { frame:=(⟨fn,tmps,.endRangeFunc l::(k ++ kx),dfs,md,kd,ro⟩:Frame).raise [{ v,recovered:=false }],callers:=cs,status:=.running,dying:=none } w
    | .halt _ w=>.ended (.stuck "range over a function: no such loop" ((⟨fn,tmps,.endRangeFunc l::(k ++ kx),dfs,md,kd,ro⟩:Frame).pos P)) w
   let K':=fun (r:Result (Option Code))=>match r with
    | .ok jump w=>GStep.go { frame:=⟨fn,tmps,(jump.map Item.code).toList ++ k,dfs,md,kd,ro⟩,callers:=ex ++ cs0,status:=.running,dying:=none } w
    | .halt (.panic v) w=>.go { frame:=(⟨fn,tmps,.endRangeFunc l::k,dfs,md,kd,ro⟩:Frame).raise [{ v,recovered:=false }],callers:=ex ++ cs0,status:=.running,dying:=none } w
    | .halt _ w=>.ended (.stuck "range over a function: no such loop" ((⟨fn,tmps,.endRangeFunc l::k,dfs,md,kd,ro⟩:Frame).pos (muteP B P))) w
   refine mirror_run tm_endLoop h fn (K (kOf kb ex) (ups kb ex ++ cs)) K' (fun j w1' _ _=>Nat.le_refl _) (fun x w1' _=>by cases x <;> exact Nat.le_refl _) (fun j w1 w1' hj hs=>?_) (fun v w1 w1' hs=>?_) fun x w1' _ hx=>?_
   ·cases j with
    | none=>exact gm_go hs (hst.set (fr1:=⟨fn,tmps,k,dfs,md,kd,ro⟩) ⟨hk,hst.top.kind,hst.top.defers,hst.top.good⟩ rfl)
    | some c'=>exact gm_go hs (hst.set (fr1:=⟨fn,tmps,.code c'::k,dfs,md,kd,ro⟩) ⟨hcons (x:=.code c') (hj c' rfl) hk,hst.top.kind,hst.top.defers,hst.top.good⟩ rfl)
   ·have key:=gm_go (k:=kb) (cs0:=cs0) (cs:=cs) (es':=#[]) hs (hst.set (raise_ok hst.top [{ v,recovered:=false }]).1 (raise_ok hst.top _).2);unfold Gk at key;rw [<- raise_up] at key;exact key
   ·cases x <;> first | exact ⟨_,_,_,rfl⟩ | exact absurd rfl (hx _)
  | beginRound =>
   refine mirror_apply hP hst (by simp) (Tm.bindT ?_ fun _=>Tm.pure trivial) h
   cases ro with
   | none=>exact Tm.stuck
   | some l=>exact tm_beginRound
  | call d b r l=>exact (show False from hit).elim
  | extern r a=>exact (show False from hit).elim
theorem mirror_unwind (hP:ProgOk P B) (hst:StackOk P B fr ex) (hd:¬ Door seg fr ex) (hm:fr.mode≠.run) (h:Sim P B S c w w') :
 GM P B S c kb cs0 cs w (unwind (muteP B P) true fr (ex ++ cs0) none w') (unwind P true (upF (kOf kb ex) fr) (ups kb ex ++ cs) none w):=by
 obtain ⟨fn,tmps,td,dfs,md,kd,ro⟩:=fr
 cases dfs with
 | cons d ds =>
  obtain ⟨r,hr⟩:=hst.top.defers d (List.mem_cons_self ..);obtain ⟨t,a⟩:=d;simp only at hr;subst hr;unfold unwind
  let K:=fun (kx:List Item) (cs:List Frame) (res:Result (List Deferred))=>match res with
   | .ok calls w=>GStep.go { frame:=⟨fn,tmps,td ++ kx,calls ++ ds,md,kd,ro⟩,callers:=cs,status:=.running,dying:=none } w
   | .halt _ w=>.ended (.stuck "the deferred calls of a range-over-func loop have been taken" ((⟨fn,tmps,td ++ kx,⟨.collected r,a⟩::ds,md,kd,ro⟩:Frame).pos P)) w
  let K':=fun (res:Result (List Deferred))=>match res with
   | .ok calls w=>GStep.go { frame:=⟨fn,tmps,td,calls ++ ds,md,kd,ro⟩,callers:=ex ++ cs0,status:=.running,dying:=none } w
   | .halt _ w=>.ended (.stuck "the deferred calls of a range-over-func loop have been taken" ((⟨fn,tmps,td,⟨.collected r,a⟩::ds,md,kd,ro⟩:Frame).pos (muteP B P))) w
  refine mirror_run tm_takeDeferred h fn (K (kOf kb ex) (ups kb ex ++ cs)) K' (fun l w1' _ _=>Nat.le_refl _) (fun x w1' _=>Nat.le_refl _) (fun l w1 w1' hl hs=>?_) (fun v w1 w1' hs _=>trivial) fun x w1' _ _=>⟨_,_,_,rfl⟩;subst hl;exact gm_go hs (hst.set (fr1:=⟨fn,tmps,td,ds,md,kd,ro⟩) ⟨hst.top.todo,hst.top.kind,(fun d hd=>hst.top.defers d (List.mem_cons_of_mem _ hd)),hst.top.good⟩ rfl)
 | nil =>
  have hne:ex≠[]:=fun e=>hd ⟨e,.inr ⟨hm,rfl⟩⟩;have hcat:∀ P0:Program,(⟨fn,tmps,td,[],md,kd,ro⟩:Frame).catches P0=false:=fun P0=>by
   have:=hst.top.todo;unfold Frame.catches;split
   ·rename_i heq;rw [show td=_ from heq] at this;exact (show False from this _ (List.mem_cons_self ..)).elim
   ·rfl
  cases md with
  | run=>exact absurd rfl hm
  | panicking chain =>
   cases ex with
   | nil=>exact absurd rfl hne
   | cons c' ex' =>
    rw [show kOf kb (c'::ex')=[] from rfl,upF_nil];unfold unwind;simp only [hcat,Bool.false_eq_true,if_false,List.cons_append,ups];rw [raise_up];exact gm_go h (hst.pop.set (raise_ok hst.pop.top _).1 (raise_ok hst.pop.top _).2)
  | returning =>
   have hret:=fun (v:Value) (w1 w1':World) (hs:Sim P B S c w1 w1')=>mirror_return (kb:=kb) (cs0:=cs0) (cs:=cs) hst hne v hs;rw [kOf_ne hne,upF_nil] at hret ⊢;unfold unwind;dsimp only;rw [muteP_good (show B fn=false from hst.top.good)]
   cases hf:P.funcs[fn]? with
   | none=>exact hret _ _ _ h
   | some fd =>
    let K:=fun (P0:Program) (cs:List Frame) (r:Result Value)=>match r with
     | .ok v w=>doReturn P0 true ⟨fn,tmps,td,[],.returning,kd,ro⟩ cs none v w
     | .halt (.stuck s) w=>.ended (.stuck s ((⟨fn,tmps,td,[],.returning,kd,ro⟩:Frame).pos P0)) w
     | .halt _ w=>.ended (.stuck "return: the result variables cannot be read" ((⟨fn,tmps,td,[],.returning,kd,ro⟩:Frame).pos P0)) w
    refine mirror_run tm_results h fn (K P (ups kb ex ++ cs)) (K (muteP B P) (ex ++ cs0)) (fun a w1' _ _=>Nat.le_of_eq (by show w1'.drawn=(doReturn (muteP B P) true _ (ex ++ cs0) none a w1').world.drawn;rw [return_world hst hne])) (fun x w1' _=>by cases x <;> exact Nat.le_refl _) (fun a w1 w1' _ hs=>hret a w1 w1' hs) (fun v w1 w1' hs _=>trivial) fun x w1' _ hx=>?_;cases x <;> exact ⟨_,_,_,rfl⟩
theorem mirror_step (hP:ProgOk P B) (hst:StackOk P B fr ex) (hk:seg=false->kb=[]) (hd:¬ Door seg fr ex) (h:Sim P B S c w w') :
 GM P B S c kb cs0 cs w (stepG (muteP B P) true (G fr (ex ++ cs0)) w') (stepG P true (Gk kb fr ex cs) w):=by
 obtain ⟨fn,tmps,td,dfs,md,kd,ro⟩:=fr
 cases md with
 | run =>
  refine mirror_exec hP hst (fun ht=>?_) h
  cases ex with
  | cons c' ex'=>rfl
  | nil =>
   cases seg with
   | false=>exact hk rfl
   | true=>exact absurd ⟨rfl,.inl ⟨rfl,rfl,ht⟩⟩ hd
 | returning=>exact mirror_unwind hP hst hd (by simp) h
 | panicking ch=>exact mirror_unwind hP hst hd (by simp) h
end
end Go.Proofs.YtgkajecjbflbbaaGreatDoor.Mt
