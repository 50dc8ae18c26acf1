/- Leads to the Store laws of chapter 6: Tm4 Sim. -/
import Derived.Test.YtfggbepickdokaaGreatDoorT20
set_option maxHeartbeats 200000
set_option maxRecDepth 100000
set_option linter.all false
namespace Go.Proofs.YtfggbepickdokaaGreatDoor.Mt
open Go
section
variable {P:Program} {rs:List Nat}
theorem tm_clear {a:Array TypeId} {t:TypeId} {x:Array Value}:T P rs (Builtin.clear_ a t x):=by unfold Builtin.clear_;(repeat' (first | with_reducible exact tm_storeCells _ _ | with_reducible exact tm_zeroValue | with_reducible exact tm_underlying | with_reducible exact Tm.stuck | ((with_reducible refine Tm.setObj ?_ ?_ ?_);(· simp);(· trivial);(· rfl)) | ((with_reducible refine Tm.pure ?_);first | trivial | skip) | ((with_reducible refine Tm.getObj ?_ fun o ho=>?_);(· exact ⟨_,rfl⟩)) | (with_reducible refine Tm.bindT ?_ fun _=>?_) | split | (dsimp only)))
structure ProgOk (P:Program):Prop where
 code:∀ (f:Nat) (fn:Func),P.funcs[f]? = some fn→∀ c,fn.body=some c→codeOk P c=true
 outer:∀ (f:Nat) (fn:Func),P.funcs[f]? = some fn→(fn.name == "runtime.NumGoroutine")=false∧(fn.body.isNone=true→Extern.findNext fn=none∧∀ e,Extern.find fn=some e→∀ args rs,T P rs (e args))
def NextOk (P:Program):Next→Prop
 | .value _ | .skip | .enter .. | .spawn _=>True
 | .comm _ b _=>b=true
 | .round _ _ _ a b=>codeOk P a=true∧codeOk P b=true
 | _=>False
def TargetOk:Target→Prop
 | .builtin b ..=>builtinOk b=true
 | .coroexit _=>False
 | _=>True
theorem tm_callFunc (hP:ProgOk P) {f:FuncId} {args:Array Value}:Tm P (NextOk P) rs (callFunc f args):=by
 unfold callFunc
 refine Tm.bind Tm.program fun p hp=>?_
 subst hp
 split
 ·exact Tm.stuck
 ·rename_i fn hf
  obtain ⟨h1,h2⟩:=hP.outer f fn hf
  simp only [h1,Bool.false_eq_true,if_false]
  refine Tm.ite (fun h=>?_) fun h=>Tm.pure trivial
  obtain ⟨h3,h4⟩:=h2 h
  simp only [h3]
  cases he:Extern.find fn with
  | none=>(repeat' (first | with_reducible exact Tm.stuck | exact Tm.uns (by simp) | with_reducible exact Tm.extern | ((with_reducible refine Tm.pure ?_);first | trivial | skip) | ((with_reducible refine Tm.bind Tm.program fun p hp=>?_);subst hp) | (with_reducible refine Tm.bindT ?_ fun _=>?_) | (with_reducible refine Tm.ite (fun _=>?_) (fun _=>?_)) | split | (dsimp only)))
  | some e =>
   refine Tm.bindT Tm.extern fun _=>?_
   exact Tm.bindT (h4 e he args _) fun _=>Tm.pure trivial
theorem tm_wrap {t:TypeId} {p:Value} {m:String}:T P rs (Builtin.ssaWrapNilChk_ #[t] t #[p,strVal "",strVal m]):=by
 unfold Builtin.ssaWrapNilChk_
 cases p with
 | pointer a=>cases a with
  | some a=>exact (Tm.pure trivial:T P rs (Pure.pure (Value.pointer (some a))))
  | none =>
   refine Tm.bindT (s:=choose (.extern "ssa:wrapnilchk.dereferenced" 2)) Tm.choose fun n=>?_
   refine Tm.ite (fun _=>?_) fun _=>?_ <;> (repeat' (first | with_reducible exact tm_runtimePanic | with_reducible exact tm_typeInfo | with_reducible exact tm_underlying | with_reducible exact Tm.stuck | exact Tm.uns (by simp) | with_reducible exact Tm.choose | ((with_reducible refine Tm.pure ?_);first | trivial | skip) | (with_reducible refine Tm.bindT ?_ fun _=>?_) | (with_reducible refine Tm.ite (fun _=>?_) (fun _=>?_)) | split | (dsimp only)))
 | _=>exact Tm.stuck
theorem tm_get {t:TypeId} {x:Place}:T P rs (x.get t):=by unfold Place.get;(repeat' (first | with_reducible exact tm_loadVar | ((with_reducible refine Tm.pure ?_);first | trivial | skip) | split | (dsimp only)))
theorem tm_follow:∀ (l:List FieldStep) {t:TypeId} {x:Place},T P rs (follow l t x)
 | [],t,x=>by unfold follow;(repeat' (first | with_reducible exact tm_get | with_reducible exact tm_fieldPlace | with_reducible exact tm_asAddr | with_reducible exact tm_part | with_reducible exact tm_underlying | with_reducible exact Tm.stuck | ((with_reducible refine Tm.pure ?_);first | trivial | skip) | (with_reducible refine Tm.bindT ?_ fun _=>?_) | (with_reducible refine Tm.ite (fun _=>?_) (fun _=>?_)) | split | (dsimp only)))
 | s::l,t,x=>by
  have ih:∀ {t:TypeId} {x:Place},T P rs (follow l t x):=tm_follow l
  unfold follow
  repeat' (first | with_reducible exact ih | (first | with_reducible exact tm_get | with_reducible exact tm_fieldPlace | with_reducible exact tm_asAddr | with_reducible exact tm_part | with_reducible exact tm_underlying | with_reducible exact Tm.stuck | ((with_reducible refine Tm.pure ?_);first | trivial | skip) | (with_reducible refine Tm.bindT ?_ fun _=>?_) | (with_reducible refine Tm.ite (fun _=>?_) (fun _=>?_)) | split | (dsimp only)))
theorem tm_receiverAt {t:TypeId} {x:Place} {b:Bool} {w:Option String}:T P rs (receiverAt t x b w):=by unfold receiverAt;(repeat' (first | with_reducible exact tm_wrap | with_reducible exact tm_get | with_reducible exact tm_asAddr | with_reducible exact tm_loadVar | with_reducible exact tm_underlying | with_reducible exact Tm.stuck | ((with_reducible refine Tm.pure ?_);first | trivial | skip) | (with_reducible refine Tm.bindT ?_ fun _=>?_) | split | (dsimp only)))
theorem tm_receiverVia {t:TypeId} {v:Value} {p:Array FieldStep} {b:Bool}:T P rs (receiverVia t v p b):=by unfold receiverVia;(repeat' (first | with_reducible exact tm_follow _ | with_reducible exact tm_receiverAt | (with_reducible refine Tm.bindT ?_ fun _=>?_) | split | (dsimp only)))
theorem tm_method:∀ (d:Nat) {t:TypeId} {v:Value} {n:String},T P rs (method d t v n)
 | 0,t,v,n=>by unfold method;(repeat' (first | with_reducible exact tm_follow _ | with_reducible exact tm_receiverAt | with_reducible exact tm_get | with_reducible exact tm_runtimePanic | with_reducible exact tm_typeInfo | with_reducible exact Tm.stuck | exact Tm.uns (by simp) | ((with_reducible refine Tm.pure ?_);first | trivial | skip) | (with_reducible refine Tm.bindT ?_ fun _=>?_) | split | (dsimp only)))
 | d+1,t,v,n=>by
  have ih:∀ {t:TypeId} {v:Value} {n:String},T P rs (method d t v n):=tm_method d
  unfold method
  repeat' (first | with_reducible exact ih | (first | with_reducible exact tm_follow _ | with_reducible exact tm_receiverAt | with_reducible exact tm_get | with_reducible exact tm_runtimePanic | with_reducible exact tm_typeInfo | with_reducible exact Tm.stuck | exact Tm.uns (by simp) | ((with_reducible refine Tm.pure ?_);first | trivial | skip) | (with_reducible refine Tm.bindT ?_ fun _=>?_) | split | (dsimp only)))
theorem tm_followBlind:∀ (l:List FieldStep) {t:TypeId} {x:Option Value},T P rs (followBlind l t x)
 | [],t,x=>by unfold followBlind;(repeat' (first | with_reducible exact tm_part | with_reducible exact tm_underlying | with_reducible exact Tm.stuck | ((with_reducible refine Tm.pure ?_);first | trivial | skip) | (with_reducible refine Tm.bindT ?_ fun _=>?_) | split | (dsimp only)))
 | s::l,t,x=>by
  have ih:∀ {t:TypeId} {x:Option Value},T P rs (followBlind l t x):=tm_followBlind l
  unfold followBlind
  repeat' (first | with_reducible exact ih | (first | with_reducible exact tm_part | with_reducible exact tm_underlying | with_reducible exact Tm.stuck | ((with_reducible refine Tm.pure ?_);first | trivial | skip) | (with_reducible refine Tm.bindT ?_ fun _=>?_) | split | (dsimp only)))
theorem tm_nilAhead:∀ (d:Nat) {t:TypeId} {v:Value} {n:String},T P rs (nilAhead d t v n)
 | 0,t,v,n=>by unfold nilAhead;(repeat' (first | with_reducible exact tm_followBlind _ | with_reducible exact tm_typeInfo | with_reducible exact tm_underlying | with_reducible exact Tm.stuck | ((with_reducible refine Tm.pure ?_);first | trivial | skip) | (with_reducible refine Tm.bindT ?_ fun _=>?_) | split | (dsimp only)))
 | d+1,t,v,n=>by
  have ih:∀ {t:TypeId} {v:Value} {n:String},T P rs (nilAhead d t v n):=tm_nilAhead d
  unfold nilAhead
  repeat' (first | with_reducible exact ih | (first | with_reducible exact tm_followBlind _ | with_reducible exact tm_typeInfo | with_reducible exact tm_underlying | with_reducible exact Tm.stuck | ((with_reducible refine Tm.pure ?_);first | trivial | skip) | (with_reducible refine Tm.bindT ?_ fun _=>?_) | split | (dsimp only)))
theorem tm_callMethod (hP:ProgOk P) {r:Value} {n:String} {args:Array Value}:Tm P (NextOk P) rs (callMethod r n args):=by
 unfold callMethod
 repeat' (first | with_reducible exact tm_callFunc hP | (first | with_reducible exact tm_method _ | with_reducible exact tm_runtimePanic | with_reducible exact Tm.stuck | ((with_reducible refine Tm.bind Tm.program fun p hp=>?_);subst hp) | (with_reducible refine Tm.bindT ?_ fun _=>?_) | split | (dsimp only)))
theorem tm_getLoop {l:Nat}:Tm P (fun r=>codeOk P r.assign=true∧codeOk P r.body=true∧∀ c,r.pending=some c→codeOk P c=true) rs (Instr.getLoop l):=by
 unfold Instr.getLoop
 refine Tm.getObj ⟨_,rfl⟩ fun o ho=>?_
 split
 ·exact Tm.pure ho
 ·exact Tm.stuck
theorem tm_yield {l:Nat} {args:Array Value}:Tm P (NextOk P) rs (Instr.yield l args):=by
 unfold Instr.yield
 refine Tm.bind tm_getLoop fun r hr=>?_
 refine Tm.ite (fun _=>Tm.bindT Tm.stuck fun _=>Tm.pure ⟨hr.1,hr.2.1⟩) fun _=>Tm.pure ⟨hr.1,hr.2.1⟩
theorem tm_builtin {b:Builtin} (h:builtinOk b=true) {a:Array TypeId} {t:TypeId} {c:Array Bool} {x:Array Value}:Tm P (NextOk P) rs (builtin b a t c x):=by
 unfold builtin
 cases b <;> first | (cases h;done) | (dsimp only;(repeat' (first | with_reducible exact tm_clear | with_reducible exact tm_append | with_reducible exact tm_cap | with_reducible exact tm_copy | with_reducible exact tm_len | with_reducible exact tm_max | with_reducible exact tm_min | with_reducible exact tm_delete | ((with_reducible refine Tm.pure ?_);first | trivial | skip) | (with_reducible refine Tm.bindT ?_ fun _=>?_) | split | (dsimp only))))
theorem tm_invoke (hP:ProgOk P) {t:Target} (h:TargetOk t) {args:Array Value}:Tm P (NextOk P) rs (invoke t args):=by
 unfold invoke
 split
 ·(repeat' (first | with_reducible exact tm_receiverVia | with_reducible exact tm_runtimePanic | with_reducible exact tm_underlying | with_reducible exact Tm.stuck | (with_reducible refine Tm.bindT ?_ fun _=>?_) | split | (dsimp only)))
 ·exact tm_builtin h
 ·exact tm_callFunc hP
 ·repeat' (first | with_reducible exact tm_callMethod hP | (first | with_reducible exact tm_receiverVia | with_reducible exact tm_runtimePanic | with_reducible exact tm_underlying | with_reducible exact Tm.stuck | (with_reducible refine Tm.bindT ?_ fun _=>?_) | split | (dsimp only)))
 ·repeat' (first | with_reducible exact tm_callMethod hP | (first | with_reducible exact tm_receiverVia | with_reducible exact tm_runtimePanic | with_reducible exact tm_underlying | with_reducible exact Tm.stuck | (with_reducible refine Tm.bindT ?_ fun _=>?_) | split | (dsimp only)))
 ·repeat' (first | with_reducible exact tm_callFunc hP | (first | with_reducible exact tm_receiverVia | with_reducible exact tm_runtimePanic | with_reducible exact tm_underlying | with_reducible exact Tm.stuck | (with_reducible refine Tm.bindT ?_ fun _=>?_) | split | (dsimp only)))
 ·exact tm_yield
 ·(repeat' (first | with_reducible exact tm_receiverVia | with_reducible exact tm_runtimePanic | with_reducible exact tm_underlying | with_reducible exact Tm.stuck | (with_reducible refine Tm.bindT ?_ fun _=>?_) | split | (dsimp only)))
 ·exact h.elim
theorem tm_ofValue {v:Value} {args:Array Value}:Tm P (fun d=>TargetOk d.target) rs (Deferred.ofValue v args):=by
 unfold Deferred.ofValue;(repeat' (first | with_reducible exact Tm.stuck | ((with_reducible refine Tm.pure ?_);first | trivial | skip) | split | (dsimp only)))
theorem tm_resolve {ρ:Operand→Value} {c:Call} {t:TypeId} (h:∀ b,c.callee=.builtin b→builtinOk b=true):Tm P (fun d=>TargetOk d.target) rs (resolve ρ c t):=by
 unfold resolve
 dsimp only
 split
 ·rename_i b hb;exact Tm.pure (h b hb)
 ·exact Tm.pure trivial
 ·exact tm_ofValue
theorem tm_resolve' {ρ:Operand→Value} {c:Call} {t:TypeId}:T P rs (resolve ρ c t):=by
 unfold resolve
 dsimp only
 split
 ·(repeat' (first | ((with_reducible refine Tm.pure ?_);first | trivial | skip) | split | (dsimp only)))
 ·(repeat' (first | ((with_reducible refine Tm.pure ?_);first | trivial | skip) | split | (dsimp only)))
 ·exact tm_ofValue.mono fun _ _=>trivial
theorem tm_execOp (hP:ProgOk P) {ρ:Operand→Value} (hρ:∀ v,ρ (.const v)=v) {o:Oper} (h:opOk P o.op=true):Tm P (NextOk P) rs (execOp ρ o):=by
 unfold execOp
 dsimp only
 split <;> rename_i heq <;> rw [heq] at h <;> first
  | (cases h;done)
  | (dsimp only [opOk] at h;split at h
     ·rw [hρ];exact Tm.bindT tm_makeChan fun _=>Tm.pure trivial
     ·cases h)
  | (exact Tm.bindT (tm_convert h) fun _=>Tm.pure trivial)
  | (refine Tm.bind (tm_resolve fun b hb=>?_) fun d hd=>tm_invoke hP hd
     simpa [opOk,hb] using h)
  | (refine Tm.bindT tm_resolve' fun d=>Tm.pure trivial)
  | ((repeat' (first | with_reducible exact tm_nilAhead _ | with_reducible exact tm_lookup | with_reducible exact tm_mapUpdate | with_reducible exact tm_mapEntry | with_reducible exact tm_entryStore | with_reducible exact tm_range | with_reducible exact tm_next | with_reducible exact tm_entry | with_reducible exact tm_alloc | with_reducible exact tm_loadAt | with_reducible exact tm_storeAt | with_reducible exact tm_fieldAt | with_reducible exact tm_indexAt | with_reducible exact tm_sliceAt | with_reducible exact tm_box | with_reducible exact tm_build | with_reducible exact tm_buildSlice | with_reducible exact tm_makeInterface | with_reducible exact tm_makeFunc | with_reducible exact tm_makeMap | with_reducible exact tm_makeSlice | with_reducible exact tm_field | with_reducible exact tm_index | with_reducible exact tm_extract | with_reducible exact tm_eqGuard | with_reducible exact tm_binOp | with_reducible exact tm_unary | with_reducible exact tm_asBool | with_reducible exact tm_runtimePanic | with_reducible exact tm_zeroValue | with_reducible exact tm_underlying | with_reducible exact Tm.stuck | exact Tm.uns (by simp) | ((with_reducible refine Tm.pure ?_);first | trivial | skip) | ((with_reducible refine Tm.bind Tm.program fun p hp=>?_);subst hp) | (with_reducible refine Tm.bindT ?_ fun _=>?_) | (with_reducible refine Tm.mapMArray fun _=>?_) | (with_reducible refine Tm.ite (fun _=>?_) (fun _=>?_)) | split | (dsimp only)));done)
  | ((repeat' (first | with_reducible exact tm_nilAhead _ | with_reducible exact tm_lookup | with_reducible exact tm_mapUpdate | with_reducible exact tm_mapEntry | with_reducible exact tm_entryStore | with_reducible exact tm_range | with_reducible exact tm_next | with_reducible exact tm_entry | with_reducible exact tm_alloc | with_reducible exact tm_loadAt | with_reducible exact tm_storeAt | with_reducible exact tm_fieldAt | with_reducible exact tm_indexAt | with_reducible exact tm_sliceAt | with_reducible exact tm_box | with_reducible exact tm_build | with_reducible exact tm_buildSlice | with_reducible exact tm_makeInterface | with_reducible exact tm_makeFunc | with_reducible exact tm_makeMap | with_reducible exact tm_makeSlice | with_reducible exact tm_field | with_reducible exact tm_index | with_reducible exact tm_extract | with_reducible exact tm_eqGuard | with_reducible exact tm_binOp | with_reducible exact tm_unary | with_reducible exact tm_asBool | with_reducible exact tm_runtimePanic | with_reducible exact tm_zeroValue | with_reducible exact tm_underlying | with_reducible exact Tm.stuck | exact Tm.uns (by simp) | ((with_reducible refine Tm.pure ?_);first | trivial | skip) | ((with_reducible refine Tm.bind Tm.program fun p hp=>?_);subst hp) | (with_reducible refine Tm.bindT ?_ fun _=>?_) | (with_reducible refine Tm.mapMArray fun _=>?_) | (with_reducible refine Tm.ite (fun _=>?_) (fun _=>?_)) | split | (dsimp only)));exact h)
end
end Go.Proofs.YtfggbepickdokaaGreatDoor.Mt
namespace Go
def GStep.world:GStep→World
 | .go _ w _ | .comm _ _ _ _ w _ | .spawn _ _ w _ | .count _ w _ | .timer _ _ w _ | .alone _ _ w _ | .newcoro _ _ _ w _ | .coroswitch _ _ _ w _ | .collect _ w _ | .watch _ w _ | .ended _ w _=>w
end Go
namespace Go.Proofs.YtfggbepickdokaaGreatDoor.Mt
open Go Go.Conc
def ItemOk (P:Program):Item→Prop
 | .code c=>codeOk P c=true
 | .inRegion ops _=>∀ o∈ops,opOk P o.op=true
 | .inLoop c | .inScope c=>codeOk P c=true
 | .inBlock _ | .inRangeFunc _ | .endRangeFunc _ | .beginRound=>True
 | .call .. | .extern ..=>False
structure FrameOk (P:Program) (fr:Frame):Prop where
 todo:∀ it∈fr.todo,ItemOk P it
 kind:fr.kind=.normal
 defers:∀ d∈fr.defers,∃ r,d.target=.collected r
def BotOk:Frame→List Frame→Prop
 | fr,[]=>fr.roundOf=none
 | _,c::cs=>BotOk c cs
structure StackOk (P:Program) (fr:Frame) (ex:List Frame):Prop where
 top:FrameOk P fr
 rest:∀ c∈ex,FrameOk P c
 busy:∀ c∈ex,c.todo≠[]
 bot:BotOk fr ex
def upF (k:List Item) (fr:Frame):Frame:={ fr with todo:=fr.todo ++ k }
def kOf (k:List Item):List Frame→List Item
 | []=>k
 | _::_=>[]
def ups (k:List Item):List Frame→List Frame
 | []=>[]
 | c::l=>upF (kOf k l) c::ups k l
def Gk (k:List Item) (fr:Frame) (ex cs:List Frame):Goroutine:=G (upF (kOf k ex) fr) (ups k ex ++ cs)
theorem upF_nil (fr:Frame):upF [] fr=fr:=by unfold upF;rw [List.append_nil]
def Door (seg:Bool) (fr:Frame) (ex:List Frame):Prop:=ex=[]∧((seg=true∧fr.mode=.run∧fr.todo=[])∨(fr.mode≠.run∧fr.defers=[]))
def Fatally (g:Goroutine):Prop:=(g.status=.running∨g.status=.blocked)∧∃ d,g.dying=some d∧d.calling=false∧d.fatal.isSome=true
section
variable {P:Program} {S:Mute} {c:Cast} {k:List Item} {cs0 cs:List Frame} {w w':World}
def Mirror (P:Program) (S:Mute) (c:Cast) (k:List Item) (cs0 cs:List Frame) (w:World):GStep→GStep→Prop
 | .go g1 w1' _,two=>Fatally g1∨∃ fr1 ex1 w1 es,g1=G fr1 (ex1 ++ cs0)∧two=.go (Gk k fr1 ex1 cs) w1 es∧(∀ e∈es,EvOk w1.heap.size e)∧Sim P S c w1 w1'∧w.heap.size≤w1.heap.size∧StackOk P fr1 ex1
 | .ended ..,_=>True
 | .spawn ..,_=>True
 | .comm _ _ blocking _ w1' _,_=>blocking=true∧∃ w1,Sim P S c w1 w1'
 | _,_=>False
theorem after_world {es:Array Event} {g:GStep}:(g.after es).world=g.world:=by cases g <;> rfl
def GM (P:Program) (S:Mute) (c:Cast) (k:List Item) (cs0 cs:List Frame) (w:World) (one two:GStep):Prop:=one.world.drawn≤c.e→Mirror P S c k cs0 cs w one two
theorem mirror_go {fr1:Frame} {ex1:List Frame} {es':Array Event} (hs:Sim P S c w w') (h:StackOk P fr1 ex1):Mirror P S c k cs0 cs w (.go (G fr1 (ex1 ++ cs0)) w' es') (.go (Gk k fr1 ex1 cs) w) :=
 .inr ⟨fr1,ex1,w,#[],rfl,rfl,by simp,hs,Nat.le_refl _,h⟩
theorem gm_go {fr1:Frame} {ex1:List Frame} {es':Array Event} (hs:Sim P S c w w') (h:StackOk P fr1 ex1):GM P S c k cs0 cs w (.go (G fr1 (ex1 ++ cs0)) w' es') (.go (Gk k fr1 ex1 cs) w):=fun _=>mirror_go hs h
theorem StackOk.set {fr fr1:Frame} {ex:List Frame} (h:StackOk P fr ex) (h1:FrameOk P fr1) (hr:fr1.roundOf=fr.roundOf):StackOk P fr1 ex :=
 ⟨h1,h.rest,h.busy,by
   have:=h.bot
   cases ex with
   | nil=>exact hr.trans this
   | cons c ex=>exact this⟩
theorem StackOk.push {fr fr1:Frame} {ex:List Frame} (h:StackOk P fr ex) (hb:fr.todo≠[]) (h1:FrameOk P fr1):StackOk P fr1 (fr::ex) :=
 ⟨h1,fun c hc=>by
   rcases List.mem_cons.1 hc with rfl | hc
   ·exact h.top
   ·exact h.rest c hc,fun c hc=>by
   rcases List.mem_cons.1 hc with rfl | hc
   ·exact hb
   ·exact h.busy c hc,h.bot⟩
theorem StackOk.pop {fr c:Frame} {ex:List Frame} (h:StackOk P fr (c::ex)):StackOk P c ex:=⟨h.rest c (by simp),fun x hx=>h.rest x (by simp [hx]),fun x hx=>h.busy x (by simp [hx]),h.bot⟩
theorem finish_roundOf (fr:Frame) (v:Value):(fr.finish v).roundOf=fr.roundOf:=by unfold Frame.finish;split <;> rfl
theorem finish_up {fr:Frame} (h:fr.todo≠[]) (k:List Item) (v:Value):(upF k fr).finish v=upF k (fr.finish v):=by
 obtain ⟨fn,tmps,td,ds,md,kd,ro⟩:=fr
 cases td with
 | nil=>exact absurd rfl h
 | cons it rest =>
  cases it <;> try rfl
  rename_i ops l
  cases l <;> rfl
theorem raise_up {fr:Frame} (k:List Item) (v:List PanicEntry):(upF k fr).raise v=upF k (fr.raise v):=by
 obtain ⟨fn,tmps,td,ds,md,kd,ro⟩:=fr
 cases md <;> rfl
theorem finish_ok {fr:Frame} (h:FrameOk P fr) (v:Value):FrameOk P (fr.finish v):=by
 obtain ⟨h1,h2,h3⟩:=h
 unfold Frame.finish
 split
 ·rename_i ops i rest k heq
  refine ⟨fun it hit=>?_,h2,h3⟩
  simp only [heq] at h1
  rcases List.mem_cons.1 hit with rfl | hit
  ·exact h1 (.inRegion ops (i::rest)) (by simp)
  ·exact h1 it (by simp [hit])
 ·rename_i l k heq
  refine ⟨fun it hit=>?_,h2,h3⟩
  simp only [heq] at h1
  rcases List.mem_cons.1 hit with rfl | hit
  ·trivial
  ·exact h1 it (by simp [hit])
 ·rename_i k heq
  exact ⟨fun it hit=>by simp only [heq] at h1;exact h1 it (by simp at hit ⊢;exact .inr hit),h2,h3⟩
 ·rename_i heq;simp only [heq] at h1;exact (show False from h1 _ (List.mem_cons_self ..)).elim
 ·rename_i heq;simp only [heq] at h1;exact (show False from h1 _ (List.mem_cons_self ..)).elim
 ·exact ⟨h1,h2,h3⟩
theorem raise_ok {fr:Frame} (h:FrameOk P fr) (v:List PanicEntry):FrameOk P (fr.raise v)∧(fr.raise v).roundOf=fr.roundOf:=by
 obtain ⟨h1,h2,h3⟩:=h
 unfold Frame.raise
 split <;> exact ⟨⟨h1,h2,h3⟩,rfl⟩
theorem enter_ok (hP:ProgOk P) (f:FuncId) (args:Array Value):FrameOk P (Frame.enter P f args .normal):=by
 refine ⟨fun it hit=>?_,rfl,fun d hd=>by simp [Frame.enter] at hd⟩
 simp only [Frame.enter,List.mem_singleton] at hit
 subst hit
 show codeOk P _=true
 cases hf:P.funcs[f]? with
 | none=>rfl
 | some fn =>
  cases hb:fn.body with
  | none=>simp [hb];rfl
  | some c=>simp only [Option.bind_some,hb,Option.getD_some];exact hP.code f fn hf c hb
theorem seen_mem {fn:FuncId} {es:Array Event} {e:Event} (h:e∈seen P fn es):e∈es:=by
 unfold seen at h
 dsimp only at h
 obtain ⟨l⟩:=es
 simp only [List.foldl_toArray'] at h
 have key:∀ (l:List Event) (q:Bool) (kept:Array Event),e∈(l.foldl (fun (x:Bool × Array Event) e=>match e.loc with
  | .mark (.extern f)=>((P.funcs[f]?).any (·.norace),x.2)
  | _=>(x.1,if x.1 && !e.sync then x.2 else x.2.push e)) (q,kept)).2→e∈kept∨e∈l:=by
  intro l
  induction l with
  | nil=>exact fun q kept h=>.inl h
  | cons a l ih =>
   intro q kept h
   rw [List.foldl_cons] at h
   split at h
   ·exact (ih _ _ h).imp id fun x=>List.mem_cons_of_mem _ x
   ·rcases ih _ _ h with h | h
    ·split at h
     ·exact .inl h
     ·rcases Array.mem_push.1 h with h | h
      ·exact .inl h
      ·exact .inr (h ▸ List.mem_cons_self ..)
    ·exact .inr (List.mem_cons_of_mem _ h)
 rcases key l _ _ h with h | h
 ·simp at h
 ·simpa using h
theorem pair_of {α β:Type} {x:α × β} {a:α} (h:x.1=a):∃ b,x=(a,b):=⟨x.2,by rw [← h]⟩
theorem sem_mirror {α:Type} {φ:α→Prop} {s:Sem α} (hs:Tm P φ [] s) (h:Sim P S c w w') (hg:(s.runT P w' #[]).1.world.drawn≤c.e) :
 (∃ a w1 w1' evs,(s.runT P w' #[]).1=.ok a w1'∧s.runT P w #[]=(.ok a w1,evs)∧(∀ e∈evs,EvOk w1.heap.size e)∧Sim P S c w1 w1'∧w.heap.size≤w1.heap.size∧φ a) ∨
 (∃ v w1 w1' evs,(s.runT P w' #[]).1=.halt (.panic v) w1'∧s.runT P w #[]=(.halt (.panic v) w1,evs)∧(∀ e∈evs,EvOk w1.heap.size e)∧Sim P S c w1 w1'∧w.heap.size≤w1.heap.size) ∨
 (∃ h w1',(s.runT P w' #[]).1=.halt h w1'∧haltOk h∧∀ v,h≠.panic v):=by
 rw [Sem.runT_fst] at hg ⊢
 have key:=tame_run s [] w w' #[] (hs (fun a _=>φ a) [] (by simp) fun a ok' ha _=>ha) h (by simp) hg
 cases hr:s.run P w' with
 | ok a w1' =>
  rw [hr] at key
  obtain ⟨w1,evs,a1,a2,a3,a4,_,a5⟩:=key
  exact .inl ⟨a,w1,w1',evs,rfl,by simpa using a1,a2,a3,a4,a5⟩
 | halt x w1' =>
  rw [hr] at key
  by_cases hx:∃ v,x=.panic v
  ·obtain ⟨v,rfl⟩:=hx
   obtain ⟨w1,evs,a1,a2,a3,a4⟩:=key
   exact .inr (.inl ⟨v,w1,w1',evs,rfl,by simpa using a1,a2,a3,a4⟩)
  ·refine .inr (.inr ⟨x,w1',rfl,?_,fun v e=>hx ⟨v,e⟩⟩)
   cases x <;> first | exact key | exact absurd ⟨_,rfl⟩ hx
theorem mirror_after {es es':Array Event} {one two:GStep} (hes:∀ e∈es,∀ B,w.heap.size≤B→EvOk B e) (h:Mirror P S c k cs0 cs w one two):Mirror P S c k cs0 cs w (GStep.after es' one) (GStep.after es two):=by
 cases one with
 | go g1 w1' e1 =>
  obtain h | ⟨fr1,ex1,w1,e2,a,rfl,b,c,d,f⟩:=h
  ·exact .inl h
  exact .inr ⟨fr1,ex1,w1,es ++ e2,a,rfl,fun e he=>(Array.mem_append.1 he).elim (fun he=>hes e he _ d) (b e),c,d,f⟩
 | comm g1 cases bl sh w1' e1=>exact h
 | spawn=>exact h
 | ended=>exact h
 | _=>exact h.elim
theorem Mirror.base {w2:World} {one two:GStep} (hle:w.heap.size≤w2.heap.size) (h:Mirror P S c k cs0 cs w2 one two):Mirror P S c k cs0 cs w one two:=by
 cases one with
 | go g1 w1' e1 =>
  obtain h | ⟨fr1,ex1,w1,e2,a,b,c,d,e,f⟩:=h
  ·exact .inl h
  exact .inr ⟨fr1,ex1,w1,e2,a,b,c,d,Nat.le_trans hle e,f⟩
 | comm g1 cases bl sh w1' e1=>exact h
 | spawn=>exact h
 | ended=>exact h
 | _=>exact h.elim
theorem sem_one {α:Type} {φ:α→Prop} {s:Sem α} (hs:Tm P φ [] s) (h:∀ (r:Nat) (o:Obj),w'.heap[r]? = some o→HeapOk P o) :
 (∃ a w1',(s.runT P w' #[]).1=.ok a w1'∧φ a∧∀ (r:Nat) (o:Obj),w1'.heap[r]? = some o→HeapOk P o)∨(∃ x w1',(s.runT P w' #[]).1=.halt x w1'∧haltOk x):=by
 have hself:Sim P Mute.no ⟨(s.runT P w' #[]).1.world.drawn,w'.tape,w'.tape,w'.drawn,w'.drawn,fun _ _ _=>rfl⟩ w' w' :=
  ⟨⟨rfl,rfl,0,rfl,rfl⟩,rfl,rfl,rfl,fun _ _=>rfl,fun _ x=>x.elim,h⟩
 rcases sem_mirror hs hself (Nat.le_refl _) with ⟨a,w1,w1',evs,e1,_,_,h3,_,hφ⟩ | ⟨v,w1,w1',evs,e1,_⟩ | ⟨x,w1',e1,hx,_⟩
 ·exact .inl ⟨a,w1',e1,hφ,h3.heapOk⟩
 ·exact .inr ⟨_,w1',e1,trivial⟩
 ·exact .inr ⟨x,w1',e1,hx⟩
theorem mirror_run {α:Type} {φ:α→Prop} {s:Sem α} (hs:Tm P φ [] s) (h:Sim P S c w w') (fn:FuncId) (K K':Result α→GStep)
 (hK:∀ a w1',φ a→(∀ (r:Nat) (o:Obj),w1'.heap[r]? = some o→HeapOk P o)→w1'.drawn≤(K' (.ok a w1')).world.drawn)
 (hKh:∀ x w1',haltOk x→w1'.drawn≤(K' (.halt x w1')).world.drawn)
 (hok:∀ a w1 w1',φ a→Sim P S c w1 w1'→GM P S c k cs0 cs w1 (K' (.ok a w1')) (K (.ok a w1)))
 (hpanic:∀ v w1 w1',Sim P S c w1 w1'→GM P S c k cs0 cs w1 (K' (.halt (.panic v) w1')) (K (.halt (.panic v) w1)))
 (hhalt:∀ x w1',haltOk x→(∀ v,x≠.panic v)→∃ o w2 e,K' (.halt x w1')=.ended o w2 e) :
 GM P S c k cs0 cs w (GStep.after (seen P fn (s.runT P w' #[]).2) (K' (s.runT P w' #[]).1)) (GStep.after (seen P fn (s.runT P w #[]).2) (K (s.runT P w #[]).1)):=by
 intro hg
 rw [after_world] at hg
 have hg':(s.runT P w' #[]).1.world.drawn≤c.e:=by
  rcases sem_one hs h.heapOk with ⟨a,w1',e1,hφ,hh⟩ | ⟨x,w1',e1,hx⟩
  ·rw [e1] at hg ⊢;exact Nat.le_trans (hK a w1' hφ hh) hg
  ·rw [e1] at hg ⊢;exact Nat.le_trans (hKh x w1' hx) hg
 rcases sem_mirror hs h hg' with ⟨a,w1,w1',evs,e1,e2,hev,hsim,hle,hφ⟩ | ⟨v,w1,w1',evs,e1,e2,hev,hsim,hle⟩ | ⟨x,w1',e1,hx,hx'⟩
 ·rw [e1] at hg
  rw [e1,e2]
  exact (mirror_after (fun e he B hB=>(hev e (seen_mem he)).mono hB) (hok a w1 w1' hφ hsim hg)).base hle
 ·rw [e1] at hg
  rw [e1,e2]
  exact (mirror_after (fun e he B hB=>(hev e (seen_mem he)).mono hB) (hpanic v w1 w1' hsim hg)).base hle
 ·rw [e1]
  obtain ⟨o,w2,e,he⟩:=hhalt x w1' hx hx'
  rw [he]
  trivial
theorem apply_world {fr:Frame} {cs:List Frame} {s:Sem Next} (hk:fr.kind=.normal) (hs:Tm P (NextOk P) [] s) (h:∀ (r:Nat) (o:Obj),w'.heap[r]? = some o→HeapOk P o) :
 (stepG.apply P true fr cs none s w').world=(s.runT P w' #[]).1.world:=by
 have hk:(fr.kind == CallKind.early)=false:=by rw [hk];rfl
 rcases sem_one hs h with ⟨a,w1',e1,hφ,_⟩ | ⟨x,w1',e1,hx⟩
 ·obtain ⟨es,hx2⟩:=pair_of e1
  unfold stepG.apply
  simp only [if_true,hx2,hk,Bool.false_eq_true,if_false,after_world]
  cases a with
  | spawn d =>
   dsimp only
   repeat' split
   all_goals rfl
  | value | skip | enter | round | comm=>rfl
  | _=>exact hφ.elim
 ·obtain ⟨es,hx2⟩:=pair_of e1
  unfold stepG.apply
  simp only [if_true,hx2,hk,Bool.false_eq_true,if_false,after_world]
  cases x with
  | unsupported u=>cases u <;> first | exact hx.elim | rfl
  | stuck s=>rfl
  | panic v=>rfl
  | _=>exact hx.elim
theorem mirror_apply {fr:Frame} {ex:List Frame} {s:Sem Next} (hP:ProgOk P) (hst:StackOk P fr ex) (hb:fr.todo≠[]) (hs:Tm P (NextOk P) [] s) (h:Sim P S c w w') :
 GM P S c k cs0 cs w (stepG.apply P true fr (ex ++ cs0) none s w') (stepG.apply P true (upF (kOf k ex) fr) (ups k ex ++ cs) none s w):=by
 intro hg
 have hno:∀ d b r l k,fr.todo≠.call d b r l::k:=fun d b r l k e=>by
  have:=hst.top.todo
  rw [e] at this
  exact (show False from this _ (List.mem_cons_self ..)).elim
 have hno':∀ d b r l k',(upF (kOf k ex) fr).todo≠.call d b r l::k':=fun d b r l k' e=>by
  have e:fr.todo ++ kOf k ex=.call d b r l::k':=e
  cases htd:fr.todo with
  | nil=>exact hb htd
  | cons it rest =>
   rw [htd] at e
   cases e
   exact hno _ _ _ _ _ htd
 have hk:(fr.kind == CallKind.early)=false:=by rw [hst.top.kind];rfl
 have hk':((upF (kOf k ex) fr).kind == CallKind.early)=false:=hk
 rw [apply_world hst.top.kind hs h.heapOk] at hg
 rcases sem_mirror hs h hg with ⟨a,w1,w1',evs,e1,e2,hev,hsim,hle,hφ⟩ | ⟨v,w1,w1',evs,e1,e2,hev,hsim,hle⟩ | ⟨x,w1',e1,hx,hx'⟩
 ·have hev':∀ e∈seen P fr.fn evs,∀ B,w1.heap.size≤B→EvOk B e:=fun e he B hB=>(hev e (seen_mem he)).mono hB
  obtain ⟨es,hx2⟩:=pair_of e1
  unfold stepG.apply
  simp only [if_true,e2,hx2,hk,hk',Bool.false_eq_true,if_false]
  refine (mirror_after hev' ?_).base hle
  cases a with
  | value v =>
   have key:=mirror_go (k:=k) (cs0:=cs0) (cs:=cs) (es':=#[]) hsim (hst.set (finish_ok hst.top v) (finish_roundOf fr v))
   unfold Gk at key;rw [← finish_up hb] at key;exact key
  | skip =>
   have key:=mirror_go (k:=k) (cs0:=cs0) (cs:=cs) (es':=#[]) hsim (hst.set (finish_ok hst.top undef) (finish_roundOf fr undef))
   unfold Gk at key;rw [← finish_up hb] at key;exact key
  | enter f args =>
   have e1:∀ fr:Frame,(∀ d b r l k',fr.todo≠.call d b r l::k')→(match fr.todo with | .call _ true _ _::_=>CallKind.wrapped | _=>CallKind.normal)=CallKind.normal:=fun fr h=>by
    split
    ·rename_i heq;exact absurd heq (h _ _ _ _ _)
    ·rfl
   have key:=mirror_go (k:=k) (cs0:=cs0) (cs:=cs) (ex1:=fr::ex) (es':=#[]) hsim (hst.push hb (enter_ok hP f args))
   unfold Gk at key
   rw [show kOf k (fr::ex)=[] from rfl,upF_nil] at key
   have e2:=e1 fr hno
   have e3:=e1 (upF (kOf k ex) fr) hno'
   dsimp only
   split
   ·rename_i heq;exact absurd heq (hno _ _ _ _ _)
   ·split
    ·rename_i heq;exact absurd heq (hno' _ _ _ _ _)
    ·exact key
  | round l f tmps a b =>
   have key:=fun hx=>mirror_go (k:=k) (cs0:=cs0) (cs:=cs) (ex1:=fr::ex) (es':=#[]) hsim (hst.push hb (fr1:=Frame.round l f tmps a b .normal) ⟨hx,rfl,fun d hd=>by simp [Frame.round] at hd⟩)
   unfold Gk at key
   rw [show kOf k (fr::ex)=[] from rfl,upF_nil] at key
   refine key fun it hit=>?_
   simp only [Frame.round,List.mem_cons,List.not_mem_nil,or_false] at hit
   rcases hit with rfl | rfl | rfl
   ·exact hφ.1
   ·trivial
   ·exact hφ.2
  | spawn d =>
   dsimp only
   repeat' split
   all_goals first
    | trivial
    | exact Or.inl ⟨.inl rfl,_,rfl,rfl,rfl⟩
  | comm cases bl sh=>exact ⟨hφ,w1,hsim⟩
  | _=>exact hφ.elim
 ·have hev':∀ e∈seen P fr.fn evs,∀ B,w1.heap.size≤B→EvOk B e:=fun e he B hB=>(hev e (seen_mem he)).mono hB
  obtain ⟨es,hx2⟩:=pair_of e1
  unfold stepG.apply
  simp only [if_true,e2,hx2,hk,hk',Bool.false_eq_true,if_false]
  have key:=mirror_go (k:=k) (cs0:=cs0) (cs:=cs) (es':=#[]) hsim (hst.set (raise_ok hst.top [{ v,recovered:=false }]).1 (raise_ok hst.top _).2)
  unfold Gk at key;rw [← raise_up] at key
  exact (mirror_after hev' key).base hle
 ·obtain ⟨es,hx2⟩:=pair_of e1
  unfold stepG.apply
  simp only [if_true,hx2,hk,Bool.false_eq_true,if_false]
  cases x with
  | unsupported u=>cases u <;> first | exact hx.elim | trivial
  | stuck s=>trivial
  | panic v=>exact (hx' v rfl).elim
  | _=>exact hx.elim
end
end Go.Proofs.YtfggbepickdokaaGreatDoor.Mt
