/- StoreLoaded -/
import Derived.Conc.Beside
set_option maxHeartbeats 200000
set_option maxRecDepth 100000
set_option linter.all false
namespace Go
def Result.world {α:Type}:Result α->World
 | .ok _ w | .halt _ w=>w
end Go
namespace Go.Proofs.YtdjnkplgllakcaaGreatDoor.Mt
open Go
def builtinOk:Builtin->Bool
 | .append | .cap | .len | .copy | .max | .min | .delete | .clear=>true
 | _=>false
def opOk (P:Program):Op->Bool
 | .move _ | .assign _ | .pick .. | .alloc _ | .box .. | .build .. | .buildSlice .. | .load .. | .store .. | .nilCheck _ | .binOp .. | .unOp .. | .makeFunc .. | .makeMap .. | .makeSlice .. | .slice .. | .fieldAddr .. | .field .. | .indexAddr .. | .index .. | .lookup .. | .mapUpdate .. | .insert .. | .mapEntry .. | .entryStore .. | .range .. | .next .. | .entry .. | .extract .. | .go _ | .send .. | .recv .. | .makeInterface ..=>true
 | .makeChan _ s=>match s with
  | .const (.int _ 0)=>true
  | _=>false
 | .select _ blocking=>blocking
 | .call c=>match c.callee with
  | .builtin b=>builtinOk b
  | _=>true
 | .convert src dst _=>!(P.underlying src matches some .unsafePointer) && !(P.underlying dst matches some .unsafePointer)
 | _=>false
def codeOk (P:Program):Code->Bool
 | .skip | .exit _ | .label _ | .goto _ | .ret | .refuse _=>true
 | .region _ ops _=>ops.all fun o=>opOk P o.op
 | .seq a b | .cond _ a b=>codeOk P a && codeOk P b
 | .block _ b | .loop b | .scope b=>codeOk P b
 | .rangeFunc _ _ a b=>codeOk P a && codeOk P b
def HeapOk (P:Program):Obj->Prop
 | .loop l=>codeOk P l.assign=true/\codeOk P l.body=true/\∀ c,l.pending=some c->codeOk P c=true
 | .deferred ds=>ds=some []\/ds=none
 | .pending ..=>False
 | .chan n buf closed ..=>n=0/\buf=#[]/\closed=false
 | _=>True
def bad:Obj->Bool
 | .loop _ | .pending .. | .deferred _ | .chan ..=>true
 | _=>false
def haltOk:Halt->Prop
 | .panic _ | .stuck _=>True
 | .unsupported (.initOrder _)=>False
 | .unsupported _=>True
 | _=>False
def Stops {α:Type} (k:Obj->Sem α):Prop:=∃ why,k (.coro none)=.halt (.stuck why)
def Blind {α:Type} (k:Obj->Sem α):Prop:=∀ o,bad o=true->k o=k (.coro none)
def Tame (P:Program) {α:Type} (Q:α->List Nat->Prop):Sem α->List Nat->Prop
 | .pure a,ok=>Q a ok
 | .load m _ k,ok=>m=.plain/\∀ v,Tame P Q (k v) ok
 | .store m _ _ k,ok=>m=.plain/\Tame P Q k ok
 | .new o k,ok=>HeapOk P o/\∀ r,Tame P Q (k r) (r::ok)
 | .shape _ k,ok=>∀ s,Tame P Q (k s) ok
 | .freeze _ _ k,ok=>Tame P Q k ok
 | .frozen _ k,ok=>∀ b,Tame P Q (k b) ok
 | .getObj r k,ok=>(Stops k/\∀ o,HeapOk P o->Tame P Q (k o) (r::ok))\/(Blind k/\∀ o,HeapOk P o->Tame P Q (k o) ok)
 | .setObj r o k,ok=>r∈ok/\HeapOk P o/\o.isChan=false/\Tame P Q k ok
 | .choose _ k,ok=>∀ a,Tame P Q (k a) ok
 | .sys _ _,_=>False
 | .program k,ok=>Tame P Q (k P) ok
 | .mark m k,ok=>(m=.noRoom\/∃ f,m=.extern f)/\Tame P Q k ok
 | .halt h,_=>haltOk h
section
variable {P:Program} {α β:Type}
theorem Tame.bind {Q:β->List Nat->Prop} {f:α->Sem β} (s:Sem α):∀ {ok:List Nat},
 Tame P (fun a ok'=>Tame P Q (f a) ok') s ok->Tame P Q (s.bind f) ok:=by
 induction s with
 | pure a=>exact fun h=>h
 | load m a k ih=>exact fun h=>⟨h.1,fun v=>ih v (h.2 v)⟩
 | store m a v k ih=>exact fun h=>⟨h.1,ih h.2⟩
 | new o k ih=>exact fun h=>⟨h.1,fun r=>ih r (h.2 r)⟩
 | shape r k ih=>exact fun h s=>ih s (h s)
 | freeze a m k ih=>exact fun h=>ih h
 | frozen a k ih=>exact fun h b=>ih b (h b)
 | getObj r k ih =>
  intro ok h;rcases h with ⟨⟨w,hw⟩,h⟩ | ⟨hb,h⟩
  ·exact .inl ⟨⟨w,by show (k (.coro none)).bind f=_;rw [hw];rfl⟩,fun o ho=>ih o (h o ho)⟩
  ·exact .inr ⟨fun o ho=>by show (k o).bind f=(k _).bind f;rw [hb o ho],fun o ho=>ih o (h o ho)⟩
 | setObj r o k ih=>exact fun h=>⟨h.1,h.2.1,h.2.2.1,ih h.2.2.2⟩
 | choose q k ih=>exact fun h a=>ih a (h a)
 | sys c k ih=>exact fun h=>h.elim
 | program k ih=>exact fun h=>ih P h
 | mark m k ih=>exact fun h=>⟨h.1,ih h.2⟩
 | halt h=>exact fun h=>h
end
structure Cast where
 e:Nat
 t:Tape
 t':Tape
 d:Nat
 d':Nat
 agree:∀ (j:Nat) (q:Question),d'+j < e->t' (d'+j) q=t (d+j) q
def Along (c:Cast) (w w':World):Prop:=w.tape=c.t/\w'.tape=c.t'/\∃ k,w.drawn=c.d+k/\w'.drawn=c.d'+k
theorem Along.answer {c:Cast} {w w':World} (h:Along c w w') (q:Question) (he:w'.drawn < c.e):w'.tape w'.drawn q=w.tape w.drawn q:=by
 obtain ⟨h1,h2,k,h3,h4⟩:=h;rw [h1,h2,h3,h4];exact c.agree k q (by omega)
theorem Along.drew {c:Cast} {w w':World} (h:Along c w w'):Along c { w with drawn:=w.drawn+1 } { w' with drawn:=w'.drawn+1 }:=by
 obtain ⟨h1,h2,k,h3,h4⟩:=h;exact ⟨h1,h2,k+1,by simp only;omega,by simp only;omega⟩
structure Mute where
 is:Nat->Prop
 was:Nat->Option Obj
instance : CoeFun Mute (fun _ => Nat -> Prop) := ⟨Mute.is⟩
def Mute.no:Mute:=⟨fun _=>False,fun _=>none⟩
structure Sim (P:Program) (S:Mute) (c:Cast) (w w':World):Prop where
 tape:Along c w w'
 os:w'.os=w.os
 output:w'.output=w.output
 size:w'.heap.size=w.heap.size
 block:∀ r:Nat,¬ S r->w'.heap[r]? = w.heap[r]?
 mute:∀ r:Nat,S r->(∃ o,w.heap[r]? = some o/\bad o=true/\S.was r=some o)/\w'.heap[r]? = some (.coro none)
 heapOk:∀ (r:Nat) (o:Obj),w'.heap[r]? = some o->HeapOk P o
def EvOk (B:Nat) (e:Event):Prop :=
 match e.loc with
 | .cell a=>a.block < B
 | .obj r=>r < B
 | .mark m=>m=.noRoom\/∃ f,m=.extern f
 | _=>False
theorem EvOk.mono {B B':Nat} (h:B<=B') {e:Event} (he:EvOk B e):EvOk B' e:=by
 unfold EvOk at *;split <;> simp_all <;> omega
section
variable {P:Program} {S:Mute} {c:Cast} {w w':World}
theorem Sim.lt (h:Sim P S c w w') {r:Nat} (hr:S r):r < w.heap.size:=by
 obtain ⟨⟨o,ho,_⟩,_⟩:=h.mute r hr;exact (Array.getElem?_eq_some_iff.1 ho).1
theorem Sim.alike (h:Sim P S c w w') (r:Nat):w'.heap[r]? = w.heap[r]? \/ ((∃ o,w.heap[r]? = some o/\bad o=true)/\w'.heap[r]? = some (.coro none)):=by
 by_cases hr:S r
 ·obtain ⟨⟨o,a,b,_⟩,e⟩:=h.mute r hr;exact .inr ⟨⟨o,a,b⟩,e⟩
 ·exact .inl (h.block r hr)
theorem Sim.cell (h:Sim P S c w w') {a:Addr} {v:Value} (hc:w'.cell? a=some v):¬ S a.block/\a.block < w.heap.size/\w.cell? a=some v:=by
 have hn:¬ S a.block:=fun hs=>by
  have:=(h.mute _ hs).2;simp [World.cell?,this] at hc
 have hb:=h.block _ hn;refine ⟨hn,?_,?_⟩
 ·rcases Nat.lt_or_ge a.block w.heap.size with hlt | hge
  ·exact hlt
  ·rw [World.cell?,hb,Array.getElem?_eq_none hge] at hc;simp at hc
 ·rw [<- hc];simp only [World.cell?,hb]
theorem Sim.cell_none (h:Sim P S c w w') {a:Addr} (hc:w'.cell? a=none):w.cell? a=none:=by
 unfold World.cell? at *;rcases h.alike a.block with e | ⟨⟨o,e,hb⟩,e'⟩
 ·rw [<- e];exact hc
 ·rw [e];cases o <;> simp_all [bad]
theorem Sim.frozen (h:Sim P S c w w') (a:Addr):w'.frozen? a=w.frozen? a:=by
 unfold World.frozen?;rcases h.alike a.block with e | ⟨⟨o,e,hb⟩,e'⟩
 ·rw [e]
 ·rw [e,e'];cases o <;> simp_all [bad]
theorem Sim.shape (h:Sim P S c w w') (r:Nat):w'.shape? r=w.shape? r:=by
 unfold World.shape?;rcases h.alike r with e | ⟨⟨o,e,hb⟩,e'⟩
 ·rw [e]
 ·rw [e,e'];cases o <;> simp_all [bad]
theorem Sim.seen (h:Sim P S c w w') {P:Program} (at_:Addr) (u:TypeId) (k:Addr) (b:Bool):w'.seen P at_ u k b=w.seen P at_ u k b:=by
 unfold World.seen;rcases h.alike at_.block with e | ⟨⟨o,e,hb⟩,e'⟩
 ·rw [e]
 ·rw [e,e'];cases o <;> first | rfl | cases hb
theorem heapOk_cells (c:Array Value) (e:TypeId) (f:Nat × Nat):HeapOk P (.cells c e f):=trivial
theorem Sim.modify (h:Sim P S c w w') {r:Nat} (hn:¬ S r) (f:Obj->Obj) (hf:∀ o,HeapOk P o->HeapOk P (f o)) :
 Sim P S c { w with heap:=w.heap.modify r f } { w' with heap:=w'.heap.modify r f }:=by
 refine ⟨h.tape,h.os,h.output,by simp [h.size],fun x hx=>?_,fun x hx=>?_,fun x o ho=>?_⟩
 ·simp only [Array.getElem?_modify,h.block x hx]
 ·have hne:r≠x:=fun e=>hn (e ▸ hx);simp only [Array.getElem?_modify,hne,if_false];exact h.mute x hx
 ·simp only [Array.getElem?_modify] at ho;split at ho
  ·obtain ⟨o',ho',rfl⟩:=Option.map_eq_some_iff.1 ho;exact hf _ (h.heapOk _ _ ho')
  ·exact h.heapOk _ _ ho
theorem Sim.set (h:Sim P S c w w') {a:Addr} (hn:¬ S a.block) (v:Value):Sim P S c (w.setCell a v) (w'.setCell a v) :=
 h.modify hn _ fun o ho=>by cases o <;> first | exact heapOk_cells _ _ _ | exact ho
theorem Sim.freeze (h:Sim P S c w w') (a:Addr) (n:Nat):Sim P S c (w.freeze a n) (w'.freeze a n):=by
 unfold World.freeze;split
 ·exact h
 ·by_cases hn:S a.block
  ·refine ⟨h.tape,h.os,h.output,by simp [h.size],fun x hx=>?_,fun x hx=>?_,fun x o ho=>?_⟩
   ·simp only [Array.getElem?_modify,h.block x hx]
   ·obtain ⟨⟨o,e,hb,hwas⟩,e'⟩:=h.mute x hx;simp only [Array.getElem?_modify];split
    ·refine ⟨⟨o,?_,hb,hwas⟩,by simp [e']⟩;rw [e];cases o <;> simp_all [bad]
    ·exact ⟨⟨o,e,hb,hwas⟩,e'⟩
   ·simp only [Array.getElem?_modify] at ho;split at ho
    ·obtain ⟨o',ho',rfl⟩:=Option.map_eq_some_iff.1 ho;have:=h.heapOk _ _ ho';cases o' <;> first | exact heapOk_cells _ _ _ | exact this
    ·exact h.heapOk _ _ ho
  ·exact h.modify hn _ fun o ho=>by cases o <;> first | exact heapOk_cells _ _ _ | exact ho
theorem Sim.push (h:Sim P S c w w') {o:Obj} (ho:HeapOk P o):Sim P S c { w with heap:=w.heap.push o } { w' with heap:=w'.heap.push o }:=by
 refine ⟨h.tape,h.os,h.output,by simp [h.size],fun x hx=>?_,fun x hx=>?_,fun x o' ho'=>?_⟩
 ·simp only [Array.getElem?_push,h.size,h.block x hx]
 ·have hlt:=h.lt hx;rw [Array.getElem?_push,Array.getElem?_push,h.size,if_neg (by omega),if_neg (by omega)];exact h.mute x hx
 ·simp only [Array.getElem?_push] at ho';split at ho'
  ·cases ho';exact ho
  ·exact h.heapOk _ _ ho'
theorem Sim.put (h:Sim P S c w w') {r:Nat} (hn:¬ S r) {o:Obj} (ho:HeapOk P o):Sim P S c { w with heap:=w.heap.setIfInBounds r o } { w' with heap:=w'.heap.setIfInBounds r o }:=by
 refine ⟨h.tape,h.os,h.output,by simp [h.size],fun x hx=>?_,fun x hx=>?_,fun x o' ho'=>?_⟩
 ·simp only [Array.getElem?_setIfInBounds,h.size,h.block x hx]
 ·have hne:r≠x:=fun e=>hn (e ▸ hx);rw [Array.getElem?_setIfInBounds_ne hne,Array.getElem?_setIfInBounds_ne hne];exact h.mute x hx
 ·by_cases hr:r=x
  ·subst hr;rw [Array.getElem?_setIfInBounds] at ho';split at ho'
   ·split at ho'
    ·cases ho';exact ho
    ·cases ho'
   ·exact h.heapOk _ _ ho'
  ·rw [Array.getElem?_setIfInBounds_ne hr] at ho';exact h.heapOk _ _ ho'
theorem Sim.drew (h:Sim P S c w w'):Sim P S c { w with drawn:=w.drawn+1 } { w' with drawn:=w'.drawn+1 } :=
 ⟨h.tape.drew,h.os,h.output,h.size,h.block,h.mute,h.heapOk⟩
theorem seen_cells {P:Program} {at_:Addr} {u:TypeId} {k:Addr} {b:Bool} {x:Array Value × TypeId × (Nat × Nat) × Nat × Value × List (Nat × Nat × List UInt8)} (h:w.seen P at_ u k b=.ok x):∃ c e f,w.heap[at_.block]? = some (.cells c e f):=by
 cases hc:w.heap[at_.block]? with
 | none=>unfold World.seen at h;rw [hc] at h;revert h;simp only [bind,Except.bind];(repeat' split) <;> simp
 | some o =>
  cases o with
  | cells c e f=>exact ⟨c,e,f,rfl⟩
  | _=>unfold World.seen at h;rw [hc] at h;revert h;simp only [bind,Except.bind];(repeat' split) <;> simp
end
section
variable {S:Mute} {c:Cast} {w w':World} {P:Program}
theorem viewLoad_alike (h:Sim P S c w w') (at_:Addr) (u:TypeId) (a:Addr) (b:Bool):w'.viewLoad P at_ u a b=w.viewLoad P at_ u a b:=by
 unfold World.viewLoad;rw [h.seen]
theorem viewLoad_low {at_:Addr} {u:TypeId} {a:Addr} {b:Bool} {v:Value} {t:List Addr} (h:w.viewLoad P at_ u a b=.ok (v,t)):∀ x∈t,x.block < w.heap.size:=by
 unfold World.viewLoad at h
 cases hs:w.seen P at_ u a b with
 | error e=>rw [hs] at h;cases h
 | ok x =>
  obtain ⟨c,e,f,hc⟩:=seen_cells hs;have hlt:=(Array.getElem?_eq_some_iff.1 hc).1;rw [hs] at h;simp only [bind,Except.bind] at h;split at h
  ·cases h;intro y hy;obtain ⟨z,_,rfl⟩:=List.mem_map.1 hy;exact hlt
  ·cases h
theorem viewStore_alike (h:Sim P S c w w') {at_:Addr} {u:TypeId} {a:Addr} {v:Value} {b:Bool} {w1':World} {t:List Addr} (hr:w'.viewStore P at_ u a v b=.ok (w1',t)) :
 ∃ w1,w.viewStore P at_ u a v b=.ok (w1,t)/\Sim P S c w1 w1'/\w1.heap.size=w.heap.size/\∀ x∈t,x.block < w.heap.size:=by
 unfold World.viewStore at hr ⊢;rw [h.seen] at hr;by_cases ht:(!tight P P.depth u)=true
 ·simp only [ht,if_true] at hr;cases hr
 simp only [ht,if_false,Bool.false_eq_true] at hr ⊢
 cases hs:w.seen P at_ u a b with
 | error e=>rw [hs] at hr;cases hr
 | ok x =>
  obtain ⟨c,e,f,hc⟩:=seen_cells hs;have hlt:=(Array.getElem?_eq_some_iff.1 hc).1;have hn:¬ S at_.block:=fun hx=>by
   obtain ⟨⟨o,ho,hb,_⟩,_⟩:=h.mute _ hx;rw [hc] at ho;cases ho;cases hb
  rw [hs] at hr;obtain ⟨c',e',f',first,like,cells⟩:=x;simp only [bind,Except.bind] at hr ⊢
  cases hv:v.bytes? with
  | none=>rw [hv] at hr;cases hr
  | some bytes =>
   rw [hv] at hr;simp only at hr ⊢;split at hr
   ·cases hr
   rename_i hne
   rw [if_neg hne];simp only [pure,Except.pure] at hr ⊢;split at hr
   ·cases hr
   rename_i c2 hc2
   cases hr;refine ⟨_,rfl,h.put hn (heapOk_cells _ _ _),by simp,?_⟩;intro y hy;obtain ⟨z,_,rfl⟩:=List.mem_map.1 hy;exact hlt
end
def TameEnd0 (P:Program) {α:Type} (S:Mute) (c:Cast) (Q:α->List Nat->Prop) (w:World) (es:Array Event) (two:Result α × Array Event):Result α->Prop
 | .ok x w1'=>∃ w1 evs,two=(.ok x w1,es ++ evs)/\(∀ e∈evs,EvOk w1.heap.size e)/\Sim P S c w1 w1'/\w.heap.size<=w1.heap.size/\∃ ok',Q x ok'
 | .halt (.panic v) w1'=>∃ w1 evs,two=(.halt (.panic v) w1,es ++ evs)/\(∀ e∈evs,EvOk w1.heap.size e)/\Sim P S c w1 w1'/\w.heap.size<=w1.heap.size
 | .halt h _=>haltOk h
def TameEnd (P:Program) {α:Type} (S:Mute) (c:Cast) (Q:α->List Nat->Prop) (w:World) (es:Array Event) (two:Result α × Array Event) (one:Result α):Prop :=
 one.world.drawn<=c.e->TameEnd0 P S c Q w es two one
theorem ask_drawn {α:Type}:∀ (a:Ask α) (w:World),w.drawn<=(w.ask a).2.drawn
 | .done a,w=>Nat.le_refl _
 | .ask what range k,w=>by
  unfold World.ask;dsimp only;split
  ·exact ask_drawn _ _
  ·exact Nat.le_trans (Nat.le_succ _) (ask_drawn (k _) { w with drawn:=w.drawn+1 })
theorem sys_drawn (w:World) (x:Sys):w.drawn<=(w.sys x).2.drawn:=by
 have:=ask_drawn (Kernel.perform x w.os) w;unfold World.sys;split
 ·exact Nat.le_refl _
 ·rename_i heq;rw [heq] at this;exact this
theorem farStore_drawn {P:Program} {w w1:World} {a:Addr} {v:Value} {b:Bool} {t:List Addr} (h:w.farStore P a v b=.ok (w1,t)):w1.drawn=w.drawn:=by
 unfold World.farStore at h;split at h
 ·split at h
  ·rename_i hv
   cases h;unfold World.viewStore at hv;revert hv;simp only [bind,Except.bind,pure,Except.pure]
   repeat' split
   all_goals (intro hv;first | (cases hv;done) | (cases hv;rfl))
  ·cases h
 ·cases h
theorem sem_drawn {α:Type} {P:Program} (s:Sem α):∀ (w:World),w.drawn<=(s.run P w).world.drawn:=by
 induction s with
 | pure a=>exact fun w=>Nat.le_refl _
 | load m a k ih =>
  intro w;simp only [Sem.run];split
  ·exact ih _ w
  ·split
   ·exact ih _ w
   ·exact Nat.le_refl _
 | store m a v k ih =>
  intro w;cases v <;> simp only [Sem.run] <;> first
   | exact Nat.le_refl _
   | (split
      ·split
       ·exact Nat.le_refl _
       ·exact ih (w.setCell a _)
      ·split
       ·rename_i w1 t hf
        exact farStore_drawn hf ▸ ih w1
       ·exact Nat.le_refl _)
 | new o k ih=>exact fun w=>ih _ { w with heap:=w.heap.push o }
 | shape r k ih=>exact fun w=>ih _ w
 | freeze a n k ih =>
  intro w;have e:(w.freeze a n).drawn=w.drawn:=by unfold World.freeze;split <;> rfl
  exact e ▸ ih (w.freeze a n)
 | frozen a k ih=>exact fun w=>ih _ w
 | getObj r k ih =>
  intro w;simp only [Sem.run];split
  ·exact Nat.le_refl _
  ·exact ih _ w
  ·exact Nat.le_refl _
 | setObj r o k ih =>
  intro w;simp only [Sem.run];split
  ·exact Nat.le_refl _
  ·exact ih { w with heap:=w.heap.setIfInBounds r o }
  ·exact Nat.le_refl _
 | choose q k ih =>
  intro w;simp only [Sem.run];split
  ·exact ih _ w
  ·exact Nat.le_trans (Nat.le_succ _) (ih _ { w with drawn:=w.drawn+1 })
 | sys x k ih=>exact fun w=>Nat.le_trans (sys_drawn w x) (ih _ _)
 | program k ih=>exact fun w=>ih _ w
 | mark m k ih=>exact fun w=>ih w
 | halt h=>exact fun w=>Nat.le_refl _
section
variable {P:Program} {α:Type} {S:Mute} {c:Cast} {Q:α->List Nat->Prop}
theorem TameEnd.halt {w:World} {es:Array Event} {two:Result α × Array Event} {h:Halt} {w1:World} (hq:haltOk h) (hp:∀ v,h≠.panic v):TameEnd P S c Q w es two (.halt h w1):=by
 intro _;cases h <;> first | exact hq | exact absurd rfl (hp _)
theorem TameEnd0.head {w w2:World} {es evs:Array Event} {two:Result α × Array Event} (hev:∀ e∈evs,EvOk w2.heap.size e) (h1:w.heap.size<=w2.heap.size) :
 ∀ {one:Result α},TameEnd0 P S c Q w2 (es ++ evs) two one->TameEnd0 P S c Q w es two one
 | .ok x w1',⟨w1,ev2,a,c,d,e,g⟩=>⟨w1,evs ++ ev2,by rw [a,Array.append_assoc],fun x hx=>(Array.mem_append.1 hx).elim (fun hx=>(hev x hx).mono e) (c x),d,by omega,g⟩
 | .halt (.panic v) w1',⟨w1,ev2,a,c,d,e⟩=>⟨w1,evs ++ ev2,by rw [a,Array.append_assoc],fun x hx=>(Array.mem_append.1 hx).elim (fun hx=>(hev x hx).mono e) (c x),d,by omega⟩
 | .halt .blocked _,h | .halt .waiting _,h | .halt (.exit _) _,h | .halt (.fatal _) _,h | .halt (.throw _) _,h | .halt .goexit _,h | .halt (.unsupported _) _,h | .halt (.stuck _) _,h=>h
theorem TameEnd.head {w w2:World} {es evs:Array Event} {two:Result α × Array Event} (hev:∀ e∈evs,EvOk w2.heap.size e) (h1:w.heap.size<=w2.heap.size)
 {one:Result α} (h:TameEnd P S c Q w2 (es ++ evs) two one):TameEnd P S c Q w es two one:=fun hg=>TameEnd0.head hev h1 (h hg)
theorem TameEnd.same {w w2:World} {es:Array Event} {two:Result α × Array Event} {one:Result α} (h1:w.heap.size<=w2.heap.size) (h:TameEnd P S c Q w2 es two one):TameEnd P S c Q w es two one:=by
 have e2:es=es ++ #[]:=by simp
 rw [e2] at h;exact TameEnd.head (evs:=#[]) (by simp) h1 (by rw [Array.append_empty] at h ⊢;exact h)
theorem noCell_ok {P:Program} {w:World} (h:∀ (r:Nat) (o:Obj),w.heap[r]? = some o->HeapOk P o) (a:Addr) (what:String):haltOk (w.noCell a what)/\∀ v,w.noCell a what≠.panic v:=by
 unfold World.noCell
 cases hc:w.heap[a.block]? with
 | none=>exact ⟨trivial,by simp⟩
 | some o=>have:=h _ _ hc;cases o <;> first | exact this.elim | exact ⟨trivial,by simp⟩
theorem farLoad_ok {P:Program} {w:World} (h:∀ (r:Nat) (o:Obj),w.heap[r]? = some o->HeapOk P o) {a:Addr} {b:Bool} {e:Halt} (he:w.farLoad P a b=.error e):haltOk e/\∀ v,e≠.panic v:=by
 unfold World.farLoad at he;split at he
 ·split at he
  ·cases he
  ·cases he;exact ⟨trivial,by simp⟩
 ·cases he;exact noCell_ok h _ _
theorem farStore_ok {P:Program} {w:World} (h:∀ (r:Nat) (o:Obj),w.heap[r]? = some o->HeapOk P o) {a:Addr} {v:Value} {b:Bool} {e:Halt} (he:w.farStore P a v b=.error e):haltOk e/\∀ v,e≠.panic v:=by
 unfold World.farStore at he;split at he
 ·split at he
  ·cases he
  ·cases he;exact ⟨trivial,by simp⟩
 ·cases he;exact noCell_ok h _ _
theorem farLoad_alike {P:Program} {w w':World} (h:Sim P S c w w') {a:Addr} {b:Bool} {v:Value} {t:List Addr} (he:w'.farLoad P a b=.ok (v,t)):w.farLoad P a b=.ok (v,t)/\∀ x∈t,x.block < w.heap.size:=by
 unfold World.farLoad at he ⊢;rcases h.alike a.block with e | ⟨⟨o,e,hb⟩,e'⟩
 ·rw [e] at he;split at he
  ·rw [viewLoad_alike h] at he;split at he
   ·rename_i hv;cases he;exact ⟨rfl,viewLoad_low hv⟩
   ·cases he
  ·cases he
 ·rw [e'] at he;cases he
theorem farStore_alike {P:Program} {w w':World} (h:Sim P S c w w') {a:Addr} {b:Bool} {v:Value} {w1':World} {t:List Addr} (he:w'.farStore P a v b=.ok (w1',t)) :
 ∃ w1,w.farStore P a v b=.ok (w1,t)/\Sim P S c w1 w1'/\w1.heap.size=w.heap.size/\∀ x∈t,x.block < w.heap.size:=by
 unfold World.farStore at he ⊢;rcases h.alike a.block with e | ⟨⟨o,e,hb⟩,e'⟩
 ·rw [e] at he;split at he
  ·rename_i at_ u hc
   split at he
   ·rename_i r hv
    cases he;obtain ⟨w1,h1,h2⟩:=viewStore_alike h hv;exact ⟨w1,by rw [h1],h2⟩
   ·cases he
  ·cases he
 ·rw [e'] at he;cases he
theorem evs_one {B:Nat} {e:Event} (h:EvOk B e):∀ x∈(#[e]:Array Event),EvOk B x:=fun x hx=>by simp at hx;exact hx ▸ h
theorem ev_cell {B:Nat} {a:Addr} (wr sy:Bool) (h2:a.block < B):∀ x∈(#[⟨.cell a,wr,sy⟩]:Array Event),EvOk B x:=evs_one (show EvOk B ⟨.cell a,wr,sy⟩ from h2)
theorem ev_cells {B:Nat} {t:List Addr} (wr sy:Bool) (h:∀ a∈t,a.block < B):∀ x∈(t.toArray.map fun a=>(⟨.cell a,wr,sy⟩:Event)),EvOk B x:=fun x hx=>by
 obtain ⟨a,ha,rfl⟩:=Array.mem_map.1 hx;exact h a (by simpa using ha)
theorem ev_obj {B r:Nat} {wr sy:Bool} (h2:r < B):∀ x∈(#[⟨.obj r,wr,sy⟩]:Array Event),EvOk B x:=evs_one (show EvOk B ⟨.obj r,wr,sy⟩ from h2)
theorem ev_mark {B:Nat} {m:Mark} (h:m=.noRoom\/∃ f,m=.extern f):∀ x∈(#[⟨.mark m,false,true⟩]:Array Event),EvOk B x:=evs_one (show EvOk B ⟨.mark m,false,true⟩ from h)
theorem ok_cons {r:Nat} {ok:List Nat} (hr:¬ S r) (hok:∀ x∈ok,¬ S x):∀ x∈r::ok,¬ S x:=fun x hx=>by
 rcases List.mem_cons.1 hx with rfl | hx
 ·exact hr
 ·exact hok x hx
theorem tame_run {P:Program} (s:Sem α):∀ (ok:List Nat) (w w':World) (es:Array Event),Tame P Q s ok->Sim P S c w w'->(∀ r∈ok,¬ S r)->TameEnd P S c Q w es (s.runT P w es) (s.run P w'):=by
 induction s with
 | pure a=>exact fun ok w w' es h hs _ _=>⟨w,#[],by simp [Sem.runT],by simp,hs,Nat.le_refl _,ok,h⟩
 | load m a k ih =>
  intro ok w w' es ⟨hm,h⟩ hs hok;subst hm;simp only [Sem.runT,Sem.run]
  cases hc:w'.cell? a with
  | none =>
   rw [hs.cell_none hc];simp only
   cases hf:w'.farLoad P a (Mode.plain == Mode.atomic) with
   | error e=>exact TameEnd.halt (farLoad_ok hs.heapOk hf).1 (farLoad_ok hs.heapOk hf).2
   | ok vt =>
    obtain ⟨v,t⟩:=vt;obtain ⟨h1,h2⟩:=farLoad_alike hs hf;rw [h1];exact TameEnd.head (ev_cells (B:=w.heap.size) false _ h2) (Nat.le_refl _) (ih v ok w w' _ (h v) hs hok)
  | some v =>
   obtain ⟨_,h2,h3⟩:=hs.cell hc;simp only [h3];have:=ih v ok w w' (es.push ⟨.cell a,false,Mode.plain == Mode.atomic⟩) (h v) hs hok;rw [<- Array.append_singleton] at this ⊢;exact TameEnd.head (ev_cell (B:=w.heap.size) false _ h2) (Nat.le_refl _) this
 | store m a v k ih =>
  intro ok w w' es ⟨hm,h⟩ hs hok;subst hm;by_cases hv:(∃ c,v=.agg c)\/(∃ c,v=.tuple c)
  ·rcases hv with ⟨c,rfl⟩ | ⟨c,rfl⟩ <;> exact TameEnd.halt (h:=.stuck _) trivial (by simp)
  ·have e1:∀ (w:World),(Sem.store .plain a v k).runT P w es=match w.cell? a with
    | some _=>if w.frozen? a then (.halt (.unsupported (.unsafePointer "a write to bytes that a string shares")) w,es) else k.runT P (w.setCell a v) (es.push ⟨.cell a,true,Mode.plain == Mode.atomic⟩)
    | none=>match w.farStore P a v (Mode.plain == Mode.atomic) with
     | .ok (w,touched)=>k.runT P w (es ++ touched.toArray.map (⟨.cell ·,true,Mode.plain == Mode.atomic⟩))
     | .error h=>(.halt h w,es):=by
    intro w;cases v <;> first | rfl | (exact absurd (Or.inl ⟨_,rfl⟩) hv) | (exact absurd (Or.inr ⟨_,rfl⟩) hv)
   have e3:∀ (w:World),(Sem.store .plain a v k).run P w=match w.cell? a with
    | some _=>if w.frozen? a then .halt (.unsupported (.unsafePointer "a write to bytes that a string shares")) w else k.run P (w.setCell a v)
    | none=>match w.farStore P a v (Mode.plain == Mode.atomic) with
     | .ok (w,_)=>k.run P w
     | .error h=>.halt h w:=by
    intro w;cases v <;> first | rfl | (exact absurd (Or.inl ⟨_,rfl⟩) hv) | (exact absurd (Or.inr ⟨_,rfl⟩) hv)
   rw [e1,e3]
   cases hc:w'.cell? a with
   | none =>
    rw [hs.cell_none hc];simp only
    cases hf:w'.farStore P a v (Mode.plain == Mode.atomic) with
    | error e=>exact TameEnd.halt (farStore_ok hs.heapOk hf).1 (farStore_ok hs.heapOk hf).2
    | ok vt =>
     obtain ⟨w1',t⟩:=vt;obtain ⟨w1,h1,h2,h3,h4⟩:=farStore_alike hs hf;rw [h1];exact TameEnd.head (w2:=w1) (ev_cells true _ (by rw [h3];exact h4)) (Nat.le_of_eq h3.symm) (ih ok w1 w1' _ h h2 hok)
   | some v0 =>
    obtain ⟨h1,h2,h3⟩:=hs.cell hc;simp only [h3,hs.frozen];by_cases hf:w.frozen? a=true
    ·simp only [hf,if_true];exact TameEnd.halt (h:=.unsupported _) trivial (by simp)
    ·simp only [hf,if_false,Bool.false_eq_true];have:=ih ok (w.setCell a v) (w'.setCell a v) (es.push ⟨.cell a,true,Mode.plain == Mode.atomic⟩) h (hs.set h1 v) hok;rw [<- Array.append_singleton] at this ⊢;have hsz:(w.setCell a v).heap.size=w.heap.size:=by simp [World.setCell]
     exact TameEnd.head (w2:=w.setCell a v) (ev_cell true _ (by rw [hsz];exact h2)) (by rw [hsz];exact Nat.le_refl _) this
 | new o k ih =>
  intro ok w w' es ⟨ho,h⟩ hs hok;simp only [Sem.runT,Sem.run,hs.size];have hn:¬ S w.heap.size:=fun hx=>Nat.lt_irrefl _ (hs.lt hx);exact TameEnd.same (w2:={ w with heap:=w.heap.push o }) (by simp) (ih w.heap.size (w.heap.size::ok) { w with heap:=w.heap.push o } { w' with heap:=w'.heap.push o } es (h _) (hs.push ho) (ok_cons hn hok))
 | shape r k ih =>
  intro ok w w' es h hs hok;simp only [Sem.runT,Sem.run,hs.shape r];exact ih _ ok w w' es (h _) hs hok
 | freeze a m k ih =>
  intro ok w w' es h hs hok;simp only [Sem.runT,Sem.run];have hsz:(w.freeze a m).heap.size=w.heap.size:=by unfold World.freeze;split <;> simp
  exact TameEnd.same (w2:=w.freeze a m) (by rw [hsz];exact Nat.le_refl _) (ih ok (w.freeze a m) (w'.freeze a m) es h (hs.freeze a m) hok)
 | frozen a k ih =>
  intro ok w w' es h hs hok;simp only [Sem.runT,Sem.run,hs.frozen a];exact ih _ ok w w' es (h _) hs hok
 | getObj r k ih =>
  intro ok w w' es h hs hok;have plain:∀ ok':List Nat,(∀ x∈ok',¬ S x)->¬ S r->(∀ o,HeapOk P o->Tame P Q (k o) ok')->TameEnd P S c Q w es ((Sem.getObj r k).runT P w es) ((Sem.getObj r k).run P w'):=by
   intro ok' hok' hr h;simp only [Sem.runT,Sem.run,hs.block r hr]
   cases hc:w.heap[r]? with
   | none=>exact TameEnd.halt (h:=.stuck _) trivial (by simp)
   | some o =>
    have hlt:r < w.heap.size:=(Array.getElem?_eq_some_iff.1 hc).1;have ho:HeapOk P o:=hs.heapOk r o (by rw [hs.block r hr];exact hc);have key:TameEnd P S c Q w es ((k o).runT P w (es.push ⟨.obj r,false,o.isChan⟩)) ((k o).run P w'):=by
     have:=ih o ok' w w' (es.push ⟨.obj r,false,o.isChan⟩) (h o ho) hs hok';rw [<- Array.append_singleton] at this ⊢;exact TameEnd.head (ev_obj (B:=w.heap.size) hlt) (Nat.le_refl _) this
    cases o <;> first | exact key | exact TameEnd.halt (h:=.stuck _) trivial (by simp)
  rcases h with ⟨hst,h⟩ | ⟨hbl,h⟩
  ·by_cases hr:S r
   ·obtain ⟨why,hw⟩:=hst;simp only [Sem.runT,Sem.run,(hs.mute r hr).2,hw];exact TameEnd.halt (h:=.stuck _) trivial (by simp)
   ·exact plain (r::ok) (ok_cons hr hok) hr h
  ·by_cases hr:S r
   ·obtain ⟨⟨o,ho,hb,_⟩,hm⟩:=hs.mute r hr;have hlt:r < w.heap.size:=hs.lt hr;have e1:∀ e2:Array Event,(k o).runT P w e2=(k (.coro none)).runT P w e2:=by rw [hbl o hb];exact fun _=>rfl
    have key:TameEnd P S c Q w es ((k o).runT P w (es.push ⟨.obj r,false,o.isChan⟩)) ((k (.coro none)).run P w'):=by
     rw [e1];have:=ih (.coro none) ok w w' (es.push ⟨.obj r,false,o.isChan⟩) (h _ trivial) hs hok;rw [<- Array.append_singleton] at this ⊢;exact TameEnd.head (ev_obj (B:=w.heap.size) hlt) (Nat.le_refl _) this
    have e2:(Sem.getObj r k).run P w'=(k (.coro none)).run P w':=by simp only [Sem.run,hm]
    have e3:(Sem.getObj r k).runT P w es=(k o).runT P w (es.push ⟨.obj r,false,o.isChan⟩):=by
     simp only [Sem.runT,ho];cases o <;> first | rfl | cases hb
    rw [e2,e3];exact key
   ·exact plain ok hok hr h
 | setObj r o k ih =>
  intro ok w w' es ⟨hr,ho,_,h⟩ hs hok;have hn:=hok r hr;simp only [Sem.runT,Sem.run,hs.block r hn]
  cases hc:w.heap[r]? with
  | none=>exact TameEnd.halt (h:=.stuck _) trivial (by simp)
  | some o' =>
   have hlt:r < w.heap.size:=(Array.getElem?_eq_some_iff.1 hc).1;have key:TameEnd P S c Q w es (k.runT P { w with heap:=w.heap.setIfInBounds r o } (es.push ⟨.obj r,true,o.isChan⟩)) (k.run P { w' with heap:=w'.heap.setIfInBounds r o }):=by
    have:=ih ok { w with heap:=w.heap.setIfInBounds r o } { w' with heap:=w'.heap.setIfInBounds r o } (es.push ⟨.obj r,true,o.isChan⟩) h (hs.put hn ho) hok;rw [<- Array.append_singleton] at this ⊢;exact TameEnd.head (w2:={ w with heap:=w.heap.setIfInBounds r o }) (ev_obj (by simpa using hlt)) (by simp) this
   cases o' <;> first | exact key | exact TameEnd.halt (h:=.stuck _) trivial (by simp)
 | choose q k ih =>
  intro ok w w' es h hs hok;simp only [Sem.runT,Sem.run];by_cases hf:q.forced=true
  ·simp only [hf,if_true];exact ih 0 ok w w' es (h 0) hs hok
  ·simp only [hf,if_false,Bool.false_eq_true];rcases Nat.lt_or_ge w'.drawn c.e with hlt | hge
   case inr =>
    intro hg;have:=sem_drawn (P:=P) (k (q.cut (w'.tape w'.drawn q))) { w' with drawn:=w'.drawn+1 };simp only at this;omega
   have e3:q.cut (w'.tape w'.drawn q)=q.cut (w.tape w.drawn q):=by rw [hs.tape.answer q hlt]
   rw [e3];exact TameEnd.same (w2:={ w with drawn:=w.drawn+1 }) (Nat.le_refl _) (ih (q.cut (w.tape w.drawn q)) ok { w with drawn:=w.drawn+1 } { w' with drawn:=w'.drawn+1 } es (h _) hs.drew hok)
 | sys c k ih=>exact fun ok w w' es h=>h.elim
 | program k ih =>
  intro ok w w' es h hs hok;simp only [Sem.runT,Sem.run];exact ih P ok w w' es h hs hok
 | mark m k ih =>
  intro ok w w' es ⟨hm,h⟩ hs hok;simp only [Sem.runT,Sem.run];have:=ih ok w w' (es.push ⟨.mark m,false,true⟩) h hs hok;rw [<- Array.append_singleton] at this ⊢;exact TameEnd.head (ev_mark (B:=w.heap.size) hm) (Nat.le_refl _) this
 | halt h =>
  intro ok w w' es hh hs _;intro _;cases h <;> first | exact ⟨w,#[],by simp [Sem.runT],by simp,hs,Nat.le_refl _⟩ | exact hh
end
def Tm (P:Program) {α:Type} (φ:α->Prop) (rs:List Nat) (s:Sem α):Prop :=
 ∀ (Q:α->List Nat->Prop) (ok:List Nat),(∀ r∈rs,r∈ok)->(∀ a ok',φ a->(∀ r∈ok,r∈ok')->Q a ok')->Tame P Q s ok
abbrev T (P:Program) {α:Type} (rs:List Nat) (s:Sem α):Prop:=Tm P (fun _=>True) rs s
section
variable {P:Program} {α β:Type} {φ:α->Prop} {ψ:β->Prop} {rs:List Nat}
theorem Tm.pure {a:α} (h:φ a):Tm P φ rs (Pure.pure a):=fun Q ok _ hq=>hq a ok h fun _ x=>x
theorem Tm.bind {s:Sem β} {k:β->Sem α} (h:Tm P ψ rs s) (hk:∀ a,ψ a->Tm P φ rs (k a)):Tm P φ rs (s >>= k):=fun Q ok hr hq =>
 Tame.bind s (h _ ok hr fun a ok' ha ho=>hk a ha Q ok' (fun r x=>ho r (hr r x)) fun b ok2 hb ho2=>hq b ok2 hb fun r x=>ho2 r (ho r x))
theorem Tm.bindT {s:Sem β} {k:β->Sem α} (h:T P rs s) (hk:∀ a,Tm P φ rs (k a)):Tm P φ rs (s >>= k):=h.bind fun a _=>hk a
theorem Tm.mono {φ':α->Prop} {s:Sem α} (h:Tm P φ rs s) (hm:∀ a,φ a->φ' a):Tm P φ' rs s:=fun Q ok hr hq=>h Q ok hr fun a ok' ha=>hq a ok' (hm a ha)
theorem Tm.map {f:β->α} {s:Sem β} (h:Tm P ψ rs s) (hk:∀ a,ψ a->φ (f a)):Tm P φ rs (Functor.map f s):=by
 rw [map_eq_pure_bind];exact h.bind fun a ha=>Tm.pure (hk a ha)
theorem Tm.ite {c:Prop} {hd:Decidable c} {s t:Sem α} (h1:c->Tm P φ rs s) (h2:¬ c->Tm P φ rs t):Tm P φ rs (if c then s else t):=by
 by_cases h:c
 ·rw [if_pos h];exact h1 h
 ·rw [if_neg h];exact h2 h
theorem Tm.halt {h:Halt} (hh:haltOk h):Tm P φ rs (.halt h):=fun _ _ _ _=>hh
theorem Tm.stuck {w:String}:Tm P φ rs (Go.stuck w):=Tm.halt (h:=.stuck w) trivial
theorem Tm.uns {u:Unsupported} (h:∀ g,u≠.initOrder g):Tm P φ rs (Go.unsupported u):=Tm.halt (h:=.unsupported u) (by cases u <;> first | trivial | exact absurd rfl (h _))
theorem Tm.goPanic {v:Value}:Tm P φ rs (Go.goPanic v):=Tm.halt (h:=.panic v) trivial
theorem Tm.load {a:Addr}:T P rs (Go.load a):=fun Q ok _ hq=>⟨rfl,fun v=>hq v ok trivial fun _ x=>x⟩
theorem Tm.store {a:Addr} {v:Value}:T P rs (Go.store a v):=fun Q ok _ hq=>⟨rfl,hq () ok trivial fun _ x=>x⟩
theorem Tm.newObj {o:Obj} (h:HeapOk P o):T P rs (Go.newObj o):=fun Q ok _ hq=>⟨h,fun r=>hq r (r::ok) trivial fun _ x=>List.mem_cons_of_mem _ x⟩
theorem Tm.shape {r:Nat}:T P rs (Go.shape r):=fun Q ok _ hq s=>hq s ok trivial fun _ x=>x
theorem Tm.freeze {a:Addr} {n:Nat}:T P rs (Go.freeze a n):=fun Q ok _ hq=>hq () ok trivial fun _ x=>x
theorem Tm.frozen {a:Addr}:T P rs (Go.frozen a):=fun Q ok _ hq b=>hq b ok trivial fun _ x=>x
theorem Tm.choose {q:Question}:T P rs (Go.choose q):=fun Q ok _ hq n=>hq n ok trivial fun _ x=>x
theorem Tm.program:Tm P (·=P) rs (Go.program):=fun Q ok _ hq=>hq P ok rfl fun _ x=>x
theorem Tm.noRoom:T P rs (Go.mark .noRoom):=fun Q ok _ hq=>⟨.inl rfl,hq () ok trivial fun _ x=>x⟩
theorem Tm.extern {f:FuncId}:T P rs (Go.mark (.extern f)):=fun Q ok _ hq=>⟨.inr ⟨f,rfl⟩,hq () ok trivial fun _ x=>x⟩
theorem Tm.getObj {r:Nat} {k:Obj->Sem α} (hs:Stops k) (hk:∀ o,HeapOk P o->Tm P φ (r::rs) (k o)):Tm P φ rs (Go.getObj r >>= k):=fun Q ok hr hq =>
 .inl ⟨hs,fun o ho=>hk o ho Q (r::ok) (fun x hx=>by
  rcases List.mem_cons.1 hx with rfl | hx
  ·exact List.mem_cons_self ..
  ·exact List.mem_cons_of_mem _ (hr x hx)) fun a ok' ha h2=>hq a ok' ha fun x hx=>h2 x (List.mem_cons_of_mem _ hx)⟩
theorem Tm.peek {r:Nat} {k:Obj->Sem α} (hs:Blind k) (hk:∀ o,HeapOk P o->Tm P φ rs (k o)):Tm P φ rs (Go.getObj r >>= k):=fun Q ok hr hq =>
 .inr ⟨hs,fun o ho=>hk o ho Q ok hr hq⟩
theorem Tm.setObj {r:Nat} {o:Obj} (hr:r∈rs) (ho:HeapOk P o) (hc:o.isChan=false):T P rs (Go.setObj r o):=fun Q ok hrs hq=>⟨hrs r hr,ho,hc,hq () ok trivial fun _ x=>x⟩
theorem Tm.forInList {γ:Type} {f:γ->β->Sem (ForInStep β)} (hf:∀ c b,T P rs (f c b)):∀ (l:List γ) (b:β),T P rs (forIn l b f)
 | [],b=>by rw [List.forIn_nil];exact Tm.pure trivial
 | c::l,b=>by
  rw [List.forIn_cons];refine Tm.bindT (hf c b) fun x=>?_
  cases x with
  | done b=>exact Tm.pure trivial
  | yield b=>exact Tm.forInList hf l b
theorem Tm.forInArray {γ:Type} {f:γ->β->Sem (ForInStep β)} {l:Array γ} {b:β} (hf:∀ c b,T P rs (f c b)):T P rs (forIn l b f):=by
 rw [<- Array.forIn_toList];exact Tm.forInList hf _ _
theorem Tm.forInRange {f:Nat->β->Sem (ForInStep β)} {l:Std.Legacy.Range} {b:β} (hf:∀ c b,T P rs (f c b)):T P rs (forIn l b f):=by
 rw [Std.Legacy.Range.forIn_eq_forIn_range'];exact Tm.forInList hf _ _
theorem Tm.mapMList {γ:Type} {f:γ->Sem β} (hf:∀ c,T P rs (f c)):∀ (l:List γ),T P rs (l.mapM f)
 | []=>by rw [List.mapM_nil];exact Tm.pure trivial
 | c::l=>by
  rw [List.mapM_cons];exact Tm.bindT (hf c) fun x=>Tm.bindT (Tm.mapMList hf l) fun _=>Tm.pure trivial
theorem Tm.mapMArray {γ:Type} {f:γ->Sem β} {l:Array γ} (hf:∀ c,T P rs (f c)):T P rs (l.mapM f):=by
 rw [Array.mapM_eq_mapM_toList];exact Tm.map (Tm.mapMList hf _) fun _ _=>trivial
theorem Tm.foldlM {γ:Type} {f:β->γ->Sem β} (hf:∀ b c,T P rs (f b c)):∀ (l:List γ) (b:β),T P rs (l.foldlM f b)
 | [],b=>by rw [List.foldlM_nil];exact Tm.pure trivial
 | c::l,b=>by
  rw [List.foldlM_cons];exact Tm.bindT (hf b c) fun x=>Tm.foldlM hf l x
end
section
variable {P:Program} {rs:List Nat}
theorem tm_typeInfo {t:TypeId}:T P rs (typeInfo t):=by unfold typeInfo;(repeat' (first | with_reducible exact Tm.stuck | ((with_reducible refine Tm.pure ?_);first | trivial | skip) | ((with_reducible refine Tm.bind Tm.program fun p hp=>?_);subst hp) | split | (dsimp only)))
theorem tm_underlying {t:TypeId}:T P rs (underlying t):=by unfold underlying;(repeat' (first | with_reducible exact Tm.stuck | ((with_reducible refine Tm.pure ?_);first | trivial | skip) | ((with_reducible refine Tm.bind Tm.program fun p hp=>?_);subst hp) | split | (dsimp only)))
theorem tm_underlying' {t:TypeId}:Tm P (fun d=>P.underlying t=some d) rs (underlying t):=by
 unfold underlying;refine Tm.bind Tm.program fun p hp=>?_;subst hp;split
 ·rename_i h;exact Tm.pure h
 ·exact Tm.stuck
theorem tm_typeStr {t:TypeId}:T P rs (typeStr t):=by unfold typeStr;(repeat' (first | with_reducible exact tm_typeInfo | exact Tm.uns (by simp) | (with_reducible first | refine Tm.bindT ?_ fun _=>?_ | refine Tm.ite (fun _=>?_) (fun _=>?_)) | ((with_reducible refine Tm.pure ?_);first | trivial | skip) | split | (dsimp only)))
theorem tm_zeroValue {t:TypeId}:T P rs (zeroValue t):=by unfold zeroValue;(repeat' (first | with_reducible exact tm_typeInfo | exact Tm.uns (by simp) | ((with_reducible refine Tm.pure ?_);first | trivial | skip) | (with_reducible refine Tm.bindT ?_ fun _=>?_) | split | (dsimp only)))
theorem tm_sizeOf {t:TypeId}:T P rs (sizeOf t):=by unfold sizeOf;(repeat' (first | (with_reducible first | exact tm_typeInfo | refine Tm.bindT ?_ fun _=>?_) | ((with_reducible refine Tm.pure ?_);first | trivial | skip) | split | (dsimp only)))
theorem tm_isAgg {t:TypeId}:T P rs (isAgg t):=by unfold isAgg;(repeat' (first | (with_reducible first | exact tm_underlying | refine Tm.bindT ?_ fun _=>?_) | ((with_reducible refine Tm.pure ?_);first | trivial | skip) | split | (dsimp only)))
theorem tm_elemOf {t:TypeId}:T P rs (elemOf t):=by unfold elemOf;(repeat' (first | (with_reducible first | exact tm_underlying | exact Tm.stuck | refine Tm.bindT ?_ fun _=>?_) | ((with_reducible refine Tm.pure ?_);first | trivial | skip) | split | (dsimp only)))
theorem tm_newRow {t:TypeId} {c:Array Value}:T P rs (newRow t c):=by unfold newRow;(repeat' (first | ((with_reducible refine Tm.newObj ?_);trivial) | ((with_reducible refine Tm.pure ?_);first | trivial | skip) | (with_reducible refine Tm.bindT ?_ fun _=>?_) | split | (dsimp only)))
theorem tm_newVar {t:TypeId} {v:Value}:T P rs (newVar t v):=tm_newRow
theorem tm_loadCellsFrom {a:Addr}:∀ (n i:Nat) (acc:Array Value),T P rs (loadCellsFrom a i n acc)
 | 0,i,acc=>Tm.pure trivial
 | n+1,i,acc=>Tm.bindT Tm.load fun v=>tm_loadCellsFrom n (i+1) (acc.push v)
theorem tm_loadCells {a:Addr} {n:Nat}:T P rs (loadCells a n):=tm_loadCellsFrom n 0 #[]
theorem tm_storeCells {a:Addr}:∀ (vs:List Value) (i:Nat),T P rs (storeCells a vs i)
 | [],i=>Tm.pure trivial
 | v::vs,i=>Tm.bindT Tm.store fun _=>tm_storeCells vs (i+1)
theorem tm_loadVar {t:TypeId} {a:Addr}:T P rs (loadVar t a):=by unfold loadVar;(repeat' (first | (with_reducible first | exact tm_loadCells | exact tm_sizeOf | exact tm_isAgg | exact Tm.load | refine Tm.bindT ?_ fun _=>?_ | refine Tm.ite (fun _=>?_) (fun _=>?_)) | ((with_reducible refine Tm.pure ?_);first | trivial | skip) | split | (dsimp only)))
theorem tm_storeVar {t:TypeId} {a:Addr} {v:Value}:T P rs (storeVar t a v):=by unfold storeVar;(repeat' (first | (with_reducible first | exact tm_storeCells _ _ | exact tm_sizeOf | exact Tm.stuck | refine Tm.bindT ?_ fun _=>?_ | refine Tm.ite (fun _=>?_) (fun _=>?_)) | split | (dsimp only)))
theorem tm_part {t:TypeId} {cs:Array Value} {o:Nat}:T P rs (part t cs o):=by unfold part;(repeat' (first | (with_reducible first | exact tm_sizeOf | exact tm_isAgg | exact Tm.stuck | refine Tm.bindT ?_ fun _=>?_ | refine Tm.ite (fun _=>?_) (fun _=>?_)) | ((with_reducible refine Tm.pure ?_);first | trivial | skip) | split | (dsimp only)))
theorem tm_runtimePanic {α:Type} {φ:α->Prop} {e:RuntimeError}:Tm P φ rs (runtimePanic e):=by unfold runtimePanic;(repeat' (first | (with_reducible first | exact tm_newVar | exact tm_elemOf | exact Tm.goPanic) | ((with_reducible refine Tm.bind Tm.program fun p hp=>?_);subst hp) | (with_reducible refine Tm.bindT ?_ fun _=>?_) | split | (dsimp only)))
theorem tm_boundsPanic {α:Type} {φ:α->Prop} {k:IntKind} {x y:Int} {c:BoundsCode}:Tm P φ rs (boundsPanic k x y c):=by unfold boundsPanic;(repeat' (first | (with_reducible first | exact tm_runtimePanic | exact Tm.choose | refine Tm.bindT ?_ fun _=>?_ | refine Tm.map (ψ:=fun _=>True) ?_ fun _ _=>trivial | refine Tm.ite (fun _=>?_) (fun _=>?_)) | ((with_reducible refine Tm.pure ?_);first | trivial | skip) | split | (dsimp only)))
theorem tm_asIntOf {v:Value}:T P rs (asIntOf v):=by unfold asIntOf;(repeat' (first | with_reducible exact Tm.stuck | exact Tm.uns (by simp) | ((with_reducible refine Tm.pure ?_);first | trivial | skip) | split | (dsimp only)))
theorem tm_asBool {v:Value}:T P rs (asBool v):=by unfold asBool;(repeat' (first | with_reducible exact Tm.stuck | ((with_reducible refine Tm.pure ?_);first | trivial | skip) | split | (dsimp only)))
theorem tm_asString {v:Value}:T P rs (asString v):=by unfold asString;(repeat' (first | with_reducible exact Tm.stuck | ((with_reducible refine Tm.pure ?_);first | trivial | skip) | split | (dsimp only)))
theorem tm_asAgg {v:Value}:T P rs (asAgg v):=by unfold asAgg;(repeat' (first | with_reducible exact Tm.stuck | ((with_reducible refine Tm.pure ?_);first | trivial | skip) | split | (dsimp only)))
theorem tm_asAddr {v:Value}:T P rs (asAddr v):=by unfold asAddr;(repeat' (first | (with_reducible first | exact tm_runtimePanic | exact Tm.stuck) | ((with_reducible refine Tm.pure ?_);first | trivial | skip) | split | (dsimp only)))
theorem tm_asInt {v:Value}:T P rs (asInt v):=by unfold asInt;(repeat' (first | (with_reducible first | exact tm_asIntOf | refine Tm.bindT ?_ fun _=>?_) | ((with_reducible refine Tm.pure ?_);first | trivial | skip) | split | (dsimp only)))
theorem tm_viewAt {r:Nat}:T P rs (viewAt r):=by unfold viewAt;(repeat' (first | with_reducible exact Tm.shape | ((with_reducible refine Tm.pure ?_);first | trivial | skip) | ((with_reducible refine Tm.peek ?_ fun o ho=>?_);(· exact (fun o ho=>by cases o <;> first | rfl | cases ho))) | (with_reducible first | refine Tm.bindT ?_ fun _=>?_ | refine Tm.ite (fun _=>?_) (fun _=>?_)) | split | (dsimp only)))
theorem tm_numberAt {r:Nat}:T P rs (numberAt r):=by unfold numberAt;(repeat' (first | with_reducible exact Tm.shape | ((with_reducible refine Tm.pure ?_);first | trivial | skip) | ((with_reducible refine Tm.peek ?_ fun o ho=>?_);(· exact (fun o ho=>by cases o <;> first | rfl | cases ho))) | (with_reducible first | refine Tm.bindT ?_ fun _=>?_ | refine Tm.ite (fun _=>?_) (fun _=>?_)) | split | (dsimp only)))
theorem tm_asNumber {a:Addr} {b:Bool}:T P rs (asNumber a b):=by unfold asNumber;(repeat' (first | ((with_reducible refine Tm.newObj ?_);trivial) | ((with_reducible refine Tm.pure ?_);first | trivial | skip) | (with_reducible refine Tm.bindT ?_ fun _=>?_) | split | (dsimp only)))
theorem tm_behindNumber {a:Addr}:T P rs (behindNumber a):=by unfold behindNumber;(repeat' (first | (with_reducible first | exact tm_numberAt | refine Tm.bindT ?_ fun _=>?_) | ((with_reducible refine Tm.pure ?_);first | trivial | skip) | split | (dsimp only)))
theorem tm_noView {a:Addr}:T P rs (noView a):=by unfold noView;(repeat' (first | with_reducible exact tm_viewAt | exact Tm.uns (by simp) | (with_reducible first | refine Tm.bindT ?_ fun _=>?_ | refine Tm.ite (fun _=>?_) (fun _=>?_)) | ((with_reducible refine Tm.pure ?_);first | trivial | skip) | split | (dsimp only)))
theorem tm_markStringish {a:Addr}:T P rs (markStringish a):=by unfold markStringish;(repeat' (first | (with_reducible first | exact Tm.shape | exact Tm.freeze | refine Tm.bindT ?_ fun _=>?_) | ((with_reducible refine Tm.pure ?_);first | trivial | skip) | split | (dsimp only)))
theorem tm_stringish {a:Addr}:T P rs (stringish a):=by unfold stringish;(repeat' (first | (with_reducible first | exact Tm.shape | exact Tm.frozen | refine Tm.bindT ?_ fun _=>?_ | refine Tm.ite (fun _=>?_) (fun _=>?_)) | ((with_reducible refine Tm.pure ?_);first | trivial | skip) | split | (dsimp only)))
theorem tm_askRoom {n:Nat}:T P rs (askRoom n):=by unfold askRoom;(repeat' (first | (with_reducible first | exact Tm.noRoom | refine Tm.ite (fun _=>?_) (fun _=>?_)) | ((with_reducible refine Tm.pure ?_);first | trivial | skip) | split | (dsimp only)))
theorem tm_mayBeOne {a b:Addr}:T P rs (mayBeOne a b):=by unfold mayBeOne;(repeat' (first | (with_reducible first | exact tm_stringish | exact Tm.shape | refine Tm.bindT ?_ fun _=>?_) | ((with_reducible refine Tm.pure ?_);first | trivial | skip) | split | (dsimp only)))
theorem tm_sameAddr {a b:Addr}:T P rs (sameAddr a b):=by unfold sameAddr;(repeat' (first | (with_reducible first | exact tm_mayBeOne | exact tm_noView) | exact Tm.uns (by simp) | (with_reducible first | exact Tm.frozen | exact Tm.choose | refine Tm.bindT ?_ fun _=>?_ | refine Tm.ite (fun _=>?_) (fun _=>?_)) | ((with_reducible refine Tm.pure ?_);first | trivial | skip) | split | (dsimp only)))
theorem tm_samePointer {a b:Option Addr}:T P rs (samePointer a b):=by unfold samePointer;(repeat' (first | with_reducible exact tm_sameAddr | ((with_reducible refine Tm.pure ?_);first | trivial | skip) | split | (dsimp only)))
theorem tm_byteOf {a:Addr}:T P rs (byteOf a):=by unfold byteOf;(repeat' (first | (with_reducible first | exact tm_noView | exact Tm.stuck | exact Tm.shape) | ((with_reducible refine Tm.pure ?_);first | trivial | skip) | ((with_reducible refine Tm.bind Tm.program fun p hp=>?_);subst hp) | (with_reducible first | refine Tm.bindT ?_ fun _=>?_ | refine Tm.ite (fun _=>?_) (fun _=>?_)) | split | (dsimp only)))
theorem tm_partAt {a:Addr} {n m:Nat}:T P rs (partAt a n m):=by unfold partAt;(repeat' (first | (with_reducible first | exact tm_byteOf | refine Tm.bindT ?_ fun _=>?_) | ((with_reducible refine Tm.pure ?_);first | trivial | skip) | split | (dsimp only)))
theorem tm_fieldPlace {a:Addr} {f:Field}:T P rs (fieldPlace a f):=by unfold fieldPlace;(repeat' (first | (with_reducible first | exact tm_partAt | exact tm_sizeOf | refine Tm.bindT ?_ fun _=>?_ | refine Tm.ite (fun _=>?_) (fun _=>?_)) | ((with_reducible refine Tm.pure ?_);first | trivial | skip) | split | (dsimp only)))
end
end Go.Proofs.YtdjnkplgllakcaaGreatDoor.Mt
