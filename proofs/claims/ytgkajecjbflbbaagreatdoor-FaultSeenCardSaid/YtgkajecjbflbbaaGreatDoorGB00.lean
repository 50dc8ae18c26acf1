/- the fault laws -/
import Derived.Conc.Beside
import Derived.Lib.Hide
set_option maxHeartbeats 200000
set_option maxRecDepth 100000
set_option linter.all false
namespace Go.Proofs.YtgkajecjbflbbaaGreatDoor
abbrev U : Value := undef
theorem Hh {p : Prop} (h : p) : RowKit.Hid p := Lib.hid h
end Go.Proofs.YtgkajecjbflbbaaGreatDoor
namespace Go.Proofs.YtgkajecjbflbbaaGreatDoor.Mt
open Go
def muteP (B:Nat->Bool) (P:Program):Program:={ P with funcs:=P.funcs.mapIdx fun i fn=>if B i then { fn with name := "",origin := "",body:=none } else fn }
theorem muteP_good {B:Nat->Bool} {P:Program} {f:Nat} (h:B f=false):(muteP B P).funcs[f]? = P.funcs[f]? := by
 show (P.funcs.mapIdx _)[f]? = _;rw [Array.getElem?_mapIdx]
 cases P.funcs[f]? with
 | none=>rfl
 | some fn=>simp [h]
theorem muteP_bad {B:Nat->Bool} {P:Program} {f:Nat} (h:B f=true) {fn:Func} (hf:P.funcs[f]? = some fn):(muteP B P).funcs[f]? = some { fn with name := "",origin := "",body:=none }:=by
 show (P.funcs.mapIdx _)[f]? = _;rw [Array.getElem?_mapIdx,hf];simp [h]
theorem under_mute (B:Nat->Bool) (P:Program) (t:TypeId):(muteP B P).underlying t=P.underlying t:=rfl
theorem info_mute (B:Nat->Bool) (P:Program) (t:TypeId):(muteP B P).info? t=P.info? t:=rfl
section
variable {B:Nat->Bool} {P:Program}
theorem cells_mute (t:TypeId):(muteP B P).cellsOf t=P.cellsOf t:=rfl
theorem bytes_mute (t:TypeId):(muteP B P).bytesOf t=P.bytesOf t:=rfl
theorem depth_mute:(muteP B P).depth=P.depth:=rfl
theorem byteOfCell_mute:∀ (d:Nat) (t:TypeId) (o:Nat),byteOfCell (muteP B P) d t o=byteOfCell P d t o
 | 0,_,_=>rfl
 | d+1,t,o=>by
  have ih:=byteOfCell_mute d;unfold byteOfCell;simp only [under_mute,cells_mute,bytes_mute,ih]
  try rfl
theorem cellHolding_mute:∀ (d:Nat) (t:TypeId) (o:Nat),cellHolding (muteP B P) d t o=cellHolding P d t o
 | 0,_,_=>rfl
 | d+1,t,o=>by
  have ih:=cellHolding_mute d;unfold cellHolding;simp only [under_mute,cells_mute,bytes_mute,ih]
  try rfl
theorem plainCell_mute:∀ (d:Nat) (t:TypeId) (o:Nat),plainCell (muteP B P) d t o=plainCell P d t o
 | 0,_,_=>rfl
 | d+1,t,o=>by
  have ih:=plainCell_mute d;unfold plainCell;simp only [under_mute,cells_mute,bytes_mute,ih]
  try rfl
theorem tight_mute:∀ (d:Nat) (t:TypeId),tight (muteP B P) d t=tight P d t
 | 0,_=>rfl
 | d+1,t=>by
  have ih:=tight_mute d;unfold tight;simp only [under_mute,cells_mute,bytes_mute,ih]
  try rfl
theorem seenCells_mute (c:Array Value) (e:TypeId):∀ (f x stop:Nat),seenCells (muteP B P) c e f x stop=seenCells P c e f x stop
 | 0,_,_=>rfl
 | f+1,x,stop=>by
  have ih:=seenCells_mute c e f;unfold seenCells;simp only [cellHolding_mute,depth_mute,cells_mute,bytes_mute,ih]
theorem seen_mute (w:World) (a:Addr) (u:TypeId) (k:Addr) (b:Bool):w.seen (muteP B P) a u k b=w.seen P a u k b:=by
 unfold World.seen;simp only [plainCell_mute,byteOfCell_mute,seenCells_mute,depth_mute,cells_mute,bytes_mute]
 try rfl
theorem viewLoad_mute (w:World) (a:Addr) (u:TypeId) (k:Addr) (b:Bool):w.viewLoad (muteP B P) a u k b=w.viewLoad P a u k b:=by
 unfold World.viewLoad;simp only [seen_mute]
 try rfl
theorem viewStore_mute (w:World) (a:Addr) (u:TypeId) (k:Addr) (v:Value) (b:Bool):w.viewStore (muteP B P) a u k v b=w.viewStore P a u k v b:=by
 unfold World.viewStore;simp only [seen_mute,tight_mute,depth_mute]
 try rfl
theorem far_mute (w:World) (a:Addr) (b:Bool):w.farLoad (muteP B P) a b=w.farLoad P a b:=by
 unfold World.farLoad;simp only [viewLoad_mute]
 try rfl
theorem farS_mute (w:World) (a:Addr) (v:Value) (b:Bool):w.farStore (muteP B P) a v b=w.farStore P a v b:=by
 unfold World.farStore;simp only [viewStore_mute]
 try rfl
end
section
variable {B:Nat->Bool} {P:Program}
theorem underId_mute (t:TypeId):(muteP B P).underlyingId t=P.underlyingId t:=rfl
theorem cut_mute:(muteP B P).cutTypes=P.cutTypes:=rfl
theorem ownRow_mute (c:String × TypeId):(muteP B P).ownRow c=P.ownRow c:=by
 unfold Program.ownRow;simp only [info_mute,under_mute,cut_mute]
theorem alike_mute:∀ (d:Nat) (t u:TypeId),(muteP B P).alikeButTags d t u=P.alikeButTags d t u
 | 0,_,_=>rfl
 | d+1,t,u=>by
  have ih:=alike_mute d;unfold Program.alikeButTags;simp only [under_mute,info_mute,underId_mute,ih]
  try rfl
theorem packed_mute (t:TypeId):(muteP B P).packed t=P.packed t:=by
 unfold Program.packed Program.packedAs;simp only [cut_mute,ownRow_mute,under_mute,info_mute,underId_mute,alike_mute,depth_mute]
 try rfl
theorem holdsPacked_mute:∀ (d:Nat) (t:TypeId),(muteP B P).holdsPacked d t=P.holdsPacked d t
 | 0,_=>rfl
 | d+1,t=>by
  have ih:=holdsPacked_mute d;unfold Program.holdsPacked;simp only [under_mute,packed_mute,ih]
  try rfl
theorem eqGuardType_mute:∀ (d:Nat) (t:TypeId),(muteP B P).eqGuardType d t=P.eqGuardType d t
 | 0,_=>rfl
 | d+1,t=>by
  have ih:=eqGuardType_mute d;unfold Program.eqGuardType;simp only [under_mute,ih]
  try rfl
theorem cellOfByte_mute:∀ (d:Nat) (t:TypeId) (o:Nat),cellOfByte (muteP B P) d t o=cellOfByte P d t o
 | 0,_,_=>rfl
 | d+1,t,o=>by
  have ih:=cellOfByte_mute d;unfold cellOfByte;simp only [under_mute,cells_mute,bytes_mute,ih]
  try rfl
theorem cellAtBytes_mute (d:Nat) (e:TypeId) (c o:Nat) (n:Int):cellAtBytes (muteP B P) d e c o n=cellAtBytes P d e c o n:=by
 unfold cellAtBytes;simp only [cells_mute,bytes_mute,byteOfCell_mute,cellOfByte_mute]
 try rfl
theorem stood_mute (t:TypeId):(muteP B P).stoodInHeld t=P.stoodInHeld t:=by
 unfold Program.stoodInHeld Program.stoodInAs;simp only [cut_mute,under_mute,info_mute,underId_mute,alike_mute,depth_mute]
 try rfl
end
theorem bad_name:(("":String) == "runtime.NumGoroutine")=false:=by kernel_rfl
theorem bad_next (fn:Func):Extern.findNext { fn with name := "",origin := "",body:=none }=none:=by
 unfold Extern.findNext;have h:Extern.allNextRows.lookup ""=none:=by kernel_rfl
 simp only [h];rfl
theorem bad_find (fn:Func):Extern.find { fn with name := "",origin := "",body:=none }=none:=by
 have h1:Extern.allGenericRows.lookup ""=none:=by kernel_rfl
 have h2:Extern.allTypedRows.lookup ""=none:=by kernel_rfl
 have h3:Extern.allRows.lookup ""=none:=by kernel_rfl
 unfold Extern.find;simp only [h1,h2,h3];rfl
end Go.Proofs.YtgkajecjbflbbaaGreatDoor.Mt
namespace Go
def Result.world {α:Type}:Result α->World
 | .ok _ w | .halt _ w=>w
end Go
namespace Go.Proofs.YtgkajecjbflbbaaGreatDoor.Mt
open Go
def builtinOk:Builtin->Bool
 | .append | .cap | .len | .copy | .max | .min | .delete | .clear=>true
 | _=>false
def opOk (P:Program):Op->Bool
 | .move _ | .assign _ | .pick .. | .alloc _ | .box .. | .build .. | .buildSlice .. | .load .. | .store .. | .nilCheck _ | .binOp .. | .unOp .. | .makeFunc .. | .makeMap .. | .makeSlice .. | .slice .. | .fieldAddr .. | .field .. | .indexAddr .. | .index .. | .lookup .. | .mapUpdate .. | .insert .. | .mapEntry .. | .entryStore .. | .range .. | .next .. | .entry .. | .extract .. | .go _ | .send .. | .recv .. | .makeInterface ..=>true
 | .makeChan _ s=>match s with
  | .const (.int _ 0)=>true
  | _=>false
 | .select _ blocking=>blocking
 | .call c=>match c.callee with
  | .builtin b=>builtinOk b
  | _=>true
 | .convert src dst _=>!(P.underlying src matches some .unsafePointer) && !(P.underlying dst matches some .unsafePointer) && !((P.underlying src matches some (.slice _)) && (P.underlying dst matches some (.slice _)))
 | _=>false
def codeOk (P:Program):Code->Bool
 | .skip | .exit _ | .label _ | .goto _ | .ret | .refuse _=>true
 | .region _ ops _=>ops.all fun o=>opOk P o.op
 | .seq a b | .cond _ a b=>codeOk P a && codeOk P b
 | .block _ b | .loop b | .scope b=>codeOk P b
 | .rangeFunc _ _ a b=>codeOk P a && codeOk P b
def HeapOk (P:Program) (B:Nat->Bool):Obj->Prop
 | .loop l=>codeOk P l.assign=true/\codeOk P l.body=true/\(∀ c,l.pending=some c->codeOk P c=true)/\B l.fn=false
 | .deferred ds=>ds=some []\/ds=none
 | .pending ..=>False
 | .chan n buf closed ..=>n=0/\buf=#[]/\closed=false
 | _=>True
def bad:Obj->Bool
 | .loop _ | .pending .. | .deferred _ | .chan ..=>true
 | _=>false
def dead:Obj->Bool
 | .cells c _ f=>c.size != 0 && !decide (f.1 < f.2)
 | _=>false
def haltOk:Halt->Prop
 | .panic _ | .stuck _=>True
 | .unsupported (.initOrder _)=>False
 | .unsupported _=>True
 | _=>False
def Stops {α:Type} (k:Obj->Sem α):Prop:=∃ why,k (.coro none)=.halt (.stuck why)
def Blind {α:Type} (k:Obj->Sem α):Prop:=∀ o,bad o=true->k o=k (.coro none)
def LoneTo {α:Type} (r:Nat) (x y:Sem α):Prop:=x=y\/∃ k,x=.getObj r k/\k (.coro none)=y
def RealTo {α:Type} (r:Nat) (y x:Sem α):Prop:=∃ a k,y=.frozen a k/\a.block=r/\k false=x
inductive Ends {α:Type}:Sem α->Prop
 | halt {h:Halt}:haltOk h->(∀ v,h≠.panic v)->Ends (.halt h)
 | frozen {a:Addr} {k:Bool->Sem α}:(∀ b,Ends (k b))->Ends (.frozen a k)
 | shape {r:Nat} {k:Option (TypeId × Nat)->Sem α}:(∀ s,Ends (k s))->Ends (.shape r k)
 | mark {m:Mark} {k:Sem α}:Ends k->Ends (.mark m k)
theorem Ends.bind {α β:Type} {x:Sem α} (h:Ends x) (f:α->Sem β):Ends (x.bind f):=by
 induction h with
 | halt h1 h2=>exact .halt h1 h2
 | frozen _ ih=>exact .frozen ih
 | shape _ ih=>exact .shape ih
 | mark _ ih=>exact .mark ih
theorem Ends.run {α:Type} {P:Program} {x:Sem α} (h:Ends x) (w:World):∃ h1 w1,x.run P w=.halt h1 w1/\haltOk h1/\∀ v,h1≠.panic v:=by
 induction h with
 | halt h1 h2=>exact ⟨_,w,rfl,h1,h2⟩
 | frozen _ ih=>exact ih _
 | shape _ ih=>exact ih _
 | mark _ ih=>exact ih
def Tame (P:Program) (B:Nat->Bool) {α:Type} (Q:α->List Nat->Prop):Sem α->List Nat->Prop
 | .pure a,ok=>Q a ok
 | .load m _ k,ok=>m=.plain/\∀ v,Tame P B Q (k v) ok
 | .store m _ _ k,ok=>m=.plain/\Tame P B Q k ok
 | .new o k,ok=>HeapOk P B o/\∀ r,Tame P B Q (k r) (2 * r::ok)
 | .shape r k,ok=>(∀ s,Tame P B Q (k (some s)) ok)/\Tame P B Q (k none) ((2 * r+1)::ok)/\(2 * r∈ok\/(∀ e n,LoneTo r (k none) (k (some (e,n+1))))\/(Tame P B Q (k none) ok/\∀ e n,RealTo r (k (some (e,n+1))) (k none))\/Ends (k none))
 | .freeze a _ k,ok=>2 * a.block∈ok/\Tame P B Q k ok
 | .frozen _ k,ok=>∀ b,Tame P B Q (k b) ok
 | .getObj r k,ok=>(Stops k/\∀ o,HeapOk P B o->Tame P B Q (k o) (2 * r::ok))\/(2 * r+1∈ok/\Blind k/\∀ o,HeapOk P B o->Tame P B Q (k o) ok)
 | .setObj r o k,ok=>2 * r∈ok/\HeapOk P B o/\o.isChan=false/\Tame P B Q k ok
 | .choose _ k,ok=>∀ a,Tame P B Q (k a) ok
 | .sys _ _,_=>False
 | .program k,ok=>(Tame P B Q (k P) ok/\k (muteP B P)=k P)\/Ends (k (muteP B P))
 | .mark m k,ok=>(m=.noRoom\/∃ f,m=.extern f)/\Tame P B Q k ok
 | .halt h,_=>haltOk h
section
variable {P:Program} {B:Nat->Bool} {α β:Type}
theorem Tame.bind {Q:β->List Nat->Prop} {f:α->Sem β} (s:Sem α):∀ {ok:List Nat},
 Tame P B (fun a ok'=>Tame P B Q (f a) ok') s ok->Tame P B Q (s.bind f) ok:=by
 induction s with
 | pure a=>exact fun h=>h
 | load m a k ih=>exact fun h=>⟨h.1,fun v=>ih v (h.2 v)⟩
 | store m a v k ih=>exact fun h=>⟨h.1,ih h.2⟩
 | new o k ih=>exact fun h=>⟨h.1,fun r=>ih r (h.2 r)⟩
 | shape r k ih =>
  refine fun h=>⟨fun s=>ih _ (h.1 s),ih _ h.2.1,?_⟩;rcases h.2.2 with h | h | ⟨h1,h⟩ | h
  ·exact .inl h
  ·refine .inr (.inl fun e n=>?_);rcases h e n with h | ⟨k',h,h2⟩
   ·exact .inl (by show (k none).bind f=(k _).bind f;rw [h])
   ·exact .inr ⟨fun o=>(k' o).bind f,by show (k none).bind f=_;rw [h];rfl,by show (k' _).bind f=(k _).bind f;rw [h2]⟩
  ·refine .inr (.inr (.inl ⟨ih _ h1,fun e n=>?_⟩));obtain ⟨a,k',h,h2,h3⟩:=h e n;exact ⟨a,fun b=>(k' b).bind f,by show (k _).bind f=_;rw [h];rfl,h2,by show (k' _).bind f=(k none).bind f;rw [h3]⟩
  ·exact .inr (.inr (.inr (h.bind f)))
 | freeze a m k ih=>exact fun h=>⟨h.1,ih h.2⟩
 | frozen a k ih=>exact fun h b=>ih b (h b)
 | getObj r k ih =>
  intro ok h;rcases h with ⟨⟨w,hw⟩,h⟩ | ⟨hr,hb,h⟩
  ·exact .inl ⟨⟨w,by show (k (.coro none)).bind f=_;rw [hw];rfl⟩,fun o ho=>ih o (h o ho)⟩
  ·exact .inr ⟨hr,fun o ho=>by show (k o).bind f=(k _).bind f;rw [hb o ho],fun o ho=>ih o (h o ho)⟩
 | setObj r o k ih=>exact fun h=>⟨h.1,h.2.1,h.2.2.1,ih h.2.2.2⟩
 | choose q k ih=>exact fun h a=>ih a (h a)
 | sys c k ih=>exact fun h=>h.elim
 | program k ih=>exact fun h=>h.elim (fun e=>.inl ⟨ih P e.1,by show (k _).bind f=(k _).bind f;rw [e.2]⟩) fun e=>.inr (e.bind f)
 | mark m k ih=>exact fun h=>⟨h.1,ih h.2⟩
 | halt h=>exact fun h=>h
end
structure Cast where
 e:Nat
 t:Tape
 t':Tape
 d:Nat
 d':Nat
 agree:∀ (j:Nat) (q:Question),d'+j < e->t' (d'+j) q=t (d+j) q
def Along (c:Cast) (w w':World):Prop:=w.tape=c.t/\w'.tape=c.t'/\∃ k,w.drawn=c.d+k/\w'.drawn=c.d'+k
theorem Along.answer {c:Cast} {w w':World} (h:Along c w w') (q:Question) (he:w'.drawn < c.e):w'.tape w'.drawn q=w.tape w.drawn q:=by
 obtain ⟨h1,h2,k,h3,h4⟩:=h;rw [h1,h2,h3,h4];exact c.agree k q (by omega)
theorem Along.drew {c:Cast} {w w':World} (h:Along c w w'):Along c { w with drawn:=w.drawn+1 } { w' with drawn:=w'.drawn+1 }:=by
 obtain ⟨h1,h2,k,h3,h4⟩:=h;exact ⟨h1,h2,k+1,by simp only;omega,by simp only;omega⟩
structure Mute where
 is:Nat->Prop
 was:Nat->Option Obj
instance : CoeFun Mute (fun _ => Nat -> Prop) := ⟨Mute.is⟩
def Mute.no:Mute:=⟨fun _=>False,fun _=>none⟩
structure Sim (P:Program) (B:Nat->Bool) (S:Mute) (c:Cast) (w w':World):Prop where
 tape:Along c w w'
 os:w'.os=w.os
 output:w'.output=w.output
 size:w'.heap.size=w.heap.size
 block:∀ r:Nat,¬ S r->w'.heap[r]? = w.heap[r]?
 mute:∀ r:Nat,S r->(∃ o,w.heap[r]? = some o/\(bad o=true\/dead o=true)/\S.was r=some o)/\w'.heap[r]? = some (.coro none)
 heapOk:∀ (r:Nat) (o:Obj),w'.heap[r]? = some o->HeapOk P B o
def EvOk (S:Nat->Prop) (B:Nat) (e:Event):Prop :=
 match e.loc with
 | .cell a=>a.block < B/\¬ S a.block
 | .obj r=>r < B
 | .mark m=>m=.noRoom\/∃ f,m=.extern f
 | _=>False
theorem EvOk.mono {S:Nat->Prop} {B B':Nat} (h:B<=B') {e:Event} (he:EvOk S B e):EvOk S B' e:=by
 unfold EvOk at *;split <;> simp_all <;> omega
section
variable {P:Program} {B:Nat->Bool} {S:Mute} {c:Cast} {w w':World}
theorem Sim.lt (h:Sim P B S c w w') {r:Nat} (hr:S r):r < w.heap.size:=by
 obtain ⟨⟨o,ho,_⟩,_⟩:=h.mute r hr;exact (Array.getElem?_eq_some_iff.1 ho).1
theorem Sim.alike (h:Sim P B S c w w') (r:Nat):w'.heap[r]? = w.heap[r]? \/ ((∃ o,w.heap[r]? = some o/\(bad o=true\/dead o=true))/\w'.heap[r]? = some (.coro none)):=by
 by_cases hr:S r
 ·obtain ⟨⟨o,a,b,_⟩,e⟩:=h.mute r hr;exact .inr ⟨⟨o,a,b⟩,e⟩
 ·exact .inl (h.block r hr)
theorem Sim.cell (h:Sim P B S c w w') {a:Addr} {v:Value} (hc:w'.cell? a=some v):¬ S a.block/\a.block < w.heap.size/\w.cell? a=some v:=by
 have hn:¬ S a.block:=fun hs=>by
  have:=(h.mute _ hs).2;simp [World.cell?,this] at hc
 have hb:=h.block _ hn;refine ⟨hn,?_,?_⟩
 ·rcases Nat.lt_or_ge a.block w.heap.size with hlt | hge
  ·exact hlt
  ·rw [World.cell?,hb,Array.getElem?_eq_none hge] at hc;simp at hc
 ·rw [<- hc];simp only [World.cell?,hb]
theorem Sim.cell_none (h:Sim P B S c w w') {a:Addr} (hn:¬ S a.block) (hc:w'.cell? a=none):w.cell? a=none:=by
 unfold World.cell? at *;rw [<- h.block _ hn];exact hc
theorem Sim.frozen (h:Sim P B S c w w') (a:Addr):w'.frozen? a=w.frozen? a:=by
 unfold World.frozen?;rcases h.alike a.block with e | ⟨⟨o,e,hb⟩,e'⟩
 ·rw [e]
 ·rw [e,e'];rcases hb with hb | hb
  ·cases o <;> simp_all [bad]
  ·cases o with
   | cells cs ty f =>
    obtain ⟨lo,hi⟩:=f;simp only [dead,Bool.and_eq_true,Bool.not_eq_true',decide_eq_false_iff_not] at hb;simp only [Bool.false_eq,Bool.and_eq_false_iff,decide_eq_false_iff_not];omega
   | _=>cases hb
theorem Sim.shape (h:Sim P B S c w w') {r:Nat} (hn:¬ S r):w'.shape? r=w.shape? r:=by
 unfold World.shape?;rw [h.block _ hn]
theorem Sim.shape_muted (h:Sim P B S c w w') {r:Nat} (hs:S r):w'.shape? r=none/\(w.shape? r=none\/∃ e n,w.shape? r=some (e,n+1)):=by
 obtain ⟨⟨o,e,hb,_⟩,e'⟩:=h.mute r hs;refine ⟨by unfold World.shape?;rw [e'],?_⟩;unfold World.shape?;rw [e];rcases hb with hb | hb
 ·cases o <;> first | exact .inl rfl | cases hb
 ·cases o with
  | cells cs ty f =>
   right;simp only [dead,Bool.and_eq_true,bne_iff_ne,ne_eq] at hb;exact ⟨ty,cs.size - 1,by simp only [Option.some.injEq,Prod.mk.injEq,true_and];omega⟩
  | _=>cases hb
theorem Sim.seen (h:Sim P B S c w w') {P:Program} (at_:Addr) (hn:¬ S at_.block) (u:TypeId) (k:Addr) (b:Bool):w'.seen P at_ u k b=w.seen P at_ u k b:=by
 unfold World.seen;rw [h.block _ hn]
theorem heapOk_cells (c:Array Value) (e:TypeId) (f:Nat × Nat):HeapOk P B (.cells c e f):=trivial
theorem Sim.modify (h:Sim P B S c w w') {r:Nat} (hn:¬ S r) (f:Obj->Obj) (hf:∀ o,HeapOk P B o->HeapOk P B (f o)) :
 Sim P B S c { w with heap:=w.heap.modify r f } { w' with heap:=w'.heap.modify r f }:=by
 refine ⟨h.tape,h.os,h.output,by simp [h.size],fun x hx=>?_,fun x hx=>?_,fun x o ho=>?_⟩
 ·simp only [Array.getElem?_modify,h.block x hx]
 ·have hne:r≠x:=fun e=>hn (e ▸ hx);simp only [Array.getElem?_modify,hne,if_false];exact h.mute x hx
 ·simp only [Array.getElem?_modify] at ho;split at ho
  ·obtain ⟨o',ho',rfl⟩:=Option.map_eq_some_iff.1 ho;exact hf _ (h.heapOk _ _ ho')
  ·exact h.heapOk _ _ ho
theorem Sim.set (h:Sim P B S c w w') {a:Addr} (hn:¬ S a.block) (v:Value):Sim P B S c (w.setCell a v) (w'.setCell a v) :=
 h.modify hn _ fun o ho=>by cases o <;> first | exact heapOk_cells _ _ _ | exact ho
theorem Sim.freeze (h:Sim P B S c w w') (a:Addr) (hn:¬ S a.block) (n:Nat):Sim P B S c (w.freeze a n) (w'.freeze a n):=by
 unfold World.freeze;split
 ·exact h
 ·exact h.modify hn _ fun o ho=>by cases o <;> first | exact heapOk_cells _ _ _ | exact ho
theorem Sim.push (h:Sim P B S c w w') {o:Obj} (ho:HeapOk P B o):Sim P B S c { w with heap:=w.heap.push o } { w' with heap:=w'.heap.push o }:=by
 refine ⟨h.tape,h.os,h.output,by simp [h.size],fun x hx=>?_,fun x hx=>?_,fun x o' ho'=>?_⟩
 ·simp only [Array.getElem?_push,h.size,h.block x hx]
 ·have hlt:=h.lt hx;rw [Array.getElem?_push,Array.getElem?_push,h.size,if_neg (by omega),if_neg (by omega)];exact h.mute x hx
 ·simp only [Array.getElem?_push] at ho';split at ho'
  ·cases ho';exact ho
  ·exact h.heapOk _ _ ho'
theorem Sim.put (h:Sim P B S c w w') {r:Nat} (hn:¬ S r) {o:Obj} (ho:HeapOk P B o):Sim P B S c { w with heap:=w.heap.setIfInBounds r o } { w' with heap:=w'.heap.setIfInBounds r o }:=by
 refine ⟨h.tape,h.os,h.output,by simp [h.size],fun x hx=>?_,fun x hx=>?_,fun x o' ho'=>?_⟩
 ·simp only [Array.getElem?_setIfInBounds,h.size,h.block x hx]
 ·have hne:r≠x:=fun e=>hn (e ▸ hx);rw [Array.getElem?_setIfInBounds_ne hne,Array.getElem?_setIfInBounds_ne hne];exact h.mute x hx
 ·by_cases hr:r=x
  ·subst hr;rw [Array.getElem?_setIfInBounds] at ho';split at ho'
   ·split at ho'
    ·cases ho';exact ho
    ·cases ho'
   ·exact h.heapOk _ _ ho'
  ·rw [Array.getElem?_setIfInBounds_ne hr] at ho';exact h.heapOk _ _ ho'
theorem Sim.drew (h:Sim P B S c w w'):Sim P B S c { w with drawn:=w.drawn+1 } { w' with drawn:=w'.drawn+1 } :=
 ⟨h.tape.drew,h.os,h.output,h.size,h.block,h.mute,h.heapOk⟩
theorem seen_cells {P:Program} {at_:Addr} {u:TypeId} {k:Addr} {b:Bool} {x:Array Value × TypeId × (Nat × Nat) × Nat × Value × List (Nat × Nat × List UInt8)} (h:w.seen P at_ u k b=.ok x):∃ c e f,w.heap[at_.block]? = some (.cells c e f):=by
 cases hc:w.heap[at_.block]? with
 | none=>unfold World.seen at h;rw [hc] at h;revert h;simp only [bind,Except.bind];(repeat' split) <;> simp
 | some o =>
  cases o with
  | cells c e f=>exact ⟨c,e,f,rfl⟩
  | _=>unfold World.seen at h;rw [hc] at h;revert h;simp only [bind,Except.bind];(repeat' split) <;> simp
end
section
variable {S:Mute} {c:Cast} {w w':World} {P:Program} {B:Nat->Bool}
theorem seen_live (h:Sim P B S c w w') {P:Program} {at_:Addr} {u:TypeId} {k:Addr} {b:Bool} {x:Array Value × TypeId × (Nat × Nat) × Nat × Value × List (Nat × Nat × List UInt8)} (he:w'.seen P at_ u k b=.ok x):¬ S at_.block:=fun hs=>by
 obtain ⟨c,e,f,hc⟩:=seen_cells he;rw [(h.mute _ hs).2] at hc;cases hc
theorem viewLoad_live (h:Sim P B S c w w') {at_:Addr} {u:TypeId} {a:Addr} {b:Bool} {v:Value} {t:List Addr} (he:w'.viewLoad P at_ u a b=.ok (v,t)):¬ S at_.block:=by
 unfold World.viewLoad at he
 cases hs:w'.seen P at_ u a b with
 | error e=>rw [hs] at he;cases he
 | ok x=>exact seen_live h hs
theorem viewLoad_alike (h:Sim P B S c w w') {at_:Addr} (hn:¬ S at_.block) (u:TypeId) (a:Addr) (b:Bool):w'.viewLoad P at_ u a b=w.viewLoad P at_ u a b:=by
 unfold World.viewLoad;rw [h.seen _ hn]
theorem viewLoad_at {at_:Addr} {u:TypeId} {a:Addr} {b:Bool} {v:Value} {t:List Addr} (h:w.viewLoad P at_ u a b=.ok (v,t)):∀ x∈t,x.block=at_.block:=by
 unfold World.viewLoad at h
 cases hs:w.seen P at_ u a b with
 | error e=>rw [hs] at h;cases h
 | ok x =>
  rw [hs] at h;simp only [bind,Except.bind] at h;split at h
  ·cases h;intro y hy;obtain ⟨z,_,rfl⟩:=List.mem_map.1 hy;rfl
  ·cases h
theorem viewLoad_low {at_:Addr} {u:TypeId} {a:Addr} {b:Bool} {v:Value} {t:List Addr} (h:w.viewLoad P at_ u a b=.ok (v,t)):∀ x∈t,x.block < w.heap.size:=by
 unfold World.viewLoad at h
 cases hs:w.seen P at_ u a b with
 | error e=>rw [hs] at h;cases h
 | ok x =>
  obtain ⟨c,e,f,hc⟩:=seen_cells hs;have hlt:=(Array.getElem?_eq_some_iff.1 hc).1;rw [hs] at h;simp only [bind,Except.bind] at h;split at h
  ·cases h;intro y hy;obtain ⟨z,_,rfl⟩:=List.mem_map.1 hy;exact hlt
  ·cases h
theorem viewStore_alike (h:Sim P B S c w w') {at_:Addr} {u:TypeId} {a:Addr} {v:Value} {b:Bool} {w1':World} {t:List Addr} (hr:w'.viewStore P at_ u a v b=.ok (w1',t)) :
 ∃ w1,w.viewStore P at_ u a v b=.ok (w1,t)/\Sim P B S c w1 w1'/\w1.heap.size=w.heap.size/\∀ x∈t,x.block < w.heap.size/\¬ S x.block:=by
 unfold World.viewStore at hr ⊢;by_cases ht:(!tight P P.depth u)=true
 ·simp only [ht,if_true] at hr;cases hr
 simp only [ht,if_false,Bool.false_eq_true] at hr ⊢;have hn:¬ S at_.block:=by
  cases hs:w'.seen P at_ u a b with
  | error e=>rw [hs] at hr;cases hr
  | ok x=>exact seen_live h hs
 rw [h.seen _ hn] at hr
 cases hs:w.seen P at_ u a b with
 | error e=>rw [hs] at hr;cases hr
 | ok x =>
  obtain ⟨c,e,f,hc⟩:=seen_cells hs;have hlt:=(Array.getElem?_eq_some_iff.1 hc).1;rw [hs] at hr;obtain ⟨c',e',f',first,like,cells⟩:=x;simp only [bind,Except.bind] at hr ⊢
  cases hv:v.bytes? with
  | none=>rw [hv] at hr;cases hr
  | some bytes =>
   rw [hv] at hr;simp only at hr ⊢;split at hr
   ·cases hr
   rename_i hne
   rw [if_neg hne];simp only [pure,Except.pure] at hr ⊢;split at hr
   ·cases hr
   rename_i c2 hc2
   cases hr;refine ⟨_,rfl,h.put hn (heapOk_cells _ _ _),by simp,?_⟩;intro y hy;obtain ⟨z,_,rfl⟩:=List.mem_map.1 hy;exact ⟨hlt,hn⟩
end
def TameEnd0 (P:Program) (B:Nat->Bool) {α:Type} (S:Mute) (c:Cast) (Q:α->List Nat->Prop) (w:World) (es:Array Event) (two:Result α × Array Event):Result α->Prop
 | .ok x w1'=>∃ w1 evs,two=(.ok x w1,es ++ evs)/\(∀ e∈evs,EvOk S w1.heap.size e)/\Sim P B S c w1 w1'/\w.heap.size<=w1.heap.size/\∃ ok',Q x ok'
 | .halt (.panic v) w1'=>∃ w1 evs,two=(.halt (.panic v) w1,es ++ evs)/\(∀ e∈evs,EvOk S w1.heap.size e)/\Sim P B S c w1 w1'/\w.heap.size<=w1.heap.size
 | .halt h _=>haltOk h
def TameEnd (P:Program) (B:Nat->Bool) {α:Type} (S:Mute) (c:Cast) (Q:α->List Nat->Prop) (w:World) (es:Array Event) (two:Result α × Array Event) (one:Result α):Prop :=
 one.world.drawn<=c.e->TameEnd0 P B S c Q w es two one
theorem ask_drawn {α:Type}:∀ (a:Ask α) (w:World),w.drawn<=(w.ask a).2.drawn
 | .done a,w=>Nat.le_refl _
 | .ask what range k,w=>by
  unfold World.ask;dsimp only;split
  ·exact ask_drawn _ _
  ·exact Nat.le_trans (Nat.le_succ _) (ask_drawn (k _) { w with drawn:=w.drawn+1 })
theorem sys_drawn (w:World) (x:Sys):w.drawn<=(w.sys x).2.drawn:=by
 have:=ask_drawn (Kernel.perform x w.os) w;unfold World.sys;split
 ·exact Nat.le_refl _
 ·rename_i heq;rw [heq] at this;exact this
theorem farStore_drawn {P:Program} {w w1:World} {a:Addr} {v:Value} {b:Bool} {t:List Addr} (h:w.farStore P a v b=.ok (w1,t)):w1.drawn=w.drawn:=by
 unfold World.farStore at h;split at h
 ·split at h
  ·rename_i hv
   cases h;unfold World.viewStore at hv;revert hv;simp only [bind,Except.bind,pure,Except.pure]
   repeat' split
   all_goals (intro hv;first | (cases hv;done) | (cases hv;rfl))
  ·cases h
 ·cases h
theorem sem_drawn {α:Type} {P:Program} (s:Sem α):∀ (w:World),w.drawn<=(s.run P w).world.drawn:=by
 induction s with
 | pure a=>exact fun w=>Nat.le_refl _
 | load m a k ih =>
  intro w;simp only [Sem.run];split
  ·exact ih _ w
  ·split
   ·exact ih _ w
   ·exact Nat.le_refl _
 | store m a v k ih =>
  intro w;cases v <;> simp only [Sem.run] <;> first
   | exact Nat.le_refl _
   | (split
      ·split
       ·exact Nat.le_refl _
       ·exact ih (w.setCell a _)
      ·split
       ·rename_i w1 t hf
        exact farStore_drawn hf ▸ ih w1
       ·exact Nat.le_refl _)
 | new o k ih=>exact fun w=>ih _ { w with heap:=w.heap.push o }
 | shape r k ih=>exact fun w=>ih _ w
 | freeze a n k ih =>
  intro w;have e:(w.freeze a n).drawn=w.drawn:=by unfold World.freeze;split <;> rfl
  exact e ▸ ih (w.freeze a n)
 | frozen a k ih=>exact fun w=>ih _ w
 | getObj r k ih =>
  intro w;simp only [Sem.run];split
  ·exact Nat.le_refl _
  ·exact ih _ w
  ·exact Nat.le_refl _
 | setObj r o k ih =>
  intro w;simp only [Sem.run];split
  ·exact Nat.le_refl _
  ·exact ih { w with heap:=w.heap.setIfInBounds r o }
  ·exact Nat.le_refl _
 | choose q k ih =>
  intro w;simp only [Sem.run];split
  ·exact ih _ w
  ·exact Nat.le_trans (Nat.le_succ _) (ih _ { w with drawn:=w.drawn+1 })
 | sys x k ih=>exact fun w=>Nat.le_trans (sys_drawn w x) (ih _ _)
 | program k ih=>exact fun w=>ih _ w
 | mark m k ih=>exact fun w=>ih w
 | halt h=>exact fun w=>Nat.le_refl _
section
variable {P:Program} {B:Nat->Bool} {α:Type} {S:Mute} {c:Cast} {Q:α->List Nat->Prop}
theorem TameEnd.halt {w:World} {es:Array Event} {two:Result α × Array Event} {h:Halt} {w1:World} (hq:haltOk h) (hp:∀ v,h≠.panic v):TameEnd P B S c Q w es two (.halt h w1):=by
 intro _;cases h <;> first | exact hq | exact absurd rfl (hp _)
theorem TameEnd0.head {w w2:World} {es evs:Array Event} {two:Result α × Array Event} (hev:∀ e∈evs,EvOk S w2.heap.size e) (h1:w.heap.size<=w2.heap.size) :
 ∀ {one:Result α},TameEnd0 P B S c Q w2 (es ++ evs) two one->TameEnd0 P B S c Q w es two one
 | .ok x w1',⟨w1,ev2,a,c,d,e,g⟩=>⟨w1,evs ++ ev2,by rw [a,Array.append_assoc],fun x hx=>(Array.mem_append.1 hx).elim (fun hx=>(hev x hx).mono e) (c x),d,by omega,g⟩
 | .halt (.panic v) w1',⟨w1,ev2,a,c,d,e⟩=>⟨w1,evs ++ ev2,by rw [a,Array.append_assoc],fun x hx=>(Array.mem_append.1 hx).elim (fun hx=>(hev x hx).mono e) (c x),d,by omega⟩
 | .halt .blocked _,h | .halt .waiting _,h | .halt (.exit _) _,h | .halt (.fatal _) _,h | .halt (.throw _) _,h | .halt .goexit _,h | .halt (.unsupported _) _,h | .halt (.stuck _) _,h=>h
theorem TameEnd.head {w w2:World} {es evs:Array Event} {two:Result α × Array Event} (hev:∀ e∈evs,EvOk S w2.heap.size e) (h1:w.heap.size<=w2.heap.size)
 {one:Result α} (h:TameEnd P B S c Q w2 (es ++ evs) two one):TameEnd P B S c Q w es two one:=fun hg=>TameEnd0.head hev h1 (h hg)
theorem TameEnd.same {w w2:World} {es:Array Event} {two:Result α × Array Event} {one:Result α} (h1:w.heap.size<=w2.heap.size) (h:TameEnd P B S c Q w2 es two one):TameEnd P B S c Q w es two one:=by
 have e2:es=es ++ #[]:=by simp
 rw [e2] at h;exact TameEnd.head (evs:=#[]) (by simp) h1 (by rw [Array.append_empty] at h ⊢;exact h)
theorem noCell_ok {P:Program} {w:World} (h:∀ (r:Nat) (o:Obj),w.heap[r]? = some o->HeapOk P B o) (a:Addr) (what:String):haltOk (w.noCell a what)/\∀ v,w.noCell a what≠.panic v:=by
 unfold World.noCell
 cases hc:w.heap[a.block]? with
 | none=>exact ⟨trivial,by simp⟩
 | some o=>have:=h _ _ hc;cases o <;> first | exact this.elim | exact ⟨trivial,by simp⟩
theorem farLoad_ok {P:Program} {w:World} (h:∀ (r:Nat) (o:Obj),w.heap[r]? = some o->HeapOk P B o) {a:Addr} {b:Bool} {e:Halt} (he:w.farLoad P a b=.error e):haltOk e/\∀ v,e≠.panic v:=by
 unfold World.farLoad at he;split at he
 ·split at he
  ·cases he
  ·cases he;exact ⟨trivial,by simp⟩
 ·cases he;exact noCell_ok h _ _
theorem farStore_ok {P:Program} {w:World} (h:∀ (r:Nat) (o:Obj),w.heap[r]? = some o->HeapOk P B o) {a:Addr} {v:Value} {b:Bool} {e:Halt} (he:w.farStore P a v b=.error e):haltOk e/\∀ v,e≠.panic v:=by
 unfold World.farStore at he;split at he
 ·split at he
  ·cases he
  ·cases he;exact ⟨trivial,by simp⟩
 ·cases he;exact noCell_ok h _ _
theorem farLoad_alike {P:Program} {w w':World} (h:Sim P B S c w w') {a:Addr} {b:Bool} {v:Value} {t:List Addr} (he:w'.farLoad P a b=.ok (v,t)):w.farLoad P a b=.ok (v,t)/\∀ x∈t,x.block < w.heap.size/\¬ S x.block:=by
 unfold World.farLoad at he ⊢;rcases h.alike a.block with e | ⟨⟨o,e,hb⟩,e'⟩
 ·rw [e] at he;split at he
  ·split at he
   ·rename_i hv
    have hn:=viewLoad_live h hv;rw [viewLoad_alike h hn] at hv;cases he;rw [hv];exact ⟨rfl,fun x hx=>⟨viewLoad_low hv x hx,by rw [viewLoad_at hv x hx];exact hn⟩⟩
   ·cases he
  ·cases he
 ·rw [e'] at he;cases he
theorem farStore_alike {P:Program} {w w':World} (h:Sim P B S c w w') {a:Addr} {b:Bool} {v:Value} {w1':World} {t:List Addr} (he:w'.farStore P a v b=.ok (w1',t)) :
 ∃ w1,w.farStore P a v b=.ok (w1,t)/\Sim P B S c w1 w1'/\w1.heap.size=w.heap.size/\∀ x∈t,x.block < w.heap.size/\¬ S x.block:=by
 unfold World.farStore at he ⊢;rcases h.alike a.block with e | ⟨⟨o,e,hb⟩,e'⟩
 ·rw [e] at he;split at he
  ·rename_i at_ u hc
   split at he
   ·rename_i r hv
    cases he;obtain ⟨w1,h1,h2⟩:=viewStore_alike h hv;exact ⟨w1,by rw [h1],h2⟩
   ·cases he
  ·cases he
 ·rw [e'] at he;cases he
theorem evs_one {B:Nat} {e:Event} (h:EvOk S B e):∀ x∈(#[e]:Array Event),EvOk S B x:=fun x hx=>by simp at hx;exact hx ▸ h
theorem ev_cell {B:Nat} {a:Addr} (wr sy:Bool) (h2:a.block < B) (h3:¬ S a.block):∀ x∈(#[⟨.cell a,wr,sy⟩]:Array Event),EvOk S B x:=evs_one (show EvOk S B ⟨.cell a,wr,sy⟩ from ⟨h2,h3⟩)
theorem ev_cells {B:Nat} {t:List Addr} (wr sy:Bool) (h:∀ a∈t,a.block < B/\¬ S a.block):∀ x∈(t.toArray.map fun a=>(⟨.cell a,wr,sy⟩:Event)),EvOk S B x:=fun x hx=>by
 obtain ⟨a,ha,rfl⟩:=Array.mem_map.1 hx;exact h a (by simpa using ha)
theorem ev_obj {B r:Nat} {wr sy:Bool} (h2:r < B):∀ x∈(#[⟨.obj r,wr,sy⟩]:Array Event),EvOk S B x:=evs_one (show EvOk S B ⟨.obj r,wr,sy⟩ from h2)
theorem ev_mark {B:Nat} {m:Mark} (h:m=.noRoom\/∃ f,m=.extern f):∀ x∈(#[⟨.mark m,false,true⟩]:Array Event),EvOk S B x:=evs_one (show EvOk S B ⟨.mark m,false,true⟩ from h)
def OkS (S:Mute) (ok:List Nat):Prop:=∀ x∈ok,∀ r,(x=2 * r->¬ S r)/\(x=2 * r+1->S r->∃ o,S.was r=some o/\bad o=true)
theorem OkS.live {ok:List Nat} (h:OkS S ok) {r:Nat} (hr:2 * r∈ok):¬ S r:=(h _ hr r).1 rfl
theorem ok_cons {r:Nat} {ok:List Nat} (hr:¬ S r) (hok:OkS S ok):OkS S (2 * r::ok):=fun x hx k=>by
 rcases List.mem_cons.1 hx with rfl | hx
 ·exact ⟨fun e=>by obtain rfl:r=k:=by omega
                   exact hr,fun e=>by omega⟩
 ·exact hok x hx k
theorem ok_cons1 {r:Nat} {ok:List Nat} (hr:S r->∃ o,S.was r=some o/\bad o=true) (hok:OkS S ok):OkS S ((2 * r+1)::ok):=fun x hx k=>by
 rcases List.mem_cons.1 hx with rfl | hx
 ·exact ⟨fun e=>by omega,fun e=>by obtain rfl:r=k:=by omega
                                   exact hr⟩
 ·exact hok x hx k
theorem tame_run (s:Sem α):∀ (ok:List Nat) (w w':World) (es:Array Event),Tame P B Q s ok->Sim P B S c w w'->OkS S ok->TameEnd P B S c Q w es (s.runT P w es) (s.run (muteP B P) w'):=by
 induction s with
 | pure a=>exact fun ok w w' es h hs _ _=>⟨w,#[],by simp [Sem.runT],by simp,hs,Nat.le_refl _,ok,h⟩
 | load m a k ih =>
  intro ok w w' es ⟨hm,h⟩ hs hok;subst hm;simp only [Sem.runT,Sem.run,far_mute]
  cases hc:w'.cell? a with
  | none =>
   by_cases hS:S a.block
   ·have hf:∃ e,w'.farLoad P a (Mode.plain == Mode.atomic)=.error e:=by
     cases hf:w'.farLoad P a (Mode.plain == Mode.atomic) with
     | error e=>exact ⟨e,rfl⟩
     | ok vt=>unfold World.farLoad at hf;rw [(hs.mute _ hS).2] at hf;cases hf
    obtain ⟨e,hf⟩:=hf;simp only [hf];exact TameEnd.halt (farLoad_ok hs.heapOk hf).1 (farLoad_ok hs.heapOk hf).2
   rw [hs.cell_none hS hc];simp only
   cases hf:w'.farLoad P a (Mode.plain == Mode.atomic) with
   | error e=>exact TameEnd.halt (farLoad_ok hs.heapOk hf).1 (farLoad_ok hs.heapOk hf).2
   | ok vt =>
    obtain ⟨v,t⟩:=vt;obtain ⟨h1,h2⟩:=farLoad_alike hs hf;rw [h1];exact TameEnd.head (ev_cells (B:=w.heap.size) false _ h2) (Nat.le_refl _) (ih v ok w w' _ (h v) hs hok)
  | some v =>
   obtain ⟨hnS,h2,h3⟩:=hs.cell hc;simp only [h3];have:=ih v ok w w' (es.push ⟨.cell a,false,Mode.plain == Mode.atomic⟩) (h v) hs hok;rw [<- Array.append_singleton] at this ⊢;exact TameEnd.head (ev_cell (B:=w.heap.size) false _ h2 hnS) (Nat.le_refl _) this
 | store m a v k ih =>
  intro ok w w' es ⟨hm,h⟩ hs hok;subst hm;by_cases hv:(∃ c,v=.agg c)\/(∃ c,v=.tuple c)
  ·rcases hv with ⟨c,rfl⟩ | ⟨c,rfl⟩ <;> exact TameEnd.halt (h:=.stuck _) trivial (by simp)
  ·have e1:∀ (w:World),(Sem.store .plain a v k).runT P w es=match w.cell? a with
    | some _=>if w.frozen? a then (.halt (.unsupported (.unsafePointer "a write to bytes that a string shares")) w,es) else k.runT P (w.setCell a v) (es.push ⟨.cell a,true,Mode.plain == Mode.atomic⟩)
    | none=>match w.farStore P a v (Mode.plain == Mode.atomic) with
     | .ok (w,touched)=>k.runT P w (es ++ touched.toArray.map (⟨.cell ·,true,Mode.plain == Mode.atomic⟩))
     | .error h=>(.halt h w,es):=by
    intro w;cases v <;> first | rfl | (exact absurd (Or.inl ⟨_,rfl⟩) hv) | (exact absurd (Or.inr ⟨_,rfl⟩) hv)
   have e3:∀ (w:World),(Sem.store .plain a v k).run (muteP B P) w=match w.cell? a with
    | some _=>if w.frozen? a then .halt (.unsupported (.unsafePointer "a write to bytes that a string shares")) w else k.run (muteP B P) (w.setCell a v)
    | none=>match w.farStore P a v (Mode.plain == Mode.atomic) with
     | .ok (w,_)=>k.run (muteP B P) w
     | .error h=>.halt h w:=by
    intro w;rw [<- farS_mute (B:=B)];cases v <;> first | rfl | (exact absurd (Or.inl ⟨_,rfl⟩) hv) | (exact absurd (Or.inr ⟨_,rfl⟩) hv)
   rw [e1,e3]
   cases hc:w'.cell? a with
   | none =>
    by_cases hS:S a.block
    ·have hf:∃ e,w'.farStore P a v (Mode.plain == Mode.atomic)=.error e:=by
      cases hf:w'.farStore P a v (Mode.plain == Mode.atomic) with
      | error e=>exact ⟨e,rfl⟩
      | ok vt=>unfold World.farStore at hf;rw [(hs.mute _ hS).2] at hf;cases hf
     obtain ⟨e,hf⟩:=hf;simp only [hf];exact TameEnd.halt (farStore_ok hs.heapOk hf).1 (farStore_ok hs.heapOk hf).2
    rw [hs.cell_none hS hc];simp only
    cases hf:w'.farStore P a v (Mode.plain == Mode.atomic) with
    | error e=>exact TameEnd.halt (farStore_ok hs.heapOk hf).1 (farStore_ok hs.heapOk hf).2
    | ok vt =>
     obtain ⟨w1',t⟩:=vt;obtain ⟨w1,h1,h2,h3,h4⟩:=farStore_alike hs hf;rw [h1];exact TameEnd.head (w2:=w1) (ev_cells true _ (by rw [h3];exact h4)) (Nat.le_of_eq h3.symm) (ih ok w1 w1' _ h h2 hok)
   | some v0 =>
    obtain ⟨h1,h2,h3⟩:=hs.cell hc;simp only [h3,hs.frozen];by_cases hf:w.frozen? a=true
    ·simp only [hf,if_true];exact TameEnd.halt (h:=.unsupported _) trivial (by simp)
    ·simp only [hf,if_false,Bool.false_eq_true];have:=ih ok (w.setCell a v) (w'.setCell a v) (es.push ⟨.cell a,true,Mode.plain == Mode.atomic⟩) h (hs.set h1 v) hok;rw [<- Array.append_singleton] at this ⊢;have hsz:(w.setCell a v).heap.size=w.heap.size:=by simp [World.setCell]
     exact TameEnd.head (w2:=w.setCell a v) (ev_cell true _ (by rw [hsz];exact h2) h1) (by rw [hsz];exact Nat.le_refl _) this
 | new o k ih =>
  intro ok w w' es ⟨ho,h⟩ hs hok;simp only [Sem.runT,Sem.run,hs.size];have hn:¬ S w.heap.size:=fun hx=>Nat.lt_irrefl _ (hs.lt hx);exact TameEnd.same (w2:={ w with heap:=w.heap.push o }) (by simp) (ih w.heap.size (2 * w.heap.size::ok) { w with heap:=w.heap.push o } { w' with heap:=w'.heap.push o } es (h _) (hs.push ho) (ok_cons hn hok))
 | shape r k ih =>
  intro ok w w' es h hs hok;obtain ⟨h1,h2,h3⟩:=h;simp only [Sem.runT,Sem.run];by_cases hr:S r
  ·obtain ⟨⟨o,ho,hb,hwas⟩,hm⟩:=hs.mute r hr;have el:w'.shape? r=none:=(hs.shape_muted hr).1;rw [el];rcases hb with hb | hb
   ·have er:w.shape? r=none:=by unfold World.shape?;rw [ho];cases o <;> first | rfl | cases hb
    rw [er];exact ih none ((2 * r+1)::ok) w w' es h2 hs (ok_cons1 (fun _=>⟨o,hwas,hb⟩) hok)
   ·obtain ⟨e,n,er⟩:∃ e n,w.shape? r=some (e,n+1):=by
     rcases (hs.shape_muted hr).2 with h | h
     ·unfold World.shape? at h;rw [ho] at h;cases o <;> first | cases hb | cases h
     ·exact h
    rw [er];rcases h3 with h3 | h3 | ⟨h4,h3⟩ | hx
    ·exact absurd hr (hok.live h3)
    ·rcases h3 e n with h3 | ⟨k',h3,h4⟩
     ·rw [h3];exact ih _ ok w w' es (h1 _) hs hok
     ·have e1:(k none).run (muteP B P) w'=(k (some (e,n+1))).run (muteP B P) w':=by rw [h3,<- h4];simp only [Sem.run,hm]
      rw [e1];exact ih _ ok w w' es (h1 _) hs hok
    ·obtain ⟨a,k',h5,h6,h7⟩:=h3 e n;have hf:w.frozen? a=false:=by
      rw [<- hs.frozen a];unfold World.frozen?;rw [h6,hm]
     have e1:(k (some (e,n+1))).runT P w es=(k none).runT P w es:=by rw [h5,<- h7];simp only [Sem.runT,hf]
     rw [e1];exact ih none ok w w' es h4 hs hok
    ·obtain ⟨y,w1,e1,h4,h5⟩:=hx.run (P:=muteP B P) w';rw [e1];exact TameEnd.halt h4 h5
  ·rw [hs.shape hr]
   cases hc:w.shape? r with
   | none=>exact ih none ((2 * r+1)::ok) w w' es h2 hs (ok_cons1 (fun h=>absurd h hr) hok)
   | some x=>exact ih (some x) ok w w' es (h1 x) hs hok
 | freeze a m k ih =>
  intro ok w w' es h hs hok;obtain ⟨ha,h⟩:=h;simp only [Sem.runT,Sem.run];have hsz:(w.freeze a m).heap.size=w.heap.size:=by unfold World.freeze;split <;> simp
  exact TameEnd.same (w2:=w.freeze a m) (by rw [hsz];exact Nat.le_refl _) (ih ok (w.freeze a m) (w'.freeze a m) es h (hs.freeze a (hok.live ha) m) hok)
 | frozen a k ih =>
  intro ok w w' es h hs hok;simp only [Sem.runT,Sem.run,hs.frozen a];exact ih _ ok w w' es (h _) hs hok
 | getObj r k ih =>
  intro ok w w' es h hs hok;have plain:∀ ok':List Nat,OkS S ok'->¬ S r->(∀ o,HeapOk P B o->Tame P B Q (k o) ok')->TameEnd P B S c Q w es ((Sem.getObj r k).runT P w es) ((Sem.getObj r k).run (muteP B P) w'):=by
   intro ok' hok' hr h;simp only [Sem.runT,Sem.run,hs.block r hr]
   cases hc:w.heap[r]? with
   | none=>exact TameEnd.halt (h:=.stuck _) trivial (by simp)
   | some o =>
    have hlt:r < w.heap.size:=(Array.getElem?_eq_some_iff.1 hc).1;have ho:HeapOk P B o:=hs.heapOk r o (by rw [hs.block r hr];exact hc);have key:TameEnd P B S c Q w es ((k o).runT P w (es.push ⟨.obj r,false,o.isChan⟩)) ((k o).run (muteP B P) w'):=by
     have:=ih o ok' w w' (es.push ⟨.obj r,false,o.isChan⟩) (h o ho) hs hok';rw [<- Array.append_singleton] at this ⊢;exact TameEnd.head (ev_obj (B:=w.heap.size) hlt) (Nat.le_refl _) this
    cases o <;> first | exact key | exact TameEnd.halt (h:=.stuck _) trivial (by simp)
  rcases h with ⟨hst,h⟩ | ⟨hnd,hbl,h⟩
  ·by_cases hr:S r
   ·obtain ⟨why,hw⟩:=hst;simp only [Sem.runT,Sem.run,(hs.mute r hr).2,hw];exact TameEnd.halt (h:=.stuck _) trivial (by simp)
   ·exact plain (2 * r::ok) (ok_cons hr hok) hr h
  ·by_cases hr:S r
   ·obtain ⟨⟨o,ho,_,hwas⟩,hm⟩:=hs.mute r hr;have hb:bad o=true:=by
     obtain ⟨o',h1,h2⟩:=(hok _ hnd r).2 rfl hr;rw [hwas] at h1;cases h1;exact h2
    have hlt:r < w.heap.size:=hs.lt hr;have e1:∀ e2:Array Event,(k o).runT P w e2=(k (.coro none)).runT P w e2:=by rw [hbl o hb];exact fun _=>rfl
    have key:TameEnd P B S c Q w es ((k o).runT P w (es.push ⟨.obj r,false,o.isChan⟩)) ((k (.coro none)).run (muteP B P) w'):=by
     rw [e1];have:=ih (.coro none) ok w w' (es.push ⟨.obj r,false,o.isChan⟩) (h _ trivial) hs hok;rw [<- Array.append_singleton] at this ⊢;exact TameEnd.head (ev_obj (B:=w.heap.size) hlt) (Nat.le_refl _) this
    have e2:(Sem.getObj r k).run (muteP B P) w'=(k (.coro none)).run (muteP B P) w':=by simp only [Sem.run,hm]
    have e3:(Sem.getObj r k).runT P w es=(k o).runT P w (es.push ⟨.obj r,false,o.isChan⟩):=by
     simp only [Sem.runT,ho];cases o <;> first | rfl | cases hb
    rw [e2,e3];exact key
   ·exact plain ok hok hr h
 | setObj r o k ih =>
  intro ok w w' es ⟨hr,ho,_,h⟩ hs hok;have hn:=hok.live hr;simp only [Sem.runT,Sem.run,hs.block r hn]
  cases hc:w.heap[r]? with
  | none=>exact TameEnd.halt (h:=.stuck _) trivial (by simp)
  | some o' =>
   have hlt:r < w.heap.size:=(Array.getElem?_eq_some_iff.1 hc).1;have key:TameEnd P B S c Q w es (k.runT P { w with heap:=w.heap.setIfInBounds r o } (es.push ⟨.obj r,true,o.isChan⟩)) (k.run (muteP B P) { w' with heap:=w'.heap.setIfInBounds r o }):=by
    have:=ih ok { w with heap:=w.heap.setIfInBounds r o } { w' with heap:=w'.heap.setIfInBounds r o } (es.push ⟨.obj r,true,o.isChan⟩) h (hs.put hn ho) hok;rw [<- Array.append_singleton] at this ⊢;exact TameEnd.head (w2:={ w with heap:=w.heap.setIfInBounds r o }) (ev_obj (by simpa using hlt)) (by simp) this
   cases o' <;> first | exact key | exact TameEnd.halt (h:=.stuck _) trivial (by simp)
 | choose q k ih =>
  intro ok w w' es h hs hok;simp only [Sem.runT,Sem.run];by_cases hf:q.forced=true
  ·simp only [hf,if_true];exact ih 0 ok w w' es (h 0) hs hok
  ·simp only [hf,if_false,Bool.false_eq_true];rcases Nat.lt_or_ge w'.drawn c.e with hlt | hge
   case inr =>
    intro hg;have:=sem_drawn (P:=muteP B P) (k (q.cut (w'.tape w'.drawn q))) { w' with drawn:=w'.drawn+1 };simp only at this;omega
   have e3:q.cut (w'.tape w'.drawn q)=q.cut (w.tape w.drawn q):=by rw [hs.tape.answer q hlt]
   rw [e3];exact TameEnd.same (w2:={ w with drawn:=w.drawn+1 }) (Nat.le_refl _) (ih (q.cut (w.tape w.drawn q)) ok { w with drawn:=w.drawn+1 } { w' with drawn:=w'.drawn+1 } es (h _) hs.drew hok)
 | sys c k ih=>exact fun ok w w' es h=>h.elim
 | program k ih =>
  intro ok w w' es h hs hok;simp only [Sem.runT,Sem.run];rcases h with e | e
  ·rw [e.2];exact ih P ok w w' es e.1 hs hok
  ·obtain ⟨y,w1,e1,h4,h5⟩:=e.run (P:=muteP B P) w';rw [e1];exact TameEnd.halt h4 h5
 | mark m k ih =>
  intro ok w w' es ⟨hm,h⟩ hs hok;simp only [Sem.runT,Sem.run];have:=ih ok w w' (es.push ⟨.mark m,false,true⟩) h hs hok;rw [<- Array.append_singleton] at this ⊢;exact TameEnd.head (ev_mark (B:=w.heap.size) hm) (Nat.le_refl _) this
 | halt h =>
  intro ok w w' es hh hs _;intro _;cases h <;> first | exact ⟨w,#[],by simp [Sem.runT],by simp,hs,Nat.le_refl _⟩ | exact hh
end
end Go.Proofs.YtgkajecjbflbbaaGreatDoor.Mt
