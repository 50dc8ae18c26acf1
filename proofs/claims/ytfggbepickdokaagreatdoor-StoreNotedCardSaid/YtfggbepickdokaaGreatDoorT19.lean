/- Leads to the Store laws of chapter 6: Tm Tm2. -/
import Derived.Test.YtfggbepickdokaaGreatDoorT18
set_option maxHeartbeats 200000
set_option maxRecDepth 100000
set_option linter.all false
namespace Go.Proofs.YtfggbepickdokaaGreatDoor.Mt
open Go
def Tm (P:Program) {α:Type} (φ:α→Prop) (rs:List Nat) (s:Sem α):Prop :=
 ∀ (Q:α→List Nat→Prop) (ok:List Nat),(∀ r∈rs,r∈ok)→(∀ a ok',φ a→(∀ r∈ok,r∈ok')→Q a ok')→Tame P Q s ok
abbrev T (P:Program) {α:Type} (rs:List Nat) (s:Sem α):Prop:=Tm P (fun _=>True) rs s
section
variable {P:Program} {α β:Type} {φ:α→Prop} {ψ:β→Prop} {rs:List Nat}
theorem Tm.pure {a:α} (h:φ a):Tm P φ rs (Pure.pure a):=fun Q ok _ hq=>hq a ok h fun _ x=>x
theorem Tm.bind {s:Sem β} {k:β→Sem α} (h:Tm P ψ rs s) (hk:∀ a,ψ a→Tm P φ rs (k a)):Tm P φ rs (s >>= k):=fun Q ok hr hq =>
 Tame.bind s (h _ ok hr fun a ok' ha ho=>hk a ha Q ok' (fun r x=>ho r (hr r x)) fun b ok2 hb ho2=>hq b ok2 hb fun r x=>ho2 r (ho r x))
theorem Tm.bindT {s:Sem β} {k:β→Sem α} (h:T P rs s) (hk:∀ a,Tm P φ rs (k a)):Tm P φ rs (s >>= k):=h.bind fun a _=>hk a
theorem Tm.mono {φ':α→Prop} {s:Sem α} (h:Tm P φ rs s) (hm:∀ a,φ a→φ' a):Tm P φ' rs s:=fun Q ok hr hq=>h Q ok hr fun a ok' ha=>hq a ok' (hm a ha)
theorem Tm.more {rs':List Nat} {s:Sem α} (h:Tm P φ rs s) (hm:∀ r∈rs,r∈rs'):Tm P φ rs' s:=fun Q ok hr hq=>h Q ok (fun r x=>hr r (hm r x)) hq
theorem Tm.map {f:β→α} {s:Sem β} (h:Tm P ψ rs s) (hk:∀ a,ψ a→φ (f a)):Tm P φ rs (Functor.map f s):=by
 rw [map_eq_pure_bind]
 exact h.bind fun a ha=>Tm.pure (hk a ha)
theorem Tm.ite {c:Prop} {hd:Decidable c} {s t:Sem α} (h1:c→Tm P φ rs s) (h2:¬ c→Tm P φ rs t):Tm P φ rs (if c then s else t):=by
 by_cases h:c
 ·rw [if_pos h];exact h1 h
 ·rw [if_neg h];exact h2 h
theorem Tm.halt {h:Halt} (hh:haltOk h):Tm P φ rs (.halt h):=fun _ _ _ _=>hh
theorem Tm.stuck {w:String}:Tm P φ rs (Go.stuck w):=Tm.halt (h:=.stuck w) trivial
theorem Tm.uns {u:Unsupported} (h:∀ g,u≠.initOrder g):Tm P φ rs (Go.unsupported u):=Tm.halt (h:=.unsupported u) (by cases u <;> first | trivial | exact absurd rfl (h _))
theorem Tm.goPanic {v:Value}:Tm P φ rs (Go.goPanic v):=Tm.halt (h:=.panic v) trivial
theorem Tm.load {a:Addr}:T P rs (Go.load a):=fun Q ok _ hq=>⟨rfl,fun v=>hq v ok trivial fun _ x=>x⟩
theorem Tm.store {a:Addr} {v:Value}:T P rs (Go.store a v):=fun Q ok _ hq=>⟨rfl,hq () ok trivial fun _ x=>x⟩
theorem Tm.newObj {o:Obj} (h:HeapOk P o):T P rs (Go.newObj o):=fun Q ok _ hq=>⟨h,fun r=>hq r (r::ok) trivial fun _ x=>List.mem_cons_of_mem _ x⟩
theorem Tm.shape {r:Nat}:T P rs (Go.shape r):=fun Q ok _ hq s=>hq s ok trivial fun _ x=>x
theorem Tm.freeze {a:Addr} {n:Nat}:T P rs (Go.freeze a n):=fun Q ok _ hq=>hq () ok trivial fun _ x=>x
theorem Tm.frozen {a:Addr}:T P rs (Go.frozen a):=fun Q ok _ hq b=>hq b ok trivial fun _ x=>x
theorem Tm.choose {q:Question}:T P rs (Go.choose q):=fun Q ok _ hq n=>hq n ok trivial fun _ x=>x
theorem Tm.program:Tm P (·=P) rs (Go.program):=fun Q ok _ hq=>hq P ok rfl fun _ x=>x
theorem Tm.noRoom:T P rs (Go.mark .noRoom):=fun Q ok _ hq=>⟨.inl rfl,hq () ok trivial fun _ x=>x⟩
theorem Tm.extern {f:FuncId}:T P rs (Go.mark (.extern f)):=fun Q ok _ hq=>⟨.inr ⟨f,rfl⟩,hq () ok trivial fun _ x=>x⟩
theorem Tm.getObj {r:Nat} {k:Obj→Sem α} (hs:Stops k) (hk:∀ o,HeapOk P o→Tm P φ (r::rs) (k o)):Tm P φ rs (Go.getObj r >>= k):=fun Q ok hr hq =>
 .inl ⟨hs,fun o ho=>hk o ho Q (r::ok) (fun x hx=>by
  rcases List.mem_cons.1 hx with rfl | hx
  ·exact List.mem_cons_self ..
  ·exact List.mem_cons_of_mem _ (hr x hx)) fun a ok' ha h2=>hq a ok' ha fun x hx=>h2 x (List.mem_cons_of_mem _ hx)⟩
theorem Tm.peek {r:Nat} {k:Obj→Sem α} (hs:Blind k) (hk:∀ o,HeapOk P o→Tm P φ rs (k o)):Tm P φ rs (Go.getObj r >>= k):=fun Q ok hr hq =>
 .inr ⟨hs,fun o ho=>hk o ho Q ok hr hq⟩
theorem Tm.setObj {r:Nat} {o:Obj} (hr:r∈rs) (ho:HeapOk P o) (hc:o.isChan=false):T P rs (Go.setObj r o):=fun Q ok hrs hq=>⟨hrs r hr,ho,hc,hq () ok trivial fun _ x=>x⟩
theorem Tm.forInList {γ:Type} {f:γ→β→Sem (ForInStep β)} (hf:∀ c b,T P rs (f c b)):∀ (l:List γ) (b:β),T P rs (forIn l b f)
 | [],b=>by rw [List.forIn_nil];exact Tm.pure trivial
 | c::l,b=>by
  rw [List.forIn_cons]
  refine Tm.bindT (hf c b) fun x=>?_
  cases x with
  | done b=>exact Tm.pure trivial
  | yield b=>exact Tm.forInList hf l b
theorem Tm.forInArray {γ:Type} {f:γ→β→Sem (ForInStep β)} {l:Array γ} {b:β} (hf:∀ c b,T P rs (f c b)):T P rs (forIn l b f):=by
 rw [← Array.forIn_toList]
 exact Tm.forInList hf _ _
theorem Tm.forInRange {f:Nat→β→Sem (ForInStep β)} {l:Std.Legacy.Range} {b:β} (hf:∀ c b,T P rs (f c b)):T P rs (forIn l b f):=by
 rw [Std.Legacy.Range.forIn_eq_forIn_range']
 exact Tm.forInList hf _ _
theorem Tm.mapMList {γ:Type} {f:γ→Sem β} (hf:∀ c,T P rs (f c)):∀ (l:List γ),T P rs (l.mapM f)
 | []=>by rw [List.mapM_nil];exact Tm.pure trivial
 | c::l=>by
  rw [List.mapM_cons]
  exact Tm.bindT (hf c) fun x=>Tm.bindT (Tm.mapMList hf l) fun _=>Tm.pure trivial
theorem Tm.mapMArray {γ:Type} {f:γ→Sem β} {l:Array γ} (hf:∀ c,T P rs (f c)):T P rs (l.mapM f):=by
 rw [Array.mapM_eq_mapM_toList]
 exact Tm.map (Tm.mapMList hf _) fun _ _=>trivial
theorem Tm.foldlM {γ:Type} {f:β→γ→Sem β} (hf:∀ b c,T P rs (f b c)):∀ (l:List γ) (b:β),T P rs (l.foldlM f b)
 | [],b=>by rw [List.foldlM_nil];exact Tm.pure trivial
 | c::l,b=>by
  rw [List.foldlM_cons]
  exact Tm.bindT (hf b c) fun x=>Tm.foldlM hf l x
end
section
variable {P:Program} {rs:List Nat}
theorem tm_typeInfo {t:TypeId}:T P rs (typeInfo t):=by unfold typeInfo;(repeat' (first | with_reducible exact Tm.stuck | ((with_reducible refine Tm.pure ?_);first | trivial | skip) | ((with_reducible refine Tm.bind Tm.program fun p hp=>?_);subst hp) | split | (dsimp only)))
theorem tm_underlying {t:TypeId}:T P rs (underlying t):=by unfold underlying;(repeat' (first | with_reducible exact Tm.stuck | ((with_reducible refine Tm.pure ?_);first | trivial | skip) | ((with_reducible refine Tm.bind Tm.program fun p hp=>?_);subst hp) | split | (dsimp only)))
theorem tm_underlying' {t:TypeId}:Tm P (fun d=>P.underlying t=some d) rs (underlying t):=by
 unfold underlying
 refine Tm.bind Tm.program fun p hp=>?_
 subst hp
 split
 ·rename_i h;exact Tm.pure h
 ·exact Tm.stuck
theorem tm_typeStr {t:TypeId}:T P rs (typeStr t):=by unfold typeStr;(repeat' (first | with_reducible exact tm_typeInfo | exact Tm.uns (by simp) | ((with_reducible refine Tm.pure ?_);first | trivial | skip) | (with_reducible refine Tm.bindT ?_ fun _=>?_) | (with_reducible refine Tm.ite (fun _=>?_) (fun _=>?_)) | split | (dsimp only)))
theorem tm_zeroValue {t:TypeId}:T P rs (zeroValue t):=by unfold zeroValue;(repeat' (first | with_reducible exact tm_typeInfo | exact Tm.uns (by simp) | ((with_reducible refine Tm.pure ?_);first | trivial | skip) | (with_reducible refine Tm.bindT ?_ fun _=>?_) | split | (dsimp only)))
theorem tm_sizeOf {t:TypeId}:T P rs (sizeOf t):=by unfold sizeOf;(repeat' (first | with_reducible exact tm_typeInfo | ((with_reducible refine Tm.pure ?_);first | trivial | skip) | (with_reducible refine Tm.bindT ?_ fun _=>?_) | split | (dsimp only)))
theorem tm_isAgg {t:TypeId}:T P rs (isAgg t):=by unfold isAgg;(repeat' (first | with_reducible exact tm_underlying | ((with_reducible refine Tm.pure ?_);first | trivial | skip) | (with_reducible refine Tm.bindT ?_ fun _=>?_) | split | (dsimp only)))
theorem tm_elemOf {t:TypeId}:T P rs (elemOf t):=by unfold elemOf;(repeat' (first | with_reducible exact tm_underlying | with_reducible exact Tm.stuck | ((with_reducible refine Tm.pure ?_);first | trivial | skip) | (with_reducible refine Tm.bindT ?_ fun _=>?_) | split | (dsimp only)))
theorem tm_newRow {t:TypeId} {c:Array Value}:T P rs (newRow t c):=by unfold newRow;(repeat' (first | ((with_reducible refine Tm.newObj ?_);trivial) | ((with_reducible refine Tm.pure ?_);first | trivial | skip) | (with_reducible refine Tm.bindT ?_ fun _=>?_) | split | (dsimp only)))
theorem tm_newVar {t:TypeId} {v:Value}:T P rs (newVar t v):=tm_newRow
theorem tm_loadCellsFrom {a:Addr}:∀ (n i:Nat) (acc:Array Value),T P rs (loadCellsFrom a i n acc)
 | 0,i,acc=>Tm.pure trivial
 | n+1,i,acc=>Tm.bindT Tm.load fun v=>tm_loadCellsFrom n (i+1) (acc.push v)
theorem tm_loadCells {a:Addr} {n:Nat}:T P rs (loadCells a n):=tm_loadCellsFrom n 0 #[]
theorem tm_storeCells {a:Addr}:∀ (vs:List Value) (i:Nat),T P rs (storeCells a vs i)
 | [],i=>Tm.pure trivial
 | v::vs,i=>Tm.bindT Tm.store fun _=>tm_storeCells vs (i+1)
theorem tm_loadVar {t:TypeId} {a:Addr}:T P rs (loadVar t a):=by unfold loadVar;(repeat' (first | with_reducible exact tm_loadCells | with_reducible exact tm_sizeOf | with_reducible exact tm_isAgg | with_reducible exact Tm.load | ((with_reducible refine Tm.pure ?_);first | trivial | skip) | (with_reducible refine Tm.bindT ?_ fun _=>?_) | (with_reducible refine Tm.ite (fun _=>?_) (fun _=>?_)) | split | (dsimp only)))
theorem tm_storeVar {t:TypeId} {a:Addr} {v:Value}:T P rs (storeVar t a v):=by unfold storeVar;(repeat' (first | with_reducible exact tm_storeCells _ _ | with_reducible exact tm_sizeOf | with_reducible exact Tm.stuck | (with_reducible refine Tm.bindT ?_ fun _=>?_) | (with_reducible refine Tm.ite (fun _=>?_) (fun _=>?_)) | split | (dsimp only)))
theorem tm_part {t:TypeId} {cs:Array Value} {o:Nat}:T P rs (part t cs o):=by unfold part;(repeat' (first | with_reducible exact tm_sizeOf | with_reducible exact tm_isAgg | with_reducible exact Tm.stuck | ((with_reducible refine Tm.pure ?_);first | trivial | skip) | (with_reducible refine Tm.bindT ?_ fun _=>?_) | (with_reducible refine Tm.ite (fun _=>?_) (fun _=>?_)) | split | (dsimp only)))
theorem tm_runtimePanic {α:Type} {φ:α→Prop} {e:RuntimeError}:Tm P φ rs (runtimePanic e):=by unfold runtimePanic;(repeat' (first | with_reducible exact tm_newVar | with_reducible exact tm_elemOf | with_reducible exact Tm.goPanic | ((with_reducible refine Tm.bind Tm.program fun p hp=>?_);subst hp) | (with_reducible refine Tm.bindT ?_ fun _=>?_) | split | (dsimp only)))
theorem tm_boundsPanic {α:Type} {φ:α→Prop} {k:IntKind} {x y:Int} {c:BoundsCode}:Tm P φ rs (boundsPanic k x y c):=by unfold boundsPanic;(repeat' (first | with_reducible exact tm_runtimePanic | with_reducible exact Tm.choose | ((with_reducible refine Tm.pure ?_);first | trivial | skip) | (with_reducible refine Tm.bindT ?_ fun _=>?_) | (with_reducible refine Tm.map (ψ:=fun _=>True) ?_ fun _ _=>trivial) | (with_reducible refine Tm.ite (fun _=>?_) (fun _=>?_)) | split | (dsimp only)))
theorem tm_asIntOf {v:Value}:T P rs (asIntOf v):=by unfold asIntOf;(repeat' (first | with_reducible exact Tm.stuck | exact Tm.uns (by simp) | ((with_reducible refine Tm.pure ?_);first | trivial | skip) | split | (dsimp only)))
theorem tm_asBool {v:Value}:T P rs (asBool v):=by unfold asBool;(repeat' (first | with_reducible exact Tm.stuck | ((with_reducible refine Tm.pure ?_);first | trivial | skip) | split | (dsimp only)))
theorem tm_asString {v:Value}:T P rs (asString v):=by unfold asString;(repeat' (first | with_reducible exact Tm.stuck | ((with_reducible refine Tm.pure ?_);first | trivial | skip) | split | (dsimp only)))
theorem tm_asAgg {v:Value}:T P rs (asAgg v):=by unfold asAgg;(repeat' (first | with_reducible exact Tm.stuck | ((with_reducible refine Tm.pure ?_);first | trivial | skip) | split | (dsimp only)))
theorem tm_asAddr {v:Value}:T P rs (asAddr v):=by unfold asAddr;(repeat' (first | with_reducible exact tm_runtimePanic | with_reducible exact Tm.stuck | ((with_reducible refine Tm.pure ?_);first | trivial | skip) | split | (dsimp only)))
theorem tm_asInt {v:Value}:T P rs (asInt v):=by unfold asInt;(repeat' (first | with_reducible exact tm_asIntOf | ((with_reducible refine Tm.pure ?_);first | trivial | skip) | (with_reducible refine Tm.bindT ?_ fun _=>?_) | split | (dsimp only)))
theorem tm_viewAt {r:Nat}:T P rs (viewAt r):=by unfold viewAt;(repeat' (first | with_reducible exact Tm.shape | ((with_reducible refine Tm.pure ?_);first | trivial | skip) | ((with_reducible refine Tm.peek ?_ fun o ho=>?_);(· exact (fun o ho=>by cases o <;> first | rfl | cases ho))) | (with_reducible refine Tm.bindT ?_ fun _=>?_) | (with_reducible refine Tm.ite (fun _=>?_) (fun _=>?_)) | split | (dsimp only)))
theorem tm_numberAt {r:Nat}:T P rs (numberAt r):=by unfold numberAt;(repeat' (first | with_reducible exact Tm.shape | ((with_reducible refine Tm.pure ?_);first | trivial | skip) | ((with_reducible refine Tm.peek ?_ fun o ho=>?_);(· exact (fun o ho=>by cases o <;> first | rfl | cases ho))) | (with_reducible refine Tm.bindT ?_ fun _=>?_) | (with_reducible refine Tm.ite (fun _=>?_) (fun _=>?_)) | split | (dsimp only)))
theorem tm_asNumber {a:Addr} {b:Bool}:T P rs (asNumber a b):=by unfold asNumber;(repeat' (first | ((with_reducible refine Tm.newObj ?_);trivial) | ((with_reducible refine Tm.pure ?_);first | trivial | skip) | (with_reducible refine Tm.bindT ?_ fun _=>?_) | split | (dsimp only)))
theorem tm_behindNumber {a:Addr}:T P rs (behindNumber a):=by unfold behindNumber;(repeat' (first | with_reducible exact tm_numberAt | ((with_reducible refine Tm.pure ?_);first | trivial | skip) | (with_reducible refine Tm.bindT ?_ fun _=>?_) | split | (dsimp only)))
theorem tm_noView {a:Addr}:T P rs (noView a):=by unfold noView;(repeat' (first | with_reducible exact tm_viewAt | exact Tm.uns (by simp) | ((with_reducible refine Tm.pure ?_);first | trivial | skip) | (with_reducible refine Tm.bindT ?_ fun _=>?_) | (with_reducible refine Tm.ite (fun _=>?_) (fun _=>?_)) | split | (dsimp only)))
theorem tm_markStringish {a:Addr}:T P rs (markStringish a):=by unfold markStringish;(repeat' (first | with_reducible exact Tm.shape | with_reducible exact Tm.freeze | ((with_reducible refine Tm.pure ?_);first | trivial | skip) | (with_reducible refine Tm.bindT ?_ fun _=>?_) | split | (dsimp only)))
theorem tm_stringish {a:Addr}:T P rs (stringish a):=by unfold stringish;(repeat' (first | with_reducible exact Tm.shape | with_reducible exact Tm.frozen | ((with_reducible refine Tm.pure ?_);first | trivial | skip) | (with_reducible refine Tm.bindT ?_ fun _=>?_) | (with_reducible refine Tm.ite (fun _=>?_) (fun _=>?_)) | split | (dsimp only)))
theorem tm_askRoom {n:Nat}:T P rs (askRoom n):=by unfold askRoom;(repeat' (first | with_reducible exact Tm.noRoom | ((with_reducible refine Tm.pure ?_);first | trivial | skip) | (with_reducible refine Tm.ite (fun _=>?_) (fun _=>?_)) | split | (dsimp only)))
theorem tm_mayBeOne {a b:Addr}:T P rs (mayBeOne a b):=by unfold mayBeOne;(repeat' (first | with_reducible exact tm_stringish | with_reducible exact Tm.shape | ((with_reducible refine Tm.pure ?_);first | trivial | skip) | (with_reducible refine Tm.bindT ?_ fun _=>?_) | split | (dsimp only)))
theorem tm_sameAddr {a b:Addr}:T P rs (sameAddr a b):=by unfold sameAddr;(repeat' (first | with_reducible exact tm_mayBeOne | with_reducible exact tm_noView | exact Tm.uns (by simp) | with_reducible exact Tm.frozen | with_reducible exact Tm.choose | ((with_reducible refine Tm.pure ?_);first | trivial | skip) | (with_reducible refine Tm.bindT ?_ fun _=>?_) | (with_reducible refine Tm.ite (fun _=>?_) (fun _=>?_)) | split | (dsimp only)))
theorem tm_samePointer {a b:Option Addr}:T P rs (samePointer a b):=by unfold samePointer;(repeat' (first | with_reducible exact tm_sameAddr | ((with_reducible refine Tm.pure ?_);first | trivial | skip) | split | (dsimp only)))
theorem tm_byteOf {a:Addr}:T P rs (byteOf a):=by unfold byteOf;(repeat' (first | with_reducible exact tm_noView | with_reducible exact Tm.stuck | with_reducible exact Tm.shape | ((with_reducible refine Tm.pure ?_);first | trivial | skip) | ((with_reducible refine Tm.bind Tm.program fun p hp=>?_);subst hp) | (with_reducible refine Tm.bindT ?_ fun _=>?_) | (with_reducible refine Tm.ite (fun _=>?_) (fun _=>?_)) | split | (dsimp only)))
theorem tm_partAt {a:Addr} {n m:Nat}:T P rs (partAt a n m):=by unfold partAt;(repeat' (first | with_reducible exact tm_byteOf | ((with_reducible refine Tm.pure ?_);first | trivial | skip) | (with_reducible refine Tm.bindT ?_ fun _=>?_) | split | (dsimp only)))
theorem tm_fieldPlace {a:Addr} {f:Field}:T P rs (fieldPlace a f):=by unfold fieldPlace;(repeat' (first | with_reducible exact tm_partAt | with_reducible exact tm_sizeOf | ((with_reducible refine Tm.pure ?_);first | trivial | skip) | (with_reducible refine Tm.bindT ?_ fun _=>?_) | (with_reducible refine Tm.ite (fun _=>?_) (fun _=>?_)) | split | (dsimp only)))
end
section
variable {P:Program} {rs:List Nat}
theorem tm_twoPlaces {a b:Addr}:T P rs (Op.twoPlaces a b):=by unfold Op.twoPlaces;(repeat' (first | with_reducible exact tm_byteOf | exact Tm.uns (by simp) | ((with_reducible refine Tm.pure ?_);first | trivial | skip) | ((with_reducible refine Tm.bind Tm.program fun p hp=>?_);subst hp) | (with_reducible refine Tm.bindT ?_ fun _=>?_) | (with_reducible refine Tm.ite (fun _=>?_) (fun _=>?_)) | split | (dsimp only)))
theorem tm_addrSub {k:IntKind} {a b:Addr}:T P rs (Op.addrSub k a b):=by unfold Op.addrSub;(repeat' (first | with_reducible exact tm_twoPlaces | ((with_reducible refine Tm.pure ?_);first | trivial | skip) | (with_reducible refine Tm.bindT ?_ fun _=>?_) | split | (dsimp only)))
theorem tm_addrCmp {k:BinOp} {a b:Addr}:T P rs (Op.addrCmp k a b):=by unfold Op.addrCmp;(repeat' (first | with_reducible exact tm_twoPlaces | exact Tm.uns (by simp) | ((with_reducible refine Tm.pure ?_);first | trivial | skip) | (with_reducible refine Tm.bindT ?_ fun _=>?_) | split | (dsimp only)))
theorem tm_addrMod {k:IntKind} {a:Addr} {n:Int}:T P rs (Op.addrMod k a n):=by unfold Op.addrMod;(repeat' (first | with_reducible exact tm_byteOf | with_reducible exact tm_typeInfo | exact Tm.uns (by simp) | with_reducible exact Tm.shape | ((with_reducible refine Tm.pure ?_);first | trivial | skip) | (with_reducible refine Tm.bindT ?_ fun _=>?_) | (with_reducible refine Tm.ite (fun _=>?_) (fun _=>?_)) | split | (dsimp only)))
theorem tm_intArith {op:BinOp} {k:IntKind} {x y:Int}:T P rs (Op.intArith op k x y):=by unfold Op.intArith;(repeat' (first | with_reducible exact Tm.stuck | ((with_reducible refine Tm.pure ?_);first | trivial | skip) | split | (dsimp only)))
theorem tm_intBits {op:BinOp} {k:IntKind} {x y:Int}:T P rs (Op.intBits op k x y):=by unfold Op.intBits;(repeat' (first | with_reducible exact Tm.stuck | ((with_reducible refine Tm.pure ?_);first | trivial | skip) | split | (dsimp only)))
theorem tm_intCmp {op:BinOp} {x y:Int}:T P rs (Op.intCmp op x y):=by unfold Op.intCmp;(repeat' (first | with_reducible exact Tm.stuck | ((with_reducible refine Tm.pure ?_);first | trivial | skip) | split | (dsimp only)))
theorem tm_intDiv {op:BinOp} {k:IntKind} {x y:Int}:T P rs (Op.intDiv op k x y):=by unfold Op.intDiv;(repeat' (first | with_reducible exact tm_runtimePanic | with_reducible exact Tm.stuck | ((with_reducible refine Tm.pure ?_);first | trivial | skip) | (with_reducible refine Tm.ite (fun _=>?_) (fun _=>?_)) | split | (dsimp only)))
theorem tm_shift {op:BinOp} {k l:IntKind} {x y:Int}:T P rs (Op.shift op k x l y):=by unfold Op.shift;(repeat' (first | with_reducible exact tm_runtimePanic | with_reducible exact Tm.stuck | ((with_reducible refine Tm.pure ?_);first | trivial | skip) | (with_reducible refine Tm.ite (fun _=>?_) (fun _=>?_)) | split | (dsimp only)))
theorem tm_stringOp {op:BinOp} {x y:ByteArray}:T P rs (Op.stringOp op x y):=by unfold Op.stringOp;(repeat' (first | with_reducible exact Tm.stuck | exact Tm.uns (by simp) | ((with_reducible refine Tm.pure ?_);first | trivial | skip) | (with_reducible refine Tm.ite (fun _=>?_) (fun _=>?_)) | split | (dsimp only)))
theorem tm_floatArith {op:BinOp} {k:FloatKind} {x y:Nat}:T P rs (Op.floatArith op k x y):=by unfold Op.floatArith;(repeat' (first | with_reducible exact Tm.stuck | with_reducible exact Tm.choose | ((with_reducible refine Tm.pure ?_);first | trivial | skip) | (with_reducible refine Tm.bindT ?_ fun _=>?_) | split | (dsimp only)))
theorem tm_floatCmp {op:BinOp} {k:FloatKind} {x y:Nat}:T P rs (Op.floatCmp op k x y):=by unfold Op.floatCmp;(repeat' (first | with_reducible exact Tm.stuck | ((with_reducible refine Tm.pure ?_);first | trivial | skip) | split | (dsimp only)))
theorem tm_floatToFloat {k l:FloatKind} {x:Nat}:T P rs (Conv.floatToFloat k x l):=by unfold Conv.floatToFloat;(repeat' (first | with_reducible exact Tm.choose | ((with_reducible refine Tm.pure ?_);first | trivial | skip) | (with_reducible refine Tm.bindT ?_ fun _=>?_) | (with_reducible refine Tm.ite (fun _=>?_) (fun _=>?_)) | split | (dsimp only)))
theorem tm_carith {op:BinOp} {k:FloatKind} {x y:Nat}:T P rs (Op.Complex.arith op k x y):=by unfold Op.Complex.arith;(repeat' (first | with_reducible exact tm_floatArith | with_reducible exact Tm.stuck | ((with_reducible refine Tm.pure ?_);first | trivial | skip) | (with_reducible refine Tm.bindT ?_ fun _=>?_) | split | (dsimp only)))
theorem tm_ccmp {op:BinOp} {k:FloatKind} {x y:Nat}:T P rs (Op.Complex.cmp op k x y):=by unfold Op.Complex.cmp;(repeat' (first | with_reducible exact tm_floatCmp | with_reducible exact tm_asBool | (with_reducible refine Tm.bindT ?_ fun _=>?_) | split | (dsimp only)))
theorem tm_cconv {k l:FloatKind} {x:Nat}:T P rs (Op.Complex.conv k x l):=by unfold Op.Complex.conv;(repeat' (first | with_reducible exact tm_floatToFloat | with_reducible exact Tm.stuck | ((with_reducible refine Tm.pure ?_);first | trivial | skip) | (with_reducible refine Tm.bindT ?_ fun _=>?_) | (with_reducible refine Tm.ite (fun _=>?_) (fun _=>?_)) | split | (dsimp only)))
theorem tm_cadd {x y:Nat}:T P rs (Op.Complex.add x y):=tm_carith
theorem tm_csub {x y:Nat}:T P rs (Op.Complex.sub x y):=tm_carith
theorem tm_cmul {x y:Nat}:T P rs (Op.Complex.mul x y):=tm_carith
theorem tm_cquo {x y:Nat}:T P rs (Op.Complex.quo x y):=tm_carith
theorem tm_product {a b c d:Nat}:T P rs (Op.Complex.product a b c d):=by unfold Op.Complex.product;(repeat' (first | with_reducible exact tm_cadd | with_reducible exact tm_csub | with_reducible exact tm_cmul | ((with_reducible refine Tm.pure ?_);first | trivial | skip) | (with_reducible refine Tm.bindT ?_ fun _=>?_) | split | (dsimp only)))
theorem tm_corrected {s a b c d:Nat}:T P rs (Op.Complex.corrected s a b c d):=by unfold Op.Complex.corrected;(repeat' (first | with_reducible exact tm_cadd | with_reducible exact tm_csub | with_reducible exact tm_cmul | ((with_reducible refine Tm.pure ?_);first | trivial | skip) | (with_reducible refine Tm.bindT ?_ fun _=>?_) | split | (dsimp only)))
theorem tm_quotient {a b c d:Nat}:T P rs (Op.Complex.quotient a b c d):=by unfold Op.Complex.quotient;(repeat' (first | with_reducible exact tm_corrected | with_reducible exact tm_cadd | with_reducible exact tm_csub | with_reducible exact tm_cmul | with_reducible exact tm_cquo | with_reducible exact tm_ccmp | ((with_reducible refine Tm.pure ?_);first | trivial | skip) | (with_reducible refine Tm.bindT ?_ fun _=>?_) | (with_reducible refine Tm.ite (fun _=>?_) (fun _=>?_)) | split | (dsimp only)))
theorem tm_complexOp {op:BinOp} {k:FloatKind} {a b c d:Nat}:T P rs (Op.complexOp op k a b c d):=by unfold Op.complexOp;(repeat' (first | with_reducible exact tm_quotient | with_reducible exact tm_product | with_reducible exact tm_carith | with_reducible exact tm_ccmp | with_reducible exact tm_cconv | with_reducible exact Tm.stuck | ((with_reducible refine Tm.pure ?_);first | trivial | skip) | (with_reducible refine Tm.bindT ?_ fun _=>?_) | (with_reducible refine Tm.ite (fun _=>?_) (fun _=>?_)) | split | (dsimp only)))
theorem tm_equalIn:∀ (d:Nat) {t:TypeId} {x y:Value},T P rs (Op.equalIn d t x y)
 | 0,t,x,y=>by unfold Op.equalIn;(repeat' (first | with_reducible exact tm_byteOf | with_reducible exact tm_samePointer | with_reducible exact tm_sameAddr | with_reducible exact tm_behindNumber | with_reducible exact tm_part | with_reducible exact tm_runtimePanic | with_reducible exact tm_typeStr | with_reducible exact tm_sizeOf | with_reducible exact tm_typeInfo | with_reducible exact tm_underlying | with_reducible exact Tm.stuck | exact Tm.uns (by simp) | with_reducible exact Tm.choose | ((with_reducible refine Tm.pure ?_);first | trivial | skip) | ((with_reducible refine Tm.bind Tm.program fun p hp=>?_);subst hp) | (with_reducible refine Tm.bindT ?_ fun _=>?_) | (with_reducible refine Tm.forInArray fun _ _=>?_) | (with_reducible refine Tm.forInRange fun _ _=>?_) | (with_reducible refine Tm.ite (fun _=>?_) (fun _=>?_)) | split | (dsimp only)))
 | d+1,t,x,y=>by
  have ih:∀ {t:TypeId} {x y:Value},T P rs (Op.equalIn d t x y):=tm_equalIn d
  unfold Op.equalIn
  repeat' (first | with_reducible exact ih | (first | with_reducible exact tm_byteOf | with_reducible exact tm_samePointer | with_reducible exact tm_sameAddr | with_reducible exact tm_behindNumber | with_reducible exact tm_part | with_reducible exact tm_runtimePanic | with_reducible exact tm_typeStr | with_reducible exact tm_sizeOf | with_reducible exact tm_typeInfo | with_reducible exact tm_underlying | with_reducible exact Tm.stuck | exact Tm.uns (by simp) | with_reducible exact Tm.choose | ((with_reducible refine Tm.pure ?_);first | trivial | skip) | ((with_reducible refine Tm.bind Tm.program fun p hp=>?_);subst hp) | (with_reducible refine Tm.bindT ?_ fun _=>?_) | (with_reducible refine Tm.forInArray fun _ _=>?_) | (with_reducible refine Tm.forInRange fun _ _=>?_) | (with_reducible refine Tm.ite (fun _=>?_) (fun _=>?_)) | split | (dsimp only)))
theorem tm_eqGuardIn:∀ (d:Nat) {t:TypeId} {x y:Value},T P rs (Op.eqGuardIn d t x y)
 | 0,t,x,y=>by unfold Op.eqGuardIn;(repeat' (first | with_reducible exact tm_part | with_reducible exact tm_sizeOf | with_reducible exact tm_underlying | exact Tm.uns (by simp) | ((with_reducible refine Tm.pure ?_);first | trivial | skip) | (with_reducible refine Tm.bindT ?_ fun _=>?_) | (with_reducible refine Tm.forInArray fun _ _=>?_) | (with_reducible refine Tm.forInRange fun _ _=>?_) | (with_reducible refine Tm.ite (fun _=>?_) (fun _=>?_)) | split | (dsimp only)))
 | d+1,t,x,y=>by
  have ih:∀ {t:TypeId} {x y:Value},T P rs (Op.eqGuardIn d t x y):=tm_eqGuardIn d
  unfold Op.eqGuardIn
  repeat' (first | with_reducible exact ih | (first | with_reducible exact tm_part | with_reducible exact tm_sizeOf | with_reducible exact tm_underlying | exact Tm.uns (by simp) | ((with_reducible refine Tm.pure ?_);first | trivial | skip) | (with_reducible refine Tm.bindT ?_ fun _=>?_) | (with_reducible refine Tm.forInArray fun _ _=>?_) | (with_reducible refine Tm.forInRange fun _ _=>?_) | (with_reducible refine Tm.ite (fun _=>?_) (fun _=>?_)) | split | (dsimp only)))
theorem tm_equal {t:TypeId} {x y:Value}:T P rs (Op.equal t x y):=tm_equalIn _
theorem tm_unsafeAdd {a:Array TypeId} {t:TypeId} {x y:Value}:T P rs (Builtin.unsafeAdd_ a t #[x,y]):=by
 unfold Builtin.unsafeAdd_
 cases x <;> first
  | exact Tm.stuck
  | (refine Tm.bindT (s:=asInt y) tm_asInt fun n=>?_;(repeat' (first | with_reducible exact tm_asInt | with_reducible exact tm_viewAt | with_reducible exact Tm.stuck | exact Tm.uns (by simp) | with_reducible exact Tm.shape | ((with_reducible refine Tm.pure ?_);first | trivial | skip) | ((with_reducible refine Tm.bind Tm.program fun p hp=>?_);subst hp) | (with_reducible refine Tm.bindT ?_ fun _=>?_) | (with_reducible refine Tm.ite (fun _=>?_) (fun _=>?_)) | split | (dsimp only))))
theorem tm_movedNumber {t:TypeId} {x y:Value}:T P rs (movedNumber t x y):=by unfold movedNumber;(repeat' (first | with_reducible exact tm_unsafeAdd | with_reducible exact tm_asNumber | with_reducible exact tm_behindNumber | with_reducible exact tm_underlying | exact Tm.uns (by simp) | ((with_reducible refine Tm.pure ?_);first | trivial | skip) | (with_reducible refine Tm.bindT ?_ fun _=>?_) | (with_reducible refine Tm.ite (fun _=>?_) (fun _=>?_)) | split | (dsimp only)))
theorem tm_movedPointer {t:TypeId} {x y:Value}:T P rs (movedPointer t x y):=by unfold movedPointer;(repeat' (first | with_reducible exact tm_unsafeAdd | with_reducible exact tm_numberAt | exact Tm.uns (by simp) | (with_reducible refine Tm.bindT ?_ fun _=>?_) | (with_reducible refine Tm.ite (fun _=>?_) (fun _=>?_)) | split | (dsimp only)))
theorem tm_eqGuard {op:BinOp} {t:TypeId} {x y:Operand} {a b:Value}:T P rs (eqGuard op t x y a b):=by unfold eqGuard;(repeat' (first | with_reducible exact tm_eqGuardIn _ | exact Tm.uns (by simp) | ((with_reducible refine Tm.pure ?_);first | trivial | skip) | ((with_reducible refine Tm.bind Tm.program fun p hp=>?_);subst hp) | (with_reducible refine Tm.bindT ?_ fun _=>?_) | (with_reducible refine Tm.ite (fun _=>?_) (fun _=>?_)) | split | (dsimp only)))
theorem tm_binOp {op:BinOp} {t:TypeId} {x y:Value}:T P rs (binOp op t x y):=by unfold binOp;(repeat' (first | with_reducible exact tm_movedNumber | with_reducible exact tm_movedPointer | with_reducible exact tm_complexOp | with_reducible exact tm_equal | with_reducible exact tm_addrSub | with_reducible exact tm_addrCmp | with_reducible exact tm_addrMod | with_reducible exact tm_intArith | with_reducible exact tm_intBits | with_reducible exact tm_intCmp | with_reducible exact tm_intDiv | with_reducible exact tm_shift | with_reducible exact tm_stringOp | with_reducible exact tm_floatArith | with_reducible exact tm_floatCmp | with_reducible exact tm_behindNumber | with_reducible exact tm_underlying | with_reducible exact Tm.stuck | exact Tm.uns (by simp) | ((with_reducible refine Tm.pure ?_);first | trivial | skip) | (with_reducible refine Tm.bindT ?_ fun _=>?_) | (with_reducible refine Tm.ite (fun _=>?_) (fun _=>?_)) | split | (dsimp only)))
theorem tm_unary {op:UnOp} {x:Value}:T P rs (Op.unary op x):=by unfold Op.unary;(repeat' (first | with_reducible exact tm_intArith | with_reducible exact tm_intBits | with_reducible exact Tm.stuck | exact Tm.uns (by simp) | ((with_reducible refine Tm.pure ?_);first | trivial | skip) | split | (dsimp only)))
end
end Go.Proofs.YtfggbepickdokaaGreatDoor.Mt
