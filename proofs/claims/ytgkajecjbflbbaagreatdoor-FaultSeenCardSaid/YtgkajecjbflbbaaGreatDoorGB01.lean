/- the fault laws -/
import Derived.Test.YtgkajecjbflbbaaGreatDoorGB00
set_option maxHeartbeats 4000000
set_option maxRecDepth 100000
set_option linter.all false
namespace Go.Proofs.YtgkajecjbflbbaaGreatDoor
namespace Mt
open Go
def Tm (P:Program) (B:Nat->Bool) {α:Type} (φ:α->Prop) (rs:List Nat) (s:Sem α):Prop :=
 ∀ (Q:α->List Nat->Prop) (ok:List Nat),(∀ r∈rs,2 * r∈ok)->(∀ a ok',φ a->(∀ r∈ok,r∈ok')->Q a ok')->Tame P B Q s ok
abbrev T (P:Program) (B:Nat->Bool) {α:Type} (rs:List Nat) (s:Sem α):Prop:=Tm P B (fun _=>True) rs s
section
variable {P:Program} {B:Nat->Bool} {α β:Type} {φ:α->Prop} {ψ:β->Prop} {rs:List Nat}
theorem Tm.pure {a:α} (h:φ a):Tm P B φ rs (Pure.pure a):=fun Q ok _ hq=>hq a ok h fun _ x=>x
theorem Tm.pure' {a:α} (h:φ a):Tm P B φ rs (Sem.pure a):=fun Q ok _ hq=>hq a ok h fun _ x=>x
theorem Tm.bind {s:Sem β} {k:β->Sem α} (h:Tm P B ψ rs s) (hk:∀ a,ψ a->Tm P B φ rs (k a)):Tm P B φ rs (s >>= k):=fun Q ok hr hq =>
 Tame.bind s (h _ ok hr fun a ok' ha ho=>hk a ha Q ok' (fun r x=>ho _ (hr r x)) fun b ok2 hb ho2=>hq b ok2 hb fun r x=>ho2 r (ho r x))
theorem Tm.bindT {s:Sem β} {k:β->Sem α} (h:T P B rs s) (hk:∀ a,Tm P B φ rs (k a)):Tm P B φ rs (s >>= k):=h.bind fun a _=>hk a
theorem Tm.mono {φ':α->Prop} {s:Sem α} (h:Tm P B φ rs s) (hm:∀ a,φ a->φ' a):Tm P B φ' rs s:=fun Q ok hr hq=>h Q ok hr fun a ok' ha=>hq a ok' (hm a ha)
theorem Tm.map {f:β->α} {s:Sem β} (h:Tm P B ψ rs s) (hk:∀ a,ψ a->φ (f a)):Tm P B φ rs (Functor.map f s):=by
 rw [map_eq_pure_bind];exact h.bind fun a ha=>Tm.pure (hk a ha)
theorem Tm.ite {c:Prop} {hd:Decidable c} {s t:Sem α} (h1:c->Tm P B φ rs s) (h2:¬ c->Tm P B φ rs t):Tm P B φ rs (if c then s else t):=by
 by_cases h:c
 ·rw [if_pos h];exact h1 h
 ·rw [if_neg h];exact h2 h
theorem Tm.halt {h:Halt} (hh:haltOk h):Tm P B φ rs (.halt h):=fun _ _ _ _=>hh
theorem Tm.stuck {w:String}:Tm P B φ rs (Go.stuck w):=Tm.halt (h:=.stuck w) trivial
theorem Tm.uns {u:Unsupported} (h:∀ g,u≠.initOrder g):Tm P B φ rs (Go.unsupported u):=Tm.halt (h:=.unsupported u) (by cases u <;> first | trivial | exact absurd rfl (h _))
theorem Tm.goPanic {v:Value}:Tm P B φ rs (Go.goPanic v):=Tm.halt (h:=.panic v) trivial
theorem Tm.load {a:Addr}:T P B rs (Go.load a):=fun Q ok _ hq=>⟨rfl,fun v=>hq v ok trivial fun _ x=>x⟩
theorem Tm.store {a:Addr} {v:Value}:T P B rs (Go.store a v):=fun Q ok _ hq=>⟨rfl,hq () ok trivial fun _ x=>x⟩
theorem Tm.newObj {o:Obj} (h:HeapOk P B o):T P B rs (Go.newObj o):=fun Q ok _ hq=>⟨h,fun r=>hq r (2 * r::ok) trivial fun _ x=>List.mem_cons_of_mem _ x⟩
theorem Tm.newObj_bind {o:Obj} {k:Nat->Sem α} (h:HeapOk P B o) (hk:∀ r,Tm P B φ (r::rs) (k r)):Tm P B φ rs (Go.newObj o >>= k):=fun Q ok hr hq=>⟨h,fun r=>hk r Q (2 * r::ok) (fun x hx=>by
 rcases List.mem_cons.1 hx with rfl | hx
 ·exact List.mem_cons_self ..
 ·exact List.mem_cons_of_mem _ (hr x hx)) fun a ok' ha h2=>hq a ok' ha fun x hx=>h2 x (List.mem_cons_of_mem _ hx)⟩
theorem Tm.shape_live {r:Nat} (h:r∈rs):T P B rs (Go.shape r):=fun Q ok hr hq=>⟨fun s=>hq _ ok trivial fun _ x=>x,hq _ _ trivial fun _ x=>List.mem_cons_of_mem _ x,.inl (hr r h)⟩
theorem Tm.shape_same {r:Nat} {k:Option (TypeId × Nat)->Sem α} (h:∀ e n,k none=k (some (e,n+1))) (hk:∀ s,Tm P B φ rs (k s)):Tm P B φ rs (Go.shape r >>= k):=fun Q ok hr hq =>
 ⟨fun s=>hk _ Q ok hr hq,hk none Q _ (fun x hx=>List.mem_cons_of_mem _ (hr x hx)) fun a ok' ha h2=>hq a ok' ha fun x hx=>h2 x (List.mem_cons_of_mem _ hx),.inr (.inl fun e n=>.inl (h e n))⟩
theorem Tm.shape_ends {r:Nat} {k:Option (TypeId × Nat)->Sem α} (h:Ends (k none)) (hk:∀ s,Tm P B φ rs (k s)):Tm P B φ rs (Go.shape r >>= k):=fun Q ok hr hq =>
 ⟨fun s=>hk _ Q ok hr hq,hk none Q _ (fun x hx=>List.mem_cons_of_mem _ (hr x hx)) fun a ok' ha h2=>hq a ok' ha fun x hx=>h2 x (List.mem_cons_of_mem _ hx),.inr (.inr (.inr h))⟩
theorem Tm.shape_real {r:Nat} {k:Option (TypeId × Nat)->Sem α} (h:∀ e n,RealTo r (k (some (e,n+1))) (k none)) (hk:∀ s,Tm P B φ rs (k s)):Tm P B φ rs (Go.shape r >>= k):=fun Q ok hr hq =>
 ⟨fun s=>hk _ Q ok hr hq,hk none Q _ (fun x hx=>List.mem_cons_of_mem _ (hr x hx)) fun a ok' ha h2=>hq a ok' ha fun x hx=>h2 x (List.mem_cons_of_mem _ hx),.inr (.inr (.inl ⟨hk none Q ok hr hq,h⟩))⟩
theorem Tm.shape_peek {r:Nat} {k:Option (TypeId × Nat)->Sem α} {k':Obj->Sem α} (h1:k none=.getObj r k') (h2:∀ e n,k' (.coro none)=k (some (e,n+1))) (hb:Blind k') (hk:∀ s,Tm P B φ rs (k (some s))) (hk':∀ o,HeapOk P B o->Tm P B φ rs (k' o)):Tm P B φ rs (Go.shape r >>= k):=fun Q ok hr hq =>
 ⟨fun s=>hk _ Q ok hr hq,by
   show Tame P B Q (k none) _
   rw [h1]
   exact .inr ⟨List.mem_cons_self ..,hb,fun o ho=>hk' o ho Q _ (fun x hx=>List.mem_cons_of_mem _ (hr x hx)) fun a ok' ha h2=>hq a ok' ha fun x hx=>h2 x (List.mem_cons_of_mem _ hx)⟩,.inr (.inl fun e n=>.inr ⟨k',h1,h2 e n⟩)⟩
theorem Tm.freeze {a:Addr} {n:Nat} (h:a.block∈rs):T P B rs (Go.freeze a n):=fun Q ok hr hq=>⟨hr _ h,hq () ok trivial fun _ x=>x⟩
theorem Tm.frozen {a:Addr}:T P B rs (Go.frozen a):=fun Q ok _ hq b=>hq b ok trivial fun _ x=>x
theorem Tm.choose {q:Question}:T P B rs (Go.choose q):=fun Q ok _ hq n=>hq n ok trivial fun _ x=>x
theorem Tm.program_bind {k:Program->Sem α} (h:k (muteP B P)=k P) (hk:Tm P B φ rs (k P)):Tm P B φ rs (Go.program >>= k):=fun Q ok hr hq=>.inl ⟨hk Q ok hr hq,h⟩
theorem Tm.program_ends {k:Program->Sem α} (h:Ends (k (muteP B P))):Tm P B φ rs (Go.program >>= k):=fun Q ok hr hq=>.inr h
theorem Tm.noRoom:T P B rs (Go.mark .noRoom):=fun Q ok _ hq=>⟨.inl rfl,hq () ok trivial fun _ x=>x⟩
theorem Tm.extern {f:FuncId}:T P B rs (Go.mark (.extern f)):=fun Q ok _ hq=>⟨.inr ⟨f,rfl⟩,hq () ok trivial fun _ x=>x⟩
theorem Tm.getObj {r:Nat} {k:Obj->Sem α} (hs:Stops k) (hk:∀ o,HeapOk P B o->Tm P B φ (r::rs) (k o)):Tm P B φ rs (Go.getObj r >>= k):=fun Q ok hr hq =>
 .inl ⟨hs,fun o ho=>hk o ho Q (2 * r::ok) (fun x hx=>by
  rcases List.mem_cons.1 hx with rfl | hx
  ·exact List.mem_cons_self ..
  ·exact List.mem_cons_of_mem _ (hr x hx)) fun a ok' ha h2=>hq a ok' ha fun x hx=>h2 x (List.mem_cons_of_mem _ hx)⟩
theorem Tm.setObj {r:Nat} {o:Obj} (hr:r∈rs) (ho:HeapOk P B o) (hc:o.isChan=false):T P B rs (Go.setObj r o):=fun Q ok hrs hq=>⟨hrs r hr,ho,hc,hq () ok trivial fun _ x=>x⟩
theorem Tm.forInList {γ:Type} {f:γ->β->Sem (ForInStep β)} (hf:∀ c b,T P B rs (f c b)):∀ (l:List γ) (b:β),T P B rs (forIn l b f)
 | [],b=>by rw [List.forIn_nil];exact Tm.pure trivial
 | c::l,b=>by
  rw [List.forIn_cons];refine Tm.bindT (hf c b) fun x=>?_
  cases x with
  | done b=>exact Tm.pure trivial
  | yield b=>exact Tm.forInList hf l b
theorem Tm.forInArray {γ:Type} {f:γ->β->Sem (ForInStep β)} {l:Array γ} {b:β} (hf:∀ c b,T P B rs (f c b)):T P B rs (forIn l b f):=by
 rw [<- Array.forIn_toList];exact Tm.forInList hf _ _
theorem Tm.forInRange {f:Nat->β->Sem (ForInStep β)} {l:Std.Legacy.Range} {b:β} (hf:∀ c b,T P B rs (f c b)):T P B rs (forIn l b f):=by
 rw [Std.Legacy.Range.forIn_eq_forIn_range'];exact Tm.forInList hf _ _
theorem Tm.mapMList {γ:Type} {f:γ->Sem β} (hf:∀ c,T P B rs (f c)):∀ (l:List γ),T P B rs (l.mapM f)
 | []=>by rw [List.mapM_nil];exact Tm.pure trivial
 | c::l=>by
  rw [List.mapM_cons];exact Tm.bindT (hf c) fun x=>Tm.bindT (Tm.mapMList hf l) fun _=>Tm.pure trivial
theorem Tm.mapMArray {γ:Type} {f:γ->Sem β} {l:Array γ} (hf:∀ c,T P B rs (f c)):T P B rs (l.mapM f):=by
 rw [Array.mapM_eq_mapM_toList];exact Tm.map (Tm.mapMList hf _) fun _ _=>trivial
theorem Tm.foldlM {γ:Type} {f:β->γ->Sem β} (hf:∀ b c,T P B rs (f b c)):∀ (l:List γ) (b:β),T P B rs (l.foldlM f b)
 | [],b=>by rw [List.foldlM_nil];exact Tm.pure trivial
 | c::l,b=>by
  rw [List.foldlM_cons];exact Tm.bindT (hf b c) fun x=>Tm.foldlM hf l x
end
section
variable {P:Program} {B:Nat->Bool} {rs:List Nat}
theorem tm_typeInfo {t:TypeId}:T P B rs (typeInfo t):=by unfold typeInfo;(repeat' (first | with_reducible exact Tm.stuck | ((with_reducible refine Tm.pure ?_);first | trivial | skip) | ((with_reducible refine Tm.program_bind ?_ ?_);(· first | (simp only [stood_mute,holdsPacked_mute,eqGuardType_mute,cellAtBytes_mute,depth_mute,cells_mute,bytes_mute];done) | (simp only [stood_mute,holdsPacked_mute,eqGuardType_mute,cellAtBytes_mute,depth_mute,cells_mute,bytes_mute];rfl) | rfl)) | split | (dsimp only)))
theorem tm_underlying {t:TypeId}:T P B rs (underlying t):=by unfold underlying;(repeat' (first | with_reducible exact Tm.stuck | ((with_reducible refine Tm.pure ?_);first | trivial | skip) | ((with_reducible refine Tm.program_bind ?_ ?_);(· first | (simp only [stood_mute,holdsPacked_mute,eqGuardType_mute,cellAtBytes_mute,depth_mute,cells_mute,bytes_mute];done) | (simp only [stood_mute,holdsPacked_mute,eqGuardType_mute,cellAtBytes_mute,depth_mute,cells_mute,bytes_mute];rfl) | rfl)) | split | (dsimp only)))
theorem tm_underlying' {t:TypeId}:Tm P B (fun d=>P.underlying t=some d) rs (underlying t):=by
 unfold underlying;refine Tm.program_bind rfl ?_;split
 ·rename_i h;exact Tm.pure h
 ·exact Tm.stuck
theorem tm_typeStr {t:TypeId}:T P B rs (typeStr t):=by unfold typeStr;(repeat' (first | with_reducible exact tm_typeInfo | exact Tm.uns (by simp) | (with_reducible first | refine Tm.bindT ?_ fun _=>?_ | refine Tm.ite (fun _=>?_) (fun _=>?_)) | ((with_reducible refine Tm.pure ?_);first | trivial | skip) | split | (dsimp only)))
theorem tm_zeroValue {t:TypeId}:T P B rs (zeroValue t):=by unfold zeroValue;(repeat' (first | with_reducible exact tm_typeInfo | exact Tm.uns (by simp) | ((with_reducible refine Tm.pure ?_);first | trivial | skip) | (with_reducible refine Tm.bindT ?_ fun _=>?_) | split | (dsimp only)))
theorem tm_sizeOf {t:TypeId}:T P B rs (sizeOf t):=by unfold sizeOf;(repeat' (first | (with_reducible first | exact tm_typeInfo | refine Tm.bindT ?_ fun _=>?_) | ((with_reducible refine Tm.pure ?_);first | trivial | skip) | split | (dsimp only)))
theorem tm_isAgg {t:TypeId}:T P B rs (isAgg t):=by unfold isAgg;(repeat' (first | (with_reducible first | exact tm_underlying | refine Tm.bindT ?_ fun _=>?_) | ((with_reducible refine Tm.pure ?_);first | trivial | skip) | split | (dsimp only)))
theorem tm_elemOf {t:TypeId}:T P B rs (elemOf t):=by unfold elemOf;(repeat' (first | (with_reducible first | exact tm_underlying | exact Tm.stuck | refine Tm.bindT ?_ fun _=>?_) | ((with_reducible refine Tm.pure ?_);first | trivial | skip) | split | (dsimp only)))
theorem tm_newRow {t:TypeId} {c:Array Value}:T P B rs (newRow t c):=by unfold newRow;(repeat' (first | ((with_reducible refine Tm.newObj ?_);trivial) | ((with_reducible refine Tm.pure ?_);first | trivial | skip) | (with_reducible refine Tm.bindT ?_ fun _=>?_) | split | (dsimp only)))
theorem Tm.newRow_bind {α:Type} {φ:α->Prop} {t:TypeId} {c:Array Value} {k:Addr->Sem α} (hk:∀ a:Addr,Tm P B φ (a.block::rs) (k a)):Tm P B φ rs (newRow t c >>= k):=by
 unfold newRow;exact Tm.newObj_bind (k:=fun r=>k ⟨r,0,none⟩) trivial fun r=>hk ⟨r,0,none⟩
theorem tm_newVar {t:TypeId} {v:Value}:T P B rs (newVar t v):=tm_newRow
theorem tm_loadCellsFrom {a:Addr}:∀ (n i:Nat) (acc:Array Value),T P B rs (loadCellsFrom a i n acc)
 | 0,i,acc=>Tm.pure trivial
 | n+1,i,acc=>Tm.bindT Tm.load fun v=>tm_loadCellsFrom n (i+1) (acc.push v)
theorem tm_loadCells {a:Addr} {n:Nat}:T P B rs (loadCells a n):=tm_loadCellsFrom n 0 #[]
theorem tm_storeCells {a:Addr}:∀ (vs:List Value) (i:Nat),T P B rs (storeCells a vs i)
 | [],i=>Tm.pure trivial
 | v::vs,i=>Tm.bindT Tm.store fun _=>tm_storeCells vs (i+1)
theorem tm_loadVar {t:TypeId} {a:Addr}:T P B rs (loadVar t a):=by unfold loadVar;(repeat' (first | (with_reducible first | exact tm_loadCells | exact tm_sizeOf | exact tm_isAgg | exact Tm.load | refine Tm.bindT ?_ fun _=>?_ | refine Tm.ite (fun _=>?_) (fun _=>?_)) | ((with_reducible refine Tm.pure ?_);first | trivial | skip) | split | (dsimp only)))
theorem tm_storeVar {t:TypeId} {a:Addr} {v:Value}:T P B rs (storeVar t a v):=by unfold storeVar;(repeat' (first | (with_reducible first | exact tm_storeCells _ _ | exact tm_sizeOf | exact Tm.stuck | refine Tm.bindT ?_ fun _=>?_ | refine Tm.ite (fun _=>?_) (fun _=>?_)) | split | (dsimp only)))
theorem tm_part {t:TypeId} {cs:Array Value} {o:Nat}:T P B rs (part t cs o):=by unfold part;(repeat' (first | (with_reducible first | exact tm_sizeOf | exact tm_isAgg | exact Tm.stuck | refine Tm.bindT ?_ fun _=>?_ | refine Tm.ite (fun _=>?_) (fun _=>?_)) | ((with_reducible refine Tm.pure ?_);first | trivial | skip) | split | (dsimp only)))
theorem tm_runtimePanic {α:Type} {φ:α->Prop} {e:RuntimeError}:Tm P B φ rs (runtimePanic e):=by unfold runtimePanic;(repeat' (first | (with_reducible first | exact tm_newVar | exact tm_elemOf | exact Tm.goPanic) | ((with_reducible refine Tm.program_bind ?_ ?_);(· first | (simp only [stood_mute,holdsPacked_mute,eqGuardType_mute,cellAtBytes_mute,depth_mute,cells_mute,bytes_mute];done) | (simp only [stood_mute,holdsPacked_mute,eqGuardType_mute,cellAtBytes_mute,depth_mute,cells_mute,bytes_mute];rfl) | rfl)) | (with_reducible refine Tm.bindT ?_ fun _=>?_) | split | (dsimp only)))
theorem tm_boundsPanic {α:Type} {φ:α->Prop} {k:IntKind} {x y:Int} {c:BoundsCode}:Tm P B φ rs (boundsPanic k x y c):=by unfold boundsPanic;(repeat' (first | (with_reducible first | exact tm_runtimePanic | exact Tm.choose | refine Tm.bindT ?_ fun _=>?_ | refine Tm.map (ψ:=fun _=>True) ?_ fun _ _=>trivial | refine Tm.ite (fun _=>?_) (fun _=>?_)) | ((with_reducible refine Tm.pure ?_);first | trivial | skip) | split | (dsimp only)))
theorem tm_asIntOf {v:Value}:T P B rs (asIntOf v):=by unfold asIntOf;(repeat' (first | with_reducible exact Tm.stuck | exact Tm.uns (by simp) | ((with_reducible refine Tm.pure ?_);first | trivial | skip) | split | (dsimp only)))
theorem tm_asBool {v:Value}:T P B rs (asBool v):=by unfold asBool;(repeat' (first | with_reducible exact Tm.stuck | ((with_reducible refine Tm.pure ?_);first | trivial | skip) | split | (dsimp only)))
theorem tm_asString {v:Value}:T P B rs (asString v):=by unfold asString;(repeat' (first | with_reducible exact Tm.stuck | ((with_reducible refine Tm.pure ?_);first | trivial | skip) | split | (dsimp only)))
theorem tm_asAgg {v:Value}:T P B rs (asAgg v):=by unfold asAgg;(repeat' (first | with_reducible exact Tm.stuck | ((with_reducible refine Tm.pure ?_);first | trivial | skip) | split | (dsimp only)))
theorem tm_asAddr {v:Value}:T P B rs (asAddr v):=by unfold asAddr;(repeat' (first | (with_reducible first | exact tm_runtimePanic | exact Tm.stuck) | ((with_reducible refine Tm.pure ?_);first | trivial | skip) | split | (dsimp only)))
theorem tm_asInt {v:Value}:T P B rs (asInt v):=by unfold asInt;(repeat' (first | (with_reducible first | exact tm_asIntOf | refine Tm.bindT ?_ fun _=>?_) | ((with_reducible refine Tm.pure ?_);first | trivial | skip) | split | (dsimp only)))
theorem tm_viewAt {r:Nat}:T P B rs (viewAt r):=by
 unfold viewAt;refine Tm.shape_peek (k':=_) rfl (fun _ _=>rfl) (fun o ho=>by cases o <;> first | rfl | cases ho) (fun s=>Tm.pure trivial) fun o ho=>?_;cases o <;> exact Tm.pure' trivial
theorem tm_numberAt {r:Nat}:T P B rs (numberAt r):=by
 unfold numberAt;refine Tm.shape_peek (k':=_) rfl (fun _ _=>rfl) (fun o ho=>by cases o <;> first | rfl | cases ho) (fun s=>Tm.pure trivial) fun o ho=>?_;cases o <;> exact Tm.pure' trivial
theorem tm_asNumber {a:Addr} {b:Bool}:T P B rs (asNumber a b):=by unfold asNumber;(repeat' (first | ((with_reducible refine Tm.newObj ?_);trivial) | ((with_reducible refine Tm.pure ?_);first | trivial | skip) | (with_reducible refine Tm.bindT ?_ fun _=>?_) | split | (dsimp only)))
theorem tm_behindNumber {a:Addr}:T P B rs (behindNumber a):=by unfold behindNumber;(repeat' (first | (with_reducible first | exact tm_numberAt | refine Tm.bindT ?_ fun _=>?_) | ((with_reducible refine Tm.pure ?_);first | trivial | skip) | split | (dsimp only)))
theorem tm_noView {a:Addr}:T P B rs (noView a):=by unfold noView;(repeat' (first | with_reducible exact tm_viewAt | exact Tm.uns (by simp) | (with_reducible first | refine Tm.bindT ?_ fun _=>?_ | refine Tm.ite (fun _=>?_) (fun _=>?_)) | ((with_reducible refine Tm.pure ?_);first | trivial | skip) | split | (dsimp only)))
theorem tm_markStringish {a:Addr} (h:a.block∈rs):T P B rs (markStringish a):=by
 unfold markStringish;refine Tm.bindT (Tm.shape_live h) fun s=>?_;split
 ·exact Tm.freeze h
 ·exact Tm.pure trivial
theorem tm_stringish {a:Addr}:T P B rs (stringish a):=by
 unfold stringish;refine Tm.bindT Tm.frozen fun b=>Tm.ite (fun _=>Tm.pure trivial) fun _=>?_;refine Tm.shape_real (fun e n=>⟨_,_,rfl,rfl,rfl⟩) fun s=>?_;split
 ·exact Tm.frozen
 ·exact Tm.pure trivial
theorem tm_askRoom {n:Nat}:T P B rs (askRoom n):=by unfold askRoom;(repeat' (first | (with_reducible first | exact Tm.noRoom | refine Tm.ite (fun _=>?_) (fun _=>?_)) | ((with_reducible refine Tm.pure ?_);first | trivial | skip) | split | (dsimp only)))
theorem tm_mayBeOne {a b:Addr}:T P B rs (mayBeOne a b):=by
 unfold mayBeOne;dsimp only;have hn:∀ {r:Nat},T P B rs (do pure ((<- Go.shape r) matches some (_,0)):Sem Bool):=fun {r}=>Tm.shape_same (fun _ _=>rfl) fun _=>Tm.pure trivial
 (repeat' (first | with_reducible exact tm_stringish | exact hn | ((with_reducible refine Tm.pure ?_);first | trivial | skip) | (with_reducible refine Tm.bindT ?_ fun _=>?_) | split))
theorem tm_sameAddr {a b:Addr}:T P B rs (sameAddr a b):=by unfold sameAddr;(repeat' (first | (with_reducible first | exact tm_mayBeOne | exact tm_noView) | exact Tm.uns (by simp) | (with_reducible first | exact Tm.frozen | exact Tm.choose | refine Tm.bindT ?_ fun _=>?_ | refine Tm.ite (fun _=>?_) (fun _=>?_)) | ((with_reducible refine Tm.pure ?_);first | trivial | skip) | split | (dsimp only)))
theorem tm_samePointer {a b:Option Addr}:T P B rs (samePointer a b):=by unfold samePointer;(repeat' (first | with_reducible exact tm_sameAddr | ((with_reducible refine Tm.pure ?_);first | trivial | skip) | split | (dsimp only)))
theorem tm_byteOf {a:Addr}:T P B rs (byteOf a):=by
 unfold byteOf;split
 ·exact Tm.pure trivial
 refine Tm.program_bind ((by simp only [byteOfCell_mute,depth_mute,cells_mute,bytes_mute];try rfl)) ?_;refine Tm.bindT tm_noView fun _=>?_;refine Tm.shape_ends (Ends.halt (h:=.stuck _) trivial (by simp)) fun s=>?_
 (repeat' (first | (with_reducible first | exact Tm.stuck | refine Tm.ite (fun _=>?_) (fun _=>?_)) | ((with_reducible refine Tm.pure ?_);first | trivial | skip) | split | (dsimp only)))
theorem tm_partAt {a:Addr} {n m:Nat}:T P B rs (partAt a n m):=by unfold partAt;(repeat' (first | (with_reducible first | exact tm_byteOf | refine Tm.bindT ?_ fun _=>?_) | ((with_reducible refine Tm.pure ?_);first | trivial | skip) | split | (dsimp only)))
theorem tm_fieldPlace {a:Addr} {f:Field}:T P B rs (fieldPlace a f):=by unfold fieldPlace;(repeat' (first | (with_reducible first | exact tm_partAt | exact tm_sizeOf | refine Tm.bindT ?_ fun _=>?_ | refine Tm.ite (fun _=>?_) (fun _=>?_)) | ((with_reducible refine Tm.pure ?_);first | trivial | skip) | split | (dsimp only)))
end
section
variable {P:Program} {B:Nat->Bool} {rs:List Nat}
theorem tm_twoPlaces {a b:Addr}:T P B rs (Op.twoPlaces a b):=by unfold Op.twoPlaces;(repeat' (first | with_reducible exact tm_byteOf | exact Tm.uns (by simp) | ((with_reducible refine Tm.pure ?_);first | trivial | skip) | ((with_reducible refine Tm.program_bind ?_ ?_);(· first | (simp only [stood_mute,holdsPacked_mute,eqGuardType_mute,cellAtBytes_mute,depth_mute,cells_mute,bytes_mute];done) | (simp only [stood_mute,holdsPacked_mute,eqGuardType_mute,cellAtBytes_mute,depth_mute,cells_mute,bytes_mute];rfl) | rfl)) | (with_reducible first | refine Tm.bindT ?_ fun _=>?_ | refine Tm.ite (fun _=>?_) (fun _=>?_)) | split | (dsimp only)))
theorem tm_addrSub {k:IntKind} {a b:Addr}:T P B rs (Op.addrSub k a b):=by unfold Op.addrSub;(repeat' (first | (with_reducible first | exact tm_twoPlaces | refine Tm.bindT ?_ fun _=>?_) | ((with_reducible refine Tm.pure ?_);first | trivial | skip) | split | (dsimp only)))
theorem tm_addrCmp {k:BinOp} {a b:Addr}:T P B rs (Op.addrCmp k a b):=by unfold Op.addrCmp;(repeat' (first | with_reducible exact tm_twoPlaces | exact Tm.uns (by simp) | ((with_reducible refine Tm.pure ?_);first | trivial | skip) | (with_reducible refine Tm.bindT ?_ fun _=>?_) | split | (dsimp only)))
theorem tm_addrMod {k:IntKind} {a:Addr} {n:Int}:T P B rs (Op.addrMod k a n):=by unfold Op.addrMod;(repeat' (first | (with_reducible first | exact tm_byteOf | exact tm_typeInfo) | exact Tm.uns (by simp) | ((with_reducible refine Tm.shape_ends ?_ fun _=>?_);(· exact Ends.halt (h:=.unsupported _) trivial (by simp))) | (with_reducible first | refine Tm.bindT ?_ fun _=>?_ | refine Tm.ite (fun _=>?_) (fun _=>?_)) | ((with_reducible refine Tm.pure ?_);first | trivial | skip) | split | (dsimp only)))
theorem tm_intArith {op:BinOp} {k:IntKind} {x y:Int}:T P B rs (Op.intArith op k x y):=by unfold Op.intArith;(repeat' (first | with_reducible exact Tm.stuck | ((with_reducible refine Tm.pure ?_);first | trivial | skip) | split | (dsimp only)))
theorem tm_intBits {op:BinOp} {k:IntKind} {x y:Int}:T P B rs (Op.intBits op k x y):=by unfold Op.intBits;(repeat' (first | with_reducible exact Tm.stuck | ((with_reducible refine Tm.pure ?_);first | trivial | skip) | split | (dsimp only)))
theorem tm_intCmp {op:BinOp} {x y:Int}:T P B rs (Op.intCmp op x y):=by unfold Op.intCmp;(repeat' (first | with_reducible exact Tm.stuck | ((with_reducible refine Tm.pure ?_);first | trivial | skip) | split | (dsimp only)))
theorem tm_intDiv {op:BinOp} {k:IntKind} {x y:Int}:T P B rs (Op.intDiv op k x y):=by unfold Op.intDiv;(repeat' (first | (with_reducible first | exact tm_runtimePanic | exact Tm.stuck | refine Tm.ite (fun _=>?_) (fun _=>?_)) | ((with_reducible refine Tm.pure ?_);first | trivial | skip) | split | (dsimp only)))
theorem tm_shift {op:BinOp} {k l:IntKind} {x y:Int}:T P B rs (Op.shift op k x l y):=by unfold Op.shift;(repeat' (first | (with_reducible first | exact tm_runtimePanic | exact Tm.stuck | refine Tm.ite (fun _=>?_) (fun _=>?_)) | ((with_reducible refine Tm.pure ?_);first | trivial | skip) | split | (dsimp only)))
theorem tm_stringOp {op:BinOp} {x y:ByteArray}:T P B rs (Op.stringOp op x y):=by unfold Op.stringOp;(repeat' (first | with_reducible exact Tm.stuck | exact Tm.uns (by simp) | ((with_reducible refine Tm.pure ?_);first | trivial | skip) | (with_reducible refine Tm.ite (fun _=>?_) (fun _=>?_)) | split | (dsimp only)))
theorem tm_floatArith {op:BinOp} {k:FloatKind} {x y:Nat}:T P B rs (Op.floatArith op k x y):=by unfold Op.floatArith;(repeat' (first | (with_reducible first | exact Tm.stuck | exact Tm.choose | refine Tm.bindT ?_ fun _=>?_) | ((with_reducible refine Tm.pure ?_);first | trivial | skip) | split | (dsimp only)))
theorem tm_floatCmp {op:BinOp} {k:FloatKind} {x y:Nat}:T P B rs (Op.floatCmp op k x y):=by unfold Op.floatCmp;(repeat' (first | with_reducible exact Tm.stuck | ((with_reducible refine Tm.pure ?_);first | trivial | skip) | split | (dsimp only)))
theorem tm_floatToFloat {k l:FloatKind} {x:Nat}:T P B rs (Conv.floatToFloat k x l):=by unfold Conv.floatToFloat;(repeat' (first | (with_reducible first | exact Tm.choose | refine Tm.bindT ?_ fun _=>?_ | refine Tm.ite (fun _=>?_) (fun _=>?_)) | ((with_reducible refine Tm.pure ?_);first | trivial | skip) | split | (dsimp only)))
theorem tm_carith {op:BinOp} {k:FloatKind} {x y:Nat}:T P B rs (Op.Complex.arith op k x y):=by unfold Op.Complex.arith;(repeat' (first | (with_reducible first | exact tm_floatArith | exact Tm.stuck | refine Tm.bindT ?_ fun _=>?_) | ((with_reducible refine Tm.pure ?_);first | trivial | skip) | split | (dsimp only)))
theorem tm_ccmp {op:BinOp} {k:FloatKind} {x y:Nat}:T P B rs (Op.Complex.cmp op k x y):=by unfold Op.Complex.cmp;(repeat' (first | (with_reducible first | exact tm_floatCmp | exact tm_asBool | refine Tm.bindT ?_ fun _=>?_) | split | (dsimp only)))
theorem tm_cconv {k l:FloatKind} {x:Nat}:T P B rs (Op.Complex.conv k x l):=by unfold Op.Complex.conv;(repeat' (first | (with_reducible first | exact tm_floatToFloat | exact Tm.stuck | refine Tm.bindT ?_ fun _=>?_ | refine Tm.ite (fun _=>?_) (fun _=>?_)) | ((with_reducible refine Tm.pure ?_);first | trivial | skip) | split | (dsimp only)))
theorem tm_cadd {x y:Nat}:T P B rs (Op.Complex.add x y):=tm_carith
theorem tm_csub {x y:Nat}:T P B rs (Op.Complex.sub x y):=tm_carith
theorem tm_cmul {x y:Nat}:T P B rs (Op.Complex.mul x y):=tm_carith
theorem tm_cquo {x y:Nat}:T P B rs (Op.Complex.quo x y):=tm_carith
theorem tm_product {a b c d:Nat}:T P B rs (Op.Complex.product a b c d):=by unfold Op.Complex.product;(repeat' (first | (with_reducible first | exact tm_cadd | exact tm_csub | exact tm_cmul | refine Tm.bindT ?_ fun _=>?_) | ((with_reducible refine Tm.pure ?_);first | trivial | skip) | split | (dsimp only)))
theorem tm_corrected {s a b c d:Nat}:T P B rs (Op.Complex.corrected s a b c d):=by unfold Op.Complex.corrected;(repeat' (first | (with_reducible first | exact tm_cadd | exact tm_csub | exact tm_cmul | refine Tm.bindT ?_ fun _=>?_) | ((with_reducible refine Tm.pure ?_);first | trivial | skip) | split | (dsimp only)))
theorem tm_quotient {a b c d:Nat}:T P B rs (Op.Complex.quotient a b c d):=by unfold Op.Complex.quotient;(repeat' (first | (with_reducible first | exact tm_corrected | exact tm_cadd | exact tm_csub | exact tm_cmul | exact tm_cquo | exact tm_ccmp | refine Tm.bindT ?_ fun _=>?_ | refine Tm.ite (fun _=>?_) (fun _=>?_)) | ((with_reducible refine Tm.pure ?_);first | trivial | skip) | split | (dsimp only)))
theorem tm_complexOp {op:BinOp} {k:FloatKind} {a b c d:Nat}:T P B rs (Op.complexOp op k a b c d):=by unfold Op.complexOp;(repeat' (first | (with_reducible first | exact tm_quotient | exact tm_product | exact tm_carith | exact tm_ccmp | exact tm_cconv | exact Tm.stuck | refine Tm.bindT ?_ fun _=>?_ | refine Tm.ite (fun _=>?_) (fun _=>?_)) | ((with_reducible refine Tm.pure ?_);first | trivial | skip) | split | (dsimp only)))
theorem tm_equalIn:∀ (d:Nat) {t:TypeId} {x y:Value},T P B rs (Op.equalIn d t x y)
 | 0,t,x,y=>by unfold Op.equalIn;(repeat' (first | (with_reducible first | exact tm_byteOf | exact tm_samePointer | exact tm_sameAddr | exact tm_behindNumber | exact tm_part | exact tm_runtimePanic | exact tm_typeStr | exact tm_sizeOf | exact tm_typeInfo | exact tm_underlying | exact Tm.stuck) | exact Tm.uns (by simp) | with_reducible exact Tm.choose | ((with_reducible refine Tm.pure ?_);first | trivial | skip) | ((with_reducible refine Tm.program_bind ?_ ?_);(· first | (simp only [stood_mute,holdsPacked_mute,eqGuardType_mute,cellAtBytes_mute,depth_mute,cells_mute,bytes_mute];done) | (simp only [stood_mute,holdsPacked_mute,eqGuardType_mute,cellAtBytes_mute,depth_mute,cells_mute,bytes_mute];rfl) | rfl)) | (with_reducible first | refine Tm.bindT ?_ fun _=>?_ | refine Tm.forInArray fun _ _=>?_ | refine Tm.forInRange fun _ _=>?_ | refine Tm.ite (fun _=>?_) (fun _=>?_)) | split | (dsimp only)))
 | d+1,t,x,y=>by
  have ih:∀ {t:TypeId} {x y:Value},T P B rs (Op.equalIn d t x y):=tm_equalIn d;unfold Op.equalIn
  repeat' (first | with_reducible exact ih | (first | (with_reducible first | exact tm_byteOf | exact tm_samePointer | exact tm_sameAddr | exact tm_behindNumber | exact tm_part | exact tm_runtimePanic | exact tm_typeStr | exact tm_sizeOf | exact tm_typeInfo | exact tm_underlying | exact Tm.stuck) | exact Tm.uns (by simp) | with_reducible exact Tm.choose | ((with_reducible refine Tm.pure ?_);first | trivial | skip) | ((with_reducible refine Tm.program_bind ?_ ?_);(· first | (simp only [stood_mute,holdsPacked_mute,eqGuardType_mute,cellAtBytes_mute,depth_mute,cells_mute,bytes_mute];done) | (simp only [stood_mute,holdsPacked_mute,eqGuardType_mute,cellAtBytes_mute,depth_mute,cells_mute,bytes_mute];rfl) | rfl)) | (with_reducible first | refine Tm.bindT ?_ fun _=>?_ | refine Tm.forInArray fun _ _=>?_ | refine Tm.forInRange fun _ _=>?_ | refine Tm.ite (fun _=>?_) (fun _=>?_)) | split | (dsimp only)))
theorem tm_eqGuardIn:∀ (d:Nat) {t:TypeId} {x y:Value},T P B rs (Op.eqGuardIn d t x y)
 | 0,t,x,y=>by unfold Op.eqGuardIn;(repeat' (first | (with_reducible first | exact tm_part | exact tm_sizeOf | exact tm_underlying) | exact Tm.uns (by simp) | (with_reducible first | refine Tm.bindT ?_ fun _=>?_ | refine Tm.forInArray fun _ _=>?_ | refine Tm.forInRange fun _ _=>?_ | refine Tm.ite (fun _=>?_) (fun _=>?_)) | ((with_reducible refine Tm.pure ?_);first | trivial | skip) | split | (dsimp only)))
 | d+1,t,x,y=>by
  have ih:∀ {t:TypeId} {x y:Value},T P B rs (Op.eqGuardIn d t x y):=tm_eqGuardIn d;unfold Op.eqGuardIn
  repeat' (first | with_reducible exact ih | (first | (with_reducible first | exact tm_part | exact tm_sizeOf | exact tm_underlying) | exact Tm.uns (by simp) | (with_reducible first | refine Tm.bindT ?_ fun _=>?_ | refine Tm.forInArray fun _ _=>?_ | refine Tm.forInRange fun _ _=>?_ | refine Tm.ite (fun _=>?_) (fun _=>?_)) | ((with_reducible refine Tm.pure ?_);first | trivial | skip) | split | (dsimp only)))
theorem tm_equal {t:TypeId} {x y:Value}:T P B rs (Op.equal t x y):=tm_equalIn _
theorem tm_unsafeAdd {a:Array TypeId} {t:TypeId} {x y:Value}:T P B rs (Builtin.unsafeAdd_ a t #[x,y]):=by
 unfold Builtin.unsafeAdd_;cases x <;> first
  | exact Tm.stuck
  | (refine Tm.bindT (s:=asInt y) tm_asInt fun n=>?_;(repeat' (first | (with_reducible first | exact tm_asInt | exact tm_viewAt | exact Tm.stuck) | exact Tm.uns (by simp) | ((with_reducible refine Tm.shape_ends ?_ fun _=>?_);(· exact Ends.halt (h:=.unsupported _) trivial (by simp))) | ((with_reducible refine Tm.pure ?_);first | trivial | skip) | ((with_reducible refine Tm.program_bind ?_ ?_);(· first | (simp only [stood_mute,holdsPacked_mute,eqGuardType_mute,cellAtBytes_mute,depth_mute,cells_mute,bytes_mute];done) | (simp only [stood_mute,holdsPacked_mute,eqGuardType_mute,cellAtBytes_mute,depth_mute,cells_mute,bytes_mute];rfl) | rfl)) | (with_reducible first | refine Tm.bindT ?_ fun _=>?_ | refine Tm.ite (fun _=>?_) (fun _=>?_)) | split | (dsimp only))))
theorem tm_movedNumber {t:TypeId} {x y:Value}:T P B rs (movedNumber t x y):=by unfold movedNumber;(repeat' (first | (with_reducible first | exact tm_unsafeAdd | exact tm_asNumber | exact tm_behindNumber | exact tm_underlying) | exact Tm.uns (by simp) | (with_reducible first | refine Tm.bindT ?_ fun _=>?_ | refine Tm.ite (fun _=>?_) (fun _=>?_)) | ((with_reducible refine Tm.pure ?_);first | trivial | skip) | split | (dsimp only)))
theorem tm_movedPointer {t:TypeId} {x y:Value}:T P B rs (movedPointer t x y):=by unfold movedPointer;(repeat' (first | (with_reducible first | exact tm_unsafeAdd | exact tm_numberAt) | exact Tm.uns (by simp) | (with_reducible first | refine Tm.bindT ?_ fun _=>?_ | refine Tm.ite (fun _=>?_) (fun _=>?_)) | split | (dsimp only)))
theorem tm_eqGuard {op:BinOp} {t:TypeId} {x y:Operand} {a b:Value}:T P B rs (eqGuard op t x y a b):=by unfold eqGuard;(repeat' (first | with_reducible exact tm_eqGuardIn _ | exact Tm.uns (by simp) | ((with_reducible refine Tm.pure ?_);first | trivial | skip) | ((with_reducible refine Tm.program_bind ?_ ?_);(· first | (simp only [stood_mute,holdsPacked_mute,eqGuardType_mute,cellAtBytes_mute,depth_mute,cells_mute,bytes_mute];done) | (simp only [stood_mute,holdsPacked_mute,eqGuardType_mute,cellAtBytes_mute,depth_mute,cells_mute,bytes_mute];rfl) | rfl)) | (with_reducible first | refine Tm.bindT ?_ fun _=>?_ | refine Tm.ite (fun _=>?_) (fun _=>?_)) | split | (dsimp only)))
theorem tm_binOp {op:BinOp} {t:TypeId} {x y:Value}:T P B rs (binOp op t x y):=by unfold binOp;(repeat' (first | (with_reducible first | exact tm_movedNumber | exact tm_movedPointer | exact tm_complexOp | exact tm_equal | exact tm_addrSub | exact tm_addrCmp | exact tm_addrMod | exact tm_intArith | exact tm_intBits | exact tm_intCmp | exact tm_intDiv | exact tm_shift | exact tm_stringOp | exact tm_floatArith | exact tm_floatCmp | exact tm_behindNumber | exact tm_underlying | exact Tm.stuck) | exact Tm.uns (by simp) | (with_reducible first | refine Tm.bindT ?_ fun _=>?_ | refine Tm.ite (fun _=>?_) (fun _=>?_)) | ((with_reducible refine Tm.pure ?_);first | trivial | skip) | split | (dsimp only)))
theorem tm_unary {op:UnOp} {x:Value}:T P B rs (Op.unary op x):=by unfold Op.unary;(repeat' (first | (with_reducible first | exact tm_intArith | exact tm_intBits | exact Tm.stuck) | exact Tm.uns (by simp) | ((with_reducible refine Tm.pure ?_);first | trivial | skip) | split | (dsimp only)))
end
section
variable {P:Program} {B:Nat->Bool} {rs:List Nat}
theorem tm_intToInt {k:IntKind} {n:Int}:T P B rs (Conv.intToInt k n):=by unfold Conv.intToInt;(repeat' (first | ((with_reducible refine Tm.pure ?_);first | trivial | skip) | split | (dsimp only)))
theorem tm_intToFloat {k:FloatKind} {n:Int}:T P B rs (Conv.intToFloat k n):=by unfold Conv.intToFloat;(repeat' (first | ((with_reducible refine Tm.pure ?_);first | trivial | skip) | split | (dsimp only)))
theorem tm_floatToInt {l:IntKind} {k:FloatKind} {n:Nat}:T P B rs (Conv.floatToInt k n l):=by unfold Conv.floatToInt;(repeat' (first | (with_reducible first | exact Tm.choose | refine Tm.bindT ?_ fun _=>?_ | refine Tm.ite (fun _=>?_) (fun _=>?_)) | ((with_reducible refine Tm.pure ?_);first | trivial | skip) | split | (dsimp only)))
theorem tm_complexToComplex {k l:FloatKind} {n m:Nat}:T P B rs (Conv.complexToComplex k n m l):=by unfold Conv.complexToComplex;(repeat' (first | (with_reducible first | exact tm_floatToFloat | exact Tm.stuck | refine Tm.bindT ?_ fun _=>?_) | ((with_reducible refine Tm.pure ?_);first | trivial | skip) | split | (dsimp only)))
theorem tm_intToString {n:Int}:T P B rs (Conv.intToString n):=by unfold Conv.intToString;(repeat' (first | ((with_reducible refine Tm.pure ?_);first | trivial | skip) | split | (dsimp only)))
theorem tm_stringToBytes {e:TypeId} {s:ByteArray}:T P B rs (Conv.stringToBytes e s):=by
 unfold Conv.stringToBytes;refine Tm.bindT Tm.choose fun cap=>?_;dsimp only;refine Tm.newRow_bind fun a=>?_;exact Tm.bindT (tm_markStringish (List.mem_cons_self ..)) fun _=>Tm.pure trivial
theorem tm_stringToRunes {e:TypeId} {s:ByteArray}:T P B rs (Conv.stringToRunes e s):=by unfold Conv.stringToRunes;(repeat' (first | (with_reducible first | exact tm_newRow | exact Tm.choose | refine Tm.bindT ?_ fun _=>?_) | ((with_reducible refine Tm.pure ?_);first | trivial | skip) | split | (dsimp only)))
theorem tm_bytesToString {x:Value}:T P B rs (Conv.bytesToString x):=by unfold Conv.bytesToString;(repeat' (first | (with_reducible first | exact tm_loadCells | exact Tm.stuck | refine Tm.bindT ?_ fun _=>?_ | refine Tm.forInArray fun _ _=>?_) | ((with_reducible refine Tm.pure ?_);first | trivial | skip) | split | (dsimp only)))
theorem tm_runesToString {x:Value}:T P B rs (Conv.runesToString x):=by unfold Conv.runesToString;(repeat' (first | (with_reducible first | exact tm_loadCells | exact Tm.stuck | refine Tm.bindT ?_ fun _=>?_ | refine Tm.forInArray fun _ _=>?_) | ((with_reducible refine Tm.pure ?_);first | trivial | skip) | split | (dsimp only)))
theorem tm_convert {src dst:TypeId} {x:Value} (h:(!(P.underlying src matches some .unsafePointer) && !(P.underlying dst matches some .unsafePointer) && !((P.underlying src matches some (.slice _)) && (P.underlying dst matches some (.slice _))))=true):T P B rs (convert src dst x):=by
 unfold convert;refine Tm.bind tm_underlying' fun a ha=>Tm.bind tm_underlying' fun b hb=>?_;rw [ha,hb] at h
 (repeat' (first | (first | (with_reducible first | exact tm_intToInt | exact tm_intToFloat | exact tm_floatToInt | exact tm_complexToComplex | exact tm_intToString | exact tm_stringToBytes | exact tm_stringToRunes | exact tm_bytesToString | exact tm_runesToString | exact tm_floatToFloat | exact tm_underlying | exact Tm.stuck) | exact Tm.uns (by simp) | ((with_reducible refine Tm.pure ?_);first | trivial | skip) | (with_reducible refine Tm.bindT ?_ fun _=>?_) | split | (dsimp only)))) <;> simp_all
theorem tm_lenOf {x:Value}:T P B rs (Builtin.lenOf x):=by unfold Builtin.lenOf;(repeat' (first | with_reducible exact Tm.stuck | ((with_reducible refine Tm.pure ?_);first | trivial | skip) | split | (dsimp only)))
theorem tm_firstCells {n m:Nat} {x:Value}:T P B rs (Builtin.firstCells n m x):=by unfold Builtin.firstCells;(repeat' (first | (with_reducible first | exact tm_loadCells | exact Tm.stuck) | ((with_reducible refine Tm.pure ?_);first | trivial | skip) | split | (dsimp only)))
theorem tm_cap {a:Array TypeId} {t:TypeId} {x:Array Value}:T P B rs (Builtin.cap_ a t x):=by unfold Builtin.cap_;(repeat' (first | (with_reducible first | exact tm_underlying | exact Tm.stuck) | ((with_reducible refine Tm.pure ?_);first | trivial | skip) | ((with_reducible refine Tm.getObj ?_ fun o ho=>?_);(· exact ⟨_,rfl⟩)) | (with_reducible refine Tm.bindT ?_ fun _=>?_) | split | (dsimp only)))
theorem tm_copy {a:Array TypeId} {t:TypeId} {x:Array Value}:T P B rs (Builtin.copy_ a t x):=by unfold Builtin.copy_;(repeat' (first | (with_reducible first | exact tm_lenOf | exact tm_firstCells | exact tm_storeCells _ _ | exact tm_sizeOf | exact tm_underlying | exact Tm.stuck | refine Tm.bindT ?_ fun _=>?_) | ((with_reducible refine Tm.pure ?_);first | trivial | skip) | split | (dsimp only)))
theorem tm_len {a:Array TypeId} {t:TypeId} {x:Array Value}:T P B rs (Builtin.len_ a t x):=by unfold Builtin.len_;(repeat' (first | (with_reducible first | exact tm_underlying | exact Tm.stuck) | ((with_reducible refine Tm.pure ?_);first | trivial | skip) | ((with_reducible refine Tm.getObj ?_ fun o ho=>?_);(· exact ⟨_,rfl⟩)) | (with_reducible refine Tm.bindT ?_ fun _=>?_) | split | (dsimp only)))
theorem tm_max2 {x y:Value}:T P B rs (Builtin.max2 x y):=by unfold Builtin.max2;(repeat' (first | (with_reducible first | exact tm_stringOp | exact tm_asBool | exact Tm.stuck) | exact Tm.uns (by simp) | (with_reducible first | exact Tm.choose | refine Tm.bindT ?_ fun _=>?_) | ((with_reducible refine Tm.pure ?_);first | trivial | skip) | split | (dsimp only)))
theorem tm_min2 {x y:Value}:T P B rs (Builtin.min2 x y):=by unfold Builtin.min2;(repeat' (first | (with_reducible first | exact tm_stringOp | exact tm_asBool | exact Tm.stuck) | exact Tm.uns (by simp) | (with_reducible first | exact Tm.choose | refine Tm.bindT ?_ fun _=>?_) | ((with_reducible refine Tm.pure ?_);first | trivial | skip) | split | (dsimp only)))
theorem tm_max {a:Array TypeId} {t:TypeId} {x:Array Value}:T P B rs (Builtin.max_ a t x):=by
 unfold Builtin.max_;split
 ·(repeat' (first | with_reducible exact Tm.stuck | split | (dsimp only)))
 ·exact Tm.foldlM (fun _ _=>tm_max2) _ _
theorem tm_min {a:Array TypeId} {t:TypeId} {x:Array Value}:T P B rs (Builtin.min_ a t x):=by
 unfold Builtin.min_;split
 ·(repeat' (first | with_reducible exact Tm.stuck | split | (dsimp only)))
 ·exact Tm.foldlM (fun _ _=>tm_min2) _ _
theorem tm_checkKey {e:Bool}:∀ (d:Nat) {t:TypeId} {v:Value},T P B rs (Instr.checkKey e d t v)
 | 0,t,x=>by unfold Instr.checkKey;(repeat' (first | (with_reducible first | exact tm_part | exact tm_runtimePanic | exact tm_typeStr | exact tm_sizeOf | exact tm_typeInfo | exact tm_underlying | exact Tm.stuck) | exact Tm.uns (by simp) | (with_reducible first | refine Tm.bindT ?_ fun _=>?_ | refine Tm.forInArray fun _ _=>?_ | refine Tm.forInRange fun _ _=>?_ | refine Tm.ite (fun _=>?_) (fun _=>?_)) | ((with_reducible refine Tm.pure ?_);first | trivial | skip) | split | (dsimp only)))
 | d+1,t,x=>by
  have ih:∀ {t:TypeId} {x:Value},T P B rs (Instr.checkKey e d t x):=tm_checkKey d;unfold Instr.checkKey
  repeat' (first | with_reducible exact ih | (first | (with_reducible first | exact tm_part | exact tm_runtimePanic | exact tm_typeStr | exact tm_sizeOf | exact tm_typeInfo | exact tm_underlying | exact Tm.stuck) | exact Tm.uns (by simp) | (with_reducible first | refine Tm.bindT ?_ fun _=>?_ | refine Tm.forInArray fun _ _=>?_ | refine Tm.forInRange fun _ _=>?_ | refine Tm.ite (fun _=>?_) (fun _=>?_)) | ((with_reducible refine Tm.pure ?_);first | trivial | skip) | split | (dsimp only)))
theorem tm_findAsking {t:TypeId} {k:Value}:∀ (es:List MapEntry) (i:Nat),T P B rs (Instr.findAsking t k es i)
 | [],i=>by unfold Instr.findAsking;(repeat' (first | (with_reducible first | exact tm_equal | refine Tm.bindT ?_ fun _=>?_ | refine Tm.ite (fun _=>?_) (fun _=>?_)) | ((with_reducible refine Tm.pure ?_);first | trivial | skip) | split | (dsimp only)))
 | e::es,i=>by
  have ih:∀ i,T P B rs (Instr.findAsking t k es i):=tm_findAsking es;unfold Instr.findAsking
  repeat' (first | with_reducible exact ih _ | (first | (with_reducible first | exact tm_equal | refine Tm.bindT ?_ fun _=>?_ | refine Tm.ite (fun _=>?_) (fun _=>?_)) | ((with_reducible refine Tm.pure ?_);first | trivial | skip) | split | (dsimp only)))
theorem tm_findKey {t:TypeId} {k:Value} {es:List MapEntry}:T P B rs (Instr.findKey t k es):=by unfold Instr.findKey;(repeat' (first | (with_reducible first | exact tm_findAsking _ _ | exact tm_underlying | refine Tm.bindT ?_ fun _=>?_) | ((with_reducible refine Tm.pure ?_);first | trivial | skip) | split | (dsimp only)))
theorem tm_keyThatStays {k l:Value}:T P B rs (Instr.keyThatStays k l):=by unfold Instr.keyThatStays;(repeat' (first | (with_reducible first | exact Tm.choose | refine Tm.bindT ?_ fun _=>?_ | refine Tm.ite (fun _=>?_) (fun _=>?_)) | ((with_reducible refine Tm.pure ?_);first | trivial | skip) | split | (dsimp only)))
theorem tm_lookup {t:TypeId} {x y:Value} {b:Bool}:T P B rs (Instr.lookup t x y b):=by unfold Instr.lookup;(repeat' (first | (with_reducible first | exact tm_findKey | exact tm_checkKey _ | exact tm_zeroValue | exact tm_underlying | exact Tm.stuck) | ((with_reducible refine Tm.pure ?_);first | trivial | skip) | ((with_reducible refine Tm.getObj ?_ fun o ho=>?_);(· exact ⟨_,rfl⟩)) | (with_reducible refine Tm.bindT ?_ fun _=>?_) | split | (dsimp only)))
theorem tm_mapUpdate {t:TypeId} {x y z:Value}:T P B rs (Instr.mapUpdate t x y z):=by unfold Instr.mapUpdate;(repeat' (first | (with_reducible first | exact tm_findKey | exact tm_keyThatStays | exact tm_checkKey _ | exact tm_runtimePanic | exact tm_underlying | exact Tm.stuck) | ((with_reducible refine Tm.setObj ?_ ?_ ?_);(· simp);(· trivial);(· rfl)) | ((with_reducible refine Tm.getObj ?_ fun o ho=>?_);(· exact ⟨_,rfl⟩)) | (with_reducible refine Tm.bindT ?_ fun _=>?_) | split | (dsimp only)))
theorem tm_mapEntry {t:TypeId} {x y:Value}:T P B rs (Instr.mapEntry t x y):=by unfold Instr.mapEntry;(repeat' (first | (with_reducible first | exact tm_findKey | exact tm_keyThatStays | exact tm_checkKey _ | exact tm_runtimePanic | exact tm_zeroValue | exact tm_underlying | exact Tm.stuck) | ((with_reducible refine Tm.setObj ?_ ?_ ?_);(· simp);(· trivial);(· rfl)) | ((with_reducible refine Tm.pure ?_);first | trivial | skip) | ((with_reducible refine Tm.getObj ?_ fun o ho=>?_);(· exact ⟨_,rfl⟩)) | (with_reducible refine Tm.bindT ?_ fun _=>?_) | split | (dsimp only)))
theorem tm_entryStore {t:TypeId} {x y z:Value}:T P B rs (Instr.entryStore t x y z):=by unfold Instr.entryStore;(repeat' (first | (with_reducible first | exact tm_asInt | exact Tm.stuck) | exact Tm.uns (by simp) | ((with_reducible refine Tm.setObj ?_ ?_ ?_);(· simp);(· trivial);(· rfl)) | ((with_reducible refine Tm.getObj ?_ fun o ho=>?_);(· exact ⟨_,rfl⟩)) | (with_reducible refine Tm.bindT ?_ fun _=>?_) | split | (dsimp only)))
theorem tm_delete {a:Array TypeId} {t:TypeId} {x:Array Value}:T P B rs (Builtin.delete_ a t x):=by unfold Builtin.delete_;(repeat' (first | (with_reducible first | exact tm_findKey | exact tm_checkKey _ | exact tm_underlying | exact Tm.stuck) | ((with_reducible refine Tm.setObj ?_ ?_ ?_);(· simp);(· trivial);(· rfl)) | ((with_reducible refine Tm.pure ?_);first | trivial | skip) | ((with_reducible refine Tm.getObj ?_ fun o ho=>?_);(· exact ⟨_,rfl⟩)) | (with_reducible refine Tm.bindT ?_ fun _=>?_) | split | (dsimp only)))
theorem tm_range {t:TypeId} {x:Value}:T P B rs (Instr.range t x):=by
 unfold Instr.range;refine Tm.bindT tm_underlying fun d=>?_;split
 case h_3 =>
  refine Tm.getObj ⟨_,rfl⟩ fun o ho=>?_;split <;> exact Tm.bind (ψ:=HeapOk P B) (by (repeat' (first | (with_reducible first | exact tm_underlying | exact Tm.stuck) | ((with_reducible refine Tm.newObj ?_);trivial) | ((with_reducible refine Tm.pure ?_);first | trivial | skip) | ((with_reducible refine Tm.getObj ?_ fun o ho=>?_);(· exact ⟨_,rfl⟩)) | (with_reducible refine Tm.bindT ?_ fun _=>?_) | split | (dsimp only)))) fun it hit=>Tm.bindT (Tm.newObj hit) fun _=>Tm.pure trivial
 all_goals exact Tm.bind (ψ:=HeapOk P B) (by (repeat' (first | (with_reducible first | exact tm_underlying | exact Tm.stuck) | ((with_reducible refine Tm.newObj ?_);trivial) | ((with_reducible refine Tm.pure ?_);first | trivial | skip) | ((with_reducible refine Tm.getObj ?_ fun o ho=>?_);(· exact ⟨_,rfl⟩)) | (with_reducible refine Tm.bindT ?_ fun _=>?_) | split | (dsimp only)))) fun it hit=>Tm.bindT (Tm.newObj hit) fun _=>Tm.pure trivial
theorem tm_next {t:TypeId} {x:Value} {b:Bool}:T P B rs (Instr.next x b t):=by unfold Instr.next;(repeat' (first | with_reducible exact Tm.stuck | exact Tm.uns (by simp) | with_reducible exact Tm.choose | ((with_reducible refine Tm.setObj ?_ ?_ ?_);(· simp);(· trivial);(· rfl)) | ((with_reducible refine Tm.pure ?_);first | trivial | skip) | ((with_reducible refine Tm.getObj ?_ fun o ho=>?_);(· exact ⟨_,rfl⟩)) | (with_reducible first | refine Tm.bindT ?_ fun _=>?_ | refine Tm.ite (fun _=>?_) (fun _=>?_)) | split | (dsimp only)))
theorem tm_entry {x:Value}:T P B rs (Instr.entry x):=by unfold Instr.entry;(repeat' (first | with_reducible exact Tm.stuck | exact Tm.uns (by simp) | ((with_reducible refine Tm.pure ?_);first | trivial | skip) | ((with_reducible refine Tm.getObj ?_ fun o ho=>?_);(· exact ⟨_,rfl⟩)) | (with_reducible refine Tm.ite (fun _=>?_) (fun _=>?_)) | split | (dsimp only)))
theorem tm_sureAddr {x:Value}:T P B rs (Instr.sureAddr x):=by unfold Instr.sureAddr;(repeat' (first | with_reducible exact Tm.stuck | ((with_reducible refine Tm.pure ?_);first | trivial | skip) | split | (dsimp only)))
theorem tm_alloc {t:TypeId} {b:Bool} {x:Value}:T P B rs (Instr.alloc t b x):=by unfold Instr.alloc;(repeat' (first | (with_reducible first | exact tm_storeVar | exact tm_newVar | exact tm_zeroValue | refine Tm.bindT ?_ fun _=>?_) | ((with_reducible refine Tm.pure ?_);first | trivial | skip) | split | (dsimp only)))
theorem tm_loadAt {t:TypeId} {x:Value}:T P B rs (Instr.loadAt t x):=by unfold Instr.loadAt;(repeat' (first | (with_reducible first | exact tm_sureAddr | exact tm_loadVar | refine Tm.bindT ?_ fun _=>?_) | split | (dsimp only)))
theorem tm_storeAt {t:TypeId} {x y:Value}:T P B rs (Instr.storeAt t x y):=by unfold Instr.storeAt;(repeat' (first | (with_reducible first | exact tm_sureAddr | exact tm_storeVar | refine Tm.bindT ?_ fun _=>?_) | split | (dsimp only)))
theorem tm_fieldAt {t:TypeId} {x:Value} {n:Nat}:T P B rs (Instr.fieldAt t x n):=by unfold Instr.fieldAt;(repeat' (first | (with_reducible first | exact tm_sureAddr | exact tm_fieldPlace | exact tm_underlying | exact Tm.stuck | refine Tm.bindT ?_ fun _=>?_) | ((with_reducible refine Tm.pure ?_);first | trivial | skip) | split | (dsimp only)))
theorem tm_indexAt {t:TypeId} {x y:Value}:T P B rs (Instr.indexAt t x y):=by unfold Instr.indexAt;(repeat' (first | (with_reducible first | exact tm_sureAddr | exact tm_boundsPanic | exact tm_asIntOf | exact tm_sizeOf | exact tm_underlying | exact Tm.stuck) | exact Tm.uns (by simp) | (with_reducible first | refine Tm.bindT ?_ fun _=>?_ | refine Tm.ite (fun _=>?_) (fun _=>?_)) | ((with_reducible refine Tm.pure ?_);first | trivial | skip) | split | (dsimp only)))
theorem tm_sliceBound {x:Value} {n:Nat} {c:BoundsCode}:T P B rs (Instr.sliceBound x n c):=by unfold Instr.sliceBound;(repeat' (first | (with_reducible first | exact tm_boundsPanic | exact tm_asIntOf | refine Tm.bindT ?_ fun _=>?_ | refine Tm.ite (fun _=>?_) (fun _=>?_)) | ((with_reducible refine Tm.pure ?_);first | trivial | skip) | split | (dsimp only)))
theorem tm_sliceBounds {b:Bool} {n m:Nat} {x y z:Option Value}:T P B rs (Instr.sliceBounds b n m x y z):=by unfold Instr.sliceBounds;(repeat' (first | (with_reducible first | exact tm_sliceBound | exact Tm.stuck | refine Tm.bindT ?_ fun _=>?_) | ((with_reducible refine Tm.pure ?_);first | trivial | skip) | split | (dsimp only)))
theorem tm_slice {t:TypeId} {v:Value} {x y z:Option Value}:T P B rs (Instr.slice t v x y z):=by unfold Instr.slice;(repeat' (first | (with_reducible first | exact tm_sliceBounds | exact tm_asAddr | exact tm_sizeOf | exact tm_underlying | exact Tm.stuck | refine Tm.bindT ?_ fun _=>?_ | refine Tm.ite (fun _=>?_) (fun _=>?_)) | ((with_reducible refine Tm.pure ?_);first | trivial | skip) | split | (dsimp only)))
theorem tm_sliceAt {t:TypeId} {v:Value} {x y z:Option Value}:T P B rs (Instr.sliceAt t v x y z):=by unfold Instr.sliceAt;(repeat' (first | (with_reducible first | exact tm_slice | exact tm_sliceBounds | exact tm_sureAddr | exact tm_sizeOf | exact tm_underlying | refine Tm.bindT ?_ fun _=>?_) | ((with_reducible refine Tm.pure ?_);first | trivial | skip) | split | (dsimp only)))
theorem tm_box {t:TypeId} {v:Value}:T P B rs (Instr.box t v):=by unfold Instr.box;(repeat' (first | (with_reducible first | exact tm_newVar | refine Tm.bindT ?_ fun _=>?_) | ((with_reducible refine Tm.pure ?_);first | trivial | skip) | split | (dsimp only)))
theorem tm_build {t:TypeId} {v:Array (Nat × Value)}:T P B rs (Instr.build t v):=by unfold Instr.build;(repeat' (first | (with_reducible first | exact tm_zeroValue | exact tm_sizeOf | exact tm_underlying | exact Tm.stuck | refine Tm.bindT ?_ fun _=>?_ | refine Tm.mapMArray fun _=>?_) | ((with_reducible refine Tm.pure ?_);first | trivial | skip) | split | (dsimp only)))
theorem tm_buildSlice {t:TypeId} {n:Nat} {v:Array (Nat × Value)}:T P B rs (Instr.buildSlice t n v):=by unfold Instr.buildSlice;(repeat' (first | (with_reducible first | exact tm_zeroValue | exact tm_sizeOf | exact tm_newRow | exact tm_underlying | exact Tm.stuck) | exact Tm.uns (by simp) | (with_reducible first | refine Tm.bindT ?_ fun _=>?_ | refine Tm.ite (fun _=>?_) (fun _=>?_)) | ((with_reducible refine Tm.pure ?_);first | trivial | skip) | split | (dsimp only)))
theorem tm_makeInterface {t:TypeId} {v:Value}:T P B rs (Instr.makeInterface t v):=by unfold Instr.makeInterface;(repeat' (first | (with_reducible first | exact tm_underlying | exact Tm.stuck | refine Tm.bindT ?_ fun _=>?_) | ((with_reducible refine Tm.pure ?_);first | trivial | skip) | split | (dsimp only)))
theorem tm_makeFunc {f:Fn} {x y:Array Value}:T P B rs (Instr.makeFunc f x y):=by unfold Instr.makeFunc;(repeat' (first | ((with_reducible refine Tm.pure ?_);first | trivial | skip) | split | (dsimp only)))
theorem tm_makeMap {t:TypeId} {v:Option Value}:T P B rs (Instr.makeMap t v):=by unfold Instr.makeMap;(repeat' (first | (with_reducible first | exact tm_asInt | exact tm_underlying | exact Tm.stuck) | ((with_reducible refine Tm.newObj ?_);trivial) | ((with_reducible refine Tm.pure ?_);first | trivial | skip) | (with_reducible refine Tm.bindT ?_ fun _=>?_) | split | (dsimp only)))
theorem tm_makeChan {t:TypeId} {k:IntKind}:T P B rs (Instr.makeChan t (.int k 0)):=by
 unfold Instr.makeChan;simp only [asInt,asIntOf,pure_bind];refine Tm.bindT tm_underlying fun d=>?_;split
 ·refine Tm.bindT tm_typeInfo fun i=>Tm.ite (fun _=>Tm.bindT tm_runtimePanic fun _=>?_) fun _=>?_
  all_goals exact Tm.bindT (Tm.newObj ⟨rfl,rfl,rfl⟩) fun _=>Tm.pure trivial
 ·(repeat' (first | (with_reducible first | exact tm_runtimePanic | exact tm_typeInfo | exact tm_underlying | exact Tm.stuck) | ((with_reducible refine Tm.newObj ?_);trivial) | (with_reducible first | refine Tm.bindT ?_ fun _=>?_ | refine Tm.ite (fun _=>?_) (fun _=>?_)) | ((with_reducible refine Tm.pure ?_);first | trivial | skip) | split | (dsimp only)))
theorem tm_makeSlice {t:TypeId} {v w:Value}:T P B rs (Instr.makeSlice t v w):=by unfold Instr.makeSlice;(repeat' (first | (with_reducible first | exact tm_askRoom | exact tm_asInt | exact tm_runtimePanic | exact tm_zeroValue | exact tm_sizeOf | exact tm_newRow | exact tm_typeInfo | exact tm_underlying | exact Tm.stuck | exact Tm.choose | refine Tm.bindT ?_ fun _=>?_ | refine Tm.ite (fun _=>?_) (fun _=>?_)) | ((with_reducible refine Tm.pure ?_);first | trivial | skip) | split | (dsimp only)))
theorem tm_field {t:TypeId} {v:Value} {n:Nat}:T P B rs (Instr.field t v n):=by unfold Instr.field;(repeat' (first | (with_reducible first | exact tm_asAgg | exact tm_part | exact tm_underlying | exact Tm.stuck | refine Tm.bindT ?_ fun _=>?_) | split | (dsimp only)))
theorem tm_index {t:TypeId} {v w:Value}:T P B rs (Instr.index t v w):=by unfold Instr.index;(repeat' (first | (with_reducible first | exact tm_boundsPanic | exact tm_asIntOf | exact tm_part | exact tm_sizeOf | exact tm_underlying | exact Tm.stuck | refine Tm.bindT ?_ fun _=>?_ | refine Tm.ite (fun _=>?_) (fun _=>?_)) | ((with_reducible refine Tm.pure ?_);first | trivial | skip) | split | (dsimp only)))
theorem tm_extract {v:Value} {n:Nat}:T P B rs (Instr.extract v n):=by unfold Instr.extract;(repeat' (first | with_reducible exact Tm.stuck | ((with_reducible refine Tm.pure ?_);first | trivial | skip) | split | (dsimp only)))
end
variable {P:Program} {B:Nat->Bool} {rs:List Nat}
theorem holds_bind {α:Type} {φ:α->Prop} {a:Addr} {n:Nat} {k:Bool->Sem α} (hk:∀ b,Tm P B φ rs (k b)) (he:Ends (k false)):Tm P B φ rs (Builtin.holdsCells a n >>= k):=by
 show Tm P B φ rs (Go.shape a.block >>= fun s=>(match s with | some (_,m)=>Pure.pure (a.spot.isNone && a.off+n<=m) | none=>Pure.pure false:Sem Bool) >>= k);refine Tm.shape_ends he fun s=>?_
 cases s with
 | none=>exact hk _
 | some x=>exact hk _
theorem tm_mayShareEnds {α:Type} {φ:α->Prop} {a b c:Nat} {d:Option Addr} {x:Value} {k:Bool->Sem α} (hk:∀ y,Tm P B φ rs (k y)) (he:∀ y,Ends (k y)):Tm P B φ rs (Builtin.mayShare a b c d x >>= k):=by
 have rest:∀ there:Bool,Tm P B φ rs ((if (!there)=true then Pure.pure true else (match x with | .slice (some e) _ _=>(do Pure.pure (!(<- Builtin.holdsCells e (c * a)) || d.any (·.block == e.block))) | _=>Pure.pure false:Sem Bool)) >>= k)/\Ends ((if (!there)=true then Pure.pure true else (match x with | .slice (some e) _ _=>(do Pure.pure (!(<- Builtin.holdsCells e (c * a)) || d.any (·.block == e.block))) | _=>Pure.pure false:Sem Bool)) >>= k):=by
  intro there
  cases there with
  | false=>exact ⟨hk _,he _⟩
  | true =>
   simp only [Bool.not_true,Bool.false_eq_true,if_false];split
   ·exact ⟨holds_bind (k:=fun y=>k (!y || _)) (fun _=>hk _) (he _),Ends.shape fun s=>(by cases s <;> exact he _)⟩
   ·exact ⟨hk _,he _⟩
 cases d with
 | none=>exact (rest true).1
 | some e =>
  exact holds_bind (k:=fun y=>Go.frozen _ >>= fun z=>_) (fun y=>Tm.bindT Tm.frozen fun z=>(rest (y && !z)).1) (Ends.frozen fun z=>(rest (false && !z)).2)
theorem tm_append {a:Array TypeId} {t:TypeId} {x:Array Value}:T P B rs (Builtin.append_ a t x):=by unfold Builtin.append_;(repeat' (first | ((with_reducible refine tm_mayShareEnds (fun y=>?_) (fun y=>?_));rotate_left;(· cases y <;> first | exact Ends.halt (h:=.unsupported _) trivial (by simp) | exact Ends.mark (Ends.halt (h:=.unsupported _) trivial (by simp)))) | (with_reducible first | exact tm_lenOf | exact tm_firstCells | exact tm_askRoom | exact tm_asInt | exact tm_runtimePanic | exact tm_storeCells _ _ | exact tm_zeroValue | exact tm_sizeOf | exact tm_newRow | exact tm_typeInfo | exact tm_underlying | exact Tm.stuck) | exact Tm.uns (by simp) | (with_reducible first | exact Tm.choose | exact Tm.noRoom | refine Tm.bindT ?_ fun _=>?_ | refine Tm.ite (fun _=>?_) (fun _=>?_)) | ((with_reducible refine Tm.pure ?_);first | trivial | skip) | split | (dsimp only)))
end Mt
end Go.Proofs.YtgkajecjbflbbaaGreatDoor
