/- StoreLoaded -/
import Derived.Test.YtdjnkplgllakcaaGreatDoorSL12
set_option maxHeartbeats 4000000
set_option maxRecDepth 100000
set_option linter.all false
namespace Go.Proofs.YtdjnkplgllakcaaGreatDoor
namespace Mt
open Go
section
variable {P:Program} {rs:List Nat}
theorem tm_twoPlaces {a b:Addr}:T P rs (Op.twoPlaces a b):=by unfold Op.twoPlaces;(repeat' (first | with_reducible exact tm_byteOf | exact Tm.uns (by simp) | ((with_reducible refine Tm.pure ?_);first | trivial | skip) | ((with_reducible refine Tm.bind Tm.program fun p hp=>?_);subst hp) | (with_reducible first | refine Tm.bindT ?_ fun _=>?_ | refine Tm.ite (fun _=>?_) (fun _=>?_)) | split | (dsimp only)))
theorem tm_addrSub {k:IntKind} {a b:Addr}:T P rs (Op.addrSub k a b):=by unfold Op.addrSub;(repeat' (first | (with_reducible first | exact tm_twoPlaces | refine Tm.bindT ?_ fun _=>?_) | ((with_reducible refine Tm.pure ?_);first | trivial | skip) | split | (dsimp only)))
theorem tm_addrCmp {k:BinOp} {a b:Addr}:T P rs (Op.addrCmp k a b):=by unfold Op.addrCmp;(repeat' (first | with_reducible exact tm_twoPlaces | exact Tm.uns (by simp) | ((with_reducible refine Tm.pure ?_);first | trivial | skip) | (with_reducible refine Tm.bindT ?_ fun _=>?_) | split | (dsimp only)))
theorem tm_addrMod {k:IntKind} {a:Addr} {n:Int}:T P rs (Op.addrMod k a n):=by unfold Op.addrMod;(repeat' (first | (with_reducible first | exact tm_byteOf | exact tm_typeInfo) | exact Tm.uns (by simp) | (with_reducible first | exact Tm.shape | refine Tm.bindT ?_ fun _=>?_ | refine Tm.ite (fun _=>?_) (fun _=>?_)) | ((with_reducible refine Tm.pure ?_);first | trivial | skip) | split | (dsimp only)))
theorem tm_intArith {op:BinOp} {k:IntKind} {x y:Int}:T P rs (Op.intArith op k x y):=by unfold Op.intArith;(repeat' (first | with_reducible exact Tm.stuck | ((with_reducible refine Tm.pure ?_);first | trivial | skip) | split | (dsimp only)))
theorem tm_intBits {op:BinOp} {k:IntKind} {x y:Int}:T P rs (Op.intBits op k x y):=by unfold Op.intBits;(repeat' (first | with_reducible exact Tm.stuck | ((with_reducible refine Tm.pure ?_);first | trivial | skip) | split | (dsimp only)))
theorem tm_intCmp {op:BinOp} {x y:Int}:T P rs (Op.intCmp op x y):=by unfold Op.intCmp;(repeat' (first | with_reducible exact Tm.stuck | ((with_reducible refine Tm.pure ?_);first | trivial | skip) | split | (dsimp only)))
theorem tm_intDiv {op:BinOp} {k:IntKind} {x y:Int}:T P rs (Op.intDiv op k x y):=by unfold Op.intDiv;(repeat' (first | (with_reducible first | exact tm_runtimePanic | exact Tm.stuck | refine Tm.ite (fun _=>?_) (fun _=>?_)) | ((with_reducible refine Tm.pure ?_);first | trivial | skip) | split | (dsimp only)))
theorem tm_shift {op:BinOp} {k l:IntKind} {x y:Int}:T P rs (Op.shift op k x l y):=by unfold Op.shift;(repeat' (first | (with_reducible first | exact tm_runtimePanic | exact Tm.stuck | refine Tm.ite (fun _=>?_) (fun _=>?_)) | ((with_reducible refine Tm.pure ?_);first | trivial | skip) | split | (dsimp only)))
theorem tm_stringOp {op:BinOp} {x y:ByteArray}:T P rs (Op.stringOp op x y):=by unfold Op.stringOp;(repeat' (first | with_reducible exact Tm.stuck | exact Tm.uns (by simp) | ((with_reducible refine Tm.pure ?_);first | trivial | skip) | (with_reducible refine Tm.ite (fun _=>?_) (fun _=>?_)) | split | (dsimp only)))
theorem tm_floatArith {op:BinOp} {k:FloatKind} {x y:Nat}:T P rs (Op.floatArith op k x y):=by unfold Op.floatArith;(repeat' (first | (with_reducible first | exact Tm.stuck | exact Tm.choose | refine Tm.bindT ?_ fun _=>?_) | ((with_reducible refine Tm.pure ?_);first | trivial | skip) | split | (dsimp only)))
theorem tm_floatCmp {op:BinOp} {k:FloatKind} {x y:Nat}:T P rs (Op.floatCmp op k x y):=by unfold Op.floatCmp;(repeat' (first | with_reducible exact Tm.stuck | ((with_reducible refine Tm.pure ?_);first | trivial | skip) | split | (dsimp only)))
theorem tm_floatToFloat {k l:FloatKind} {x:Nat}:T P rs (Conv.floatToFloat k x l):=by unfold Conv.floatToFloat;(repeat' (first | (with_reducible first | exact Tm.choose | refine Tm.bindT ?_ fun _=>?_ | refine Tm.ite (fun _=>?_) (fun _=>?_)) | ((with_reducible refine Tm.pure ?_);first | trivial | skip) | split | (dsimp only)))
theorem tm_carith {op:BinOp} {k:FloatKind} {x y:Nat}:T P rs (Op.Complex.arith op k x y):=by unfold Op.Complex.arith;(repeat' (first | (with_reducible first | exact tm_floatArith | exact Tm.stuck | refine Tm.bindT ?_ fun _=>?_) | ((with_reducible refine Tm.pure ?_);first | trivial | skip) | split | (dsimp only)))
theorem tm_ccmp {op:BinOp} {k:FloatKind} {x y:Nat}:T P rs (Op.Complex.cmp op k x y):=by unfold Op.Complex.cmp;(repeat' (first | (with_reducible first | exact tm_floatCmp | exact tm_asBool | refine Tm.bindT ?_ fun _=>?_) | split | (dsimp only)))
theorem tm_cconv {k l:FloatKind} {x:Nat}:T P rs (Op.Complex.conv k x l):=by unfold Op.Complex.conv;(repeat' (first | (with_reducible first | exact tm_floatToFloat | exact Tm.stuck | refine Tm.bindT ?_ fun _=>?_ | refine Tm.ite (fun _=>?_) (fun _=>?_)) | ((with_reducible refine Tm.pure ?_);first | trivial | skip) | split | (dsimp only)))
theorem tm_cadd {x y:Nat}:T P rs (Op.Complex.add x y):=tm_carith
theorem tm_csub {x y:Nat}:T P rs (Op.Complex.sub x y):=tm_carith
theorem tm_cmul {x y:Nat}:T P rs (Op.Complex.mul x y):=tm_carith
theorem tm_cquo {x y:Nat}:T P rs (Op.Complex.quo x y):=tm_carith
theorem tm_product {a b c d:Nat}:T P rs (Op.Complex.product a b c d):=by unfold Op.Complex.product;(repeat' (first | (with_reducible first | exact tm_cadd | exact tm_csub | exact tm_cmul | refine Tm.bindT ?_ fun _=>?_) | ((with_reducible refine Tm.pure ?_);first | trivial | skip) | split | (dsimp only)))
theorem tm_corrected {s a b c d:Nat}:T P rs (Op.Complex.corrected s a b c d):=by unfold Op.Complex.corrected;(repeat' (first | (with_reducible first | exact tm_cadd | exact tm_csub | exact tm_cmul | refine Tm.bindT ?_ fun _=>?_) | ((with_reducible refine Tm.pure ?_);first | trivial | skip) | split | (dsimp only)))
theorem tm_quotient {a b c d:Nat}:T P rs (Op.Complex.quotient a b c d):=by unfold Op.Complex.quotient;(repeat' (first | (with_reducible first | exact tm_corrected | exact tm_cadd | exact tm_csub | exact tm_cmul | exact tm_cquo | exact tm_ccmp | refine Tm.bindT ?_ fun _=>?_ | refine Tm.ite (fun _=>?_) (fun _=>?_)) | ((with_reducible refine Tm.pure ?_);first | trivial | skip) | split | (dsimp only)))
theorem tm_complexOp {op:BinOp} {k:FloatKind} {a b c d:Nat}:T P rs (Op.complexOp op k a b c d):=by unfold Op.complexOp;(repeat' (first | (with_reducible first | exact tm_quotient | exact tm_product | exact tm_carith | exact tm_ccmp | exact tm_cconv | exact Tm.stuck | refine Tm.bindT ?_ fun _=>?_ | refine Tm.ite (fun _=>?_) (fun _=>?_)) | ((with_reducible refine Tm.pure ?_);first | trivial | skip) | split | (dsimp only)))
theorem tm_equalIn:∀ (d:Nat) {t:TypeId} {x y:Value},T P rs (Op.equalIn d t x y)
 | 0,t,x,y=>by unfold Op.equalIn;(repeat' (first | (with_reducible first | exact tm_byteOf | exact tm_samePointer | exact tm_sameAddr | exact tm_behindNumber | exact tm_part | exact tm_runtimePanic | exact tm_typeStr | exact tm_sizeOf | exact tm_typeInfo | exact tm_underlying | exact Tm.stuck) | exact Tm.uns (by simp) | with_reducible exact Tm.choose | ((with_reducible refine Tm.pure ?_);first | trivial | skip) | ((with_reducible refine Tm.bind Tm.program fun p hp=>?_);subst hp) | (with_reducible first | refine Tm.bindT ?_ fun _=>?_ | refine Tm.forInArray fun _ _=>?_ | refine Tm.forInRange fun _ _=>?_ | refine Tm.ite (fun _=>?_) (fun _=>?_)) | split | (dsimp only)))
 | d+1,t,x,y=>by
  have ih:∀ {t:TypeId} {x y:Value},T P rs (Op.equalIn d t x y):=tm_equalIn d;unfold Op.equalIn
  repeat' (first | with_reducible exact ih | (first | (with_reducible first | exact tm_byteOf | exact tm_samePointer | exact tm_sameAddr | exact tm_behindNumber | exact tm_part | exact tm_runtimePanic | exact tm_typeStr | exact tm_sizeOf | exact tm_typeInfo | exact tm_underlying | exact Tm.stuck) | exact Tm.uns (by simp) | with_reducible exact Tm.choose | ((with_reducible refine Tm.pure ?_);first | trivial | skip) | ((with_reducible refine Tm.bind Tm.program fun p hp=>?_);subst hp) | (with_reducible first | refine Tm.bindT ?_ fun _=>?_ | refine Tm.forInArray fun _ _=>?_ | refine Tm.forInRange fun _ _=>?_ | refine Tm.ite (fun _=>?_) (fun _=>?_)) | split | (dsimp only)))
theorem tm_eqGuardIn:∀ (d:Nat) {t:TypeId} {x y:Value},T P rs (Op.eqGuardIn d t x y)
 | 0,t,x,y=>by unfold Op.eqGuardIn;(repeat' (first | (with_reducible first | exact tm_part | exact tm_sizeOf | exact tm_underlying) | exact Tm.uns (by simp) | (with_reducible first | refine Tm.bindT ?_ fun _=>?_ | refine Tm.forInArray fun _ _=>?_ | refine Tm.forInRange fun _ _=>?_ | refine Tm.ite (fun _=>?_) (fun _=>?_)) | ((with_reducible refine Tm.pure ?_);first | trivial | skip) | split | (dsimp only)))
 | d+1,t,x,y=>by
  have ih:∀ {t:TypeId} {x y:Value},T P rs (Op.eqGuardIn d t x y):=tm_eqGuardIn d;unfold Op.eqGuardIn
  repeat' (first | with_reducible exact ih | (first | (with_reducible first | exact tm_part | exact tm_sizeOf | exact tm_underlying) | exact Tm.uns (by simp) | (with_reducible first | refine Tm.bindT ?_ fun _=>?_ | refine Tm.forInArray fun _ _=>?_ | refine Tm.forInRange fun _ _=>?_ | refine Tm.ite (fun _=>?_) (fun _=>?_)) | ((with_reducible refine Tm.pure ?_);first | trivial | skip) | split | (dsimp only)))
theorem tm_equal {t:TypeId} {x y:Value}:T P rs (Op.equal t x y):=tm_equalIn _
theorem tm_unsafeAdd {a:Array TypeId} {t:TypeId} {x y:Value}:T P rs (Builtin.unsafeAdd_ a t #[x,y]):=by
 unfold Builtin.unsafeAdd_;cases x <;> first
  | exact Tm.stuck
  | (refine Tm.bindT (s:=asInt y) tm_asInt fun n=>?_;(repeat' (first | (with_reducible first | exact tm_asInt | exact tm_viewAt | exact Tm.stuck) | exact Tm.uns (by simp) | with_reducible exact Tm.shape | ((with_reducible refine Tm.pure ?_);first | trivial | skip) | ((with_reducible refine Tm.bind Tm.program fun p hp=>?_);subst hp) | (with_reducible first | refine Tm.bindT ?_ fun _=>?_ | refine Tm.ite (fun _=>?_) (fun _=>?_)) | split | (dsimp only))))
theorem tm_movedNumber {t:TypeId} {x y:Value}:T P rs (movedNumber t x y):=by unfold movedNumber;(repeat' (first | (with_reducible first | exact tm_unsafeAdd | exact tm_asNumber | exact tm_behindNumber | exact tm_underlying) | exact Tm.uns (by simp) | (with_reducible first | refine Tm.bindT ?_ fun _=>?_ | refine Tm.ite (fun _=>?_) (fun _=>?_)) | ((with_reducible refine Tm.pure ?_);first | trivial | skip) | split | (dsimp only)))
theorem tm_movedPointer {t:TypeId} {x y:Value}:T P rs (movedPointer t x y):=by unfold movedPointer;(repeat' (first | (with_reducible first | exact tm_unsafeAdd | exact tm_numberAt) | exact Tm.uns (by simp) | (with_reducible first | refine Tm.bindT ?_ fun _=>?_ | refine Tm.ite (fun _=>?_) (fun _=>?_)) | split | (dsimp only)))
theorem tm_eqGuard {op:BinOp} {t:TypeId} {x y:Operand} {a b:Value}:T P rs (eqGuard op t x y a b):=by unfold eqGuard;(repeat' (first | with_reducible exact tm_eqGuardIn _ | exact Tm.uns (by simp) | ((with_reducible refine Tm.pure ?_);first | trivial | skip) | ((with_reducible refine Tm.bind Tm.program fun p hp=>?_);subst hp) | (with_reducible first | refine Tm.bindT ?_ fun _=>?_ | refine Tm.ite (fun _=>?_) (fun _=>?_)) | split | (dsimp only)))
theorem tm_binOp {op:BinOp} {t:TypeId} {x y:Value}:T P rs (binOp op t x y):=by unfold binOp;(repeat' (first | (with_reducible first | exact tm_movedNumber | exact tm_movedPointer | exact tm_complexOp | exact tm_equal | exact tm_addrSub | exact tm_addrCmp | exact tm_addrMod | exact tm_intArith | exact tm_intBits | exact tm_intCmp | exact tm_intDiv | exact tm_shift | exact tm_stringOp | exact tm_floatArith | exact tm_floatCmp | exact tm_behindNumber | exact tm_underlying | exact Tm.stuck) | exact Tm.uns (by simp) | (with_reducible first | refine Tm.bindT ?_ fun _=>?_ | refine Tm.ite (fun _=>?_) (fun _=>?_)) | ((with_reducible refine Tm.pure ?_);first | trivial | skip) | split | (dsimp only)))
theorem tm_unary {op:UnOp} {x:Value}:T P rs (Op.unary op x):=by unfold Op.unary;(repeat' (first | (with_reducible first | exact tm_intArith | exact tm_intBits | exact Tm.stuck) | exact Tm.uns (by simp) | ((with_reducible refine Tm.pure ?_);first | trivial | skip) | split | (dsimp only)))
end
section
variable {P:Program} {rs:List Nat}
theorem tm_intToInt {k:IntKind} {n:Int}:T P rs (Conv.intToInt k n):=by unfold Conv.intToInt;(repeat' (first | ((with_reducible refine Tm.pure ?_);first | trivial | skip) | split | (dsimp only)))
theorem tm_intToFloat {k:FloatKind} {n:Int}:T P rs (Conv.intToFloat k n):=by unfold Conv.intToFloat;(repeat' (first | ((with_reducible refine Tm.pure ?_);first | trivial | skip) | split | (dsimp only)))
theorem tm_floatToInt {l:IntKind} {k:FloatKind} {n:Nat}:T P rs (Conv.floatToInt k n l):=by unfold Conv.floatToInt;(repeat' (first | (with_reducible first | exact Tm.choose | refine Tm.bindT ?_ fun _=>?_ | refine Tm.ite (fun _=>?_) (fun _=>?_)) | ((with_reducible refine Tm.pure ?_);first | trivial | skip) | split | (dsimp only)))
theorem tm_complexToComplex {k l:FloatKind} {n m:Nat}:T P rs (Conv.complexToComplex k n m l):=by unfold Conv.complexToComplex;(repeat' (first | (with_reducible first | exact tm_floatToFloat | exact Tm.stuck | refine Tm.bindT ?_ fun _=>?_) | ((with_reducible refine Tm.pure ?_);first | trivial | skip) | split | (dsimp only)))
theorem tm_intToString {n:Int}:T P rs (Conv.intToString n):=by unfold Conv.intToString;(repeat' (first | ((with_reducible refine Tm.pure ?_);first | trivial | skip) | split | (dsimp only)))
theorem tm_stringToBytes {e:TypeId} {s:ByteArray}:T P rs (Conv.stringToBytes e s):=by unfold Conv.stringToBytes;(repeat' (first | (with_reducible first | exact tm_markStringish | exact tm_newRow | exact Tm.choose | refine Tm.bindT ?_ fun _=>?_) | ((with_reducible refine Tm.pure ?_);first | trivial | skip) | split | (dsimp only)))
theorem tm_stringToRunes {e:TypeId} {s:ByteArray}:T P rs (Conv.stringToRunes e s):=by unfold Conv.stringToRunes;(repeat' (first | (with_reducible first | exact tm_newRow | exact Tm.choose | refine Tm.bindT ?_ fun _=>?_) | ((with_reducible refine Tm.pure ?_);first | trivial | skip) | split | (dsimp only)))
theorem tm_bytesToString {x:Value}:T P rs (Conv.bytesToString x):=by unfold Conv.bytesToString;(repeat' (first | (with_reducible first | exact tm_loadCells | exact Tm.stuck | refine Tm.bindT ?_ fun _=>?_ | refine Tm.forInArray fun _ _=>?_) | ((with_reducible refine Tm.pure ?_);first | trivial | skip) | split | (dsimp only)))
theorem tm_runesToString {x:Value}:T P rs (Conv.runesToString x):=by unfold Conv.runesToString;(repeat' (first | (with_reducible first | exact tm_loadCells | exact Tm.stuck | refine Tm.bindT ?_ fun _=>?_ | refine Tm.forInArray fun _ _=>?_) | ((with_reducible refine Tm.pure ?_);first | trivial | skip) | split | (dsimp only)))
theorem tm_convert {src dst:TypeId} {x:Value} (h:(!(P.underlying src matches some .unsafePointer) && !(P.underlying dst matches some .unsafePointer))=true):T P rs (convert src dst x):=by
 unfold convert;refine Tm.bind tm_underlying' fun a ha=>Tm.bind tm_underlying' fun b hb=>?_;rw [ha,hb] at h
 (repeat' (first | (first | (with_reducible first | exact tm_intToInt | exact tm_intToFloat | exact tm_floatToInt | exact tm_complexToComplex | exact tm_intToString | exact tm_stringToBytes | exact tm_stringToRunes | exact tm_bytesToString | exact tm_runesToString | exact tm_floatToFloat | exact tm_markStringish | exact tm_underlying | exact Tm.stuck) | exact Tm.uns (by simp) | ((with_reducible refine Tm.pure ?_);first | trivial | skip) | (with_reducible refine Tm.bindT ?_ fun _=>?_) | split | (dsimp only)))) <;> simp_all
theorem tm_holdsCells {a:Addr} {n:Nat}:T P rs (Builtin.holdsCells a n):=by unfold Builtin.holdsCells;(repeat' (first | (with_reducible first | exact Tm.shape | refine Tm.bindT ?_ fun _=>?_) | ((with_reducible refine Tm.pure ?_);first | trivial | skip) | split | (dsimp only)))
theorem tm_mayShare {a b c:Nat} {d:Option Addr} {x:Value}:T P rs (Builtin.mayShare a b c d x):=by unfold Builtin.mayShare;(repeat' (first | (with_reducible first | exact tm_holdsCells | exact Tm.frozen | refine Tm.bindT ?_ fun _=>?_ | refine Tm.ite (fun _=>?_) (fun _=>?_)) | ((with_reducible refine Tm.pure ?_);first | trivial | skip) | split | (dsimp only)))
theorem tm_lenOf {x:Value}:T P rs (Builtin.lenOf x):=by unfold Builtin.lenOf;(repeat' (first | with_reducible exact Tm.stuck | ((with_reducible refine Tm.pure ?_);first | trivial | skip) | split | (dsimp only)))
theorem tm_firstCells {n m:Nat} {x:Value}:T P rs (Builtin.firstCells n m x):=by unfold Builtin.firstCells;(repeat' (first | (with_reducible first | exact tm_loadCells | exact Tm.stuck) | ((with_reducible refine Tm.pure ?_);first | trivial | skip) | split | (dsimp only)))
theorem tm_cap {a:Array TypeId} {t:TypeId} {x:Array Value}:T P rs (Builtin.cap_ a t x):=by unfold Builtin.cap_;(repeat' (first | (with_reducible first | exact tm_underlying | exact Tm.stuck) | ((with_reducible refine Tm.pure ?_);first | trivial | skip) | ((with_reducible refine Tm.getObj ?_ fun o ho=>?_);(· exact ⟨_,rfl⟩)) | (with_reducible refine Tm.bindT ?_ fun _=>?_) | split | (dsimp only)))
theorem tm_copy {a:Array TypeId} {t:TypeId} {x:Array Value}:T P rs (Builtin.copy_ a t x):=by unfold Builtin.copy_;(repeat' (first | (with_reducible first | exact tm_lenOf | exact tm_firstCells | exact tm_storeCells _ _ | exact tm_sizeOf | exact tm_underlying | exact Tm.stuck | refine Tm.bindT ?_ fun _=>?_) | ((with_reducible refine Tm.pure ?_);first | trivial | skip) | split | (dsimp only)))
theorem tm_len {a:Array TypeId} {t:TypeId} {x:Array Value}:T P rs (Builtin.len_ a t x):=by unfold Builtin.len_;(repeat' (first | (with_reducible first | exact tm_underlying | exact Tm.stuck) | ((with_reducible refine Tm.pure ?_);first | trivial | skip) | ((with_reducible refine Tm.getObj ?_ fun o ho=>?_);(· exact ⟨_,rfl⟩)) | (with_reducible refine Tm.bindT ?_ fun _=>?_) | split | (dsimp only)))
theorem tm_max2 {x y:Value}:T P rs (Builtin.max2 x y):=by unfold Builtin.max2;(repeat' (first | (with_reducible first | exact tm_stringOp | exact tm_asBool | exact Tm.stuck) | exact Tm.uns (by simp) | (with_reducible first | exact Tm.choose | refine Tm.bindT ?_ fun _=>?_) | ((with_reducible refine Tm.pure ?_);first | trivial | skip) | split | (dsimp only)))
theorem tm_min2 {x y:Value}:T P rs (Builtin.min2 x y):=by unfold Builtin.min2;(repeat' (first | (with_reducible first | exact tm_stringOp | exact tm_asBool | exact Tm.stuck) | exact Tm.uns (by simp) | (with_reducible first | exact Tm.choose | refine Tm.bindT ?_ fun _=>?_) | ((with_reducible refine Tm.pure ?_);first | trivial | skip) | split | (dsimp only)))
theorem tm_max {a:Array TypeId} {t:TypeId} {x:Array Value}:T P rs (Builtin.max_ a t x):=by
 unfold Builtin.max_;split
 ·(repeat' (first | with_reducible exact Tm.stuck | split | (dsimp only)))
 ·exact Tm.foldlM (fun _ _=>tm_max2) _ _
theorem tm_min {a:Array TypeId} {t:TypeId} {x:Array Value}:T P rs (Builtin.min_ a t x):=by
 unfold Builtin.min_;split
 ·(repeat' (first | with_reducible exact Tm.stuck | split | (dsimp only)))
 ·exact Tm.foldlM (fun _ _=>tm_min2) _ _
theorem tm_checkKey {e:Bool}:∀ (d:Nat) {t:TypeId} {v:Value},T P rs (Instr.checkKey e d t v)
 | 0,t,x=>by unfold Instr.checkKey;(repeat' (first | (with_reducible first | exact tm_part | exact tm_runtimePanic | exact tm_typeStr | exact tm_sizeOf | exact tm_typeInfo | exact tm_underlying | exact Tm.stuck) | exact Tm.uns (by simp) | (with_reducible first | refine Tm.bindT ?_ fun _=>?_ | refine Tm.forInArray fun _ _=>?_ | refine Tm.forInRange fun _ _=>?_ | refine Tm.ite (fun _=>?_) (fun _=>?_)) | ((with_reducible refine Tm.pure ?_);first | trivial | skip) | split | (dsimp only)))
 | d+1,t,x=>by
  have ih:∀ {t:TypeId} {x:Value},T P rs (Instr.checkKey e d t x):=tm_checkKey d;unfold Instr.checkKey
  repeat' (first | with_reducible exact ih | (first | (with_reducible first | exact tm_part | exact tm_runtimePanic | exact tm_typeStr | exact tm_sizeOf | exact tm_typeInfo | exact tm_underlying | exact Tm.stuck) | exact Tm.uns (by simp) | (with_reducible first | refine Tm.bindT ?_ fun _=>?_ | refine Tm.forInArray fun _ _=>?_ | refine Tm.forInRange fun _ _=>?_ | refine Tm.ite (fun _=>?_) (fun _=>?_)) | ((with_reducible refine Tm.pure ?_);first | trivial | skip) | split | (dsimp only)))
theorem tm_findAsking {t:TypeId} {k:Value}:∀ (es:List MapEntry) (i:Nat),T P rs (Instr.findAsking t k es i)
 | [],i=>by unfold Instr.findAsking;(repeat' (first | (with_reducible first | exact tm_equal | refine Tm.bindT ?_ fun _=>?_ | refine Tm.ite (fun _=>?_) (fun _=>?_)) | ((with_reducible refine Tm.pure ?_);first | trivial | skip) | split | (dsimp only)))
 | e::es,i=>by
  have ih:∀ i,T P rs (Instr.findAsking t k es i):=tm_findAsking es;unfold Instr.findAsking
  repeat' (first | with_reducible exact ih _ | (first | (with_reducible first | exact tm_equal | refine Tm.bindT ?_ fun _=>?_ | refine Tm.ite (fun _=>?_) (fun _=>?_)) | ((with_reducible refine Tm.pure ?_);first | trivial | skip) | split | (dsimp only)))
theorem tm_findKey {t:TypeId} {k:Value} {es:List MapEntry}:T P rs (Instr.findKey t k es):=by unfold Instr.findKey;(repeat' (first | (with_reducible first | exact tm_findAsking _ _ | exact tm_underlying | refine Tm.bindT ?_ fun _=>?_) | ((with_reducible refine Tm.pure ?_);first | trivial | skip) | split | (dsimp only)))
theorem tm_keyThatStays {k l:Value}:T P rs (Instr.keyThatStays k l):=by unfold Instr.keyThatStays;(repeat' (first | (with_reducible first | exact Tm.choose | refine Tm.bindT ?_ fun _=>?_ | refine Tm.ite (fun _=>?_) (fun _=>?_)) | ((with_reducible refine Tm.pure ?_);first | trivial | skip) | split | (dsimp only)))
theorem tm_lookup {t:TypeId} {x y:Value} {b:Bool}:T P rs (Instr.lookup t x y b):=by unfold Instr.lookup;(repeat' (first | (with_reducible first | exact tm_findKey | exact tm_checkKey _ | exact tm_zeroValue | exact tm_underlying | exact Tm.stuck) | ((with_reducible refine Tm.pure ?_);first | trivial | skip) | ((with_reducible refine Tm.getObj ?_ fun o ho=>?_);(· exact ⟨_,rfl⟩)) | (with_reducible refine Tm.bindT ?_ fun _=>?_) | split | (dsimp only)))
theorem tm_mapUpdate {t:TypeId} {x y z:Value}:T P rs (Instr.mapUpdate t x y z):=by unfold Instr.mapUpdate;(repeat' (first | (with_reducible first | exact tm_findKey | exact tm_keyThatStays | exact tm_checkKey _ | exact tm_runtimePanic | exact tm_underlying | exact Tm.stuck) | ((with_reducible refine Tm.setObj ?_ ?_ ?_);(· simp);(· trivial);(· rfl)) | ((with_reducible refine Tm.getObj ?_ fun o ho=>?_);(· exact ⟨_,rfl⟩)) | (with_reducible refine Tm.bindT ?_ fun _=>?_) | split | (dsimp only)))
theorem tm_mapEntry {t:TypeId} {x y:Value}:T P rs (Instr.mapEntry t x y):=by unfold Instr.mapEntry;(repeat' (first | (with_reducible first | exact tm_findKey | exact tm_keyThatStays | exact tm_checkKey _ | exact tm_runtimePanic | exact tm_zeroValue | exact tm_underlying | exact Tm.stuck) | ((with_reducible refine Tm.setObj ?_ ?_ ?_);(· simp);(· trivial);(· rfl)) | ((with_reducible refine Tm.pure ?_);first | trivial | skip) | ((with_reducible refine Tm.getObj ?_ fun o ho=>?_);(· exact ⟨_,rfl⟩)) | (with_reducible refine Tm.bindT ?_ fun _=>?_) | split | (dsimp only)))
theorem tm_entryStore {t:TypeId} {x y z:Value}:T P rs (Instr.entryStore t x y z):=by unfold Instr.entryStore;(repeat' (first | (with_reducible first | exact tm_asInt | exact Tm.stuck) | exact Tm.uns (by simp) | ((with_reducible refine Tm.setObj ?_ ?_ ?_);(· simp);(· trivial);(· rfl)) | ((with_reducible refine Tm.getObj ?_ fun o ho=>?_);(· exact ⟨_,rfl⟩)) | (with_reducible refine Tm.bindT ?_ fun _=>?_) | split | (dsimp only)))
theorem tm_delete {a:Array TypeId} {t:TypeId} {x:Array Value}:T P rs (Builtin.delete_ a t x):=by unfold Builtin.delete_;(repeat' (first | (with_reducible first | exact tm_findKey | exact tm_checkKey _ | exact tm_underlying | exact Tm.stuck) | ((with_reducible refine Tm.setObj ?_ ?_ ?_);(· simp);(· trivial);(· rfl)) | ((with_reducible refine Tm.pure ?_);first | trivial | skip) | ((with_reducible refine Tm.getObj ?_ fun o ho=>?_);(· exact ⟨_,rfl⟩)) | (with_reducible refine Tm.bindT ?_ fun _=>?_) | split | (dsimp only)))
theorem tm_range {t:TypeId} {x:Value}:T P rs (Instr.range t x):=by
 unfold Instr.range;refine Tm.bindT tm_underlying fun d=>?_;split
 case h_3 =>
  refine Tm.getObj ⟨_,rfl⟩ fun o ho=>?_;split <;> exact Tm.bind (ψ:=HeapOk P) (by (repeat' (first | (with_reducible first | exact tm_underlying | exact Tm.stuck) | ((with_reducible refine Tm.newObj ?_);trivial) | ((with_reducible refine Tm.pure ?_);first | trivial | skip) | ((with_reducible refine Tm.getObj ?_ fun o ho=>?_);(· exact ⟨_,rfl⟩)) | (with_reducible refine Tm.bindT ?_ fun _=>?_) | split | (dsimp only)))) fun it hit=>Tm.bindT (Tm.newObj hit) fun _=>Tm.pure trivial
 all_goals exact Tm.bind (ψ:=HeapOk P) (by (repeat' (first | (with_reducible first | exact tm_underlying | exact Tm.stuck) | ((with_reducible refine Tm.newObj ?_);trivial) | ((with_reducible refine Tm.pure ?_);first | trivial | skip) | ((with_reducible refine Tm.getObj ?_ fun o ho=>?_);(· exact ⟨_,rfl⟩)) | (with_reducible refine Tm.bindT ?_ fun _=>?_) | split | (dsimp only)))) fun it hit=>Tm.bindT (Tm.newObj hit) fun _=>Tm.pure trivial
theorem tm_next {t:TypeId} {x:Value} {b:Bool}:T P rs (Instr.next x b t):=by unfold Instr.next;(repeat' (first | with_reducible exact Tm.stuck | exact Tm.uns (by simp) | with_reducible exact Tm.choose | ((with_reducible refine Tm.setObj ?_ ?_ ?_);(· simp);(· trivial);(· rfl)) | ((with_reducible refine Tm.pure ?_);first | trivial | skip) | ((with_reducible refine Tm.getObj ?_ fun o ho=>?_);(· exact ⟨_,rfl⟩)) | (with_reducible first | refine Tm.bindT ?_ fun _=>?_ | refine Tm.ite (fun _=>?_) (fun _=>?_)) | split | (dsimp only)))
theorem tm_entry {x:Value}:T P rs (Instr.entry x):=by unfold Instr.entry;(repeat' (first | with_reducible exact Tm.stuck | exact Tm.uns (by simp) | ((with_reducible refine Tm.pure ?_);first | trivial | skip) | ((with_reducible refine Tm.getObj ?_ fun o ho=>?_);(· exact ⟨_,rfl⟩)) | (with_reducible refine Tm.ite (fun _=>?_) (fun _=>?_)) | split | (dsimp only)))
theorem tm_sureAddr {x:Value}:T P rs (Instr.sureAddr x):=by unfold Instr.sureAddr;(repeat' (first | with_reducible exact Tm.stuck | ((with_reducible refine Tm.pure ?_);first | trivial | skip) | split | (dsimp only)))
theorem tm_alloc {t:TypeId} {b:Bool} {x:Value}:T P rs (Instr.alloc t b x):=by unfold Instr.alloc;(repeat' (first | (with_reducible first | exact tm_storeVar | exact tm_newVar | exact tm_zeroValue | refine Tm.bindT ?_ fun _=>?_) | ((with_reducible refine Tm.pure ?_);first | trivial | skip) | split | (dsimp only)))
theorem tm_loadAt {t:TypeId} {x:Value}:T P rs (Instr.loadAt t x):=by unfold Instr.loadAt;(repeat' (first | (with_reducible first | exact tm_sureAddr | exact tm_loadVar | refine Tm.bindT ?_ fun _=>?_) | split | (dsimp only)))
theorem tm_storeAt {t:TypeId} {x y:Value}:T P rs (Instr.storeAt t x y):=by unfold Instr.storeAt;(repeat' (first | (with_reducible first | exact tm_sureAddr | exact tm_storeVar | refine Tm.bindT ?_ fun _=>?_) | split | (dsimp only)))
theorem tm_fieldAt {t:TypeId} {x:Value} {n:Nat}:T P rs (Instr.fieldAt t x n):=by unfold Instr.fieldAt;(repeat' (first | (with_reducible first | exact tm_sureAddr | exact tm_fieldPlace | exact tm_underlying | exact Tm.stuck | refine Tm.bindT ?_ fun _=>?_) | ((with_reducible refine Tm.pure ?_);first | trivial | skip) | split | (dsimp only)))
theorem tm_indexAt {t:TypeId} {x y:Value}:T P rs (Instr.indexAt t x y):=by unfold Instr.indexAt;(repeat' (first | (with_reducible first | exact tm_sureAddr | exact tm_boundsPanic | exact tm_asIntOf | exact tm_sizeOf | exact tm_underlying | exact Tm.stuck) | exact Tm.uns (by simp) | (with_reducible first | refine Tm.bindT ?_ fun _=>?_ | refine Tm.ite (fun _=>?_) (fun _=>?_)) | ((with_reducible refine Tm.pure ?_);first | trivial | skip) | split | (dsimp only)))
theorem tm_sliceBound {x:Value} {n:Nat} {c:BoundsCode}:T P rs (Instr.sliceBound x n c):=by unfold Instr.sliceBound;(repeat' (first | (with_reducible first | exact tm_boundsPanic | exact tm_asIntOf | refine Tm.bindT ?_ fun _=>?_ | refine Tm.ite (fun _=>?_) (fun _=>?_)) | ((with_reducible refine Tm.pure ?_);first | trivial | skip) | split | (dsimp only)))
theorem tm_sliceBounds {b:Bool} {n m:Nat} {x y z:Option Value}:T P rs (Instr.sliceBounds b n m x y z):=by unfold Instr.sliceBounds;(repeat' (first | (with_reducible first | exact tm_sliceBound | exact Tm.stuck | refine Tm.bindT ?_ fun _=>?_) | ((with_reducible refine Tm.pure ?_);first | trivial | skip) | split | (dsimp only)))
theorem tm_slice {t:TypeId} {v:Value} {x y z:Option Value}:T P rs (Instr.slice t v x y z):=by unfold Instr.slice;(repeat' (first | (with_reducible first | exact tm_sliceBounds | exact tm_asAddr | exact tm_sizeOf | exact tm_underlying | exact Tm.stuck | refine Tm.bindT ?_ fun _=>?_ | refine Tm.ite (fun _=>?_) (fun _=>?_)) | ((with_reducible refine Tm.pure ?_);first | trivial | skip) | split | (dsimp only)))
theorem tm_sliceAt {t:TypeId} {v:Value} {x y z:Option Value}:T P rs (Instr.sliceAt t v x y z):=by unfold Instr.sliceAt;(repeat' (first | (with_reducible first | exact tm_slice | exact tm_sliceBounds | exact tm_sureAddr | exact tm_sizeOf | exact tm_underlying | refine Tm.bindT ?_ fun _=>?_) | ((with_reducible refine Tm.pure ?_);first | trivial | skip) | split | (dsimp only)))
theorem tm_box {t:TypeId} {v:Value}:T P rs (Instr.box t v):=by unfold Instr.box;(repeat' (first | (with_reducible first | exact tm_newVar | refine Tm.bindT ?_ fun _=>?_) | ((with_reducible refine Tm.pure ?_);first | trivial | skip) | split | (dsimp only)))
theorem tm_build {t:TypeId} {v:Array (Nat × Value)}:T P rs (Instr.build t v):=by unfold Instr.build;(repeat' (first | (with_reducible first | exact tm_zeroValue | exact tm_sizeOf | exact tm_underlying | exact Tm.stuck | refine Tm.bindT ?_ fun _=>?_ | refine Tm.mapMArray fun _=>?_) | ((with_reducible refine Tm.pure ?_);first | trivial | skip) | split | (dsimp only)))
theorem tm_buildSlice {t:TypeId} {n:Nat} {v:Array (Nat × Value)}:T P rs (Instr.buildSlice t n v):=by unfold Instr.buildSlice;(repeat' (first | (with_reducible first | exact tm_zeroValue | exact tm_sizeOf | exact tm_newRow | exact tm_underlying | exact Tm.stuck) | exact Tm.uns (by simp) | (with_reducible first | refine Tm.bindT ?_ fun _=>?_ | refine Tm.ite (fun _=>?_) (fun _=>?_)) | ((with_reducible refine Tm.pure ?_);first | trivial | skip) | split | (dsimp only)))
theorem tm_makeInterface {t:TypeId} {v:Value}:T P rs (Instr.makeInterface t v):=by unfold Instr.makeInterface;(repeat' (first | (with_reducible first | exact tm_underlying | exact Tm.stuck | refine Tm.bindT ?_ fun _=>?_) | ((with_reducible refine Tm.pure ?_);first | trivial | skip) | split | (dsimp only)))
theorem tm_makeFunc {f:Fn} {x y:Array Value}:T P rs (Instr.makeFunc f x y):=by unfold Instr.makeFunc;(repeat' (first | ((with_reducible refine Tm.pure ?_);first | trivial | skip) | split | (dsimp only)))
theorem tm_makeMap {t:TypeId} {v:Option Value}:T P rs (Instr.makeMap t v):=by unfold Instr.makeMap;(repeat' (first | (with_reducible first | exact tm_asInt | exact tm_underlying | exact Tm.stuck) | ((with_reducible refine Tm.newObj ?_);trivial) | ((with_reducible refine Tm.pure ?_);first | trivial | skip) | (with_reducible refine Tm.bindT ?_ fun _=>?_) | split | (dsimp only)))
theorem tm_makeChan {t:TypeId} {k:IntKind}:T P rs (Instr.makeChan t (.int k 0)):=by
 unfold Instr.makeChan;simp only [asInt,asIntOf,pure_bind];refine Tm.bindT tm_underlying fun d=>?_;split
 ·refine Tm.bindT tm_typeInfo fun i=>Tm.ite (fun _=>Tm.bindT tm_runtimePanic fun _=>?_) fun _=>?_
  all_goals exact Tm.bindT (Tm.newObj ⟨rfl,rfl,rfl⟩) fun _=>Tm.pure trivial
 ·(repeat' (first | (with_reducible first | exact tm_runtimePanic | exact tm_typeInfo | exact tm_underlying | exact Tm.stuck) | ((with_reducible refine Tm.newObj ?_);trivial) | (with_reducible first | refine Tm.bindT ?_ fun _=>?_ | refine Tm.ite (fun _=>?_) (fun _=>?_)) | ((with_reducible refine Tm.pure ?_);first | trivial | skip) | split | (dsimp only)))
theorem tm_makeSlice {t:TypeId} {v w:Value}:T P rs (Instr.makeSlice t v w):=by unfold Instr.makeSlice;(repeat' (first | (with_reducible first | exact tm_askRoom | exact tm_asInt | exact tm_runtimePanic | exact tm_zeroValue | exact tm_sizeOf | exact tm_newRow | exact tm_typeInfo | exact tm_underlying | exact Tm.stuck | exact Tm.choose | refine Tm.bindT ?_ fun _=>?_ | refine Tm.ite (fun _=>?_) (fun _=>?_)) | ((with_reducible refine Tm.pure ?_);first | trivial | skip) | split | (dsimp only)))
theorem tm_field {t:TypeId} {v:Value} {n:Nat}:T P rs (Instr.field t v n):=by unfold Instr.field;(repeat' (first | (with_reducible first | exact tm_asAgg | exact tm_part | exact tm_underlying | exact Tm.stuck | refine Tm.bindT ?_ fun _=>?_) | split | (dsimp only)))
theorem tm_index {t:TypeId} {v w:Value}:T P rs (Instr.index t v w):=by unfold Instr.index;(repeat' (first | (with_reducible first | exact tm_boundsPanic | exact tm_asIntOf | exact tm_part | exact tm_sizeOf | exact tm_underlying | exact Tm.stuck | refine Tm.bindT ?_ fun _=>?_ | refine Tm.ite (fun _=>?_) (fun _=>?_)) | ((with_reducible refine Tm.pure ?_);first | trivial | skip) | split | (dsimp only)))
theorem tm_extract {v:Value} {n:Nat}:T P rs (Instr.extract v n):=by unfold Instr.extract;(repeat' (first | with_reducible exact Tm.stuck | ((with_reducible refine Tm.pure ?_);first | trivial | skip) | split | (dsimp only)))
end
variable {P:Program} {rs:List Nat}
theorem tm_append {a:Array TypeId} {t:TypeId} {x:Array Value}:T P rs (Builtin.append_ a t x):=by unfold Builtin.append_;(repeat' (first | (with_reducible first | exact tm_mayShare | exact tm_lenOf | exact tm_firstCells | exact tm_askRoom | exact tm_asInt | exact tm_runtimePanic | exact tm_storeCells _ _ | exact tm_zeroValue | exact tm_sizeOf | exact tm_newRow | exact tm_typeInfo | exact tm_underlying | exact Tm.stuck) | exact Tm.uns (by simp) | (with_reducible first | exact Tm.choose | exact Tm.noRoom | refine Tm.bindT ?_ fun _=>?_ | refine Tm.ite (fun _=>?_) (fun _=>?_)) | ((with_reducible refine Tm.pure ?_);first | trivial | skip) | split | (dsimp only)))
section
variable {P:Program} {rs:List Nat}
theorem tm_clear {a:Array TypeId} {t:TypeId} {x:Array Value}:T P rs (Builtin.clear_ a t x):=by unfold Builtin.clear_;(repeat' (first | (with_reducible first | exact tm_storeCells _ _ | exact tm_zeroValue | exact tm_underlying | exact Tm.stuck) | ((with_reducible refine Tm.setObj ?_ ?_ ?_);(· simp);(· trivial);(· rfl)) | ((with_reducible refine Tm.pure ?_);first | trivial | skip) | ((with_reducible refine Tm.getObj ?_ fun o ho=>?_);(· exact ⟨_,rfl⟩)) | (with_reducible refine Tm.bindT ?_ fun _=>?_) | split | (dsimp only)))
structure ProgOk (P:Program):Prop where
 code:∀ (f:Nat) (fn:Func),P.funcs[f]? = some fn->∀ c,fn.body=some c->codeOk P c=true
 outer:∀ (f:Nat) (fn:Func),P.funcs[f]? = some fn->(fn.name == "runtime.NumGoroutine")=false/\(fn.body.isNone=true->Extern.findNext fn=none/\∀ e,Extern.find fn=some e->∀ args rs,T P rs (e args))
def NextOk (P:Program):Next->Prop
 | .value _ | .skip | .enter .. | .spawn _=>True
 | .comm _ b _=>b=true
 | .round _ _ _ a b=>codeOk P a=true/\codeOk P b=true
 | _=>False
def TargetOk:Target->Prop
 | .builtin b ..=>builtinOk b=true
 | .coroexit _=>False
 | _=>True
theorem tm_callFunc (hP:ProgOk P) {f:FuncId} {args:Array Value}:Tm P (NextOk P) rs (callFunc f args):=by
 unfold callFunc;refine Tm.bind Tm.program fun p hp=>?_;subst hp;split
 ·exact Tm.stuck
 ·rename_i fn hf
  obtain ⟨h1,h2⟩:=hP.outer f fn hf;simp only [h1,Bool.false_eq_true,if_false];refine Tm.ite (fun h=>?_) fun h=>Tm.pure trivial;obtain ⟨h3,h4⟩:=h2 h;simp only [h3]
  cases he:Extern.find fn with
  | none=>(repeat' (first | with_reducible exact Tm.stuck | exact Tm.uns (by simp) | with_reducible exact Tm.extern | ((with_reducible refine Tm.pure ?_);first | trivial | skip) | ((with_reducible refine Tm.bind Tm.program fun p hp=>?_);subst hp) | (with_reducible first | refine Tm.bindT ?_ fun _=>?_ | refine Tm.ite (fun _=>?_) (fun _=>?_)) | split | (dsimp only)))
  | some e =>
   refine Tm.bindT Tm.extern fun _=>?_;exact Tm.bindT (h4 e he args _) fun _=>Tm.pure trivial
theorem tm_wrap {t:TypeId} {p:Value} {m:String}:T P rs (Builtin.ssaWrapNilChk_ #[t] t #[p,strVal "",strVal m]):=by
 unfold Builtin.ssaWrapNilChk_
 cases p with
 | pointer a=>cases a with
  | some a=>exact (Tm.pure trivial:T P rs (Pure.pure (Value.pointer (some a))))
  | none =>
   refine Tm.bindT (s:=choose (.extern "ssa:wrapnilchk.dereferenced" 2)) Tm.choose fun n=>?_;refine Tm.ite (fun _=>?_) fun _=>?_ <;> (repeat' (first | (with_reducible first | exact tm_runtimePanic | exact tm_typeInfo | exact tm_underlying | exact Tm.stuck) | exact Tm.uns (by simp) | (with_reducible first | exact Tm.choose | refine Tm.bindT ?_ fun _=>?_ | refine Tm.ite (fun _=>?_) (fun _=>?_)) | ((with_reducible refine Tm.pure ?_);first | trivial | skip) | split | (dsimp only)))
 | _=>exact Tm.stuck
theorem tm_get {t:TypeId} {x:Place}:T P rs (x.get t):=by unfold Place.get;(repeat' (first | with_reducible exact tm_loadVar | ((with_reducible refine Tm.pure ?_);first | trivial | skip) | split | (dsimp only)))
theorem tm_follow:∀ (l:List FieldStep) {t:TypeId} {x:Place},T P rs (follow l t x)
 | [],t,x=>by unfold follow;(repeat' (first | (with_reducible first | exact tm_get | exact tm_fieldPlace | exact tm_asAddr | exact tm_part | exact tm_underlying | exact Tm.stuck | refine Tm.bindT ?_ fun _=>?_ | refine Tm.ite (fun _=>?_) (fun _=>?_)) | ((with_reducible refine Tm.pure ?_);first | trivial | skip) | split | (dsimp only)))
 | s::l,t,x=>by
  have ih:∀ {t:TypeId} {x:Place},T P rs (follow l t x):=tm_follow l;unfold follow
  repeat' (first | with_reducible exact ih | (first | (with_reducible first | exact tm_get | exact tm_fieldPlace | exact tm_asAddr | exact tm_part | exact tm_underlying | exact Tm.stuck | refine Tm.bindT ?_ fun _=>?_ | refine Tm.ite (fun _=>?_) (fun _=>?_)) | ((with_reducible refine Tm.pure ?_);first | trivial | skip) | split | (dsimp only)))
theorem tm_receiverAt {t:TypeId} {x:Place} {b:Bool} {w:Option String}:T P rs (receiverAt t x b w):=by unfold receiverAt;(repeat' (first | (with_reducible first | exact tm_wrap | exact tm_get | exact tm_asAddr | exact tm_loadVar | exact tm_underlying | exact Tm.stuck | refine Tm.bindT ?_ fun _=>?_) | ((with_reducible refine Tm.pure ?_);first | trivial | skip) | split | (dsimp only)))
theorem tm_receiverVia {t:TypeId} {v:Value} {p:Array FieldStep} {b:Bool}:T P rs (receiverVia t v p b):=by unfold receiverVia;(repeat' (first | (with_reducible first | exact tm_follow _ | exact tm_receiverAt | refine Tm.bindT ?_ fun _=>?_) | split | (dsimp only)))
theorem tm_method:∀ (d:Nat) {t:TypeId} {v:Value} {n:String},T P rs (method d t v n)
 | 0,t,v,n=>by unfold method;(repeat' (first | (with_reducible first | exact tm_follow _ | exact tm_receiverAt | exact tm_get | exact tm_runtimePanic | exact tm_typeInfo | exact Tm.stuck) | exact Tm.uns (by simp) | ((with_reducible refine Tm.pure ?_);first | trivial | skip) | (with_reducible refine Tm.bindT ?_ fun _=>?_) | split | (dsimp only)))
 | d+1,t,v,n=>by
  have ih:∀ {t:TypeId} {v:Value} {n:String},T P rs (method d t v n):=tm_method d;unfold method
  repeat' (first | with_reducible exact ih | (first | (with_reducible first | exact tm_follow _ | exact tm_receiverAt | exact tm_get | exact tm_runtimePanic | exact tm_typeInfo | exact Tm.stuck) | exact Tm.uns (by simp) | ((with_reducible refine Tm.pure ?_);first | trivial | skip) | (with_reducible refine Tm.bindT ?_ fun _=>?_) | split | (dsimp only)))
theorem tm_followBlind:∀ (l:List FieldStep) {t:TypeId} {x:Option Value},T P rs (followBlind l t x)
 | [],t,x=>by unfold followBlind;(repeat' (first | (with_reducible first | exact tm_part | exact tm_underlying | exact Tm.stuck | refine Tm.bindT ?_ fun _=>?_) | ((with_reducible refine Tm.pure ?_);first | trivial | skip) | split | (dsimp only)))
 | s::l,t,x=>by
  have ih:∀ {t:TypeId} {x:Option Value},T P rs (followBlind l t x):=tm_followBlind l;unfold followBlind
  repeat' (first | with_reducible exact ih | (first | (with_reducible first | exact tm_part | exact tm_underlying | exact Tm.stuck | refine Tm.bindT ?_ fun _=>?_) | ((with_reducible refine Tm.pure ?_);first | trivial | skip) | split | (dsimp only)))
theorem tm_nilAhead:∀ (d:Nat) {t:TypeId} {v:Value} {n:String},T P rs (nilAhead d t v n)
 | 0,t,v,n=>by unfold nilAhead;(repeat' (first | (with_reducible first | exact tm_followBlind _ | exact tm_typeInfo | exact tm_underlying | exact Tm.stuck | refine Tm.bindT ?_ fun _=>?_) | ((with_reducible refine Tm.pure ?_);first | trivial | skip) | split | (dsimp only)))
 | d+1,t,v,n=>by
  have ih:∀ {t:TypeId} {v:Value} {n:String},T P rs (nilAhead d t v n):=tm_nilAhead d;unfold nilAhead
  repeat' (first | with_reducible exact ih | (first | (with_reducible first | exact tm_followBlind _ | exact tm_typeInfo | exact tm_underlying | exact Tm.stuck | refine Tm.bindT ?_ fun _=>?_) | ((with_reducible refine Tm.pure ?_);first | trivial | skip) | split | (dsimp only)))
theorem tm_callMethod (hP:ProgOk P) {r:Value} {n:String} {args:Array Value}:Tm P (NextOk P) rs (callMethod r n args):=by
 unfold callMethod
 repeat' (first | with_reducible exact tm_callFunc hP | (first | (with_reducible first | exact tm_method _ | exact tm_runtimePanic | exact Tm.stuck) | ((with_reducible refine Tm.bind Tm.program fun p hp=>?_);subst hp) | (with_reducible refine Tm.bindT ?_ fun _=>?_) | split | (dsimp only)))
theorem tm_getLoop {l:Nat}:Tm P (fun r=>codeOk P r.assign=true/\codeOk P r.body=true/\∀ c,r.pending=some c->codeOk P c=true) rs (Instr.getLoop l):=by
 unfold Instr.getLoop;refine Tm.getObj ⟨_,rfl⟩ fun o ho=>?_;split
 ·exact Tm.pure ho
 ·exact Tm.stuck
theorem tm_yield {l:Nat} {args:Array Value}:Tm P (NextOk P) rs (Instr.yield l args):=by
 unfold Instr.yield;refine Tm.bind tm_getLoop fun r hr=>?_;refine Tm.ite (fun _=>Tm.bindT Tm.stuck fun _=>Tm.pure ⟨hr.1,hr.2.1⟩) fun _=>Tm.pure ⟨hr.1,hr.2.1⟩
theorem tm_builtin {b:Builtin} (h:builtinOk b=true) {a:Array TypeId} {t:TypeId} {c:Array Bool} {x:Array Value}:Tm P (NextOk P) rs (builtin b a t c x):=by
 unfold builtin;cases b <;> first | (cases h;done) | (dsimp only;(repeat' (first | (with_reducible first | exact tm_clear | exact tm_append | exact tm_cap | exact tm_copy | exact tm_len | exact tm_max | exact tm_min | exact tm_delete | refine Tm.bindT ?_ fun _=>?_) | ((with_reducible refine Tm.pure ?_);first | trivial | skip) | split | (dsimp only))))
theorem tm_invoke (hP:ProgOk P) {t:Target} (h:TargetOk t) {args:Array Value}:Tm P (NextOk P) rs (invoke t args):=by
 unfold invoke;split
 ·(repeat' (first | (with_reducible first | exact tm_receiverVia | exact tm_runtimePanic | exact tm_underlying | exact Tm.stuck | refine Tm.bindT ?_ fun _=>?_) | split | (dsimp only)))
 ·exact tm_builtin h
 ·exact tm_callFunc hP
 ·repeat' (first | with_reducible exact tm_callMethod hP | (first | (with_reducible first | exact tm_receiverVia | exact tm_runtimePanic | exact tm_underlying | exact Tm.stuck | refine Tm.bindT ?_ fun _=>?_) | split | (dsimp only)))
 ·repeat' (first | with_reducible exact tm_callMethod hP | (first | (with_reducible first | exact tm_receiverVia | exact tm_runtimePanic | exact tm_underlying | exact Tm.stuck | refine Tm.bindT ?_ fun _=>?_) | split | (dsimp only)))
 ·repeat' (first | with_reducible exact tm_callFunc hP | (first | (with_reducible first | exact tm_receiverVia | exact tm_runtimePanic | exact tm_underlying | exact Tm.stuck | refine Tm.bindT ?_ fun _=>?_) | split | (dsimp only)))
 ·exact tm_yield
 ·(repeat' (first | (with_reducible first | exact tm_receiverVia | exact tm_runtimePanic | exact tm_underlying | exact Tm.stuck | refine Tm.bindT ?_ fun _=>?_) | split | (dsimp only)))
 ·exact h.elim
theorem tm_ofValue {v:Value} {args:Array Value}:Tm P (fun d=>TargetOk d.target) rs (Deferred.ofValue v args):=by
 unfold Deferred.ofValue;(repeat' (first | with_reducible exact Tm.stuck | ((with_reducible refine Tm.pure ?_);first | trivial | skip) | split | (dsimp only)))
theorem tm_resolve {ρ:Operand->Value} {c:Call} {t:TypeId} (h:∀ b,c.callee=.builtin b->builtinOk b=true):Tm P (fun d=>TargetOk d.target) rs (resolve ρ c t):=by
 unfold resolve;dsimp only;split
 ·rename_i b hb;exact Tm.pure (h b hb)
 ·exact Tm.pure trivial
 ·exact tm_ofValue
theorem tm_resolve' {ρ:Operand->Value} {c:Call} {t:TypeId}:T P rs (resolve ρ c t):=by
 unfold resolve;dsimp only;split
 ·(repeat' (first | ((with_reducible refine Tm.pure ?_);first | trivial | skip) | split | (dsimp only)))
 ·(repeat' (first | ((with_reducible refine Tm.pure ?_);first | trivial | skip) | split | (dsimp only)))
 ·exact tm_ofValue.mono fun _ _=>trivial
theorem tm_execOp (hP:ProgOk P) {ρ:Operand->Value} (hρ:∀ v,ρ (.const v)=v) {o:Oper} (h:opOk P o.op=true):Tm P (NextOk P) rs (execOp ρ o):=by
 unfold execOp;dsimp only;split <;> rename_i heq <;> rw [heq] at h <;> first
  | (cases h;done)
  | (dsimp only [opOk] at h;split at h
     ·rw [hρ];exact Tm.bindT tm_makeChan fun _=>Tm.pure trivial
     ·cases h)
  | (exact Tm.bindT (tm_convert h) fun _=>Tm.pure trivial)
  | (refine Tm.bind (tm_resolve fun b hb=>?_) fun d hd=>tm_invoke hP hd
     simpa [opOk,hb] using h)
  | (refine Tm.bindT tm_resolve' fun d=>Tm.pure trivial)
  | ((repeat' (first | (with_reducible first | exact tm_nilAhead _ | exact tm_lookup | exact tm_mapUpdate | exact tm_mapEntry | exact tm_entryStore | exact tm_range | exact tm_next | exact tm_entry | exact tm_alloc | exact tm_loadAt | exact tm_storeAt | exact tm_fieldAt | exact tm_indexAt | exact tm_sliceAt | exact tm_box | exact tm_build | exact tm_buildSlice | exact tm_makeInterface | exact tm_makeFunc | exact tm_makeMap | exact tm_makeSlice | exact tm_field | exact tm_index | exact tm_extract | exact tm_eqGuard | exact tm_binOp | exact tm_unary | exact tm_asBool | exact tm_runtimePanic | exact tm_zeroValue | exact tm_underlying | exact Tm.stuck) | exact Tm.uns (by simp) | ((with_reducible refine Tm.pure ?_);first | trivial | skip) | ((with_reducible refine Tm.bind Tm.program fun p hp=>?_);subst hp) | (with_reducible first | refine Tm.bindT ?_ fun _=>?_ | refine Tm.mapMArray fun _=>?_ | refine Tm.ite (fun _=>?_) (fun _=>?_)) | split | (dsimp only)));done)
  | ((repeat' (first | (with_reducible first | exact tm_nilAhead _ | exact tm_lookup | exact tm_mapUpdate | exact tm_mapEntry | exact tm_entryStore | exact tm_range | exact tm_next | exact tm_entry | exact tm_alloc | exact tm_loadAt | exact tm_storeAt | exact tm_fieldAt | exact tm_indexAt | exact tm_sliceAt | exact tm_box | exact tm_build | exact tm_buildSlice | exact tm_makeInterface | exact tm_makeFunc | exact tm_makeMap | exact tm_makeSlice | exact tm_field | exact tm_index | exact tm_extract | exact tm_eqGuard | exact tm_binOp | exact tm_unary | exact tm_asBool | exact tm_runtimePanic | exact tm_zeroValue | exact tm_underlying | exact Tm.stuck) | exact Tm.uns (by simp) | ((with_reducible refine Tm.pure ?_);first | trivial | skip) | ((with_reducible refine Tm.bind Tm.program fun p hp=>?_);subst hp) | (with_reducible first | refine Tm.bindT ?_ fun _=>?_ | refine Tm.mapMArray fun _=>?_ | refine Tm.ite (fun _=>?_) (fun _=>?_)) | split | (dsimp only)));exact h)
end
end Mt
end Go.Proofs.YtdjnkplgllakcaaGreatDoor
