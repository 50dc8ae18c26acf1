/- the fault laws -/
import Derived.Test.YtgkajecjbflbbaaGreatDoorGB15
import Derived.WalkSpells
import Derived.BigQuiet
set_option maxHeartbeats 400000
set_option maxRecDepth 100000
set_option linter.all false
namespace Go.Proofs.YtgkajecjbflbbaaGreatDoor
open Go
section
open Mt
def badF:Nat->Bool:=fun i=>[88,89,90,91,92,93,127,128,129,130,131,132,133,134,135,136,137,138,139,140,141,142,143,144,145,146,162,163,164,165,166,167,168,169,170,176,177,178,179,180,181,182].contains i
def bodyOk (P:Program) (fn:Func):Bool:=match fn.body with
 | some c=>codeOk P c
 | none=>true
def cleanAt (P:Program) (i:Nat):Bool:=match P.funcs[i]? with
 | some fn=>bodyOk P fn && !(fn.name == "runtime.NumGoroutine") && (Extern.findNext fn).isNone
 | none=>true
theorem funcsSize:Tryz.prog.funcs.size=(206+1):=by kernel_rfl
theorem allClean:(List.range (206+1)).all (fun i=>badF i || cleanAt Tryz.prog i)=true:=by kernel_rfl
def outerOk (fn:Func):Bool:=fn.body.isSome || ((Extern.findNext fn).isNone && (Extern.find fn).isNone)
def outerAt (P:Program) (i:Nat):Bool:=match P.funcs[i]? with
 | some fn=>outerOk fn
 | none=>true
theorem allOuter1:(List.range 184).all (fun i=>badF i || outerAt Tryz.prog i)=true:=by kernel_rfl
theorem allOuter2:(List.range (206 - 199)).all (fun i=>outerAt Tryz.prog ((199+1)+i))=true:=by kernel_rfl
section
variable {P:Program} {B:Nat->Bool} {rs:List Nat}
theorem tm_text {s:String}:T P B rs (Extern.RuntimeError.text s):=Tm.pure trivial
theorem tm_described {v:Value}:T P B rs (Extern.RuntimeError.described v):=by unfold Extern.RuntimeError.described;(repeat' (first | (with_reducible first | exact tm_typeStr | exact tm_typeInfo | exact Tm.stuck) | ((with_reducible refine Tm.pure ?_);first | trivial | skip) | ((with_reducible refine Tm.program_bind ?_ ?_);(· first | rfl | (simp only [info_mute,under_mute];done))) | (with_reducible refine Tm.bindT ?_ fun _=>?_) | split | (dsimp only)))
theorem tm_pkgpathOf {v:TypeInfo}:T P B rs (Extern.RuntimeError.pkgpathOf v):=by unfold Extern.RuntimeError.pkgpathOf;(repeat' (first | (with_reducible first | exact tm_typeInfo | refine Tm.bindT ?_ fun _=>?_) | ((with_reducible refine Tm.pure ?_);first | trivial | skip) | split | (dsimp only)))
theorem tm_typeAssertionError {a:Array Value}:T P B rs (Extern.RuntimeError.typeAssertionError a):=by unfold Extern.RuntimeError.typeAssertionError;(repeat' (first | (with_reducible first | exact tm_text | exact tm_described | exact tm_pkgpathOf | exact tm_asString | exact tm_asAddr | exact tm_runtimePanic) | exact Tm.uns (by simp) | (with_reducible first | exact Tm.load | refine Tm.bindT ?_ fun _=>?_ | refine Tm.ite (fun _=>?_) (fun _=>?_)) | ((with_reducible refine Tm.pure ?_);first | trivial | skip) | split | (dsimp only)))
end
section
variable {P:Program} {B:Nat->Bool} {rs:List Nat}
theorem tm_bounds {a:Array Value}:T P B rs (Extern.RuntimeError.boundsError a):=by
 have no:T P B rs (stuck "boundsError expected":Sem Value):=by (repeat' (first | (with_reducible first | exact tm_text | exact tm_described | exact tm_pkgpathOf | exact Tm.stuck) | split | (dsimp only)))
 obtain ⟨l⟩:=a;rcases l with _ | ⟨v,_ | ⟨v2,l⟩⟩
 ·exact no
 ·cases v <;> try exact no
  rename_i fs
  obtain ⟨m⟩:=fs;rcases m with _ | ⟨x,_ | ⟨y,_ | ⟨s,_ | ⟨c,_ | ⟨z,m⟩⟩⟩⟩⟩ <;> try exact no
  cases x <;> try exact no
  cases y <;> try exact no
  cases s <;> try exact no
  cases c <;> try exact no
  rename_i k1 x k2 y s k3 c
  show T P B rs (match (if s && x < 0 then Extern.RuntimeError.boundsNegErrorFmts else Extern.RuntimeError.boundsErrorFmts)[c.toNat]? with
   | some fmt=>Extern.RuntimeError.text ("runtime error: " ++ (fmt.replace "%x" (toString (if s then x else IntKind.u64.wrap x))).replace "%y" (toString y))
   | none=>stuck "boundsError: no such code")
  split
  ·exact tm_text
  ·(repeat' (first | (with_reducible first | exact tm_text | exact tm_described | exact tm_pkgpathOf | exact Tm.stuck) | split | (dsimp only)))
 ·exact no
theorem tm_unhash {a:Array Value}:T P B rs (Extern.RuntimeError.unhashableTypeError a):=by
 have no:T P B rs (stuck "unhashableTypeError expected":Sem Value):=by (repeat' (first | (with_reducible first | exact tm_text | exact tm_described | exact tm_pkgpathOf | exact tm_runtimePanic | exact Tm.stuck | refine Tm.bindT ?_ fun _=>?_) | split | (dsimp only)))
 obtain ⟨l⟩:=a;rcases l with _ | ⟨v,_ | ⟨v2,l⟩⟩
 ·exact no
 ·cases v <;> try exact no
  rename_i fs
  obtain ⟨m⟩:=fs;rcases m with _ | ⟨x,_ | ⟨y,m⟩⟩ <;> try exact no
  show T P B rs (do
   let some t <- Extern.RuntimeError.described x | runtimePanic .nilDeref
   Extern.RuntimeError.text ("hash of unhashable type: " ++ t.str))
  (repeat' (first | (with_reducible first | exact tm_text | exact tm_described | exact tm_pkgpathOf | exact tm_runtimePanic | exact Tm.stuck | refine Tm.bindT ?_ fun _=>?_) | split | (dsimp only)))
 ·exact no
theorem tm_nothing {a:Array Value}:T P B rs (Extern.RuntimeError.nothing a):=by unfold Extern.RuntimeError.nothing;(repeat' (first | (with_reducible first | exact tm_text | exact tm_described | exact tm_pkgpathOf) | ((with_reducible refine Tm.pure ?_);first | trivial | skip) | split | (dsimp only)))
theorem tm_r0 {a:Array Value}:T P B rs ((Extern.RuntimeError.rows[0]).2 a):=by
 show T P B rs (do pure (Value.string ("runtime error: ".toUTF8 ++ (<- asString (a.getD 0 (Value.tuple #[]))))))
 (repeat' (first | (with_reducible first | exact tm_text | exact tm_described | exact tm_pkgpathOf | exact tm_asString | refine Tm.bindT ?_ fun _=>?_) | ((with_reducible refine Tm.pure ?_);first | trivial | skip) | split | (dsimp only)))
theorem tm_r1 {a:Array Value}:T P B rs ((Extern.RuntimeError.rows[1]).2 a):=by
 show T P B rs (do pure (Value.string (<- asString (a.getD 0 (Value.tuple #[])))))
 (repeat' (first | (with_reducible first | exact tm_text | exact tm_described | exact tm_pkgpathOf | exact tm_asString | refine Tm.bindT ?_ fun _=>?_) | ((with_reducible refine Tm.pure ?_);first | trivial | skip) | split | (dsimp only)))
theorem tm_r2 {a:Array Value}:T P B rs ((Extern.RuntimeError.rows[2]).2 a):=by
 show T P B rs (do pure (Value.string ("runtime error: ".toUTF8 ++ (<- asString ((<- asAgg (a.getD 0 (Value.tuple #[]))).getD 0 (Value.tuple #[]))))))
 (repeat' (first | (with_reducible first | exact tm_text | exact tm_described | exact tm_pkgpathOf | exact tm_asString | exact tm_asAgg | refine Tm.bindT ?_ fun _=>?_) | ((with_reducible refine Tm.pure ?_);first | trivial | skip) | split | (dsimp only)))
theorem tm_r6 {a:Array Value}:T P B rs ((Extern.RuntimeError.rows[6]).2 a):=by
 show T P B rs (Extern.RuntimeError.text _);exact tm_text
theorem tm_kind {a:Array Value}:T P B rs ((Extern.ReflectliteType.rows[11]).2 a):=by
 show T P B rs (do pure (strVal (Extern.Rtype.kindName (<- asInt (a.getD 0 (Value.tuple #[]))).toNat)))
 (repeat' (first | (with_reducible first | exact tm_text | exact tm_described | exact tm_pkgpathOf | exact tm_asInt | refine Tm.bindT ?_ fun _=>?_) | ((with_reducible refine Tm.pure ?_);first | trivial | skip) | split | (dsimp only)))
end
theorem findE0:Extern.find Tryz.f184=some Extern.RuntimeError.boundsError:=by kernel_rfl
theorem findE1:Extern.find Tryz.f185=some Extern.RuntimeError.nothing:=by kernel_rfl
theorem findE2:Extern.find Tryz.f186=some (Extern.RuntimeError.rows[0]).2:=by kernel_rfl
theorem findE3:Extern.find Tryz.f187=some Extern.RuntimeError.nothing:=by kernel_rfl
theorem findE4:Extern.find Tryz.f188=some (Extern.RuntimeError.rows[1]).2:=by kernel_rfl
theorem findE5:Extern.find Tryz.f189=some Extern.RuntimeError.nothing:=by kernel_rfl
theorem findE6:Extern.find Tryz.f190=some (Extern.RuntimeError.rows[2]).2:=by kernel_rfl
theorem findE7:Extern.find Tryz.f191=some Extern.RuntimeError.nothing:=by kernel_rfl
theorem findE8:Extern.find Tryz.f192=some Extern.RuntimeError.typeAssertionError:=by kernel_rfl
theorem findE9:Extern.find Tryz.f193=some Extern.RuntimeError.nothing:=by kernel_rfl
theorem findE10:Extern.find Tryz.f194=some (Extern.RuntimeError.rows[6]).2:=by kernel_rfl
theorem findE11:Extern.find Tryz.f195=some Extern.RuntimeError.nothing:=by kernel_rfl
theorem findE12:Extern.find Tryz.f196=none:=by kernel_rfl
theorem findE13:Extern.find Tryz.f197=some Extern.RuntimeError.unhashableTypeError:=by kernel_rfl
theorem findE14:Extern.find Tryz.f198=some Extern.RuntimeError.nothing:=by kernel_rfl
theorem findE15:Extern.find Tryz.f199=some (Extern.ReflectliteType.rows[11]).2:=by kernel_rfl
theorem outerE:∀ i,184<=i->i < 184+16->∀ fn,Tryz.prog.funcs[i]? = some fn->∀ e,Extern.find fn=some e->∀ (P':Program) (B':Nat->Bool) (args:Array Value) (rs:List Nat),T P' B' rs (e args):=by
 intro i h1 h2 fn hf e he P' B' args rs;rcases (show i=184+0\/i=184+1\/i=184+2\/i=184+3\/i=184+4\/i=184+5\/i=184+6\/i=184+7\/i=184+8\/i=184+9\/i=184+10\/i=184+11\/i=184+12\/i=184+13\/i=184+14\/i=184+15 by omega) with rfl | rfl | rfl | rfl | rfl | rfl | rfl | rfl | rfl | rfl | rfl | rfl | rfl | rfl | rfl | rfl
 ·have hf:=hf.symm.trans (show Tryz.prog.funcs[184+0]? = some Tryz.f184 from Tryz.func184);cases hf;rw [findE0] at he;cases he;exact tm_bounds
 ·have hf:=hf.symm.trans (show Tryz.prog.funcs[184+1]? = some Tryz.f185 from Tryz.func185);cases hf;rw [findE1] at he;cases he;exact tm_nothing
 ·have hf:=hf.symm.trans (show Tryz.prog.funcs[184+2]? = some Tryz.f186 from Tryz.func186);cases hf;rw [findE2] at he;cases he;exact tm_r0
 ·have hf:=hf.symm.trans (show Tryz.prog.funcs[184+3]? = some Tryz.f187 from Tryz.func187);cases hf;rw [findE3] at he;cases he;exact tm_nothing
 ·have hf:=hf.symm.trans (show Tryz.prog.funcs[184+4]? = some Tryz.f188 from Tryz.func188);cases hf;rw [findE4] at he;cases he;exact tm_r1
 ·have hf:=hf.symm.trans (show Tryz.prog.funcs[184+5]? = some Tryz.f189 from Tryz.func189);cases hf;rw [findE5] at he;cases he;exact tm_nothing
 ·have hf:=hf.symm.trans (show Tryz.prog.funcs[184+6]? = some Tryz.f190 from Tryz.func190);cases hf;rw [findE6] at he;cases he;exact tm_r2
 ·have hf:=hf.symm.trans (show Tryz.prog.funcs[184+7]? = some Tryz.f191 from Tryz.func191);cases hf;rw [findE7] at he;cases he;exact tm_nothing
 ·have hf:=hf.symm.trans (show Tryz.prog.funcs[184+8]? = some Tryz.f192 from Tryz.func192);cases hf;rw [findE8] at he;cases he;exact tm_typeAssertionError
 ·have hf:=hf.symm.trans (show Tryz.prog.funcs[184+9]? = some Tryz.f193 from Tryz.func193);cases hf;rw [findE9] at he;cases he;exact tm_nothing
 ·have hf:=hf.symm.trans (show Tryz.prog.funcs[184+10]? = some Tryz.f194 from Tryz.func194);cases hf;rw [findE10] at he;cases he;exact tm_r6
 ·have hf:=hf.symm.trans (show Tryz.prog.funcs[184+11]? = some Tryz.f195 from Tryz.func195);cases hf;rw [findE11] at he;cases he;exact tm_nothing
 ·have hf:=hf.symm.trans (show Tryz.prog.funcs[184+12]? = some Tryz.f196 from Tryz.func196);cases hf;rw [findE12] at he;cases he
 ·have hf:=hf.symm.trans (show Tryz.prog.funcs[184+13]? = some Tryz.f197 from Tryz.func197);cases hf;rw [findE13] at he;cases he;exact tm_unhash
 ·have hf:=hf.symm.trans (show Tryz.prog.funcs[184+14]? = some Tryz.f198 from Tryz.func198);cases hf;rw [findE14] at he;cases he;exact tm_nothing
 ·have hf:=hf.symm.trans (show Tryz.prog.funcs[184+15]? = some Tryz.f199 from Tryz.func199);cases hf;rw [findE15] at he;cases he;exact tm_kind
theorem progOk:ProgOk Tryz.prog badF where
 code:=fun f fn hb hf c hc=>by
  have hlt:f < 206+1:=by have:=(Array.getElem?_eq_some_iff.1 hf).1;rw [funcsSize] at this;exact this
  have h:=List.all_eq_true.1 allClean f (List.mem_range.2 hlt);unfold cleanAt at h;rw [hf,hb] at h;simp only [Bool.and_eq_true,Bool.false_or] at h;have h1:=h.1.1;unfold bodyOk at h1;rw [hc] at h1;exact h1
 outer:=fun f fn hbad hf=>by
  have hlt:f < 206+1:=by have:=(Array.getElem?_eq_some_iff.1 hf).1;rw [funcsSize] at this;exact this
  have h:=List.all_eq_true.1 allClean f (List.mem_range.2 hlt);unfold cleanAt at h;rw [hf,hbad] at h;simp only [Bool.and_eq_true,Bool.false_or] at h;refine ⟨by simpa using h.1.2,fun hb=>⟨by simpa using h.2,fun e he P' B' args rs=>?_⟩⟩;by_cases h1:f < 184
  ·have h2:=List.all_eq_true.1 allOuter1 f (List.mem_range.2 h1);unfold outerAt at h2;rw [hf,hbad] at h2;have hb2:fn.body.isSome=false:=by cases hx:fn.body <;> simp_all
   simp [outerOk,hb2,he] at h2
  ·by_cases h3:f < 184+16
   ·exact outerE f (by omega) h3 fn hf e he P' B' args rs
   ·have h2:=List.all_eq_true.1 allOuter2 (f - (199+1)) (List.mem_range.2 (by omega));unfold outerAt at h2;rw [show (199+1)+(f - (199+1))=f by omega,hf] at h2;have hb2:fn.body.isSome=false:=by cases hx:fn.body <;> simp_all
    simp [outerOk,hb2,he] at h2
end
namespace Mt
open Go Go.Conc Go.RowKit
noncomputable def Mz.prog:Program:=muteP badF Tryz.prog
theorem lt_of_cell {w:World} {a:Addr} {v:Value} (h:w.cell? a=some v):a.block < w.heap.size:=by
 unfold World.cell? at h
 cases ho:w.heap[a.block]? with
 | none=>simp [ho] at h
 | some o=>exact (Array.getElem?_eq_some_iff.1 ho).1
theorem bad_cell {o:Obj} (h:bad o=true) {w:World} {a:Addr} (hw:w.heap[a.block]? = some o):w.cell? a=none:=by
 unfold World.cell?;rw [hw];cases o <;> simp_all [bad]
structure Old (w w1:World):Prop where
 os:w1.os=w.os
 output:w1.output=w.output
 size:w.heap.size<=w1.heap.size
 block:∀ k,k < w.heap.size->w1.heap[k]? = w.heap[k]?
structure Twin (n:Nat) (w w1:World):Prop where
 os:w1.os=w.os
 output:w1.output=w.output
 size:w1.heap.size=w.heap.size
 cell:∀ a,w1.cell? a=w.cell? a
 frozen:∀ a,w1.frozen? a=w.frozen? a
 block:∀ k,n<=k->w1.heap[k]? = w.heap[k]?
section
variable {P:Program} {w w1 w2 W:World} {n:Nat}
theorem Old.refl (w:World):Old w w:=⟨rfl,rfl,Nat.le_refl _,fun _ _=>rfl⟩
theorem Old.trans (h:Old w w1) (k:Old w1 w2):Old w w2:=⟨k.os.trans h.os,k.output.trans h.output,Nat.le_trans h.size k.size,fun i hi=>(k.block i (Nat.lt_of_lt_of_le hi h.size)).trans (h.block i hi)⟩
theorem Old.cell (h:Old w w1) {b o:Nat} (hb:b < w.heap.size):w1.cell? ⟨b,o,none⟩=w.cell? ⟨b,o,none⟩:=World.cell?_of_block (h.block b hb)
theorem Old.cell2 (h:Old w w1) {b o:Nat} {v:Value} (hb:w.cell? ⟨b,o,none⟩=some v):w1.cell? ⟨b,o,none⟩=some v:=(h.cell (lt_of_cell hb)).trans hb
theorem Old.below (h:Old w w1):Below w.heap.size w (w1.on w.tape 0):=⟨h.os,rfl,h.output,h.size,h.block⟩
theorem muted_twin (w:World) (t:Tape):Twin w.heap.size w ((muted w).on t 0):=by
 have hl:=muted_like Tryz.prog badF w;refine ⟨hl.os,hl.output,hl.size,fun a=>?_,fun a=>Sim.frozen hl a,fun k hk=>?_⟩
 ·cases h:(muted w).cell? a with
  | none =>
   by_cases hs:(muteOf w) a.block
   ·obtain ⟨o,h1,h2⟩:=hs;exact h.trans (bad_cell h2 h1).symm
   ·exact h.trans (hl.cell_none hs h).symm
  | some v=>exact h.trans (hl.cell h).2.2.symm
 ·have h1:w.heap.size<=k:=hk;have h2:((muted w).on t 0).heap.size<=k:=by have:=hl.size;show (muted w).heap.size<=k;omega
  rw [Array.getElem?_eq_none h1,Array.getElem?_eq_none h2]
theorem like_twin (hw:Like P badF (muteOf w) w W) (h:Like P badF (muteOf w) w1 w2) (t:Tape) (d:Nat):Twin w.heap.size (w2.on t d) w1:=by
 refine ⟨h.os.symm,h.output.symm,h.size.symm,fun a=>?_,fun a=>(Sim.frozen h a).symm,fun k hk=>(h.block k fun hs=>?_).symm⟩
 ·cases hc:w2.cell? a with
  | none =>
   by_cases hs:(muteOf w) a.block
   ·obtain ⟨⟨o2,h3,_,h4⟩,_⟩:=h.mute _ hs;obtain ⟨o,h1,h2⟩:=hs;have e:o2=o:=by
     have h4:w.heap[a.block]? = some o2:=h4;rw [h1] at h4;exact (Option.some.inj h4).symm
    subst e;exact (bad_cell h2 h3).trans hc.symm
   ·exact (h.cell_none hs hc).trans hc.symm
  | some v=>exact (h.cell hc).2.2.trans hc.symm
 ·have:=hw.lt hs;omega
theorem like_old {S:Mute} {t t2:Tape} {d2:Nat} (hw:Like P badF S w W) (h:Like P badF S w1 w2) (hb:Below (W.on t 0).heap.size (W.on t 0) (w2.on t2 d2)):Old w w1:=by
 refine ⟨h.os.symm.trans (hb.os.trans hw.os),h.output.symm.trans (hb.output.trans hw.output),by rw [<- hw.size,<- h.size];exact hb.size,fun k hk=>?_⟩;by_cases hs:S k
 ·obtain ⟨⟨o,h1,_,h2⟩,_⟩:=hw.mute k hs;obtain ⟨⟨o2,h3,_,h4⟩,_⟩:=h.mute k hs;rw [h1,h3,<- h2,<- h4]
 ·rw [<- h.block k hs,<- hw.block k hs];exact hb.block k (show k < W.heap.size by rw [hw.size];exact hk)
theorem Twin.unat {d:Nat} (h:Twin n (w.at d) w1):Twin n w w1:=⟨h.os,h.output,h.size,h.cell,h.frozen,h.block⟩
end
section
variable {b:Frame} {a:Act} {w:World} {k:List Item} {cs:List Frame}
theorem calls_co {f:FuncId} (hg:badF f=false) {args:Array Value} {c:Frame} {Z:Value->World->Prop} (hZ:∀ v w1 w2,Twin w.heap.size w1 w2->Z v w1->Z v w2)
 (h:∀ W,Twin w.heap.size w W->Calls Mz.prog f args W fun e w2=>∃ v,e=.returned v/\Z v w2/\Below W.heap.size W w2) :
 Leads Tryz.prog (fun fr' cs' w1=>∃ v,fr'=c.finish v/\cs'=cs/\Z v w1/\Old w w1) (Frame.enter Tryz.prog f args .normal) (c::cs) w:=by
 have hl:=muted_like Tryz.prog badF w;refine (calls_leads (Z:=fun v W2=>Z v W2/\∃ t,Below ((muted w).on t 0).heap.size ((muted w).on t 0) W2) progOk hg hl fun t=>?_).mono ?_
 ·refine (h _ (muted_twin w t)).mono ?_;rintro e w2 ⟨v,he,hz,hbl⟩;exact ⟨v,he,w2.tape,w2.drawn,hz,t,hbl⟩
 ·rintro fr' cs' w1 ⟨v,w1',h1,h2,h3,t,d,hz,t0,hbl⟩;exact ⟨v,h1,h2,hZ _ _ _ (like_twin hl h3 t d) hz,like_old hl h3 hbl⟩
theorem leads_leave {P:Program} {K:Frame->List Frame->World->Prop} {fn:Func} {c:Frame} {v:Value} (hn:b.kind=.normal) (hd:a.defers=[]) (hf:P.funcs[b.fn]? = some fn)
 (hr:∀ W,(results fn a.tmps).run P W=.ok v W) (he:∀ W,(results fn a.tmps).events P W #[]=#[]) (h:∀ d,Leads P K (c.finish v) cs (w.at d)) :
 Leads P K { b.at a k with mode:=.returning } (c::cs) w :=
 leads_go (fun d=>stepG_leave hn hd hf (hr _) (he _)) h
end
theorem mz_func {i:Nat} {fn:Func} (h:badF i=false) (hf:Tryz.prog.funcs[i]? = some fn):Mz.prog.funcs[i]? = some fn:=(muteP_good h).trans hf
section
variable (P:Program) (B:Nat->Bool)
theorem mute_underlyingP (t:TypeId):(muteP B P).underlying t=P.underlying t:=rfl
theorem mute_underlying (t:TypeId) (w:World):Sem.run (muteP B P) (underlying t) w=Sem.run P (underlying t) w:=by
 have h:(muteP B P).underlying t=P.underlying t:=rfl;unfold underlying;cases hx:P.underlying t <;> simp [h,hx] <;> rfl
theorem mute_typeInfo (t:TypeId) (w:World):Sem.run (muteP B P) (typeInfo t) w=Sem.run P (typeInfo t) w:=by
 have h:(muteP B P).info? t=P.info? t:=rfl;unfold typeInfo;cases hx:P.info? t <;> simp [h,hx] <;> rfl
theorem mute_sizeOf (t:TypeId) (w:World):Sem.run (muteP B P) (Go.sizeOf t) w=Sem.run P (Go.sizeOf t) w:=by
 unfold Go.sizeOf;simp [mute_typeInfo]
theorem mute_isAgg (t:TypeId) (w:World):Sem.run (muteP B P) (isAgg t) w=Sem.run P (isAgg t) w:=by
 have h:(muteP B P).underlying t=P.underlying t:=rfl;unfold isAgg underlying
 cases hx:P.underlying t with
 | none=>simp [h,hx]
 | some d=>cases d <;> simp [h,hx]
theorem mute_zeroValue (t:TypeId) (w:World):Sem.run (muteP B P) (zeroValue t) w=Sem.run P (zeroValue t) w:=by
 have h:(muteP B P).info? t=P.info? t:=rfl;unfold zeroValue typeInfo
 cases hx:P.info? t with
 | none=>simp [h,hx]
 | some i=>cases hz:i.zero <;> simp [h,hx,hz] <;> rfl
end
theorem mz_is:Mz.prog=muteP badF Tryz.prog:=rfl
@[go_sem] theorem mz_underlyingP (t:TypeId):Mz.prog.underlying t=Tryz.prog.underlying t:=by rw [mz_is,mute_underlyingP]
@[go_sem] theorem mz_underlying (t:TypeId) (w:World):Sem.run Mz.prog (underlying t) w=Sem.run Tryz.prog (underlying t) w:=by rw [mz_is,mute_underlying]
@[go_sem] theorem mz_sizeOf (t:TypeId) (w:World):Sem.run Mz.prog (Go.sizeOf t) w=Sem.run Tryz.prog (Go.sizeOf t) w:=by rw [mz_is,mute_sizeOf]
@[go_sem] theorem mz_isAgg (t:TypeId) (w:World):Sem.run Mz.prog (isAgg t) w=Sem.run Tryz.prog (isAgg t) w:=by rw [mz_is,mute_isAgg]
@[go_sem] theorem mz_zeroValue (t:TypeId) (w:World):Sem.run Mz.prog (zeroValue t) w=Sem.run Tryz.prog (zeroValue t) w:=by rw [mz_is,mute_zeroValue]
def inB (n low high:Int):Bool:=decide (low<=n) && decide (n<=high)
theorem inside_any (n low high:Int) (w:World):Calls Mz.prog 119 #[.int .i64 n,.int .i64 low,.int .i64 high] w fun e w'=>e=.returned (.bool (inB n low high))/\w'=w:=by
 have hf:=mz_func (i:=119) rfl Tryz.func119;by_cases h1:low<=n
 ·by_cases h2:n<=high
  ·go_enter hf,Tryz.ntmps119
   go_wp2;go_ret;exact ⟨by simp [inB,h1,h2],rfl⟩
  ·go_enter hf,Tryz.ntmps119
   go_wp2;go_ret;exact ⟨by simp [inB,h1,h2],rfl⟩
 ·go_enter hf,Tryz.ntmps119
  go_wp2;go_ret;exact ⟨by simp [inB];omega,rfl⟩
end Mt
namespace Mt
open Go Go.RowKit
theorem mz_calls {f:FuncId} {fn:Func} (hB:badF f=false) (hf:Tryz.prog.funcs[f]? = some fn) (hname:(fn.name == "runtime.NumGoroutine")=false) (hb:fn.body.isNone=false) (args:Array Value) (w:World):Sem.run Mz.prog (callFunc f args) w=.ok (.enter f args) w:=by
 have h:=mz_func hB hf;have h1:¬ fn.name = "runtime.NumGoroutine":=by simpa using hname
 have h2:¬ fn.body=none:=by cases hx:fn.body <;> simp_all
 simp [callFunc,h,h1,h2]
@[go_sem] theorem mz_call15 (args:Array Value) (w:World):Sem.run Mz.prog (callFunc 15 args) w=.ok (.enter 15 args) w:=mz_calls (by kernel_rfl) Tryz.func15 (by kernel_rfl) (by kernel_rfl) args w
@[go_sem] theorem mz_call23 (args:Array Value) (w:World):Sem.run Mz.prog (callFunc 23 args) w=.ok (.enter 23 args) w:=mz_calls (by kernel_rfl) Tryz.func23 (by kernel_rfl) (by kernel_rfl) args w
@[go_sem] theorem mz_call41 (args:Array Value) (w:World):Sem.run Mz.prog (callFunc 41 args) w=.ok (.enter 41 args) w:=mz_calls (by kernel_rfl) Tryz.func41 (by kernel_rfl) (by kernel_rfl) args w
@[go_sem] theorem mz_call43 (args:Array Value) (w:World):Sem.run Mz.prog (callFunc 43 args) w=.ok (.enter 43 args) w:=mz_calls (by kernel_rfl) Tryz.func43 (by kernel_rfl) (by kernel_rfl) args w
@[go_sem] theorem mz_call49 (args:Array Value) (w:World):Sem.run Mz.prog (callFunc 49 args) w=.ok (.enter 49 args) w:=mz_calls (by kernel_rfl) Tryz.func49 (by kernel_rfl) (by kernel_rfl) args w
@[go_sem] theorem mz_call63 (args:Array Value) (w:World):Sem.run Mz.prog (callFunc 63 args) w=.ok (.enter 63 args) w:=mz_calls (by kernel_rfl) Tryz.func63 (by kernel_rfl) (by kernel_rfl) args w
@[go_sem] theorem mz_call64 (args:Array Value) (w:World):Sem.run Mz.prog (callFunc 64 args) w=.ok (.enter 64 args) w:=mz_calls (by kernel_rfl) Tryz.func64 (by kernel_rfl) (by kernel_rfl) args w
@[go_sem] theorem mz_call65 (args:Array Value) (w:World):Sem.run Mz.prog (callFunc 65 args) w=.ok (.enter 65 args) w:=mz_calls (by kernel_rfl) Tryz.func65 (by kernel_rfl) (by kernel_rfl) args w
@[go_sem] theorem mz_call66 (args:Array Value) (w:World):Sem.run Mz.prog (callFunc 66 args) w=.ok (.enter 66 args) w:=mz_calls (by kernel_rfl) Tryz.func66 (by kernel_rfl) (by kernel_rfl) args w
@[go_sem] theorem mz_call67 (args:Array Value) (w:World):Sem.run Mz.prog (callFunc 67 args) w=.ok (.enter 67 args) w:=mz_calls (by kernel_rfl) Tryz.func67 (by kernel_rfl) (by kernel_rfl) args w
@[go_sem] theorem mz_call68 (args:Array Value) (w:World):Sem.run Mz.prog (callFunc 68 args) w=.ok (.enter 68 args) w:=mz_calls (by kernel_rfl) Tryz.func68 (by kernel_rfl) (by kernel_rfl) args w
@[go_sem] theorem mz_call69 (args:Array Value) (w:World):Sem.run Mz.prog (callFunc 69 args) w=.ok (.enter 69 args) w:=mz_calls (by kernel_rfl) Tryz.func69 (by kernel_rfl) (by kernel_rfl) args w
@[go_sem] theorem mz_call71 (args:Array Value) (w:World):Sem.run Mz.prog (callFunc 71 args) w=.ok (.enter 71 args) w:=mz_calls (by kernel_rfl) Tryz.func71 (by kernel_rfl) (by kernel_rfl) args w
@[go_sem] theorem mz_call74 (args:Array Value) (w:World):Sem.run Mz.prog (callFunc 74 args) w=.ok (.enter 74 args) w:=mz_calls (by kernel_rfl) Tryz.func74 (by kernel_rfl) (by kernel_rfl) args w
@[go_sem] theorem mz_call75 (args:Array Value) (w:World):Sem.run Mz.prog (callFunc 75 args) w=.ok (.enter 75 args) w:=mz_calls (by kernel_rfl) Tryz.func75 (by kernel_rfl) (by kernel_rfl) args w
@[go_sem] theorem mz_call76 (args:Array Value) (w:World):Sem.run Mz.prog (callFunc 76 args) w=.ok (.enter 76 args) w:=mz_calls (by kernel_rfl) Tryz.func76 (by kernel_rfl) (by kernel_rfl) args w
@[go_sem] theorem mz_call77 (args:Array Value) (w:World):Sem.run Mz.prog (callFunc 77 args) w=.ok (.enter 77 args) w:=mz_calls (by kernel_rfl) Tryz.func77 (by kernel_rfl) (by kernel_rfl) args w
@[go_sem] theorem mz_call78 (args:Array Value) (w:World):Sem.run Mz.prog (callFunc 78 args) w=.ok (.enter 78 args) w:=mz_calls (by kernel_rfl) Tryz.func78 (by kernel_rfl) (by kernel_rfl) args w
@[go_sem] theorem mz_call79 (args:Array Value) (w:World):Sem.run Mz.prog (callFunc 79 args) w=.ok (.enter 79 args) w:=mz_calls (by kernel_rfl) Tryz.func79 (by kernel_rfl) (by kernel_rfl) args w
@[go_sem] theorem mz_call80 (args:Array Value) (w:World):Sem.run Mz.prog (callFunc 80 args) w=.ok (.enter 80 args) w:=mz_calls (by kernel_rfl) Tryz.func80 (by kernel_rfl) (by kernel_rfl) args w
@[go_sem] theorem mz_call81 (args:Array Value) (w:World):Sem.run Mz.prog (callFunc 81 args) w=.ok (.enter 81 args) w:=mz_calls (by kernel_rfl) Tryz.func81 (by kernel_rfl) (by kernel_rfl) args w
@[go_sem] theorem mz_call82 (args:Array Value) (w:World):Sem.run Mz.prog (callFunc 82 args) w=.ok (.enter 82 args) w:=mz_calls (by kernel_rfl) Tryz.func82 (by kernel_rfl) (by kernel_rfl) args w
@[go_sem] theorem mz_call84 (args:Array Value) (w:World):Sem.run Mz.prog (callFunc 84 args) w=.ok (.enter 84 args) w:=mz_calls (by kernel_rfl) Tryz.func84 (by kernel_rfl) (by kernel_rfl) args w
@[go_sem] theorem mz_call85 (args:Array Value) (w:World):Sem.run Mz.prog (callFunc 85 args) w=.ok (.enter 85 args) w:=mz_calls (by kernel_rfl) Tryz.func85 (by kernel_rfl) (by kernel_rfl) args w
@[go_sem] theorem mz_call87 (args:Array Value) (w:World):Sem.run Mz.prog (callFunc 87 args) w=.ok (.enter 87 args) w:=mz_calls (by kernel_rfl) Tryz.func87 (by kernel_rfl) (by kernel_rfl) args w
@[go_sem] theorem mz_call94 (args:Array Value) (w:World):Sem.run Mz.prog (callFunc 94 args) w=.ok (.enter 94 args) w:=mz_calls (by kernel_rfl) Tryz.func94 (by kernel_rfl) (by kernel_rfl) args w
@[go_sem] theorem mz_call97 (args:Array Value) (w:World):Sem.run Mz.prog (callFunc 97 args) w=.ok (.enter 97 args) w:=mz_calls (by kernel_rfl) Tryz.func97 (by kernel_rfl) (by kernel_rfl) args w
@[go_sem] theorem mz_call99 (args:Array Value) (w:World):Sem.run Mz.prog (callFunc 99 args) w=.ok (.enter 99 args) w:=mz_calls (by kernel_rfl) Tryz.func99 (by kernel_rfl) (by kernel_rfl) args w
@[go_sem] theorem mz_call100 (args:Array Value) (w:World):Sem.run Mz.prog (callFunc 100 args) w=.ok (.enter 100 args) w:=mz_calls (by kernel_rfl) Tryz.func100 (by kernel_rfl) (by kernel_rfl) args w
@[go_sem] theorem mz_call101 (args:Array Value) (w:World):Sem.run Mz.prog (callFunc 101 args) w=.ok (.enter 101 args) w:=mz_calls (by kernel_rfl) Tryz.func101 (by kernel_rfl) (by kernel_rfl) args w
@[go_sem] theorem mz_call105 (args:Array Value) (w:World):Sem.run Mz.prog (callFunc 105 args) w=.ok (.enter 105 args) w:=mz_calls (by kernel_rfl) Tryz.func105 (by kernel_rfl) (by kernel_rfl) args w
@[go_sem] theorem mz_call106 (args:Array Value) (w:World):Sem.run Mz.prog (callFunc 106 args) w=.ok (.enter 106 args) w:=mz_calls (by kernel_rfl) Tryz.func106 (by kernel_rfl) (by kernel_rfl) args w
@[go_sem] theorem mz_call107 (args:Array Value) (w:World):Sem.run Mz.prog (callFunc 107 args) w=.ok (.enter 107 args) w:=mz_calls (by kernel_rfl) Tryz.func107 (by kernel_rfl) (by kernel_rfl) args w
@[go_sem] theorem mz_call108 (args:Array Value) (w:World):Sem.run Mz.prog (callFunc 108 args) w=.ok (.enter 108 args) w:=mz_calls (by kernel_rfl) Tryz.func108 (by kernel_rfl) (by kernel_rfl) args w
@[go_sem] theorem mz_call109 (args:Array Value) (w:World):Sem.run Mz.prog (callFunc 109 args) w=.ok (.enter 109 args) w:=mz_calls (by kernel_rfl) Tryz.func109 (by kernel_rfl) (by kernel_rfl) args w
@[go_sem] theorem mz_call110 (args:Array Value) (w:World):Sem.run Mz.prog (callFunc 110 args) w=.ok (.enter 110 args) w:=mz_calls (by kernel_rfl) Tryz.func110 (by kernel_rfl) (by kernel_rfl) args w
@[go_sem] theorem mz_call111 (args:Array Value) (w:World):Sem.run Mz.prog (callFunc 111 args) w=.ok (.enter 111 args) w:=mz_calls (by kernel_rfl) Tryz.func111 (by kernel_rfl) (by kernel_rfl) args w
@[go_sem] theorem mz_call112 (args:Array Value) (w:World):Sem.run Mz.prog (callFunc 112 args) w=.ok (.enter 112 args) w:=mz_calls (by kernel_rfl) Tryz.func112 (by kernel_rfl) (by kernel_rfl) args w
@[go_sem] theorem mz_call113 (args:Array Value) (w:World):Sem.run Mz.prog (callFunc 113 args) w=.ok (.enter 113 args) w:=mz_calls (by kernel_rfl) Tryz.func113 (by kernel_rfl) (by kernel_rfl) args w
@[go_sem] theorem mz_call114 (args:Array Value) (w:World):Sem.run Mz.prog (callFunc 114 args) w=.ok (.enter 114 args) w:=mz_calls (by kernel_rfl) Tryz.func114 (by kernel_rfl) (by kernel_rfl) args w
@[go_sem] theorem mz_call115 (args:Array Value) (w:World):Sem.run Mz.prog (callFunc 115 args) w=.ok (.enter 115 args) w:=mz_calls (by kernel_rfl) Tryz.func115 (by kernel_rfl) (by kernel_rfl) args w
@[go_sem] theorem mz_call116 (args:Array Value) (w:World):Sem.run Mz.prog (callFunc 116 args) w=.ok (.enter 116 args) w:=mz_calls (by kernel_rfl) Tryz.func116 (by kernel_rfl) (by kernel_rfl) args w
@[go_sem] theorem mz_call118 (args:Array Value) (w:World):Sem.run Mz.prog (callFunc 118 args) w=.ok (.enter 118 args) w:=mz_calls (by kernel_rfl) Tryz.func118 (by kernel_rfl) (by kernel_rfl) args w
@[go_sem] theorem mz_call119 (args:Array Value) (w:World):Sem.run Mz.prog (callFunc 119 args) w=.ok (.enter 119 args) w:=mz_calls (by kernel_rfl) Tryz.func119 (by kernel_rfl) (by kernel_rfl) args w
@[go_sem] theorem mz_call120 (args:Array Value) (w:World):Sem.run Mz.prog (callFunc 120 args) w=.ok (.enter 120 args) w:=mz_calls (by kernel_rfl) Tryz.func120 (by kernel_rfl) (by kernel_rfl) args w
@[go_sem] theorem mz_call121 (args:Array Value) (w:World):Sem.run Mz.prog (callFunc 121 args) w=.ok (.enter 121 args) w:=mz_calls (by kernel_rfl) Tryz.func121 (by kernel_rfl) (by kernel_rfl) args w
@[go_sem] theorem mz_call122 (args:Array Value) (w:World):Sem.run Mz.prog (callFunc 122 args) w=.ok (.enter 122 args) w:=mz_calls (by kernel_rfl) Tryz.func122 (by kernel_rfl) (by kernel_rfl) args w
@[go_sem] theorem mz_call123 (args:Array Value) (w:World):Sem.run Mz.prog (callFunc 123 args) w=.ok (.enter 123 args) w:=mz_calls (by kernel_rfl) Tryz.func123 (by kernel_rfl) (by kernel_rfl) args w
@[go_sem] theorem mz_call124 (args:Array Value) (w:World):Sem.run Mz.prog (callFunc 124 args) w=.ok (.enter 124 args) w:=mz_calls (by kernel_rfl) Tryz.func124 (by kernel_rfl) (by kernel_rfl) args w
@[go_sem] theorem mz_call126 (args:Array Value) (w:World):Sem.run Mz.prog (callFunc 126 args) w=.ok (.enter 126 args) w:=mz_calls (by kernel_rfl) Tryz.func126 (by kernel_rfl) (by kernel_rfl) args w
@[go_sem] theorem mz_call148 (args:Array Value) (w:World):Sem.run Mz.prog (callFunc 148 args) w=.ok (.enter 148 args) w:=mz_calls (by kernel_rfl) Tryz.func148 (by kernel_rfl) (by kernel_rfl) args w
@[go_sem] theorem mz_call150 (args:Array Value) (w:World):Sem.run Mz.prog (callFunc 150 args) w=.ok (.enter 150 args) w:=mz_calls (by kernel_rfl) Tryz.func150 (by kernel_rfl) (by kernel_rfl) args w
@[go_sem] theorem mz_call154 (args:Array Value) (w:World):Sem.run Mz.prog (callFunc 154 args) w=.ok (.enter 154 args) w:=mz_calls (by kernel_rfl) Tryz.func154 (by kernel_rfl) (by kernel_rfl) args w
@[go_sem] theorem mz_call155 (args:Array Value) (w:World):Sem.run Mz.prog (callFunc 155 args) w=.ok (.enter 155 args) w:=mz_calls (by kernel_rfl) Tryz.func155 (by kernel_rfl) (by kernel_rfl) args w
@[go_sem] theorem mz_call156 (args:Array Value) (w:World):Sem.run Mz.prog (callFunc 156 args) w=.ok (.enter 156 args) w:=mz_calls (by kernel_rfl) Tryz.func156 (by kernel_rfl) (by kernel_rfl) args w
@[go_sem] theorem mz_call157 (args:Array Value) (w:World):Sem.run Mz.prog (callFunc 157 args) w=.ok (.enter 157 args) w:=mz_calls (by kernel_rfl) Tryz.func157 (by kernel_rfl) (by kernel_rfl) args w
@[go_sem] theorem mz_call158 (args:Array Value) (w:World):Sem.run Mz.prog (callFunc 158 args) w=.ok (.enter 158 args) w:=mz_calls (by kernel_rfl) Tryz.func158 (by kernel_rfl) (by kernel_rfl) args w
@[go_sem] theorem mz_call159 (args:Array Value) (w:World):Sem.run Mz.prog (callFunc 159 args) w=.ok (.enter 159 args) w:=mz_calls (by kernel_rfl) Tryz.func159 (by kernel_rfl) (by kernel_rfl) args w
@[go_sem] theorem mz_call160 (args:Array Value) (w:World):Sem.run Mz.prog (callFunc 160 args) w=.ok (.enter 160 args) w:=mz_calls (by kernel_rfl) Tryz.func160 (by kernel_rfl) (by kernel_rfl) args w
@[go_sem] theorem mz_call161 (args:Array Value) (w:World):Sem.run Mz.prog (callFunc 161 args) w=.ok (.enter 161 args) w:=mz_calls (by kernel_rfl) Tryz.func161 (by kernel_rfl) (by kernel_rfl) args w
@[go_sem] theorem mz_call171 (args:Array Value) (w:World):Sem.run Mz.prog (callFunc 171 args) w=.ok (.enter 171 args) w:=mz_calls (by kernel_rfl) Tryz.func171 (by kernel_rfl) (by kernel_rfl) args w
@[go_sem] theorem mz_call172 (args:Array Value) (w:World):Sem.run Mz.prog (callFunc 172 args) w=.ok (.enter 172 args) w:=mz_calls (by kernel_rfl) Tryz.func172 (by kernel_rfl) (by kernel_rfl) args w
@[go_sem] theorem mz_call173 (args:Array Value) (w:World):Sem.run Mz.prog (callFunc 173 args) w=.ok (.enter 173 args) w:=mz_calls (by kernel_rfl) Tryz.func173 (by kernel_rfl) (by kernel_rfl) args w
@[go_sem] theorem mz_call174 (args:Array Value) (w:World):Sem.run Mz.prog (callFunc 174 args) w=.ok (.enter 174 args) w:=mz_calls (by kernel_rfl) Tryz.func174 (by kernel_rfl) (by kernel_rfl) args w
@[go_sem] theorem mz_call175 (args:Array Value) (w:World):Sem.run Mz.prog (callFunc 175 args) w=.ok (.enter 175 args) w:=mz_calls (by kernel_rfl) Tryz.func175 (by kernel_rfl) (by kernel_rfl) args w
@[go_sem] theorem mz_call183 (args:Array Value) (w:World):Sem.run Mz.prog (callFunc 183 args) w=.ok (.enter 183 args) w:=mz_calls (by kernel_rfl) Tryz.func183 (by kernel_rfl) (by kernel_rfl) args w
@[go_sem] theorem mz_call200 (args:Array Value) (w:World):Sem.run Mz.prog (callFunc 200 args) w=.ok (.enter 200 args) w:=mz_calls (by kernel_rfl) Tryz.func200 (by kernel_rfl) (by kernel_rfl) args w
@[go_sem] theorem mz_call201 (args:Array Value) (w:World):Sem.run Mz.prog (callFunc 201 args) w=.ok (.enter 201 args) w:=mz_calls (by kernel_rfl) Tryz.func201 (by kernel_rfl) (by kernel_rfl) args w
@[go_sem] theorem mz_call202 (args:Array Value) (w:World):Sem.run Mz.prog (callFunc 202 args) w=.ok (.enter 202 args) w:=mz_calls (by kernel_rfl) Tryz.func202 (by kernel_rfl) (by kernel_rfl) args w
theorem mzu {t:TypeId} {x:Option TypeDesc} (h:Tryz.prog.underlying t=x):Mz.prog.underlying t=x:=(mz_underlyingP t).trans h
theorem below_drewN {B:Nat} {a w:World} (h:Below B a w) {n:Nat}:Below B a (w.drewN n):=⟨h.os,h.tape,h.output,h.size,h.block⟩
theorem Below.next {w a b:World} (h:Below w.heap.size w a) (k:Below a.heap.size a b):Below w.heap.size w b:=h.trans (k.mono h.size)
theorem Below.al {w a:World} (h:Below w.heap.size w a) (o:Obj):Below w.heap.size w (a.alloc o):=h.alloc h.size o
theorem Below.wr {B:Nat} {a w:World} (h:Below B a w) {p:Addr} (hp:B<=p.block) (u:Value):Below B a (w.setCell p u):=h.setCell hp u
theorem Below.gr {w a c:World} {r:Nat} (h:Below w.heap.size w a) (hg:a.grownBy c (some r)) (hr:w.heap.size<=r):Below w.heap.size w c:=h.grown hg h.size fun k e=>by cases e;exact hr
theorem Below.alN {n:Nat} {w a:World} (h:Below n w a) (hn:n<=w.heap.size) (o:Obj):Below n w (a.alloc o):=h.alloc (Nat.le_trans hn h.size) o
theorem Below.nxN {n:Nat} {w a b:World} (h:Below n w a) (hn:n<=w.heap.size) (k:Below a.heap.size a b):Below n w b:=h.trans (k.mono (Nat.le_trans hn h.size))
theorem Below.grN {n:Nat} {w a c:World} {r:Nat} (h:Below n w a) (hn:n<=w.heap.size) (hg:a.grownBy c (some r)) (hr:n<=r):Below n w c:=h.grown hg (Nat.le_trans hn h.size) fun k e=>by cases e;exact hr
theorem bel {n:Nat} {w a:World} (h:Below n w a:=by repeat (first | (with_reducible first | exact Below.refl _ _ | assumption | refine below_drewN ?_ | refine Below.drew ?_ | refine Below.al ?_ _ | refine Below.next ?_ (by with_reducible assumption) | refine Below.gr ?_ (by with_reducible assumption) (by first | omega | (simp;done) | (simp;omega)) | refine Below.wr ?_ (by first | omega | (simp;done) | (simp;omega)) _ | refine Below.alN ?_ (by omega) _ | refine Below.nxN ?_ (by omega) (by with_reducible assumption) | refine Below.grN ?_ (by omega) (by with_reducible assumption) (by first | omega | (simp;done) | (simp;omega))))):Below n w a:=h
def letter (c:UInt8):Bool:=decide (97<=c.toNat/\c.toNat<=122)
def digit (c:UInt8):Bool:=decide (48<=c.toNat/\c.toNat<=57)
def okAt (i:Nat) (c:UInt8):Bool:=letter c || (decide (0 < i) && digit c)
def okName (l:List UInt8):Bool:=(List.range l.length).all fun i=>okAt i (l.getD i 0)
def isName (l:List UInt8):Bool:=okName l && inB l.length 1 9
theorem inside_at {n low high:Int} {b:Bool} {w:World} (h:inB n low high=b):Calls Mz.prog 119 #[.int .i64 n,.int .i64 low,.int .i64 high] w fun e w'=>e=.returned (.bool b)/\w'=w :=
 (inside_any _ _ _ _).mono fun _ _ ⟨a,b⟩=>⟨h ▸ a,b⟩
theorem bytes_of {P:Program} (w:World) (src dst e:TypeId) (s:ByteArray) (hs:P.underlying src=some .string) (hd:P.underlying dst=some (.slice e)) (he:P.underlying e=some (.int .u8)) :
 ∃ cap w1,(convert src dst (.string s)).run P w=.ok (.slice (some ⟨w.heap.size,0,none⟩) s.size cap) w1/\(∀ k (h:k < s.size),w1.cell? ⟨w.heap.size,k,none⟩=some (.int .u8 (s.data[k].toNat:Int)))/\Below w.heap.size w w1:=by
 refine ⟨_,_,run_bytes_of_string w src dst e s hs hd he,fun k h=>?_,(Below.refl _ _).drew.alloc (Nat.le_refl _) _⟩;rw [show w.heap.size=w.drew.heap.size from rfl,World.cell?_alloc_mark];unfold bytesRow;rw [Array.getElem?_append_left (by simpa using h)];simp [h]
theorem isName_at (s:ByteArray) (w:World) (hs:s.size<=1000000) {t:Bool} (h:isName s.data.toList=t) :
 Calls Mz.prog 159 #[.string s] w fun e w'=>e=.returned (.bool t)/\Below w.heap.size w w':=by
 have H:=Hh h;clear h;obtain ⟨cap,w1,hrun,hcell,hbel⟩:=bytes_of (P:=Mz.prog) w 9 220 5 s (mzu Tryz.underlying9) (mzu Tryz.underlying220) (mzu Tryz.underlying5)
 go_enter (mz_func (i:=159) rfl Tryz.func159),Tryz.ntmps159
 go_wp2;go_loop [8] (fun i=>∃ k:Nat,k<=s.size/\i=.int .i64 k/\∀ j,j < k->okAt j (s.data.toList.getD j 0)=true) (fun i=>s.size - (intOf i).toNat)
 case atStart=>exact ⟨0,Nat.zero_le _,rfl,fun j hj=>absurd hj (Nat.not_lt_zero _)⟩
 case round =>
  obtain ⟨k,hk,rfl,hok⟩:=hrel;by_cases hlt:k < s.size
  ·have hc:=hcell k hlt;have hok1:okAt k (s.data.toList.getD k 0)=okAt k s.data[k]:=by simp [hlt]
   obtain ⟨n,hn⟩:∃ n:Nat,s.data[k].toNat=n:=⟨_,rfl⟩;have hokn:okAt k s.data[k]=(decide (97<=n/\n<=122) || (decide (0 < k) && decide (48<=n/\n<=57))):=by simp [okAt,letter,digit,hn]
   rw [hn] at hc;have H1:=Hh hok1;have H2:=Hh hokn;clear hok1 hokn hn hcell;have H3:=Hh hok;clear hok;have hcases:(97<=n/\n<=122)\/(97<=n/\122 < n/\0 < k)\/(97<=n/\122 < n/\k<=0)\/(n < 97/\k<=0)\/(n < 97/\0 < k/\n < 48)\/(n < 97/\0 < k/\48<=n/\n<=57)\/(n < 97/\0 < k/\48<=n/\57 < n):=by omega
   have yes:((97<=n/\n<=122)\/(0 < k/\48<=n/\n<=57))->∀ j,j < k+1->okAt j (s.data.toList.getD j 0)=true:=fun hh j hj=>by
    by_cases hjk:j < k
    ·exact H3.out j hjk
    ·obtain rfl:j=k:=by omega
     rw [H1.out,H2.out];simp;omega
   have no:¬ ((97<=n/\n<=122)\/(0 < k/\48<=n/\n<=57))->t=false:=fun hh=>by
    have h0:okAt k s.data[k]=false:=by
     rw [H2.out];simp;omega
    rw [<- H.out];simp only [isName,okName];have:((List.range s.data.toList.length).all fun i=>okAt i (s.data.toList.getD i 0))=false:=by
     rw [List.all_eq_false];refine ⟨k,by simpa using hlt,?_⟩;rw [H1.out,h0];simp
    rw [this,Bool.false_and]
   rcases hcases with ⟨g1,g2⟩ | ⟨g1,g2,g3⟩ | ⟨g1,g2,g3⟩ | ⟨g1,g3⟩ | ⟨g1,g2,g3⟩ | ⟨g1,g2,g3,g4⟩ | ⟨g1,g2,g3,g4⟩
   case inl | inr.inr.inr.inr.inr.inl =>
    have Y:=Hh (yes (by omega));clear yes no;go_wp2
    all_goals first
     | (exfalso;simp_all;omega)
     | (go_round
        case rel=>exact ⟨k+1,hlt,by go_num,Y.out⟩
        case measure=>simp [intOf];omega)
   all_goals
    have N:=no (by omega);clear yes no;subst N;go_wp2
    all_goals first
     | (exfalso;simp_all;omega)
     | (go_ret
        exact ⟨rfl,hbel⟩)
  ·have hke:k=s.size:=by omega
   have hN:okName s.data.toList=true:=by
    simp only [okName,List.all_eq_true,List.mem_range];exact fun j hj=>hok j (by rw [hke];simpa using hj)
   have hI:inB s.size 1 9=t:=by rw [<- H.out];simp [isName,hN]
   have HI:=Hh hI;clear hI hN hke hok hcell hrun;go_wp2_with (go_at_call 119;(with_reducible refine (inside_at HI.out).mono ?_);rintro e w' ⟨rfl,rfl⟩);go_ret;exact ⟨rfl,hbel⟩
end Mt
end Go.Proofs.YtgkajecjbflbbaaGreatDoor
