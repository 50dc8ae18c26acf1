/- StoreLoaded -/
import Derived.Test.YtdjnkplgllakcaaGreatDoorSL20
set_option maxHeartbeats 1000000
set_option maxRecDepth 100000
set_option linter.all false
namespace Go.Proofs.YtdjnkplgllakcaaGreatDoor
section
open Mt
section
variable {P:Program} {rs:List Nat}
theorem tm_bounds {a:Array Value}:T P rs (Extern.RuntimeError.boundsError a):=by
 have no:T P rs (stuck "boundsError expected":Sem Value):=by (repeat' (first | (with_reducible first | exact tm_text | exact tm_described | exact tm_pkgpathOf | exact Tm.stuck) | split | (dsimp only)))
 obtain ⟨l⟩:=a;rcases l with _ | ⟨v,_ | ⟨v2,l⟩⟩
 ·exact no
 ·cases v <;> try exact no
  rename_i fs
  obtain ⟨m⟩:=fs;rcases m with _ | ⟨x,_ | ⟨y,_ | ⟨s,_ | ⟨c,_ | ⟨z,m⟩⟩⟩⟩⟩ <;> try exact no
  cases x <;> try exact no
  cases y <;> try exact no
  cases s <;> try exact no
  cases c <;> try exact no
  rename_i k1 x k2 y s k3 c
  show T P rs (match (if s && x < 0 then Extern.RuntimeError.boundsNegErrorFmts else Extern.RuntimeError.boundsErrorFmts)[c.toNat]? with
   | some fmt=>Extern.RuntimeError.text ("runtime error: " ++ (fmt.replace "%x" (toString (if s then x else IntKind.u64.wrap x))).replace "%y" (toString y))
   | none=>stuck "boundsError: no such code")
  split
  ·exact tm_text
  ·(repeat' (first | (with_reducible first | exact tm_text | exact tm_described | exact tm_pkgpathOf | exact Tm.stuck) | split | (dsimp only)))
 ·exact no
theorem tm_unhash {a:Array Value}:T P rs (Extern.RuntimeError.unhashableTypeError a):=by
 have no:T P rs (stuck "unhashableTypeError expected":Sem Value):=by (repeat' (first | (with_reducible first | exact tm_text | exact tm_described | exact tm_pkgpathOf | exact tm_runtimePanic | exact Tm.stuck | refine Tm.bindT ?_ fun _=>?_) | split | (dsimp only)))
 obtain ⟨l⟩:=a;rcases l with _ | ⟨v,_ | ⟨v2,l⟩⟩
 ·exact no
 ·cases v <;> try exact no
  rename_i fs
  obtain ⟨m⟩:=fs;rcases m with _ | ⟨x,_ | ⟨y,m⟩⟩ <;> try exact no
  show T P rs (do
   let some t <- Extern.RuntimeError.described x | runtimePanic .nilDeref
   Extern.RuntimeError.text ("hash of unhashable type: " ++ t.str))
  (repeat' (first | (with_reducible first | exact tm_text | exact tm_described | exact tm_pkgpathOf | exact tm_runtimePanic | exact Tm.stuck | refine Tm.bindT ?_ fun _=>?_) | split | (dsimp only)))
 ·exact no
theorem tm_nothing {a:Array Value}:T P rs (Extern.RuntimeError.nothing a):=by unfold Extern.RuntimeError.nothing;(repeat' (first | (with_reducible first | exact tm_text | exact tm_described | exact tm_pkgpathOf) | ((with_reducible refine Tm.pure ?_);first | trivial | skip) | split | (dsimp only)))
theorem tm_r0 {a:Array Value}:T P rs ((Extern.RuntimeError.rows[0]).2 a):=by
 show T P rs (do pure (Value.string ("runtime error: ".toUTF8 ++ (<- asString (a.getD 0 (Value.tuple #[]))))))
 (repeat' (first | (with_reducible first | exact tm_text | exact tm_described | exact tm_pkgpathOf | exact tm_asString | refine Tm.bindT ?_ fun _=>?_) | ((with_reducible refine Tm.pure ?_);first | trivial | skip) | split | (dsimp only)))
theorem tm_r1 {a:Array Value}:T P rs ((Extern.RuntimeError.rows[1]).2 a):=by
 show T P rs (do pure (Value.string (<- asString (a.getD 0 (Value.tuple #[])))))
 (repeat' (first | (with_reducible first | exact tm_text | exact tm_described | exact tm_pkgpathOf | exact tm_asString | refine Tm.bindT ?_ fun _=>?_) | ((with_reducible refine Tm.pure ?_);first | trivial | skip) | split | (dsimp only)))
theorem tm_r2 {a:Array Value}:T P rs ((Extern.RuntimeError.rows[2]).2 a):=by
 show T P rs (do pure (Value.string ("runtime error: ".toUTF8 ++ (<- asString ((<- asAgg (a.getD 0 (Value.tuple #[]))).getD 0 (Value.tuple #[]))))))
 (repeat' (first | (with_reducible first | exact tm_text | exact tm_described | exact tm_pkgpathOf | exact tm_asString | exact tm_asAgg | refine Tm.bindT ?_ fun _=>?_) | ((with_reducible refine Tm.pure ?_);first | trivial | skip) | split | (dsimp only)))
theorem tm_r6 {a:Array Value}:T P rs ((Extern.RuntimeError.rows[6]).2 a):=by
 show T P rs (Extern.RuntimeError.text _);exact tm_text
theorem tm_kind {a:Array Value}:T P rs ((Extern.ReflectliteType.rows[11]).2 a):=by
 show T P rs (do pure (strVal (Extern.Rtype.kindName (<- asInt (a.getD 0 (Value.tuple #[]))).toNat)))
 (repeat' (first | (with_reducible first | exact tm_text | exact tm_described | exact tm_pkgpathOf | exact tm_asInt | refine Tm.bindT ?_ fun _=>?_) | ((with_reducible refine Tm.pure ?_);first | trivial | skip) | split | (dsimp only)))
end
theorem findE0:Extern.find Tryz.f133=some Extern.RuntimeError.boundsError:=by kernel_rfl
theorem findE1:Extern.find Tryz.f134=some Extern.RuntimeError.nothing:=by kernel_rfl
theorem findE2:Extern.find Tryz.f135=some (Extern.RuntimeError.rows[0]).2:=by kernel_rfl
theorem findE3:Extern.find Tryz.f136=some Extern.RuntimeError.nothing:=by kernel_rfl
theorem findE4:Extern.find Tryz.f137=some (Extern.RuntimeError.rows[1]).2:=by kernel_rfl
theorem findE5:Extern.find Tryz.f138=some Extern.RuntimeError.nothing:=by kernel_rfl
theorem findE6:Extern.find Tryz.f139=some (Extern.RuntimeError.rows[2]).2:=by kernel_rfl
theorem findE7:Extern.find Tryz.f140=some Extern.RuntimeError.nothing:=by kernel_rfl
theorem findE8:Extern.find Tryz.f141=some Extern.RuntimeError.typeAssertionError:=by kernel_rfl
theorem findE9:Extern.find Tryz.f142=some Extern.RuntimeError.nothing:=by kernel_rfl
theorem findE10:Extern.find Tryz.f143=some (Extern.RuntimeError.rows[6]).2:=by kernel_rfl
theorem findE11:Extern.find Tryz.f144=some Extern.RuntimeError.nothing:=by kernel_rfl
theorem findE12:Extern.find Tryz.f145=none:=by kernel_rfl
theorem findE13:Extern.find Tryz.f146=some Extern.RuntimeError.unhashableTypeError:=by kernel_rfl
theorem findE14:Extern.find Tryz.f147=some Extern.RuntimeError.nothing:=by kernel_rfl
theorem findE15:Extern.find Tryz.f148=some (Extern.ReflectliteType.rows[11]).2:=by kernel_rfl
theorem outerE:∀ i,133<=i->i < (148+1)->∀ fn,Tryz.prog.funcs[i]? = some fn->∀ e,Extern.find fn=some e->∀ args rs,T Tryz.prog rs (e args):=by
 intro i h1 h2 fn hf e he args rs;rcases (show i=133\/i=134\/i=135\/i=136\/i=137\/i=138\/i=139\/i=140\/i=141\/i=142\/i=143\/i=144\/i=145\/i=146\/i=147\/i=148 by omega) with rfl | rfl | rfl | rfl | rfl | rfl | rfl | rfl | rfl | rfl | rfl | rfl | rfl | rfl | rfl | rfl
 ·rw [Tryz.func133] at hf;cases hf;rw [findE0] at he;cases he;exact tm_bounds
 ·rw [Tryz.func134] at hf;cases hf;rw [findE1] at he;cases he;exact tm_nothing
 ·rw [Tryz.func135] at hf;cases hf;rw [findE2] at he;cases he;exact tm_r0
 ·rw [Tryz.func136] at hf;cases hf;rw [findE3] at he;cases he;exact tm_nothing
 ·rw [Tryz.func137] at hf;cases hf;rw [findE4] at he;cases he;exact tm_r1
 ·rw [Tryz.func138] at hf;cases hf;rw [findE5] at he;cases he;exact tm_nothing
 ·rw [Tryz.func139] at hf;cases hf;rw [findE6] at he;cases he;exact tm_r2
 ·rw [Tryz.func140] at hf;cases hf;rw [findE7] at he;cases he;exact tm_nothing
 ·rw [Tryz.func141] at hf;cases hf;rw [findE8] at he;cases he;exact tm_typeAssertionError
 ·rw [Tryz.func142] at hf;cases hf;rw [findE9] at he;cases he;exact tm_nothing
 ·rw [Tryz.func143] at hf;cases hf;rw [findE10] at he;cases he;exact tm_r6
 ·rw [Tryz.func144] at hf;cases hf;rw [findE11] at he;cases he;exact tm_nothing
 ·rw [Tryz.func145] at hf;cases hf;rw [findE12] at he;cases he
 ·rw [Tryz.func146] at hf;cases hf;rw [findE13] at he;cases he;exact tm_unhash
 ·rw [Tryz.func147] at hf;cases hf;rw [findE14] at he;cases he;exact tm_nothing
 ·rw [Tryz.func148] at hf;cases hf;rw [findE15] at he;cases he;exact tm_kind
theorem progOk:ProgOk Tryz.prog where
 code:=fun f fn hf c hc=>by
  have hlt:f < (162+1):=by have:=(Array.getElem?_eq_some_iff.1 hf).1;rw [funcsSize] at this;exact this
  have h:=List.all_eq_true.1 allClean f (List.mem_range.2 hlt);unfold cleanAt at h;rw [hf] at h;simp only [Bool.and_eq_true] at h;have h1:=h.1.1;unfold bodyOk at h1;rw [hc] at h1;exact h1
 outer:=fun f fn hf=>by
  have hlt:f < (162+1):=by have:=(Array.getElem?_eq_some_iff.1 hf).1;rw [funcsSize] at this;exact this
  have h:=List.all_eq_true.1 allClean f (List.mem_range.2 hlt);unfold cleanAt at h;rw [hf] at h;simp only [Bool.and_eq_true] at h;refine ⟨by simpa using h.1.2,fun hb=>⟨by simpa using h.2,fun e he args rs=>?_⟩⟩;by_cases h1:f < 133
  ·have h2:=List.all_eq_true.1 allOuter1 f (List.mem_range.2 h1);unfold outerAt at h2;rw [hf] at h2;have hb2:fn.body.isSome=false:=by cases hx:fn.body <;> simp_all
   simp [outerOk,hb2,he] at h2
  ·by_cases h3:f < (148+1)
   ·exact outerE f (by omega) h3 fn hf e he args rs
   ·have h2:=List.all_eq_true.1 allOuter2 (f - (148+1)) (List.mem_range.2 (by omega));unfold outerAt at h2;rw [show (148+1)+(f - (148+1))=f by omega,hf] at h2;have hb2:fn.body.isSome=false:=by cases hx:fn.body <;> simp_all
    simp [outerOk,hb2,he] at h2
end
section
open Go.RowKit Sp Mt Go.Conc
structure Old (w w1:World):Prop where
 os:w1.os=w.os
 output:w1.output=w.output
 size:w.heap.size<=w1.heap.size
 block:∀ k,k < w.heap.size->w1.heap[k]? = w.heap[k]?
structure Twin (n:Nat) (w w1:World):Prop where
 os:w1.os=w.os
 output:w1.output=w.output
 size:w1.heap.size=w.heap.size
 cell:∀ a,w1.cell? a=w.cell? a
 frozen:∀ a,w1.frozen? a=w.frozen? a
 block:∀ k,n<=k->w1.heap[k]? = w.heap[k]?
section
variable {P:Program} {w w1 w2 W:World} {n:Nat}
theorem Old.refl (w:World):Old w w:=⟨rfl,rfl,Nat.le_refl _,fun _ _=>rfl⟩
theorem Old.trans (h:Old w w1) (k:Old w1 w2):Old w w2:=⟨k.os.trans h.os,k.output.trans h.output,Nat.le_trans h.size k.size,fun i hi=>(k.block i (Nat.lt_of_lt_of_le hi h.size)).trans (h.block i hi)⟩
theorem Old.at (h:Old w w1) (d:Nat):Old w (w1.at d):=⟨h.os,h.output,h.size,h.block⟩
theorem Old.cell (h:Old w w1) {b o:Nat} (hb:b < w.heap.size):w1.cell? ⟨b,o,none⟩=w.cell? ⟨b,o,none⟩:=World.cell?_of_block (h.block b hb)
theorem Old.cell2 (h:Old w w1) {b o:Nat} {v:Value} (hb:w.cell? ⟨b,o,none⟩=some v):w1.cell? ⟨b,o,none⟩=some v:=(h.cell (lt_of_cell hb)).trans hb
theorem Old.below (h:Old w w1):Below w.heap.size w (w1.on w.tape 0):=⟨h.os,rfl,h.output,h.size,h.block⟩
theorem muted_twin (w:World) (t:Tape):Twin w.heap.size w ((muted w).on t 0):=by
 have hl:=muted_like Tryz.prog w;refine ⟨hl.os,hl.output,hl.size,fun a=>?_,fun a=>Sim.frozen hl a,fun k hk=>?_⟩
 ·cases h:(muted w).cell? a with
  | none=>exact h.trans (hl.cell_none h).symm
  | some v=>exact h.trans (hl.cell h).2.2.symm
 ·have h1:w.heap.size<=k:=hk;have h2:((muted w).on t 0).heap.size<=k:=by have:=hl.size;show (muted w).heap.size<=k;omega
  rw [Array.getElem?_eq_none h1,Array.getElem?_eq_none h2]
theorem like_twin {S:Mute} (hw:Like P S w W) (h:Like P S w1 w2) (t:Tape) (d:Nat):Twin w.heap.size (w2.on t d) w1:=by
 refine ⟨h.os.symm,h.output.symm,h.size.symm,fun a=>?_,fun a=>(Sim.frozen h a).symm,fun k hk=>(h.block k fun hs=>?_).symm⟩
 ·cases hc:w2.cell? a with
  | none=>exact (h.cell_none hc).trans hc.symm
  | some v=>exact (h.cell hc).2.2.trans hc.symm
 ·have:=hw.lt hs;omega
theorem like_old {S:Mute} {t t2:Tape} {d2:Nat} (hw:Like P S w W) (h:Like P S w1 w2) (hb:Below (W.on t 0).heap.size (W.on t 0) (w2.on t2 d2)):Old w w1:=by
 refine ⟨h.os.symm.trans (hb.os.trans hw.os),h.output.symm.trans (hb.output.trans hw.output),by rw [<- hw.size,<- h.size];exact hb.size,fun k hk=>?_⟩;by_cases hs:S k
 ·obtain ⟨⟨o,h1,_,h2⟩,_⟩:=hw.mute k hs;obtain ⟨⟨o2,h3,_,h4⟩,_⟩:=h.mute k hs;rw [h1,h3,<- h2,<- h4]
 ·rw [<- h.block k hs,<- hw.block k hs];exact hb.block k (show k < W.heap.size by rw [hw.size];exact hk)
theorem Twin.unat {d:Nat} (h:Twin n (w.at d) w1):Twin n w w1:=⟨h.os,h.output,h.size,h.cell,h.frozen,h.block⟩
theorem Twin.msgs (h:Twin n w w1) {a:Option Addr} {l:List Msg} (k:MsgsAt w a l):MsgsAt w1 a l:=fun i hi=>by
 obtain ⟨b,o,e,hlt,h1,h2,h3⟩:=k i hi;exact ⟨b,o,e,by rw [h.size];exact hlt,(h.cell _).trans h1,(h.cell _).trans h2,(h.cell _).trans h3⟩
theorem Twin.parts (h:Twin n w w1) {a:Option Addr} {l:List Prt} (k:PartsAt w a l):PartsAt w1 a l:=fun i hi=>by
 obtain ⟨b,o,e,hlt,h1,h2⟩:=k i hi;exact ⟨b,o,e,by rw [h.size];exact hlt,(h.cell _).trans h1,(h.cell _).trans h2⟩
theorem Twin.sess (h:Twin n w w1) {a:Option Addr} {l:List (List Prt)} (k:SessAt w a l):SessAt w1 a l:=fun i hi=>by
 obtain ⟨b,o,e,hlt,pa,pc,h1,h2,h3,h4⟩:=k i hi;exact ⟨b,o,e,by rw [h.size];exact hlt,pa,pc,(h.cell _).trans h1,h2,h3,h.parts h4⟩
theorem Twin.recs (h:Twin n w w1) {a:Option Addr} {l:List Rec} (k:RecsAt w a l):RecsAt w1 a l:=fun i hi=>by
 obtain ⟨b,o,e,hlt,h1,h2,h3,h4⟩:=k i hi;exact ⟨b,o,e,by rw [h.size];exact hlt,(h.cell _).trans h1,(h.cell _).trans h2,(h.cell _).trans h3,(h.cell _).trans h4⟩
theorem Twin.book (h:Twin n w w1) {b:Bk} {vr vg vm vs vc:Value} (k:BookAt w b vr vg vm vs vc):BookAt w1 b vr vg vm vs vc:=by
 obtain ⟨h1,h2,⟨a1,c1,e1,h3,g1⟩,⟨a2,c2,e2,h4,g2⟩,a3,c3,e3,h5,g3⟩:=k;exact ⟨h1,h2,⟨a1,c1,e1,h.msgs h3,g1⟩,⟨a2,c2,e2,h.sess h4,g2⟩,a3,c3,e3,h.recs h5,g3⟩
theorem Twin.ints (h:Twin n w w1) {a:Option Addr} {l:List Int} (k:IntsAt w a l):IntsAt w1 a l:=fun i hi=>by
 obtain ⟨b,o,e,hlt,h1⟩:=k i hi;exact ⟨b,o,e,by rw [h.size];exact hlt,(h.cell _).trans h1⟩
theorem Twin.cames (h:Twin n w w1) {a:Option Addr} {l:List (List Int)} (k:CamesAt w a l):CamesAt w1 a l:=fun i hi=>by
 obtain ⟨b,o,e,hlt,h1,h2,h3,h4⟩:=k i hi;exact ⟨b,o,e,by rw [h.size];exact hlt,(h.cell _).trans h1,(h.cell _).trans h2,(h.cell _).trans h3,(h.cell _).trans h4⟩
theorem Twin.kinds (h:Twin n w w1) (k:KindsAt w):KindsAt w1:=⟨by rw [h.size];exact k.1,fun i hi=>by
 obtain ⟨⟨s,e,h0⟩,h1,h2,h3,h4⟩:=k.2 i hi
 exact ⟨⟨s,e,(h.cell _).trans h0⟩,(h.cell _).trans h1,(h.cell _).trans h2,(h.cell _).trans h3,(h.cell _).trans h4⟩⟩
theorem on_twin (w:World) (t:Tape) (d:Nat):Twin 0 (w.on t d) w:=⟨rfl,rfl,rfl,fun _=>rfl,fun _=>rfl,fun _ _=>rfl⟩
theorem Old.book (h:Old w w1) {b:Bk} {vr vg vm vs vc:Value} (k:BookAt w b vr vg vm vs vc):BookAt w1 b vr vg vm vs vc:=(on_twin w1 w.tape 0).book (k.below h.below)
theorem Old.ints (h:Old w w1) {a:Option Addr} {l:List Int} (k:IntsAt w a l):IntsAt w1 a l:=(on_twin w1 w.tape 0).ints (k.below h.below)
theorem Old.parts (h:Old w w1) {a:Option Addr} {l:List Prt} (k:PartsAt w a l):PartsAt w1 a l:=(on_twin w1 w.tape 0).parts (k.below h.below)
theorem Old.cames (h:Old w w1) {a:Option Addr} {l:List (List Int)} (k:CamesAt w a l):CamesAt w1 a l:=(on_twin w1 w.tape 0).cames (k.below h.below)
theorem Old.kinds (h:Old w w1) (k:KindsAt w):KindsAt w1:=(on_twin w1 w.tape 0).kinds (k.below h.below)
end
section
variable {b:Frame} {a:Act} {w:World} {k:List Item} {cs:List Frame}
theorem piece_co {c:Code} (hc:codeOk Tryz.prog c=true) (hb:b.kind=.normal) (hd:MarksOnly a.defers) {Z:Act->World->Prop} (hZ:∀ a w1 w2,Twin w.heap.size w1 w2->Z a w1->Z a w2)
 (h:∀ W,Twin w.heap.size w W->c.wp Tryz.prog (fun e a' w2=>e=.normal/\Z a' w2/\Below W.heap.size W w2) a W) :
 Leads Tryz.prog (fun fr' cs' w1=>∃ a',fr'=b.at a' k/\cs'=cs/\Z a' w1/\Old w w1) (b.at a (.code c::k)) cs w:=by
 have hl:=muted_like Tryz.prog w;refine (wp_leads (Z:=fun a' W2=>Z a' W2/\∃ t,Below ((muted w).on t 0).heap.size ((muted w).on t 0) W2) progOk hl hc hb hd fun t=>?_).mono ?_
 ·refine Code.wp_mono ?_ (h _ (muted_twin w t));rintro e a' w2 ⟨he,hz,hbl⟩;exact ⟨he,w2.tape,w2.drawn,hz,t,hbl⟩
 ·rintro fr' cs' w1 ⟨a',w1',h1,h2,h3,t,d,hz,t0,hbl⟩;exact ⟨a',h1,h2,hZ _ _ _ (like_twin hl h3 t d) hz,like_old hl h3 hbl⟩
theorem leads_leave {P:Program} {K:Frame->List Frame->World->Prop} {fn:Func} {c:Frame} {v:Value} (hn:b.kind=.normal) (hd:a.defers=[]) (hf:P.funcs[b.fn]? = some fn)
 (hr:∀ W,(results fn a.tmps).run P W=.ok v W) (he:∀ W,(results fn a.tmps).events P W #[]=#[]) (h:∀ d,Leads P K (c.finish v) cs (w.at d)) :
 Leads P K { b.at a k with mode:=.returning } (c::cs) w :=
 leads_go (fun d=>stepG_leave hn hd hf (hr _) (he _)) h
end
end
section
open Go.RowKit Go.Maps Sp Mt
section
variable {b:Bk} {vr vg vm vs vc:Value} {w W:World}
def BoxB (w:World) (N0:Nat) (vr vg vm vs vc:Value):Prop:=w.cell? ⟨N0,0,none⟩=some vr/\w.cell? ⟨N0,1,none⟩=some vg/\w.cell? ⟨N0,2,none⟩=some vm/\w.cell? ⟨N0,3,none⟩=some vs/\w.cell? ⟨N0,4,none⟩=some vc
theorem nothing_any2 (v0 v1 v2 v3 v4:Value) (W:World):Calls Tryz.prog 35 #[.agg #[v0,v1,v2,v3,v4]] W fun e w'=>e=.returned (.int .i64 0)/\Below W.heap.size W w':=by
 go_enter Tryz.func35,Tryz.ntmps35
 go_wp2;go_ret;exact ⟨rfl,bel⟩
theorem resInfo:(Tryz.prog.info? 128).map (fun i=>i.bytes)=some 16:=by kernel_rfl
theorem boolInfo:(Tryz.prog.info? 4).map (fun i=>i.bytes)=some 1:=by kernel_rfl
def PZ (W:World) (Z:Act->World->Prop) (e:Exit) (a:Act) (w2:World):Prop:=e=.normal/\Z a w2/\Below W.heap.size W w2
def Z0 (vr vg vm vs vc:Value) (a:Act) (w2:World):Prop:=∃ N0,a={ tmps:=#[.agg #[vr,vg,vm,vs,vc],.pointer (some ⟨N0,0,none⟩),.int .i64 0,.int .i64 0,.int .i64 0,U,U,U,U,U,U,U,U,U,U,U,U,U,U,U,U,U,U,U,U,U,U,U,U,U,U,U,U,U,U,U,U,U,U,U,U,U,U,U,U,U,U,U,U,U,U,U,U,U,U,U,U,U,U,U,U,U,U,U,U,U,U,U,U,U,U,U,U,U,U,U,U,U],defers:=[] }/\BoxB w2 N0 vr vg vm vs vc
theorem as_r0 {r0 r1 g r4 r5:Code} (hc:Tryz.f24.body=some (.seq r0 (.seq r1 (.seq g (.seq r4 (.seq r5 (.seq (.seq q6 (.block 0 (.loop qL0))) qA11))))))) (hB:BookAt W b vr vg vm vs vc):r0.wp Tryz.prog (PZ W (Z0 vr vg vm vs vc)) { tmps:=#[.agg #[vr,vg,vm,vs,vc],U,U,U,U,U,U,U,U,U,U,U,U,U,U,U,U,U,U,U,U,U,U,U,U,U,U,U,U,U,U,U,U,U,U,U,U,U,U,U,U,U,U,U,U,U,U,U,U,U,U,U,U,U,U,U,U,U,U,U,U,U,U,U,U,U,U,U,U,U,U,U,U,U,U,U,U,U],defers:=[] } W:=by
 obtain ⟨rfl,rfl,⟨ma,mc,rfl,_,_⟩,⟨sa,sc,rfl,_,_⟩,ra,rc,rfl,_,_⟩:=id hB;clear hB;simp only [Tryz.f24,Option.some.injEq,Code.seq.injEq] at hc;obtain ⟨rfl,rfl,rfl,rfl,rfl,_⟩:=hc;go_wp2;refine ⟨rfl,⟨W.heap.size,rfl,?_⟩,bel⟩;unfold BoxB;refine ⟨?_,?_,?_,?_,?_⟩ <;> (rw [World.cell?_alloc_at _ _ _ _ rfl];rfl)
def Seen (w:World) (b:Bk) (vs:Value) (B5 Bl:Nat) (la:Option Addr) (lc:Nat):Prop:=w.cell? ⟨B5,3,none⟩=some vs/\w.cell? ⟨Bl,0,none⟩=some (.slice la (pasts b).length lc)/\CamesAt w la (pasts b)
def Z1 (b:Bk) (vr vg vm vs vc:Value) (a:Act) (w2:World):Prop:=∃ N0 la lc B5 Bl,a={ tmps:=#[.agg #[vr,vg,vm,vs,vc],.pointer (some ⟨N0,0,none⟩),.int .i64 0,.int .i64 0,.int .i64 0,.pointer (some ⟨B5,0,none⟩),.pointer (some ⟨Bl,0,none⟩),U,U,U,U,U,U,U,U,.tuple #[.agg #[vr,vg,vm,vs,vc],.slice la (pasts b).length lc,.int .i64 0],.agg #[vr,vg,vm,vs,vc],.tuple #[.agg #[vr,vg,vm,vs,vc],.slice la (pasts b).length lc,.int .i64 0],.agg #[vr,vg,vm,vs,vc],.slice la (pasts b).length lc,.int .i64 0,U,U,U,U,U,U,U,U,U,U,U,U,U,U,U,U,U,U,U,U,U,U,U,U,U,U,U,U,U,U,U,U,U,U,U,U,U,U,U,U,U,U,U,U,U,U,U,U,U,U,U,U,U,U,U,U,U],defers:=[] }/\Seen w2 b vs B5 Bl la lc
theorem as_r1 {r0 r1 g r4 r5:Code} (hc:Tryz.f24.body=some (.seq r0 (.seq r1 (.seq g (.seq r4 (.seq r5 (.seq (.seq q6 (.block 0 (.loop qL0))) qA11))))))) (hB:BookAt W b vr vg vm vs vc) (hN:∀ m∈b.ms,m.name.size<=1000000) (hK:KindsAt W) (ht:openAl b 0=0) {a:Act} (ha:Z0 vr vg vm vs vc a W) :
 r1.wp Tryz.prog (PZ W (Z1 b vr vg vm vs vc)) a W:=by
 obtain ⟨N0,rfl,x0,x1,x2,x3,x4⟩:=ha;have HB:=Hh hB;have HN:=Hh hN;have HK:=Hh hK;obtain ⟨hk,hpt,hps⟩:=openAl_ok ht;have HBA:=Hh hk;have HPS:=Hh hps;have hN0:=lt_of_cell x0;simp only at hN0;obtain ⟨rfl,rfl,⟨ma,mc,rfl,_,_⟩,⟨sa,sc,rfl,_,_⟩,ra,rc,rfl,_,_⟩:=id hB;clear hB hN hK ht hk hpt hps;simp only [Tryz.f24,Option.some.injEq,Code.seq.injEq] at hc;obtain ⟨rfl,rfl,rfl,rfl,rfl,_⟩:=hc;go_wp2_with (go_at_call 34;(with_reducible refine (open_nothing_ok HB.out HN.out HK.out (al:=0) (fun hk W hW=>nothing_any2 _ _ _ _ _ _) HBA.out rfl HPS.out).mono ?_);rintro e w3 ⟨la,rfl,hrow,hb3⟩;obtain ⟨la,lc,rfl⟩:=ownsRow_slice hrow;have HCM:=Hh (cames_of_row hrow);clear hrow;obtain ⟨hc3,hf3⟩:=bcell hb3;have hz3:=hb3.size);refine ⟨rfl,⟨N0,la,lc,w3.heap.size,w3.heap.size+1,rfl,?_,?_,HCM.out.below (bel)⟩,bel⟩
 ·rw [World.cell?_alloc_past _ _ _ (by simp),World.cell?_alloc_at _ _ _ _ rfl];rfl
 ·rw [World.cell?_alloc_at _ _ _ _ (by simp)];rfl
def Z2 (b:Bk) (vr vg vm vs vc:Value) (a:Act) (w2:World):Prop:=∃ N0 la lc B5 Bl,a={ tmps:=#[.agg #[vr,vg,vm,vs,vc],.pointer (some ⟨N0,0,none⟩),.int .i64 0,.int .i64 0,.int .i64 0,.pointer (some ⟨B5,0,none⟩),.pointer (some ⟨Bl,0,none⟩),U,U,U,U,U,U,U,U,.tuple #[.agg #[vr,vg,vm,vs,vc],.slice la (pasts b).length lc,.int .i64 0],.agg #[vr,vg,vm,vs,vc],.tuple #[.agg #[vr,vg,vm,vs,vc],.slice la (pasts b).length lc,.int .i64 0],.agg #[vr,vg,vm,vs,vc],.slice la (pasts b).length lc,.int .i64 0,.int .i64 0,.bool false,U,U,U,U,U,U,U,U,U,U,U,U,U,U,U,U,U,U,U,U,U,U,U,U,U,U,U,U,U,U,U,U,U,U,U,U,U,U,U,U,U,U,U,U,U,U,U,U,U,U,U,U,U,U,U],defers:=[] }/\Seen w2 b vs B5 Bl la lc
theorem as_g {r0 r1 g r4 r5:Code} (hc:Tryz.f24.body=some (.seq r0 (.seq r1 (.seq g (.seq r4 (.seq r5 (.seq (.seq q6 (.block 0 (.loop qL0))) qA11))))))) {a:Act} (ha:Z1 b vr vg vm vs vc a W):g.wp Tryz.prog (PZ W (Z2 b vr vg vm vs vc)) a W:=by
 obtain ⟨N0,la,lc,B5,Bl,rfl,hs⟩:=ha;have HS:=Hh hs;clear hs;simp only [Tryz.f24,Option.some.injEq,Code.seq.injEq] at hc;obtain ⟨rfl,rfl,rfl,rfl,rfl,_⟩:=hc;go_wp2;exact ⟨rfl,⟨N0,la,lc,B5,Bl,rfl,HS.out⟩,bel⟩
theorem ne_chan {w:World} {x o c:Nat} {v:Value} (h:w.cell? ⟨x,o,none⟩=some v) {n s r:Nat} {bf:Array Value} {cl tm:Bool} (hc:w.heap[c]? = some (.chan n bf cl s r tm)):x≠c:=fun e=>by
 subst e;unfold World.cell? at h;rw [hc] at h;cases h
def newChan:Obj:=.chan 0 #[] false 0 0 false
def Z4 (n:Nat) (b:Bk) (vr vg vm vs vc:Value) (a:Act) (w2:World):Prop:=∃ N0 la lc B5 Bl cO Bo,a={ tmps:=#[.agg #[vr,vg,vm,vs,vc],.pointer (some ⟨N0,0,none⟩),.int .i64 0,.int .i64 0,.int .i64 0,.pointer (some ⟨B5,0,none⟩),.pointer (some ⟨Bl,0,none⟩),.pointer (some ⟨Bo,0,none⟩),U,U,U,U,U,U,U,.tuple #[.agg #[vr,vg,vm,vs,vc],.slice la (pasts b).length lc,.int .i64 0],.agg #[vr,vg,vm,vs,vc],.tuple #[.agg #[vr,vg,vm,vs,vc],.slice la (pasts b).length lc,.int .i64 0],.agg #[vr,vg,vm,vs,vc],.slice la (pasts b).length lc,.int .i64 0,.int .i64 0,.bool false,U,.chan (some cO),U,U,U,U,U,U,U,U,U,U,U,U,U,U,U,U,U,U,U,U,U,U,U,U,U,U,U,U,U,U,U,U,U,U,U,U,U,U,U,U,U,U,U,U,U,U,U,U,U,U,U,U,U],defers:=[] }/\Seen w2 b vs B5 Bl la lc/\n<=cO/\w2.heap[cO]? = some newChan/\w2.cell? ⟨Bo,0,none⟩=some (.chan (some cO))
theorem Seen.below {w w2:World} {vs:Value} {B5 Bl lc:Nat} {la:Option Addr} (h:Seen w b vs B5 Bl la lc) (hb:Below w.heap.size w w2):Seen w2 b vs B5 Bl la lc :=
 ⟨(hb.cell (p:=⟨_,_,none⟩) (lt_of_cell h.1)).trans h.1,(hb.cell (p:=⟨_,_,none⟩) (lt_of_cell h.2.1)).trans h.2.1,h.2.2.below hb⟩
theorem Seen.twin {w w2:World} {n:Nat} {vs:Value} {B5 Bl lc:Nat} {la:Option Addr} (h:Seen w b vs B5 Bl la lc) (ht:Twin n w w2):Seen w2 b vs B5 Bl la lc:=⟨(ht.cell _).trans h.1,(ht.cell _).trans h.2.1,ht.cames h.2.2⟩
theorem as_r4 {r0 r1 g r4 r5:Code} (hc:Tryz.f24.body=some (.seq r0 (.seq r1 (.seq g (.seq r4 (.seq r5 (.seq (.seq q6 (.block 0 (.loop qL0))) qA11))))))) {a:Act} (ha:Z2 b vr vg vm vs vc a W):r4.wp Tryz.prog (PZ W (Z4 W.heap.size b vr vg vm vs vc)) a W:=by
 obtain ⟨N0,la,lc,B5,Bl,rfl,hs⟩:=ha;have HS:=Hh hs;obtain ⟨i,hi,hi2⟩:=Option.map_eq_some_iff.1 resInfo;have hmk:∀ w:World,(Instr.makeChan 124 (.int .i64 0)).run Tryz.prog w=.ok (.chan (some w.heap.size)) (w.alloc newChan):=fun w=>Go.Conc.run_makeChan (P:=Tryz.prog) (w:=w) Tryz.underlying124 hi .i64 0 (by omega) (by simp);clear hs hi hi2;simp only [Tryz.f24,Option.some.injEq,Code.seq.injEq] at hc;obtain ⟨rfl,rfl,rfl,rfl,rfl,_⟩:=hc;go_wp2;refine ⟨rfl,⟨N0,la,lc,B5,Bl,W.heap.size,W.heap.size+1,rfl,HS.out.below (bel),Nat.le_refl _,?_,?_⟩,bel⟩
 ·rw [alloc_other (by simp)];exact alloc_block
 ·rw [World.cell?_alloc_at _ _ _ _ (by simp)];rfl
def Z5 (n:Nat) (vr vg vm vs vc:Value) (b:Bk) (N0:Nat) (la:Option Addr) (lc B5 Bl cO Bo:Nat) (a:Act) (w2:World):Prop:=∃ cD Bd,a={ tmps:=#[.agg #[vr,vg,vm,vs,vc],.pointer (some ⟨N0,0,none⟩),.int .i64 0,.int .i64 0,.int .i64 0,.pointer (some ⟨B5,0,none⟩),.pointer (some ⟨Bl,0,none⟩),.pointer (some ⟨Bo,0,none⟩),.pointer (some ⟨Bd,0,none⟩),U,U,U,U,U,U,.tuple #[.agg #[vr,vg,vm,vs,vc],.slice la (pasts b).length lc,.int .i64 0],.agg #[vr,vg,vm,vs,vc],.tuple #[.agg #[vr,vg,vm,vs,vc],.slice la (pasts b).length lc,.int .i64 0],.agg #[vr,vg,vm,vs,vc],.slice la (pasts b).length lc,.int .i64 0,.int .i64 0,.bool false,U,.chan (some cO),.chan (some cD),U,U,U,U,U,U,U,U,U,U,U,U,U,U,U,U,U,U,U,U,U,U,U,U,U,U,U,U,U,U,U,U,U,U,U,U,U,U,U,U,U,U,U,U,U,U,U,U,U,U,U,U],defers:=[] }/\n<=cD/\w2.heap[cD]? = some newChan/\w2.cell? ⟨Bd,0,none⟩=some (.chan (some cD))
theorem as_r5 {r0 r1 g r4 r5:Code} (hc:Tryz.f24.body=some (.seq r0 (.seq r1 (.seq g (.seq r4 (.seq r5 (.seq (.seq q6 (.block 0 (.loop qL0))) qA11))))))) {a:Act} {N0 lc B5 Bl cO Bo:Nat} {la:Option Addr} (ha:a={ tmps:=#[.agg #[vr,vg,vm,vs,vc],.pointer (some ⟨N0,0,none⟩),.int .i64 0,.int .i64 0,.int .i64 0,.pointer (some ⟨B5,0,none⟩),.pointer (some ⟨Bl,0,none⟩),.pointer (some ⟨Bo,0,none⟩),U,U,U,U,U,U,U,.tuple #[.agg #[vr,vg,vm,vs,vc],.slice la (pasts b).length lc,.int .i64 0],.agg #[vr,vg,vm,vs,vc],.tuple #[.agg #[vr,vg,vm,vs,vc],.slice la (pasts b).length lc,.int .i64 0],.agg #[vr,vg,vm,vs,vc],.slice la (pasts b).length lc,.int .i64 0,.int .i64 0,.bool false,U,.chan (some cO),U,U,U,U,U,U,U,U,U,U,U,U,U,U,U,U,U,U,U,U,U,U,U,U,U,U,U,U,U,U,U,U,U,U,U,U,U,U,U,U,U,U,U,U,U,U,U,U,U,U,U,U,U],defers:=[] }):r5.wp Tryz.prog (PZ W (Z5 W.heap.size vr vg vm vs vc b N0 la lc B5 Bl cO Bo)) a W:=by
 subst ha;obtain ⟨i,hi,hi2⟩:=Option.map_eq_some_iff.1 boolInfo;have hmk:∀ w:World,(Instr.makeChan 125 (.int .i64 0)).run Tryz.prog w=.ok (.chan (some w.heap.size)) (w.alloc newChan):=fun w=>Go.Conc.run_makeChan (P:=Tryz.prog) (w:=w) Tryz.underlying125 hi .i64 0 (by omega) (by simp);clear hi hi2;simp only [Tryz.f24,Option.some.injEq,Code.seq.injEq] at hc;obtain ⟨rfl,rfl,rfl,rfl,rfl,_⟩:=hc;go_wp2;refine ⟨rfl,⟨W.heap.size,W.heap.size+1,rfl,Nat.le_refl _,?_,?_⟩,bel⟩
 ·rw [alloc_other (by simp)];exact alloc_block
 ·rw [World.cell?_alloc_at _ _ _ _ (by simp)];rfl
theorem as_q6 {a:Act} {N0 lc B5 Bl cO Bo cD Bd:Nat} {la sa:Option Addr} {sc:Nat} (ha:a={ tmps:=#[.agg #[vr,vg,vm,vs,vc],.pointer (some ⟨N0,0,none⟩),.int .i64 0,.int .i64 0,.int .i64 0,.pointer (some ⟨B5,0,none⟩),.pointer (some ⟨Bl,0,none⟩),.pointer (some ⟨Bo,0,none⟩),.pointer (some ⟨Bd,0,none⟩),U,U,U,U,U,U,.tuple #[.agg #[vr,vg,vm,vs,vc],.slice la (pasts b).length lc,.int .i64 0],.agg #[vr,vg,vm,vs,vc],.tuple #[.agg #[vr,vg,vm,vs,vc],.slice la (pasts b).length lc,.int .i64 0],.agg #[vr,vg,vm,vs,vc],.slice la (pasts b).length lc,.int .i64 0,.int .i64 0,.bool false,U,.chan (some cO),.chan (some cD),U,U,U,U,U,U,U,U,U,U,U,U,U,U,U,U,U,U,U,U,U,U,U,U,U,U,U,U,U,U,U,U,U,U,U,U,U,U,U,U,U,U,U,U,U,U,U,U,U,U,U,U],defers:=[] }) (h3:W.cell? ⟨B5,3,none⟩=some (.slice sa b.ss.length sc)):q6.wp Tryz.prog (PZ W (fun a' _=>a'={ tmps:=#[.agg #[vr,vg,vm,vs,vc],.pointer (some ⟨N0,0,none⟩),.int .i64 0,.int .i64 0,.int .i64 0,.pointer (some ⟨B5,0,none⟩),.pointer (some ⟨Bl,0,none⟩),.pointer (some ⟨Bo,0,none⟩),.pointer (some ⟨Bd,0,none⟩),U,U,U,U,U,U,.tuple #[.agg #[vr,vg,vm,vs,vc],.slice la (pasts b).length lc,.int .i64 0],.agg #[vr,vg,vm,vs,vc],.tuple #[.agg #[vr,vg,vm,vs,vc],.slice la (pasts b).length lc,.int .i64 0],.agg #[vr,vg,vm,vs,vc],.slice la (pasts b).length lc,.int .i64 0,.int .i64 0,.bool false,U,.chan (some cO),.chan (some cD),.pointer (some ⟨B5,0,none⟩),.pointer (some ⟨B5,3,none⟩),.slice sa b.ss.length sc,.int .i64 b.ss.length,.int .i64 0,U,U,U,U,U,U,U,U,U,U,U,U,U,U,U,U,U,U,U,U,U,U,U,U,U,U,U,U,U,U,U,U,U,U,U,U,U,U,U,U,U,U,U,U,U,U,U],defers:=[] })) a W:=by
 subst ha;have hlt:=lt_of_cell h3;simp only at hlt;have h3':∀ o,o=3->W.cell? ⟨B5,o,none⟩=some (.slice sa b.ss.length sc):=fun o h=>by rw [h];exact h3
 clear h3';simp only [q6,qBody,Tryz.f24,Option.getD_some];go_wp2;exact ⟨rfl,rfl,Below.refl _ _⟩
theorem leads_loop {P:Program} {K:Frame->List Frame->World->Prop} {fb:Frame} {a:Act} {c:Code} {k:List Item} {cs:List Frame} {w:World} (h:∀ d,Leads P K (fb.at a (.code c::.inLoop c::k)) cs (w.at d)):Leads P K (fb.at a (.code (.loop c)::k)) cs w:=leads_go (fun d=>rfl) h
theorem askFrame {v:Value} {c:Code} (hc:Tryz.f24.body=some c):Frame.enter Tryz.prog 24 #[v] .normal=(Go.Conc.base 24).at { tmps:=#[v,U,U,U,U,U,U,U,U,U,U,U,U,U,U,U,U,U,U,U,U,U,U,U,U,U,U,U,U,U,U,U,U,U,U,U,U,U,U,U,U,U,U,U,U,U,U,U,U,U,U,U,U,U,U,U,U,U,U,U,U,U,U,U,U,U,U,U,U,U,U,U,U,U,U,U,U,U],defers:=[] } [.code c]:=by
 rw [Go.Conc.enter_at #[v] Tryz.func24 hc];simp only [Tryz.ntmps24,List.size_toArray,List.length_cons,List.length_nil,Nat.reduceAdd,Nat.reduceSub,Array.replicate_succ,Array.replicate_zero,List.push_toArray,List.append_toArray,List.nil_append,List.cons_append]
theorem ask_farm {w:World} (hB:BookAt w b vr vg vm vs vc) (hN:∀ m∈b.ms,m.name.size<=1000000) (hK:KindsAt w) (ht:openAl b 0=0) (hn:0 < b.ss.length) (cs:List Frame) :
 Leads Tryz.prog (fun fr' cs' w1=>cs'=cs/\Old w w1/\∃ (B5 Bl Bo Bd r lc:Nat) (la:Option Addr) (u0 u1 u2 u3 u4 u9 ja jb jc jd je jf jg jh ji jj jk jl jm jn jo jp jq jr js jt ju jv jw jx jy jz jA jB jC jD jE jF jG jH jI jJ jK jL jM jN jO jP jQ jR jS jT jU jV jW jX jY jZ j0 j1 j2 j3 j4 j5 j6 j7 j8 j9 qa qb qd qe qf:Value),fr'=(Go.Conc.base 24).at { tmps:=#[u0,u1,u2,u3,u4,.pointer (some ⟨B5,0,none⟩),.pointer (some ⟨Bl,0,none⟩),.pointer (some ⟨Bo,0,none⟩),.pointer (some ⟨Bd,0,none⟩),u9,.slice (some ⟨r,0,none⟩) b.ss.length b.ss.length,ja,jb,jc,jd,je,jf,jg,jh,ji,jj,jk,jl,jm,jn,jo,jp,jq,jr,js,jt,ju,jv,jw,jx,jy,jz,jA,jB,jC,jD,jE,jF,jG,jH,jI,jJ,jK,jL,jM,jN,jO,jP,jQ,jR,jS,jT,jU,jV,jW,jX,jY,jZ,j0,j1,j2,j3,j4,j5,j6,j7,j8,j9,qa,qb,qd,qe,qf],defers:=[] } [.code qA20]/\w1.cell? ⟨Bl,0,none⟩=some (.slice la (pasts b).length lc)/\w1.heap[r]? = some (.cells (outCells (pasts b) b.ss.length fun _=>true) 3))
  (Frame.enter Tryz.prog 24 #[.agg #[vr,vg,vm,vs,vc]] .normal) cs w:=by
 obtain ⟨r0,r1,g,r4,r5,hc⟩:=qBody_eq;obtain ⟨hk,_,hps⟩:=openAl_ok ht;have hbo:=(bookAl_ok hk).1;have hok:=progOk.code _ _ Tryz.func24 _ hc;simp only [codeOk,Bool.and_eq_true] at hok;obtain ⟨k0,k1,k2,k4,k5,⟨k6,_⟩,_⟩:=hok;rw [askFrame hc];have nb:(Go.Conc.base 24).kind=.normal:=rfl;have nd:MarksOnly []:=fun d hd=>by cases hd
 refine leads_seq fun d=>?_;refine (piece_co (w:=w.at d) (c:=r0) k0 nb nd (Z:=Z0 vr vg vm vs vc) (fun a w1 w2 ht ⟨N0,h1,h2,h3,h4,h5,h6⟩=>⟨N0,h1,(ht.cell _).trans h2,(ht.cell _).trans h3,(ht.cell _).trans h4,(ht.cell _).trans h5,(ht.cell _).trans h6⟩) (fun W hW=>as_r0 hc (hW.unat.book hB))).trans ?_;rintro _ cs1 w1 ⟨a1,rfl,hcs,hz1,ho1⟩;rw [hcs];clear hcs cs1;have o1:Old w w1:=⟨ho1.os,ho1.output,ho1.size,ho1.block⟩;clear ho1;refine leads_seq fun d=>?_;refine (piece_co (w:=w1.at d) (c:=r1) k1 nb (by obtain ⟨N0,rfl,_⟩:=hz1;exact nd) (Z:=Z1 b vr vg vm vs vc) (fun a w1 w2 ht ⟨N0,la,lc,B5,Bl,h1,h2⟩=>⟨N0,la,lc,B5,Bl,h1,h2.twin ht⟩)
  (fun W hW=>as_r1 hc (hW.unat.book (o1.book hB)) hN (hW.unat.kinds (o1.kinds hK)) ht (by obtain ⟨N0,h1,h2,h3,h4,h5,h6⟩:=hz1;exact ⟨N0,h1,(hW.unat.cell _).trans h2,(hW.unat.cell _).trans h3,(hW.unat.cell _).trans h4,(hW.unat.cell _).trans h5,(hW.unat.cell _).trans h6⟩))).trans ?_
 rintro _ cs1 w2 ⟨a2,rfl,hcs,hz2,ho2⟩;rw [hcs];clear hcs cs1;have o2:Old w w2:=o1.trans ⟨ho2.os,ho2.output,ho2.size,ho2.block⟩;clear ho2 hz1;refine leads_seq fun d=>?_;refine (piece_co (w:=w2.at d) (c:=g) k2 nb (by obtain ⟨N0,la,lc,B5,Bl,rfl,_⟩:=hz2;exact nd) (Z:=Z2 b vr vg vm vs vc) (fun a w1 w2 ht ⟨N0,la,lc,B5,Bl,h1,h2⟩=>⟨N0,la,lc,B5,Bl,h1,h2.twin ht⟩)
  (fun W hW=>as_g hc (by obtain ⟨N0,la,lc,B5,Bl,h1,h2⟩:=hz2;exact ⟨N0,la,lc,B5,Bl,h1,Seen.twin h2 hW.unat⟩))).trans ?_
 rintro _ cs1 w3 ⟨a3,rfl,hcs,hz3,ho3⟩;rw [hcs];clear hcs cs1;have o3:Old w w3:=o2.trans ⟨ho3.os,ho3.output,ho3.size,ho3.block⟩;clear ho3 hz2;refine leads_seq fun d=>?_;refine (piece_co (w:=w3.at d) (c:=r4) k4 nb (by obtain ⟨N0,la,lc,B5,Bl,rfl,_⟩:=hz3;exact nd) (Z:=Z4 w3.heap.size b vr vg vm vs vc) (fun a w1 w2 ht ⟨N0,la,lc,B5,Bl,cO,Bo,h1,h2,h3,h4,h5⟩=>⟨N0,la,lc,B5,Bl,cO,Bo,h1,h2.twin ht,h3,(ht.block _ h3).trans h4,(ht.cell _).trans h5⟩)
  (fun W hW=>by have:=as_r4 hc (a:=a3) (W:=W) (by obtain ⟨N0,la,lc,B5,Bl,h1,h2⟩:=hz3;exact ⟨N0,la,lc,B5,Bl,h1,Seen.twin h2 hW.unat⟩);rw [show W.heap.size=w3.heap.size from hW.size] at this;exact this)).trans ?_
 rintro _ cs1 w4 ⟨a4,rfl,hcs,⟨N0,la,lc,B5,Bl,cO,Bo,rfl,hs4,hc4,hch4,hb4⟩,ho4⟩;rw [hcs];clear hcs cs1;have o4:Old w w4:=o3.trans ⟨ho4.os,ho4.output,ho4.size,ho4.block⟩;have hsz3:w.heap.size<=w3.heap.size:=o3.size;clear ho4 hz3;refine leads_seq fun d=>?_;refine (piece_co (w:=w4.at d) (c:=r5) k5 nb nd (Z:=Z5 w4.heap.size vr vg vm vs vc b N0 la lc B5 Bl cO Bo) (fun a w1 w2 ht ⟨cD,Bd,h1,h3,h4,h5⟩=>⟨cD,Bd,h1,h3,(ht.block _ h3).trans h4,(ht.cell _).trans h5⟩)
  (fun W hW=>by have:=as_r5 (vr:=vr) (vg:=vg) (vm:=vm) (vs:=vs) (vc:=vc) (b:=b) (W:=W) (N0:=N0) (lc:=lc) (B5:=B5) (Bl:=Bl) (cO:=cO) (Bo:=Bo) (la:=la) hc rfl;rw [show W.heap.size=w4.heap.size from hW.size] at this;exact this)).trans ?_
 rintro _ cs1 w5 ⟨a5,rfl,hcs,⟨cD,Bd,rfl,hc5,hch5,hb5⟩,ho5⟩;rw [hcs];clear hcs cs1;have ho5':Old w4 w5:=⟨ho5.os,ho5.output,ho5.size,ho5.block⟩;have o5:Old w w5:=o4.trans ho5';have hcO4:cO < w4.heap.size:=(Array.getElem?_eq_some_iff.1 hch4).1;have hch4':w5.heap[cO]? = some newChan:=(ho5'.block _ hcO4).trans hch4;have hs5:Seen w5 b vs B5 Bl la lc:=⟨ho5'.cell2 hs4.1,ho5'.cell2 hs4.2.1,ho5'.cames hs4.2.2⟩;have hb4':=ho5'.cell2 hb4;have hsz4:w.heap.size<=w4.heap.size:=o4.size;clear ho5 hs4 hb4 hch4;obtain ⟨sa,sc,hvs,hsa,_⟩:=hB.ss;refine leads_seq fun d0=>?_;refine leads_seq fun d=>?_;refine (piece_co (w:=(w5.at d0).at d) (c:=q6) k6 nb nd (Z:=fun a' _=>a'={ tmps:=#[.agg #[vr,vg,vm,vs,vc],.pointer (some ⟨N0,0,none⟩),.int .i64 0,.int .i64 0,.int .i64 0,.pointer (some ⟨B5,0,none⟩),.pointer (some ⟨Bl,0,none⟩),.pointer (some ⟨Bo,0,none⟩),.pointer (some ⟨Bd,0,none⟩),U,U,U,U,U,U,.tuple #[.agg #[vr,vg,vm,vs,vc],.slice la (pasts b).length lc,.int .i64 0],.agg #[vr,vg,vm,vs,vc],.tuple #[.agg #[vr,vg,vm,vs,vc],.slice la (pasts b).length lc,.int .i64 0],.agg #[vr,vg,vm,vs,vc],.slice la (pasts b).length lc,.int .i64 0,.int .i64 0,.bool false,U,.chan (some cO),.chan (some cD),.pointer (some ⟨B5,0,none⟩),.pointer (some ⟨B5,3,none⟩),.slice sa b.ss.length sc,.int .i64 b.ss.length,.int .i64 0,U,U,U,U,U,U,U,U,U,U,U,U,U,U,U,U,U,U,U,U,U,U,U,U,U,U,U,U,U,U,U,U,U,U,U,U,U,U,U,U,U,U,U,U,U,U,U],defers:=[] }) (fun a w1 w2 ht h=>h) (fun W hW=>as_q6 rfl ((hW.unat.unat.cell _).trans (hs5.1.trans (by rw [hvs]))))).trans ?_;rintro _ cs1 w6 ⟨a6,rfl,hcs,rfl,ho6⟩;rw [hcs];clear hcs cs1;have ho6':Old w5 w6:=⟨ho6.os,ho6.output,ho6.size,ho6.block⟩;have o6:Old w w6:=o5.trans ho6';have hch6:w6.heap[cO]? = some newChan:=(ho6'.block _ (Array.getElem?_eq_some_iff.1 hch4').1).trans hch4';have hch7:w6.heap[cD]? = some newChan:=(ho6'.block _ (Array.getElem?_eq_some_iff.1 hch5).1).trans hch5;have hs6:Seen w6 b _ B5 Bl la lc:=⟨ho6'.cell2 hs5.1,ho6'.cell2 hs5.2.1,ho6'.cames hs5.2.2⟩;have hb6:=ho6'.cell2 hb4';have hb7:=ho6'.cell2 hb5;clear ho6 ho6' hs5 hb5 hb4' hch5 hch4';refine leads_block fun d1=>?_;refine leads_loop fun d2=>?_;obtain ⟨W,hW⟩:∃ W,W=(w6.at d1).at d2:=⟨_,rfl⟩;have q:W.heap=w6.heap:=by rw [hW];rfl
 have qc:∀ a,W.cell? a=w6.cell? a:=fun a=>by rw [hW];rfl
 have qo:Old w W:=by rw [hW];exact ⟨o6.os,o6.output,o6.size,o6.block⟩
 have hs7:Seen W b vs B5 Bl la lc:=by rw [hW];exact ⟨hs6.1,hs6.2.1,(on_twin w6 w6.tape w6.drawn).cames hs6.2.2⟩
 rw [<- hW];clear hW;rw [<- q] at hch6 hch7;rw [<- qc] at hb6 hb7;clear q qc o6 hs6;have hne:cO≠cD:=fun e=>by omega
 have few:=pasts_le hbo;have hsl:=hbo.sl;have hx:∀ i,i < 4->∀ x∈pasts b,∃ v:Nat,v<=5/\(pad x).getD i 0=(v:Int):=fun i hi x hx=>by
  obtain ⟨hcm,h4,hl⟩:=pasts_came hbo hx;by_cases h:i < b.ss.length
  ·have h1:=hcm i h;have h2:=hbo.pl _ (List.getElem_mem h);exact ⟨((pad x).getD i 0).toNat,by omega,by omega⟩
  ·refine ⟨0,by omega,?_⟩;have:(pad x).getD i 0=0:=by
    unfold pad;rw [List.getD_eq_getElem?_getD,List.getElem?_append_right (by omega),List.getElem?_replicate];split <;> rfl
   rw [this];rfl
 have T:MTask W cO cD B5 Bl Bo Bd la (pasts b) lc sa b.ss.length sc:=by
  refine ⟨⟨hs7.2.1,⟨ne_chan hs7.2.1 hch6,ne_chan hs7.2.1 hch7⟩,hb6,⟨ne_chan hb6 hch6,ne_chan hb6 hch7⟩,hb7,⟨ne_chan hb7 hch6,ne_chan hb7 hch7⟩,hs7.2.2,fun y hy=>?_,by omega⟩,by rw [hs7.1,hvs],⟨ne_chan hs7.1 hch6,ne_chan hs7.1 hch7⟩,hn,hsl⟩;obtain ⟨x,xs,e⟩:=List.exists_cons_of_ne_nil hps;obtain ⟨bb,o,e2,_,h1,_⟩:=hs7.2.2 0 (by rw [e];simp);rw [hy] at e2;cases e2;exact ⟨ne_chan h1 hch6,ne_chan h1 hch7⟩
 have hlO:=(Array.getElem?_eq_some_iff.1 hch6).1;have hlD:=(Array.getElem?_eq_some_iff.1 hch7).1;refine (farm_leads (askFarm W cO cD (pasts b) b.ss.length) (fun bb=>askMaster T hx (fun x hx=>(pasts_came hbo hx).2.1) cs bb) (own0:=fun _=>none)
  (Z:=fun fr cs0 own=>∃ (r:Nat) (u0 u1 u2 u3 u4 u9 ja jb jc jd je jf jg jh ji jj jk jl jm jn jo jp jq jr js jt ju jv jw jx jy jz jA jB jC jD jE jF jG jH jI jJ jK jL jM jN jO jP jQ jR jS jT jU jV jW jX jY jZ j0 j1 j2 j3 j4 j5 j6 j7 j8 j9 qa qb qd qe qf:Value),cs0=cs/\fr=(Go.Conc.base 24).at { tmps:=#[u0,u1,u2,u3,u4,.pointer (some ⟨B5,0,none⟩),.pointer (some ⟨Bl,0,none⟩),.pointer (some ⟨Bo,0,none⟩),.pointer (some ⟨Bd,0,none⟩),u9,.slice (some ⟨r,0,none⟩) b.ss.length b.ss.length,ja,jb,jc,jd,je,jf,jg,jh,ji,jj,jk,jl,jm,jn,jo,jp,jq,jr,js,jt,ju,jv,jw,jx,jy,jz,jA,jB,jC,jD,jE,jF,jG,jH,jI,jJ,jK,jL,jM,jN,jO,jP,jQ,jR,jS,jT,jU,jV,jW,jX,jY,jZ,j0,j1,j2,j3,j4,j5,j6,j7,j8,j9,qa,qb,qd,qe,qf],defers:=[] } [.code qA20]/\own r=some (.cells (outCells (pasts b) b.ss.length fun _=>true) 3))
  ?fin hn (fun bb=>⟨40,ma_head T 0 hn _ _ _ _ _ _ _ _ _ _ _ _ _ _ _ _ _ _ _ _ _ _ _ _ _ _ _ _ _ _ _ _ _ _ _ _ _ _ _ _ _ _ _ _ _ _ _ _ _ _ _ _ _ _ _ _ _ _ _ _ _ _ _ _ _ _ _ _ _ _ _ _ _⟩) ⟨(fun r o h=>by cases h),(fun r o h=>?ro),(fun r o h=>by cases h)⟩ ⟨⟨0,false,hch6⟩,0,false,hch7⟩ hne ⟨rfl,rfl⟩ ⟨?f1,?f2⟩ ⟨rfl,rfl,rfl,Nat.le_refl _⟩).mono ?_
 case fin =>
  rintro bb g own ⟨r,u0,u1,u2,u3,u4,u9,ja,jb,jc,jd,je,jf,jg,jh,ji,jj,jk,jl,jm,jn,jo,jp,jq,jr,js,jt,ju,jv,jw,jx,jy,jz,jA,jB,jC,jD,jE,jF,jG,jH,jI,jJ,jK,jL,jM,jN,jO,jP,jQ,jR,jS,jT,jU,jV,jW,jX,jY,jZ,j0,j1,j2,j3,j4,j5,j6,j7,j8,j9,qa,qb,qd,qe,qf,rfl,h⟩;exact ⟨_,_,rfl,r,u0,u1,u2,u3,u4,u9,ja,jb,jc,jd,je,jf,jg,jh,ji,jj,jk,jl,jm,jn,jo,jp,jq,jr,js,jt,ju,jv,jw,jx,jy,jz,jA,jB,jC,jD,jE,jF,jG,jH,jI,jJ,jK,jL,jM,jN,jO,jP,jQ,jR,jS,jT,jU,jV,jW,jX,jY,jZ,j0,j1,j2,j3,j4,j5,j6,j7,j8,j9,qa,qb,qd,qe,qf,rfl,rfl,h⟩
 case ro =>
  have h':roOf W cO cD r=some o:=h;unfold roOf at h';split at h'
  ·cases h'
  ·exact h'
 case f1=>show roOf W cO cD cO=none;simp [roOf]
 case f2=>show roOf W cO cD cD=none;simp [roOf]
 rintro fr' cs' w' ⟨own',hm,⟨h1,h2,h3,h4⟩,r,u0,u1,u2,u3,u4,u9,ja,jb,jc,jd,je,jf,jg,jh,ji,jj,jk,jl,jm,jn,jo,jp,jq,jr,js,jt,ju,jv,jw,jx,jy,jz,jA,jB,jC,jD,jE,jF,jG,jH,jI,jJ,jK,jL,jM,jN,jO,jP,jQ,jR,jS,jT,jU,jV,jW,jX,jY,jZ,j0,j1,j2,j3,j4,j5,j6,j7,j8,j9,qa,qb,qd,qe,qf,rfl,rfl,hr⟩;have hm':Meets w' own' (roOf W cO cD):=hm;have hold:∀ k,k < W.heap.size->k≠cO->k≠cD->w'.heap[k]? = W.heap[k]? := fun k hk e1 e2=>ro_block hm' hk e1 e2;have hOld:Old w w':=by
  refine ⟨h1.trans qo.os,h3.trans qo.output,Nat.le_trans qo.size h4,fun k hk=>?_⟩;rw [hold k (Nat.lt_of_lt_of_le hk qo.size) (by omega) (by omega)];exact qo.block k hk
 refine ⟨rfl,hOld,B5,Bl,Bo,Bd,r,lc,la,u0,u1,u2,u3,u4,u9,ja,jb,jc,jd,je,jf,jg,jh,ji,jj,jk,jl,jm,jn,jo,jp,jq,jr,js,jt,ju,jv,jw,jx,jy,jz,jA,jB,jC,jD,jE,jF,jG,jH,jI,jJ,jK,jL,jM,jN,jO,jP,jQ,jR,jS,jT,jU,jV,jW,jX,jY,jZ,j0,j1,j2,j3,j4,j5,j6,j7,j8,j9,qa,qb,qd,qe,qf,rfl,?_,hm.mine r _ hr⟩;rw [World.cell?_of_block (hold Bl (lt_of_cell hs7.2.1) T.lN.1 T.lN.2)];exact hs7.2.1
end
end
end Go.Proofs.YtdjnkplgllakcaaGreatDoor
