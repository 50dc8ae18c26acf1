/- FaultHistories -/
import Derived.Test.YtamolbnfliehjaaGreatDoorFH29
set_option maxHeartbeats 200000
set_option maxRecDepth 100000
set_option linter.all false
namespace Go.Proofs.YtamolbnfliehjaaGreatDoor
namespace Mt
open Go Go.Conc Go.RowKit
section
variable {P:Program} {b:Frame} {a:Act} {w:World} {k:List Item} {cs:List Frame} {K:Frame->List Frame->World->Prop}
theorem leads_op {ops:Array Oper} {i:Nat} {rest:List Nat} (v:Value) (hb:b.kind=.normal) {o:Oper} (ho:ops[i]? = some o) (hw:Region.wanted o (yielded ops a.tmps)=true)
 (hr:∀ W D,View D W w->∀ d,(execOp a.eval o).run P (W.at d)=.ok (.value v) (W.at d)) (he:∀ W D,View D W w->∀ d,∀ e∈(execOp a.eval o).events P (W.at d) #[],EvOk D W.heap.size e)
 (h:∀ d,Leads P K (b.at (a.put o.dst v) (.inRegion ops rest::k)) cs (w.at d)):Leads P K (b.at a (.inRegion ops (i::rest)::k)) cs w :=
 fun L hL W D hv=>.step fun d=>⟨_,cs,W.at d,_,stepG_value ho hw (by rw [hb];decide) (hr W D hv d),fun e hm=>he W D hv d e (seen_mem hm),Nat.le_refl _,h d L hL (W.at d) D (hv.at d)⟩
theorem leads_call {ops:Array Oper} {i:Nat} {rest:List Nat} {f:FuncId} {args:Array Value} (hb:b.kind=.normal) {o:Oper} (ho:ops[i]? = some o) (hw:Region.wanted o (yielded ops a.tmps)=true)
 (hr:∀ W:World,(execOp a.eval o).run P W=.ok (.enter f args) W) (he:∀ W:World,(execOp a.eval o).events P W #[]=#[]) {Z:Value->World->Prop}
 (hc:∀ d,Leads P (fun fr' cs' w1=>∃ v,fr'=(b.at a (.inRegion ops (i::rest)::k)).finish v/\cs'=cs/\Z v w1) (Frame.enter P f args .normal) (b.at a (.inRegion ops (i::rest)::k)::cs) (w.at d))
 (h:∀ v w1,Z v w1->Leads P K (b.at (a.put o.dst v) (.inRegion ops rest::k)) cs w1):Leads P K (b.at a (.inRegion ops (i::rest)::k)) cs w:=by
 intro L hL W D hv;refine .step fun d=>⟨_,_,W.at d,_,stepG_enter ho hw (by rw [hb];decide) (hr _),fun e hm=>?_,Nat.le_refl _,((hc d L hL).trans ?_) (W.at d) D (hv.at d)⟩
 ·have:=seen_mem hm;rw [he] at this;simp at this
 ·rintro fr' cs' w1 hsz ⟨v,rfl,rfl,hz⟩;have hfin:(b.at a (.inRegion ops (i::rest)::k)).finish v=b.at (a.put o.dst v) (.inRegion ops rest::k):=by rw [Frame.finish_at,ho];rfl
  rw [hfin];exact h v w1 hz L (Nat.le_trans hL hsz)
end
theorem Stays.refl (w:World):Stays w w:=⟨rfl,Nat.le_refl _,fun _ _=>rfl,ConcM.OsLater.refl _⟩
theorem Stays.trans {a b c:World} (h:Stays a b) (k:Stays b c):Stays a c:=⟨k.output.trans h.output,Nat.le_trans h.size k.size,fun i hi=>(k.block i (Nat.lt_of_lt_of_le hi h.size)).trans (h.block i hi),h.os.trans k.os⟩
theorem Stays.at (w:World) (d:Nat):Stays w (w.at d):=⟨rfl,Nat.le_refl _,fun _ _=>rfl,ConcM.OsLater.refl _⟩
theorem Old.stays {w w1:World} (h:Old w w1):Stays w w1:=⟨h.output,h.size,h.block,h.os ▸ ConcM.OsLater.refl _⟩
theorem Stays.alike' {w w1:World} (h:Stays w w1):Alike w w1:=⟨h.size,fun b o hb=>World.cell?_of_block (h.block b hb)⟩
structure Ivt (w0:World) (I:World->Prop) (w:World):Prop where
 cl:∀ w1 w2,Alike w1 w2->I w1->I w2
 it:I w
 st:Stays w0 w
theorem Ivt.to {w0 w w1:World} {I:World->Prop} (h:Ivt w0 I w) (hs:Stays w w1):Ivt w0 I w1:=⟨h.cl,h.cl _ _ hs.alike' h.it,h.st.trans hs⟩
theorem Ivt.and {w0 w w1:World} {I J:World->Prop} (h:Ivt w0 I w) (hs:Stays w w1) (hj:∀ w1 w2,Alike w1 w2->J w1->J w2) (j:J w1):Ivt w0 (fun w=>I w/\J w) w1:=⟨fun a b hab x=>⟨h.cl a b hab x.1,hj a b hab x.2⟩,⟨h.cl _ _ hs.alike' h.it,j⟩,h.st.trans hs⟩
theorem Ivt.less {w0 w:World} {I J:World->Prop} (h:Ivt w0 I w) (hj:∀ w1 w2,Alike w1 w2->J w1->J w2) (j:∀ w,I w->J w):Ivt w0 J w:=⟨hj,j _ h.it,h.st⟩
theorem knl_all {a:Act}:∀ {l:List (Nat × Value)},(∀ x∈l,a.tmps[x.1]? = some x.2)->KnL a l
 | [],_=>trivial
 | y::l,h=>⟨h y (by simp),knl_all fun x hx=>h x (by simp [hx])⟩
theorem closed_lw {P:Program} {K:Frame->List Frame->World->Prop} {w:World}:Closed P true (fun _=>True) fun g=>∀ d,Leads P K g.frame g.callers (w.at d) :=
 fun fr cs fr1 cs1 h hk d=>leads_go (fun W=>h W trivial) fun d'=>hk d'
section
variable {P:Program} {K:Frame->List Frame->World->Prop} {b:Frame} {a:Act} {w0 w:World} {I:World->Prop} {k:List Item} {cs:List Frame} {n:Nat} {l:List (Nat × Value)} {D:List Deferred}
theorem co_runO (hi:Ivt w0 I w) (N:Nat) (ov l':List (Nat × Value)) (k':List Item) (o':List (Value × Value)) (q:Kn a n l) (hd:a.defers=D) (ho:Obl o')
 (h:∀ a1 w1,Ivt w0 I w1->a1.defers=D->Kn a1 n l'->Leads P K (b.at a1 k') cs w1) (hb:b.kind≠.early:=by k_ne) (e:∀ d,silR P d ov n N l k l'=some (l',k',o'):=by intro d;kernel_rfl):Leads P K (b.at a k) cs w :=
 cl_runO (main:=true) (W:=fun g=>∀ d,Leads P K g.frame g.callers (w.at d)) (b:=b) (cs:=cs) closed_lw N ov l' k' o' q hd ho (fun a1 h1 h2 d=>h a1 _ (hi.to (Stays.at w d)) h1 h2) hb e w.drawn
theorem co_run (hi:Ivt w0 I w) (N:Nat) (l':List (Nat × Value)) (k':List Item) (q:Kn a n l) (hd:a.defers=D)
 (h:∀ a1 w1,Ivt w0 I w1->a1.defers=D->Kn a1 n l'->Leads P K (b.at a1 k') cs w1) (hb:b.kind≠.early:=by k_ne) (e:∀ d,silR P d [] n N l k l'=some (l',k',[]):=by intro d;kernel_rfl):Leads P K (b.at a k) cs w:=co_runO hi N [] l' k' [] q hd trivial h hb e
def callR (P:Program) (n:Nat) (d:Nat->Value) (l:List (Nat × Value)) (ops:Array Oper) (i:Nat):Option (FuncId × List Value × Nat) :=
 match ops[i]? with
 | none=>none
 | some o=>match gd l ops o,o.op,o.dst with
  | some true,.call c,some j=>match c.callee with
   | .value (.func f)=>match P.funcs[f]? with
    | some fn=>if j < n/\fn.body.isSome=true/\(fn.name == "runtime.NumGoroutine")=false then some (f,c.args.toList.map (rho l d),j) else none
    | none=>none
   | _=>none
  | _,_,_=>none
theorem call_at {w:World} {a:Act} {ops:Array Oper} {i:Nat} {f:FuncId} {args:List Value} {j:Nat} (q:Kn a n l) (e:∀ d,callR P n d l ops i=some (f,args,j)) :
 ∃ o,ops[i]? = some o/\Region.wanted o (yielded ops a.tmps)=true/\o.dst=some j/\j < n/\(∀ W,(execOp a.eval o).run P W=.ok (.enter f args.toArray) W)/\∀ W,(execOp a.eval o).events P W #[]=#[]:=by
 have e:=e fun t=>a.tmps.getD t undef;unfold callR at e;split at e
 ·cases e
 ·rename_i o hi
  split at e
  ·rename_i c j' hg hop hd
   split at e
   ·rename_i f' hcal
    split at e
    ·rename_i fn hf
     split at e
     ·rename_i hx
      cases e;obtain ⟨hj,hb,hn⟩:=hx;have hb':fn.body.isNone=false:=by cases h:fn.body <;> simp_all
      obtain ⟨cal,args,ats⟩:=c;cases hcal;have hm:(args.toList.map (rho l fun t=>a.tmps.getD t undef)).toArray=args.map a.eval:=by rw [<- q.sil.ev,<- Array.toList_map,Array.toArray_toList]
      refine ⟨o,hi,gd_true q.sil hg,hd,hj,fun W=>?_,fun W=>events_call_body hop hf hn hb' _⟩;rw [hm];exact run_call_body hop hf hn hb'
     ·cases e
    ·cases e
   ·cases e
  ·cases e
theorem co_callP (hi:Ivt w0 I w) {ops:Array Oper} {i:Nat} {rest:List Nat} (f:FuncId) (args:List Value) (j:Nat) {α:Type} {V:α->Value} {Z:α->World->Prop} (q:Kn a n l) (hz:∀ x w1 w2,Alike w1 w2->Z x w1->Z x w2)
 (hc:∀ c cs w',I w'->Leads P (fun fr' cs' w1=>∃ x,fr'=c.finish (V x)/\cs'=cs/\Z x w1/\Stays w' w1) (Frame.enter P f args.toArray .normal) (c::cs) w')
 (h:j < n->∀ x w1,Ivt w0 (fun w=>I w/\Z x w) w1->Leads P K (b.at (a.put (some j) (V x)) (.inRegion ops rest::k)) cs w1)
 (hb:b.kind=.normal) (e:∀ d,callR P n d l ops i=some (f,args,j)):Leads P K (b.at a (.inRegion ops (i::rest)::k)) cs w:=by
 obtain ⟨o,h1,h2,h3,h4,h5,h6⟩:=call_at (w:=w) q e;refine leads_call (f:=f) (args:=args.toArray) (Z:=fun v w1=>∃ x,v=V x/\Z x w1/\Stays w w1) hb h1 h2 h5 h6 (fun d=>?_) ?_
 ·refine (hc _ _ _ (hi.to (Stays.at w d)).it).mono ?_;rintro fr' cs' w1 ⟨x,e1,e2,hz1,hs⟩;exact ⟨V x,e1,e2,x,rfl,hz1,(Stays.at w d).trans hs⟩
 ·rintro v w1 ⟨x,rfl,hz1,hs⟩;rw [h3];exact h h4 x w1 (hi.and hs (hz x) hz1)
theorem co_callL (hi:Ivt w0 I w) {ops:Array Oper} {i:Nat} {rest:List Nat} (f:FuncId) (args:List Value) (j:Nat) {α:Type} {V:α->Value} {Z:α->World->Prop} (q:Kn a n l) (hd:a.defers=D) (hz:∀ x w1 w2,Alike w1 w2->Z x w1->Z x w2)
 (hc:∀ c cs w',I w'->Leads P (fun fr' cs' w1=>∃ x,fr'=c.finish (V x)/\cs'=cs/\Z x w1/\Stays w' w1) (Frame.enter P f args.toArray .normal) (c::cs) w')
 (h:∀ x a1 w1,Ivt w0 (fun w=>I w/\Z x w) w1->a1.defers=D->Kn a1 n ((j,V x)::l.filter fun x=>x.1 != j)->Leads P K (b.at a1 (.inRegion ops rest::k)) cs w1)
 (hb:b.kind=.normal:=by rfl) (e:∀ d,callR P n d l ops i=some (f,args,j):=by intro d;kernel_rfl):Leads P K (b.at a (.inRegion ops (i::rest)::k)) cs w :=
 co_callP hi f args j q hz hc (fun hj x w1 h1=>h x _ w1 h1 hd (q.cons hj _)) hb e
end
section
variable {K:Frame->List Frame->World->Prop} {b:Frame} {a:Act} {w0 w:World} {I:World->Prop} {k:List Item} {cs:List Frame} {n:Nat} {l:List (Nat × Value)} {D:List Deferred}
theorem lone_co {I:World->Prop} (cl:∀ w1 w2,Alike w1 w2->I w1->I w2) {f:FuncId} {args:List Value} {α:Type} {V:α->Value} {Z:α->World->Prop} (hz:∀ x w1 w2,Alike w1 w2->Z x w1->Z x w2)
 (hc:∀ W,I W->Calls Mz.prog f args.toArray W fun e w2=>∃ x,e=.returned (V x)/\Z x w2/\Below W.heap.size W w2) (hg:badF f=false) :
 ∀ c cs w',I w'->Leads Tryz.prog (fun fr' cs' w1=>∃ x,fr'=c.finish (V x)/\cs'=cs/\Z x w1/\Stays w' w1) (Frame.enter Tryz.prog f args.toArray .normal) (c::cs) w':=by
 intro c cs w' hi';refine (calls_co (w:=w') (Z:=fun v w1=>∃ x,v=V x/\Z x w1) hg (fun v w1 w2 ht ⟨x,h1,h2⟩=>⟨x,h1,hz x _ _ ht.alike h2⟩) fun W hW=>?_).mono ?_
 ·refine (hc W (cl _ _ hW.alike hi')).mono ?_;rintro e w2 ⟨x,h1,h2,h3⟩;exact ⟨V x,h1,⟨x,rfl,h2⟩,h3⟩
 ·rintro fr' cs' w1 ⟨v,h1,h2,⟨x,rfl,hz1⟩,ho⟩;exact ⟨x,h1,h2,hz1,ho.stays⟩
theorem co_call (hi:Ivt w0 I w) {ops:Array Oper} {i:Nat} {rest:List Nat} (f:FuncId) (args:List Value) (j:Nat) {α:Type} {V:α->Value} {Z:α->World->Prop} (q:Kn a n l) (hd:a.defers=D) (hz:∀ x w1 w2,Alike w1 w2->Z x w1->Z x w2)
 (hc:∀ W,I W->Calls Mz.prog f args.toArray W fun e w2=>∃ x,e=.returned (V x)/\Z x w2/\Below W.heap.size W w2)
 (h:∀ x a1 w1,Ivt w0 (fun w=>I w/\Z x w) w1->a1.defers=D->Kn a1 n ((j,V x)::l.filter fun x=>x.1 != j)->Leads Tryz.prog K (b.at a1 (.inRegion ops rest::k)) cs w1)
 (hb:b.kind=.normal:=by rfl) (hg:badF f=false:=by rfl) (e:∀ d,callR Tryz.prog n d l ops i=some (f,args,j):=by intro d;kernel_rfl):Leads Tryz.prog K (b.at a (.inRegion ops (i::rest)::k)) cs w :=
 co_callL hi f args j q hd hz (lone_co hi.cl hz hc hg) h hb e
theorem co_valP (hi:Ivt w0 I w) {ops:Array Oper} {i:Nat} {rest:List Nat} (f:FuncId) (args:List Value) (j:Nat) {v:Value} (q:Kn a n l)
 (hc:∀ W,I W->Calls Mz.prog f args.toArray W fun e w2=>e=.returned v/\Below W.heap.size W w2)
 (h:∀ w1,Ivt w0 I w1->Leads Tryz.prog K (b.at (a.put (some j) v) (.inRegion ops rest::k)) cs w1)
 (hb:b.kind=.normal:=by rfl) (hg:badF f=false:=by rfl) (e:∀ d,callR Tryz.prog n d l ops i=some (f,args,j):=by intro d;kernel_rfl):Leads Tryz.prog K (b.at a (.inRegion ops (i::rest)::k)) cs w:=by
 refine co_callP (α:=Unit) (V:=fun _=>v) (Z:=fun _ _=>True) hi f args j q (fun _ _ _ _ _=>trivial) (lone_co hi.cl (fun _ _ _ _ _=>trivial) (fun W hW=>(hc W hW).mono ?_) hg) (fun _ _ w1 h1=>h w1 (h1.less hi.cl fun _ x=>x.1)) hb e;rintro e w2 ⟨h1,h2⟩;exact ⟨(),h1,trivial,h2⟩
theorem co_val (hi:Ivt w0 I w) {ops:Array Oper} {i:Nat} {rest:List Nat} (f:FuncId) (args:List Value) (j:Nat) {v:Value} (q:Kn a n l) (hd:a.defers=D)
 (hc:∀ W,I W->Calls Mz.prog f args.toArray W fun e w2=>e=.returned v/\Below W.heap.size W w2)
 (h:∀ a1 w1,Ivt w0 I w1->a1.defers=D->Kn a1 n ((j,v)::l.filter fun x=>x.1 != j)->Leads Tryz.prog K (b.at a1 (.inRegion ops rest::k)) cs w1)
 (hb:b.kind=.normal:=by rfl) (hg:badF f=false:=by rfl) (e:∀ d,callR Tryz.prog n d l ops i=some (f,args,j):=by intro d;kernel_rfl):Leads Tryz.prog K (b.at a (.inRegion ops (i::rest)::k)) cs w:=by
 refine co_call (α:=Unit) (V:=fun _=>v) (Z:=fun _ _=>True) hi f args j q hd (fun _ _ _ _ _=>trivial) (fun W hW=>(hc W hW).mono ?_) (fun _ a1 w1 h1=>h a1 w1 (h1.less hi.cl fun _ x=>x.1)) hb hg e;rintro e w2 ⟨h1,h2⟩;exact ⟨(),h1,trivial,h2⟩
end
def BoxAt (r:Nat) (cells:Array Value) (w:World):Prop:=r < w.heap.size/\∀ (k:Nat) (v:Value),cells[k]? = some v->w.cell? ⟨r,k,none⟩=some v
theorem BoxAt.alike {r:Nat} {cells:Array Value} {w w1:World} (h:BoxAt r cells w) (ha:Alike w w1):BoxAt r cells w1:=⟨Nat.lt_of_lt_of_le h.1 ha.size,fun k v e=>(ha.cell r k h.1).trans (h.2 k v e)⟩
theorem View.alloc {D:Nat->Prop} {w v:World} (h:View D w v) (o:Obj):View D (w.alloc o) (v.alloc o):=by
 have hs:v.heap.size=w.heap.size:=h.size;refine ⟨h.tape,h.drawn,h.os,h.output,(by show (v.heap.push o).size=(w.heap.push o).size;rw [Array.size_push,Array.size_push,hs]),fun r hr=>?_,fun r hr=>?_⟩
 ·show (v.heap.push o)[r]? = (w.heap.push o)[r]?;rw [Array.getElem?_push,Array.getElem?_push,hs,h.live r hr]
 ·obtain ⟨⟨x,h1,h2⟩,h3⟩:=h.gone r hr;have hlt:r < w.heap.size:=(Array.getElem?_eq_some_iff.1 h1).1;refine ⟨⟨x,?_,h2⟩,?_⟩
  ·show (w.heap.push o)[r]? = some x;rw [Array.getElem?_push,if_neg (by omega)];exact h1
  ·show (v.heap.push o)[r]? = _;rw [Array.getElem?_push,if_neg (by omega)];exact h3
section
variable {P:Program} {K:Frame->List Frame->World->Prop} {b:Frame} {a:Act} {w0 w:World} {I:World->Prop} {k:List Item} {cs:List Frame} {n:Nat} {l:List (Nat × Value)} {D:List Deferred}
theorem co_new (hi:Ivt w0 I w) {ops:Array Oper} {i j:Nat} {rest:List Nat} (V:Nat->Value) (ob:Obj) {Z:Nat->World->Prop} {o:Oper} (ho:ops[i]? = some o) (hw:Region.wanted o (yielded ops a.tmps)=true) (hdst:o.dst=some j)
 (hr:∀ W:World,(execOp a.eval o).run P W=.ok (.value (V W.heap.size)) (W.alloc ob)/\(execOp a.eval o).events P W #[]=#[]) (hz:∀ r w1 w2,Alike w1 w2->Z r w1->Z r w2) (hZ:∀ W:World,Z W.heap.size (W.alloc ob))
 (h:∀ w1,Ivt w0 (fun w1=>I w1/\Z w.heap.size w1) w1->Leads P K (b.at (a.put (some j) (V w.heap.size)) (.inRegion ops rest::k)) cs w1)
 (hb:b.kind=.normal):Leads P K (b.at a (.inRegion ops (i::rest)::k)) cs w:=by
 intro L hL W D hv;have hsz:w.heap.size=W.heap.size:=hv.size;refine .step fun d=>⟨_,cs,(W.at d).alloc ob,_,stepG_value ho hw (by rw [hb];decide) (hr _).1,fun e hm=>?_,(by show W.heap.size<=(W.heap.push _).size;rw [Array.size_push];omega),?_⟩
 ·have:=seen_mem hm;rw [(hr _).2] at this;simp at this
 ·have hst:Stays w ((w.at d).alloc ob):=⟨rfl,(by show w.heap.size<=(w.heap.push _).size;rw [Array.size_push];omega),fun r hr=>by
   show (w.heap.push _)[r]? = _
   rw [Array.getElem?_push,if_neg (by omega)],ConcM.OsLater.refl _⟩
  have:=h _ (hi.and hst (hz _) (hZ (w.at d))) L (by show L<=(w.heap.push _).size;rw [Array.size_push];omega) _ _ ((hv.at d).alloc ob);rw [hdst];show LeadsR P L D _ (b.at (a.put (some j) (V W.heap.size)) _) cs _;rw [<- hsz];exact this
theorem co_box (hi:Ivt w0 I w) {ops:Array Oper} {i j:Nat} {rest:List Nat} {cells:Array Value} {t:TypeId} (q:Kn a n l) (hd:a.defers=D) {o:Oper} {x:Operand} (ho:ops[i]? = some o) (hop:o.op=.box t x) (hw:Region.wanted o (yielded ops a.tmps)=true) (hdst:o.dst=some j) (hx:a.eval x=.agg cells) (hj:j < n)
 (h:∀ r a1 w1,Ivt w0 (fun w=>I w/\BoxAt r cells w) w1->a1.defers=D->Kn a1 n ((j,.pointer (some ⟨r,0,none⟩))::l.filter fun x=>x.1 != j)->Leads P K (b.at a1 (.inRegion ops rest::k)) cs w1)
 (hb:b.kind=.normal:=by rfl):Leads P K (b.at a (.inRegion ops (i::rest)::k)) cs w:=by
 have ee:execOp a.eval o=execOp (fun _=>.agg cells) { o with op:=.box t x }:=by unfold execOp;rw [hop];simp only [hx]
 refine co_new hi (fun r=>.pointer (some ⟨r,0,none⟩)) (.cells cells t) (Z:=fun r w=>BoxAt r cells w) ho hw hdst (fun W=>by rw [ee];exact ⟨by simp [go_sem],by simp [go_sem]⟩) (fun _ _ _ ha x=>x.alike ha) (fun W=>⟨(by show W.heap.size < (W.heap.push _).size;rw [Array.size_push];omega),fun k v e=>?_⟩) (fun w1 h1=>h _ _ w1 h1 hd (q.cons hj _)) hb;rw [World.cell?_alloc_at _ _ _ _ rfl];exact e
theorem co_loadP (hi:Ivt w0 I w) {ops:Array Oper} {i j:Nat} {rest:List Nat} {v:Value} {r:Nat} {o:Oper} (ho:ops[i]? = some o) (hw:Region.wanted o (yielded ops a.tmps)=true) (hdst:o.dst=some j) {m:Nat} {c:Nat->Value} (hc:∀ k,k < m->w.cell? ⟨r,k,none⟩=some (c k)) (hm:0 < m)
 (hr:∀ W:World,(∀ k,k < m->W.cell? ⟨r,k,none⟩=some (c k))->(execOp a.eval o).run P W=.ok (.value v) W/\∀ e∈(execOp a.eval o).events P W #[],∃ k,e.loc=.cell ⟨r,k,none⟩)
 (h:∀ w1,Ivt w0 I w1->Leads P K (b.at (a.put (some j) v) (.inRegion ops rest::k)) cs w1) (hb:b.kind=.normal):Leads P K (b.at a (.inRegion ops (i::rest)::k)) cs w:=by
 refine leads_op v hb ho hw (fun W D hv d=>(hr (W.at d) fun k hk=>(hv.cell (hc k hk)).2).1) (fun W D hv d e he=>?_) fun d=>?_
 ·obtain ⟨k,hk⟩:=(hr (W.at d) fun k hk=>(hv.cell (hc k hk)).2).2 e he;obtain ⟨n0,y0⟩:=hv.cell (hc 0 hm);unfold EvOk;rw [hk];exact ⟨lt_of_cell (a:=⟨r,0,none⟩) y0,n0⟩
 ·rw [hdst];exact h _ (hi.to (Stays.at w d))
end
theorem co_start {P:Program} {K:Frame->List Frame->World->Prop} {cs:List Frame} {w:World} {f:FuncId} {fn:Func} {c:Code} {n:Nat} (args:List Value) (hf:P.funcs[f]? = some fn) (hc:fn.body=some c) (hn:fn.ntmps=n) (hl:args.length<=n)
 (h:∀ a:Act,a.defers=[]->Kn a n (args.zipIdx.map fun x=>(x.2,x.1))->Leads P K ((base f).at a [.code c]) cs w):Leads P K (Frame.enter P f args.toArray .normal) cs w:=by
 rw [enter_at args.toArray hf hc];refine h _ rfl ⟨?_,knl_all fun x hx=>?_⟩
 ·simp [hn];omega
 ·obtain ⟨y,hy,rfl⟩:=List.mem_map.1 hx;obtain ⟨v,i⟩:=y;have h1:=List.mem_zipIdx' hy;show (args.toArray ++ _)[i]? = some v;have h2:i < args.length:=h1.1;have h3:v=args[i]:=h1.2;rw [Array.getElem?_append_left (by simpa using h2)];simp [h2,h3]
theorem co_end {b:Frame} {a:Act} {w0 w:World} {I:World->Prop} {k:List Item} {n t:Nat} {l:List (Nat × Value)} {fn:Func} {v:Value} {P:Program} (hi:Ivt w0 I w) (q:Kn a n l) (hd:a.defers=[]) (hb:b.kind=.normal) (hx:P.inits.idxOf? b.fn=none) (hf:P.funcs[b.fn]? = some fn) (hr:fn.results=#[.tmp t]) (hv:l.lookup t=some v) :
 Leads P (Leaving0 P fun v' w'=>v'=v/\Stays w0 w') (b.at a (.code .ret::k)) [] w:=by
 refine leads_ret fun d=>.done ⟨rfl,rfl,hb,hd,hx,v,fn,hf,fun W=>?_,fun d'=>⟨rfl,⟨hi.st.output,hi.st.size,hi.st.block,hi.st.os⟩⟩⟩;have e:a.tmps.getD t undef=v:=by rw [Array.getD_eq_getD_getElem?,q.g t hv];rfl
 show (results fn a.tmps).runT P W #[]=_;rw [Sem.runT_eq,results_tmp hr _ P W,e];exact Prod.ext rfl (events_results_tmp hr _ _)
theorem co_back {P:Program} {b c:Frame} {cs:List Frame} {a:Act} {w0 w:World} {I:World->Prop} {k:List Item} {n t:Nat} {l:List (Nat × Value)} {fn:Func} {v:Value} (hi:Ivt w0 I w) (q:Kn a n l) (hd:a.defers=[]) (hb:b.kind=.normal) (hf:P.funcs[b.fn]? = some fn) (hr:fn.results=#[.tmp t]) (hv:l.lookup t=some v) :
 Leads P (fun fr' cs' w1=>fr'=c.finish v/\cs'=cs/\Stays w0 w1) (b.at a (.code .ret::k)) (c::cs) w:=by
 have e:a.tmps.getD t undef=v:=by rw [Array.getD_eq_getD_getElem?,q.g t hv];rfl
 refine leads_ret fun d=>leads_leave (v:=v) hb hd hf (fun W=>by rw [results_tmp hr _ P W,e]) (fun W=>events_results_tmp hr _ _) fun d'=>.done ⟨rfl,rfl,hi.st.output,hi.st.size,hi.st.block,hi.st.os⟩
section
variable {P:Program} {K:Frame->List Frame->World->Prop} {b:Frame} {k:List Item} {cs:List Frame} {ops:Array Oper}
theorem go_lead {md:Region.Mode} {rk:Nat->Nat} (hl:lowB md ops rk=true) (J:Array Bool->Act->World->Prop)
 (step:∀ i o L a w rest,ops[i]? = some o->(∀ e∈o.after,Region.binds md e=true->L.getD e.on false=true)->J L a w ->
   (∀ a1 w1,J (L.setIfInBounds i true) a1 w1->Leads P K (b.at a1 (.inRegion ops rest::k)) cs w1)->Leads P K (b.at a (.inRegion ops (i::rest)::k)) cs w)
 (fin:∀ L a w,L.size=ops.size->(∀ i,i < ops.size->L.getD i true=true)->J L a w->Leads P K (b.at a (.inRegion ops []::k)) cs w) :
 ∀ (fuel t:Nat) (L:Array Bool) (a:Act) (w:World),left L ops.size<=fuel->L.size=ops.size->J L a w->Leads P K (b.at a (.inRegion ops (Region.linearise.go md ops fuel t L [])::k)) cs w:=by
 intro fuel
 induction fuel with
 | zero =>
  intro t L a w h0 hs hi;have:Region.linearise.go md ops 0 t L []=[]:=by simp [Region.linearise.go]
  rw [this];exact fin L a w hs (left_zero (by omega)) hi
 | succ fuel ih =>
  intro t L a w h0 hs hi;simp only [Region.linearise.go]
  change Leads P K (b.at a (.inRegion ops (match (Region.ready md ops L)[t % (Region.ready md ops L).length]? with
   | some i=>Region.linearise.go md ops fuel (t / (Region.ready md ops L).length) (L.setIfInBounds i true) [i]
   | none=>[].reverse)::k)) cs w
  cases hx:(Region.ready md ops L)[t % (Region.ready md ops L).length]? with
  | none =>
   have hnil:Region.ready md ops L=[]:=by
    cases hr:Region.ready md ops L with
    | nil=>rfl
    | cons x xs =>
     rw [hr] at hx;have hlt:t % (x::xs).length < (x::xs).length:=Nat.mod_lt _ (by simp);simp at hx;simp at hlt;omega
   exact fin L a w hs (all_done hl hs hnil) hi
  | some i =>
   simp only [];rw [linearise_go_acc,List.reverse_singleton,List.singleton_append];have hr:=List.mem_of_getElem? hx;obtain ⟨hun,o,ho,hall⟩:=mem_ready.1 hr;have hlt:i < ops.size:=(Array.getElem?_eq_some_iff.1 ho).1;refine step i o L a w _ ho hall hi fun a1 w1 h1=>ih _ _ a1 w1 ?_ (by simp [hs]) h1;have:=left_set hun hlt;omega
theorem leads_draw {id:Nat} (rk:Region.Mode->Nat->Nat) (hl:∀ md,lowB md ops (rk md)=true) (J:Array Bool->Act->World->Prop) {a:Act} {w:World}
 (h0:∀ w1,Stays w w1->J (Array.replicate ops.size false) a w1)
 (step:∀ i L a w rest,i < ops.size->(∀ d,needs ops i d=true->L.getD d false=true)->J L a w ->
   (∀ a1 w1,J (L.setIfInBounds i true) a1 w1->Leads P K (b.at a1 (.inRegion ops rest::k)) cs w1)->Leads P K (b.at a (.inRegion ops (i::rest)::k)) cs w)
 (fin:∀ L a w,L.size=ops.size->(∀ i,i < ops.size->L.getD i true=true)->J L a w->Leads P K (b.at a (.inRegion ops []::k)) cs w) :
 Leads P K (b.at a (.code (.region id ops true)::k)) cs w:=by
 intro L hL W D hv;refine .step fun d=>?_;have:∃ md t,Region.schedule (P.follows .mixedOrders) ops ((W.at d).tape (W.at d).drawn (.order b.fn id))=Region.linearise.go md ops ops.size t (Array.replicate ops.size false) []:=by
  unfold Region.schedule Region.linearise;split
  ·exact ⟨_,_,rfl⟩
  ·exact ⟨_,_,rfl⟩
 obtain ⟨md,t,ht⟩:=this;refine ⟨_,_,_,#[],stepG_region_draw,(fun e he=>by simp at he),Nat.le_refl _,?_⟩;rw [ht];have hv':View D { W.at d with drawn:=(W.at d).drawn+1 } (w.at (d+1)):=⟨hv.tape,rfl,hv.os,hv.output,hv.size,hv.live,hv.gone⟩;exact go_lead (hl md) J (fun i o L a w rest ho h=>step i L a w rest (Array.getElem?_eq_some_iff.1 ho).1 fun d=>needs_spec ho h) fin ops.size _ _ a (w.at (d+1)) left_le (by simp) (h0 _ (Stays.at w (d+1))) L hL _ _ hv'
def nds (base:List (Nat × Value)) (ds:Nat->Nat) (V:Nat->Value) (ops:Array Oper) (i:Nat):List (Nat × Value):=base ++ ((List.range ops.size).filter fun d=>needs ops i d).map fun d=>(ds d,V d)
theorem nds_kn {base:List (Nat × Value)} {ds:Nat->Nat} {V:Nat->Value} {i n:Nat} {L:Array Bool} {a:Act} (q:Kn a n (lst base ds V ops.size L)) (h:∀ d,needs ops i d=true->L.getD d false=true):Kn a n (nds base ds V ops i):=by
 refine ⟨q.sz,knl_mem.2 fun x hx=>?_⟩;rcases List.mem_append.1 hx with hx | hx
 ·exact knl_mem.1 q.kn x (List.mem_append_left _ hx)
 ·obtain ⟨d,hd,rfl⟩:=List.mem_map.1 hx;obtain ⟨hd1,hd2⟩:=List.mem_filter.1 hd;exact lst_get q (List.mem_range.1 hd1) (h d hd2)
theorem lst_put {base:List (Nat × Value)} {ds:Nat->Nat} {V:Nat->Value} {i n N:Nat} {L:Array Bool} {a:Act} (h1:∀ k,k < N->ds k=ds i->k=i) (h2:∀ x∈base,x.1≠ds i) (hj:ds i < n) (q:Kn a n (lst base ds V N L)):Kn (a.put (some (ds i)) (V i)) n (lst base ds V N (L.setIfInBounds i true)):=lst_step h1 h2 (q.cons hj _)
theorem co_one {w0 w:World} {I:World->Prop} {a:Act} {n i j:Nat} {rest:List Nat} {l:List (Nat × Value)} {v v0:Value} (hi:Ivt w0 I w) (q:Kn a n l) (hv:v0=v)
 (h:∀ w1,Ivt w0 I w1->Leads P K (b.at (a.put (some j) v) (.inRegion ops rest::k)) cs w1) (hb:b.kind=.normal:=by rfl) (e:∀ d,st1 P d [] n l [.inRegion ops [i]]=some ((j,v0)::l,[.inRegion ops []],[]):=by intro d;kernel_rfl):Leads P K (b.at a (.inRegion ops (i::rest)::k)) cs w:=by
 subst hv;have e:=e fun t=>a.tmps.getD t undef;have hne:b.kind≠.early:=by rw [hb];decide
 unfold st1 at e;simp only at e;split at e
 ·cases e
 ·rename_i o ho
  split at e
  ·rename_i j' hg hd
   split at e
   ·rename_i v' hp
    split at e
    ·rename_i hj
     simp only [List.lookup_nil] at e;cases e;have hx:=fun w=>pureV_run hp w;rw [<- q.sil.ev] at hx;refine leads_op v0 hb ho (gd_true q.sil hg) (fun W D hv d=>(hx _).1) (fun W D hv d e he=>?_) fun d=>?_
     ·rw [(hx _).2] at he;simp at he
     ·rw [hd];exact h _ (hi.to (Stays.at w d))
    ·cases e
   ·cases e
  ·rename_i j' hg hd
   split at e
   ·rename_i hj
    cases e;refine leads_go (fun W=>stepG_unwanted ho (gd_true q.sil hg)) fun d=>?_;rw [hd];exact h _ (hi.to (Stays.at w d))
   ·cases e
  ·cases e
  ·cases e
theorem co_draw {w0 w:World} {I:World->Prop} {a:Act} {n id:Nat} {base:List (Nat × Value)} {D:List Deferred} (hi:Ivt w0 I w) (ds:Nat->Nat) (V:Nat->Value) (q:Kn a n base) (hd:a.defers=D)
 (hinj:∀ i,i < ops.size->∀ k,k < ops.size->ds k=ds i->k=i) (hbase:((List.range ops.size).all fun i=>base.all fun x=>x.1 != ds i)=true) (hlt:∀ i,i < ops.size->ds i < n)
 (step:∀ i,i < ops.size->∀ a w,Ivt w0 I w->Kn a n (nds base ds V ops i)->∀ rest,(∀ w1,Ivt w0 I w1->Leads P K (b.at (a.put (some (ds i)) (V i)) (.inRegion ops rest::k)) cs w1)->Leads P K (b.at a (.inRegion ops (i::rest)::k)) cs w)
 (fin:∀ a w,Ivt w0 I w->a.defers=D->Kn a n (base ++ (List.range ops.size).map fun i=>(ds i,V i))->Leads P K (b.at a (.inRegion ops []::k)) cs w)
 (hl:∀ md,lowB md ops (fun i=>i)=true:=by intro md;cases md <;> kernel_rfl):Leads P K (b.at a (.code (.region id ops true)::k)) cs w:=by
 refine leads_draw (fun _ i=>i) hl (fun L a w=>Ivt w0 I w/\a.defers=D/\Kn a n (lst base ds V ops.size L)) (fun w1 hs=>⟨hi.to hs,hd,lst_none q⟩) ?_ ?_
 ·rintro i L a w rest hi1 hn ⟨h1,h2,h3⟩ hk;exact step i hi1 a w h1 (nds_kn h3 hn) rest fun w1 h4=>hk _ w1 ⟨h4,h2,lst_put (hinj i hi1) (fun x hx=>by have:=List.all_eq_true.1 (List.all_eq_true.1 hbase i (List.mem_range.2 hi1)) x hx;simpa using this) (hlt i hi1) h3⟩
 ·rintro L a w hs hall ⟨h1,h2,h3⟩;refine fin a w h1 h2 ⟨h3.sz,knl_mem.2 fun x hx=>?_⟩;rcases List.mem_append.1 hx with hx | hx
  ·exact knl_mem.1 h3.kn x (List.mem_append_left _ hx)
  ·obtain ⟨i,hi2,rfl⟩:=List.mem_map.1 hx;have hi3:=List.mem_range.1 hi2;refine lst_get h3 hi3 ?_;have:=hall i hi3;have h5:i < L.size:=by omega
   simpa [h5] using this
end
end Mt
namespace Mt
open Go Go.RowKit Go.Maps Go.Conc
attribute [local go_sem] Oper.semAt_some
theorem co_bookP {K:Frame->List Frame->World->Prop} {b:Frame} {a:Act} {w0 w:World} {I:World->Prop} {k:List Item} {cs:List Frame} (hi:Ivt w0 I w) {ops:Array Oper} {i j r:Nat} {rest:List Nat} {vm vd vt:Value}
 (hbx:∀ w,I w->BoxAt r #[vm,vd,vt] w) {o:Oper} {x:Operand} (ho:ops[i]? = some o) (hop:o.op=.load 25 x) (hw:Region.wanted o (yielded ops a.tmps)=true) (hdst:o.dst=some j) (hx:a.eval x=.pointer (some ⟨r,0,none⟩)) 
 (h:∀ w1,Ivt w0 I w1->Leads Tryz.prog K (b.at (a.put (some j) (.agg #[vm,vd,vt])) (.inRegion ops rest::k)) cs w1) (hb:b.kind=.normal:=by rfl):Leads Tryz.prog K (b.at a (.inRegion ops (i::rest)::k)) cs w:=by
 obtain ⟨_,hc⟩:=hbx w hi.it;have ee:execOp a.eval o=execOp (fun _=>.pointer (some ⟨r,0,none⟩)) { o with op:=.load 25 x }:=by unfold execOp;rw [hop];simp only [hx]
 refine co_loadP hi (r:=r) (m:=3) (c:=fun k=>#[vm,vd,vt].getD k undef) ho hw hdst (fun k hk=>hc k _ ?_) (by omega) (fun W hW=>?_) h hb
 ·obtain rfl | rfl | rfl:k=0\/k=1\/k=2:=by omega
  all_goals rfl
 ·have y0:W.cell? ⟨r,0,none⟩=some vm:=hW 0 (by omega);have y1:W.cell? ⟨r,1,none⟩=some vd:=hW 1 (by omega);have y2:W.cell? ⟨r,2,none⟩=some vt:=hW 2 (by omega);rw [ee];refine ⟨by simp [go_sem,y0,y1,y2],fun e he=>?_⟩;simp [go_sem,y0,y1,y2] at he;rcases he with rfl | rfl | rfl <;> exact ⟨_,rfl⟩
theorem co_book {K:Frame->List Frame->World->Prop} {b:Frame} {a:Act} {w0 w:World} {I:World->Prop} {k:List Item} {cs:List Frame} {n:Nat} {l:List (Nat × Value)} {D:List Deferred} (hi:Ivt w0 I w) {ops:Array Oper} {i j r:Nat} {rest:List Nat} {vm vd vt:Value}
 (hbx:∀ w,I w->BoxAt r #[vm,vd,vt] w) (q:Kn a n l) (hd:a.defers=D) {o:Oper} {x:Operand} (ho:ops[i]? = some o) (hop:o.op=.load 25 x) (hw:Region.wanted o (yielded ops a.tmps)=true) (hdst:o.dst=some j) (hx:a.eval x=.pointer (some ⟨r,0,none⟩)) (hj:j < n)
 (h:∀ a1 w1,Ivt w0 I w1->a1.defers=D->Kn a1 n ((j,.agg #[vm,vd,vt])::l.filter fun x=>x.1 != j)->Leads Tryz.prog K (b.at a1 (.inRegion ops rest::k)) cs w1) (hb:b.kind=.normal:=by rfl):Leads Tryz.prog K (b.at a (.inRegion ops (i::rest)::k)) cs w :=
 co_bookP hi hbx ho hop hw hdst hx (fun w1 h1=>h _ w1 h1 hd (q.cons hj _)) hb
theorem co_lits {K:Frame->List Frame->World->Prop} {b:Frame} {a:Act} {w0 w:World} {I:World->Prop} {k:List Item} {cs:List Frame} {n:Nat} {l:List (Nat × Value)} {D:List Deferred} (hi:Ivt w0 I w) {ops:Array Oper} {i j m:Nat} {rest:List Nat} (ns:List Int) (T E:TypeId) (q:Kn a n l) (hd:a.defers=D) {o:Oper} (ho:ops[i]? = some o) (hw:Region.wanted o (yielded ops a.tmps)=true) (hdst:o.dst=some j) (hj:j < n) {p:Array (Nat × Operand)} (hop:o.op=.buildSlice T m p)
 (hr:∀ W:World,(execOp a.eval { o with op:=.buildSlice T m p }).run Tryz.prog W=.ok (.value (.slice (some ⟨W.heap.size,0,none⟩) m m)) (W.alloc (.cells (ns.map (Value.int .i64)).toArray E))/\(execOp a.eval { o with op:=.buildSlice T m p }).events Tryz.prog W #[]=#[])
 (h:∀ x a1 w1,Ivt w0 (fun w=>I w/\IntsAt w x ns) w1->a1.defers=D->Kn a1 n ((j,.slice x m m)::l.filter fun x=>x.1 != j)->Leads Tryz.prog K (b.at a1 (.inRegion ops rest::k)) cs w1) (hb:b.kind=.normal:=by rfl):Leads Tryz.prog K (b.at a (.inRegion ops (i::rest)::k)) cs w:=by
 have ee:execOp a.eval o=execOp a.eval { o with op:=.buildSlice T m p }:=by unfold execOp;rw [hop]
 refine co_new hi (fun r=>.slice (some ⟨r,0,none⟩) m m) (.cells (ns.map (Value.int .i64)).toArray E) (Z:=fun r w=>IntsAt w (some ⟨r,0,none⟩) ns) ho hw hdst (fun W=>by rw [ee];exact hr W) (fun r _ _ ha h=>IntsAt.alike h ha) (fun W k hk=>?_) (fun w1 h1=>h _ _ w1 h1 hd (q.cons hj _)) hb;refine ⟨_,0,rfl,(by show W.heap.size < (W.heap.push _).size;rw [Array.size_push];omega),?_⟩;rw [Nat.zero_add,World.cell?_alloc_at _ _ _ _ rfl];simp [hk]
attribute [local go_sem] Oper.semAt_some
noncomputable def fdB:Code:=Tryz.f5.body.getD .skip
noncomputable def fdC (n:Nat):Code:=cL (cR n fdB)
theorem fd_ok:[fdC 0,fdC 1].all (codeOk Tryz.prog)=true:=by kernel_rfl
theorem fdB_eq:fdB=seqs [fdC 0,fdC 1] (cR 2 fdB):=by kernel_rfl
structure LX (B:Nat) (vm vd vt:Value) (w:World):Prop where
 book:FBookAt w exB vm vd vt
 acts:ActsAt w
 box:BoxAt B #[vm,vd,vt] w
theorem LX.alike {B:Nat} {vm vd vt:Value} {w w1:World} (h:LX B vm vd vt w) (ha:Alike w w1):LX B vm vd vt w1:=⟨h.book.alike ha,h.acts.alike ha,h.box.alike ha⟩
def fdZ (a:Act) (w:World):Prop:=∃ B vm vd vt,a.defers=[]/\Kn a 214 [(1,.pointer (some ⟨B,0,none⟩))]/\LX B vm vd vt w
theorem fd_pre {W:World} (hA:ActsAt W):wps Mz.prog [fdC 0,fdC 1] (fun a' w2=>fdZ a' w2/\Old W w2) { tmps:=Array.replicate 214 U,defers:=[] } W:=by
 have HA:=Hh hA;clear hA;simp only [fdC,cL,cR,fdB,Tryz.f5,Option.getD_some,Array.replicate_succ,Array.replicate_zero,List.push_toArray,List.append_toArray,List.nil_append,List.cons_append];unfold wps;go_wp2;intro t;obtain ⟨V,hV⟩:∃ V,V=W.on t 0:=⟨_,rfl⟩;have HO:=Hh (show Old W V by rw [hV];exact (Old.refl W).on t 0);rw [<- hV];clear hV;unfold wps;go_wp2_with (go_at_call 17;(with_reducible refine (example_at _).mono ?_);rintro e w1 ⟨vm,vd,vt,rfl,hB,hb1⟩;have HB:=Hh hB;have hBB:=hB;obtain ⟨rfl,⟨da,dc,rfl,_,_⟩,ta,tc,rfl,_,_⟩:=hBB;clear hB);have hb2:Below V.heap.size V (w1.alloc (.cells #[.int .i64 exB.most,.slice da exB.devs.length dc,.slice ta exB.tests.length tc] 25)):=bel;have ho:=HO.out.trans (Below.old hb2);intro t;refine ⟨⟨w1.heap.size,.int .i64 exB.most,.slice da exB.devs.length dc,.slice ta exB.tests.length tc,rfl,⟨rfl,rfl,trivial⟩,?_⟩,ho.on t 0⟩;refine LX.alike (w:=w1.alloc (.cells #[.int .i64 exB.most,.slice da exB.devs.length dc,.slice ta exB.tests.length tc] 25)) ⟨HB.out.below (Below.al (Below.refl _ _) _),HA.out.alike ho.alike,(by show w1.heap.size < (w1.heap.push _).size;rw [Array.size_push];omega),fun k v e=>?_⟩ ((Old.refl _).on t 0).alike;rw [World.cell?_alloc_at _ _ _ _ rfl];exact e
theorem fd_enter:Frame.enter Tryz.prog 5 #[] .normal=(base 5).at { tmps:=Array.replicate 214 U,defers:=[] } [.code fdB]:=by kernel_rfl
theorem found_co {w:World} (hA:ActsAt w) (c:Frame) (cs:List Frame) :
 Leads Tryz.prog (fun fr' cs' w1=>fr'=c.finish (.bool true)/\cs'=cs/\Stays w w1) (Frame.enter Tryz.prog 5 #[] .normal) (c::cs) w:=by
 have hok:=List.all_eq_true.1 fd_ok;rw [fd_enter,fdB_eq];refine pieces_co (k:=[]) _ (fun c hc=>hok c hc) rfl (by kernel_rfl) rfl (Z:=fdZ) (fun a w1 w2 ht ⟨B,vm,vd,vt,h1,h2,h3⟩=>⟨B,vm,vd,vt,h1,h2,h3.alike ht.alike⟩) (fun W hW=>fd_pre (hA.alike hW.alike)) ?_;rintro a0 w ⟨B,vm,vd,vt,df0,q0,hx⟩ ho;have hi:Ivt _ (LX B vm vd vt) w:=⟨fun _ _ ha h=>h.alike ha,hx,ho.stays⟩;refine co_run hi 2 [(1,.pointer (some ⟨B,0,none⟩))] [.inRegion (rop (pt fdB 11)) [0,1,2,3,4,5,6,7,8,9,10],.code (pt fdB 15)] q0 df0 fun a0 w hi df0 q0=>?_;refine co_book hi (r:=B) (vm:=vm) (vd:=vd) (vt:=vt) (fun w h=>h.box) q0 df0 rfl rfl rfl rfl (q0.ev 1 rfl) (by decide) fun a0 w hi df0 q0=>?_;refine co_lits hi (m:=4) (p:=#[(0,.const (.int .i64 0)),(1,.const (.int .i64 0)),(2,.const (.int .i64 2)),(3,.const (.int .i64 1))]) [0,0,2,1] 26 48 q0 df0 rfl rfl rfl (by decide) rfl (fun W=>⟨by simp [go_sem],by simp [go_sem]⟩) fun sa a0 w hi df0 q0=>?_;refine co_lits hi (m:=2) (p:=#[(0,.const (.int .i64 2)),(1,.const (.int .i64 3))]) [2,3] 27 3 q0 df0 rfl rfl rfl (by decide) rfl (fun W=>⟨by simp [go_sem],by simp [go_sem]⟩) fun pa a0 w hi df0 q0=>?_;refine co_val hi 6 [.agg #[vm,vd,vt],.slice sa 4 4,.slice pa 2 2] 36 (v:=.tuple #[.bool true,.int .i64 0,.int .i64 0]) q0 df0 (fun W h=>playApi_ok (sc:=4) (pc:=2) h.1.1.book ex_names h.1.1.acts h.1.2 (by decide) h.2 (by decide) (by decide) ex_play.1 ex_play.2) fun a0 w hi df0 q0=>?_;refine co_run hi 10 [(4,.int .i64 0),(3,.int .i64 0),(2,.bool true),(1,.pointer (some ⟨B,0,none⟩))] [.inRegion (rop (pt fdB 23)) [0,1,2,3,4,5,6],.code (pt fdB 31)] q0 df0 fun a0 w hi df0 q0=>?_;refine co_book hi (r:=B) (vm:=vm) (vd:=vd) (vt:=vt) (fun w h=>h.1.1.box) q0 df0 rfl rfl rfl rfl (q0.ev 1 rfl) (by decide) fun a0 w hi df0 q0=>?_;refine co_val hi 10 [.agg #[vm,vd,vt]] 42 (v:=.tuple #[.int .i64 3,.int .i64 0]) q0 df0 (fun W h=>by have:=histApi_ok h.1.1.book ex_names h.1.1.acts ex_book;rw [ex_hists] at this;exact this) fun a0 w hi df0 q0=>?_;refine co_run hi 8 [(6,.int .i64 0),(5,.int .i64 3),(4,.int .i64 0),(3,.int .i64 0),(2,.bool true),(1,.pointer (some ⟨B,0,none⟩))] [.inRegion (rop (pt fdB 47)) [0,1,2,3,4,5,6,7,8],.code (pt fdB 63)] q0 df0 fun a0 w hi df0 q0=>?_;refine co_book hi (r:=B) (vm:=vm) (vd:=vd) (vt:=vt) (fun w h=>h.1.1.box) q0 df0 rfl rfl rfl rfl (q0.ev 1 rfl) (by decide) fun a0 w hi df0 q0=>?_;refine co_val hi 12 [.agg #[vm,vd,vt],.int .i64 2] 47 (v:=.tuple #[.int .i64 0,.int .i64 2,.int .i64 0]) q0 df0 (fun W h=>by have:=stateApi_ok (k:=2) h.1.1.book ex_names h.1.1.acts (by rw [ex_dev];exact ex_open);rw [ex_held.1,ex_held.2] at this;exact this) fun a0 w hi df0 q0=>?_;refine co_run hi 10 [(9,.int .i64 0),(8,.int .i64 2),(7,.int .i64 0),(6,.int .i64 0),(5,.int .i64 3),(4,.int .i64 0),(3,.int .i64 0),(2,.bool true),(1,.pointer (some ⟨B,0,none⟩))] [.inRegion (rop (pt fdB 95)) [0,1,2,3,4,5,6],.code (pt fdB 127)] q0 df0 fun a0 w hi df0 q0=>?_;refine co_book hi (r:=B) (vm:=vm) (vd:=vd) (vt:=vt) (fun w h=>h.1.1.box) q0 df0 rfl rfl rfl rfl (q0.ev 1 rfl) (by decide) fun a0 w hi df0 q0=>?_;refine co_call hi 14 [.agg #[vm,vd,vt]] 53 (α:=Option Addr × Nat) (V:=fun x=>.tuple #[.slice x.1 3 x.2,.int .i64 0]) (Z:=fun x w=>IntsAt w x.1 [0,1,2]) q0 df0 (fun x _ _ ha h=>IntsAt.alike h ha) (fun W h=>by have:=suspApi_ok h.1.1.book ex_names h.1.1.acts ex_open;rw [ex_susp] at this;exact this.mono fun e w2 ⟨a,c,h1,h2,h3⟩=>⟨(a,c),h1,h2,h3⟩) fun x a0 w hi df0 q0=>?_;refine co_run hi 8 [(11,.int .i64 0),(10,.slice x.1 3 x.2),(9,.int .i64 0),(8,.int .i64 2),(7,.int .i64 0),(6,.int .i64 0),(5,.int .i64 3),(4,.int .i64 0),(3,.int .i64 0),(2,.bool true),(1,.pointer (some ⟨B,0,none⟩))] [.inRegion (rop (pt fdB 191)) [0,1,2,3,4,5,6,7],.code (pt fdB 255)] q0 df0 fun a0 w hi df0 q0=>?_;refine co_book hi (r:=B) (vm:=vm) (vd:=vd) (vt:=vt) (fun w h=>h.1.1.1.box) q0 df0 rfl rfl rfl rfl (q0.ev 1 rfl) (by decide) fun a0 w hi df0 q0=>?_;refine co_lits hi (m:=1) (p:=#[(0,.const (.int .i64 3))]) [3] 27 3 q0 df0 rfl rfl rfl (by decide) rfl (fun W=>⟨by simp [go_sem],by simp [go_sem]⟩) fun p1 a0 w hi df0 q0=>?_;refine co_val hi 18 [.agg #[vm,vd,vt],.slice p1 1 1] 59 (v:=.tuple #[.int .i64 1,.int .i64 0]) q0 df0 (fun W h=>by have:=passApi_ok (pc:=1) h.1.1.1.1.book ex_names h.1.1.1.1.acts h.2 (by decide) (by decide) (by rw [ex_pass.2];exact ex_open);rw [ex_pass.1] at this;exact this) fun a0 w hi df0 q0=>?_;refine co_run hi 8 [(13,.int .i64 0),(12,.int .i64 1),(11,.int .i64 0),(10,.slice x.1 3 x.2),(9,.int .i64 0),(8,.int .i64 2),(7,.int .i64 0),(6,.int .i64 0),(5,.int .i64 3),(4,.int .i64 0),(3,.int .i64 0),(2,.bool true),(1,.pointer (some ⟨B,0,none⟩))] [.inRegion (rop (pt fdB 383)) [0,1,2,3,4,5,6,7],.code (pt fdB 511)] q0 df0 fun a0 w hi df0 q0=>?_;refine co_book hi (r:=B) (vm:=vm) (vd:=vd) (vt:=vt) (fun w h=>h.1.1.1.1.box) q0 df0 rfl rfl rfl rfl (q0.ev 1 rfl) (by decide) fun a0 w hi df0 q0=>?_;refine co_lits hi (m:=2) (p:=#[(0,.const (.int .i64 0)),(1,.const (.int .i64 3))]) [0,3] 27 3 q0 df0 rfl rfl rfl (by decide) rfl (fun W=>⟨by simp [go_sem],by simp [go_sem]⟩) fun p2 a0 w hi df0 q0=>?_;refine co_val hi 19 [.agg #[vm,vd,vt],.slice p2 2 2] 65 (v:=.tuple #[.int .i64 0,.int .i64 0]) q0 df0 (fun W h=>by have:=soundApi_ok (pc:=2) h.1.1.1.1.1.book ex_names h.1.1.1.1.1.acts h.2 (by decide) (by decide) (by rw [ex_sound.2];exact ex_open);rw [ex_sound.1] at this;exact this) fun a0 w hi df0 q0=>?_;refine co_run hi 8 [(15,.int .i64 0),(14,.int .i64 0),(13,.int .i64 0),(12,.int .i64 1),(11,.int .i64 0),(10,.slice x.1 3 x.2),(9,.int .i64 0),(8,.int .i64 2),(7,.int .i64 0),(6,.int .i64 0),(5,.int .i64 3),(4,.int .i64 0),(3,.int .i64 0),(2,.bool true),(1,.pointer (some ⟨B,0,none⟩))] [.inRegion (rop (pt fdB 767)) [0,1,2,3,4,5,6],.code (pt fdB 1023)] q0 df0 fun a0 w hi df0 q0=>?_;refine co_book hi (r:=B) (vm:=vm) (vd:=vd) (vt:=vt) (fun w h=>h.1.1.1.1.1.box) q0 df0 rfl rfl rfl rfl (q0.ev 1 rfl) (by decide) fun a0 w hi df0 q0=>?_;refine co_val hi 20 [.agg #[vm,vd,vt]] 70 (v:=.tuple #[.bool false,.int .i64 0]) q0 df0 (fun W h=>located_ok h.1.1.1.1.1.book ex_names h.1.1.1.1.1.acts ex_open ex_rows) fun a0 w hi df0 q0=>?_;refine co_run hi 8 [(17,.int .i64 0),(16,.bool false),(15,.int .i64 0),(14,.int .i64 0),(13,.int .i64 0),(12,.int .i64 1),(11,.int .i64 0),(10,.slice x.1 3 x.2),(9,.int .i64 0),(8,.int .i64 2),(7,.int .i64 0),(6,.int .i64 0),(5,.int .i64 3),(4,.int .i64 0),(3,.int .i64 0),(2,.bool true),(1,.pointer (some ⟨B,0,none⟩))] [.inRegion (rop (pt fdB 1535)) [0,1,2,3,4,5,6,7,8],.code (pt fdB 2047)] q0 df0 fun a0 w hi df0 q0=>?_;refine co_book hi (r:=B) (vm:=vm) (vd:=vd) (vt:=vt) (fun w h=>h.1.1.1.1.1.box) q0 df0 rfl rfl rfl rfl (q0.ev 1 rfl) (by decide) fun a0 w hi df0 q0=>?_;refine co_callL hi 21 [.agg #[vm,vd,vt]] 75 (α:=Unit) (V:=fun _=>.tuple #[.int .i64 1,.int .i64 2,.int .i64 0]) (Z:=fun _ _=>True) q0 df0 (fun _ _ _ _ _=>trivial) (fun c cs w h=>by have:=ask_co h.1.1.1.1.1.book ex_names h.1.1.1.1.1.acts ex_open c cs;rw [ex_ask.1,ex_ask.2] at this;exact this.mono fun _ _ _ ⟨h1,h2,h3⟩=>⟨(),h1,h2,trivial,h3⟩) fun _ a0 w hi df0 q0=>?_;refine co_run hi 10 [(20,.int .i64 0),(19,.int .i64 2),(18,.int .i64 1),(17,.int .i64 0),(16,.bool false),(15,.int .i64 0),(14,.int .i64 0),(13,.int .i64 0),(12,.int .i64 1),(11,.int .i64 0),(10,.slice x.1 3 x.2),(9,.int .i64 0),(8,.int .i64 2),(7,.int .i64 0),(6,.int .i64 0),(5,.int .i64 3),(4,.int .i64 0),(3,.int .i64 0),(2,.bool true),(1,.pointer (some ⟨B,0,none⟩))] [.inRegion (rop (pt fdB 3071)) [0,1,2,3,4,5,6,7,8],.code (pt fdB 4095)] q0 df0 fun a0 w hi df0 q0=>?_;refine co_book hi (r:=B) (vm:=vm) (vd:=vd) (vt:=vt) (fun w h=>h.1.1.1.1.1.1.box) q0 df0 rfl rfl rfl rfl (q0.ev 1 rfl) (by decide) fun a0 w hi df0 q0=>?_;refine co_val hi 22 [.agg #[vm,vd,vt]] 81 (v:=.tuple #[.int .i64 2,.int .i64 1,.int .i64 0]) q0 df0 (fun W h=>by have:=depthApi_ok h.1.1.1.1.1.1.book ex_names h.1.1.1.1.1.1.acts ex_open;rw [ex_depth.1,ex_depth.2] at this;exact this) fun a0 w hi df0 q0=>?_;refine co_run hi 10 [(23,.int .i64 0),(22,.int .i64 1),(21,.int .i64 2),(20,.int .i64 0),(19,.int .i64 2),(18,.int .i64 1),(17,.int .i64 0),(16,.bool false),(15,.int .i64 0),(14,.int .i64 0),(13,.int .i64 0),(12,.int .i64 1),(11,.int .i64 0),(10,.slice x.1 3 x.2),(9,.int .i64 0),(8,.int .i64 2),(7,.int .i64 0),(6,.int .i64 0),(5,.int .i64 3),(4,.int .i64 0),(3,.int .i64 0),(2,.bool true),(1,.pointer (some ⟨B,0,none⟩))] [.inRegion (rop (pt fdB 6143)) [0,1,2,3,4,5,6],.code (pt fdB 8191)] q0 df0 fun a0 w hi df0 q0=>?_;refine co_book hi (r:=B) (vm:=vm) (vd:=vd) (vt:=vt) (fun w h=>h.1.1.1.1.1.1.box) q0 df0 rfl rfl rfl rfl (q0.ev 1 rfl) (by decide) fun a0 w hi df0 q0=>?_;refine co_call hi 23 [.agg #[vm,vd,vt]] 87 (α:=Option Addr × Nat) (V:=fun x=>.tuple #[.slice x.1 2 x.2,.int .i64 0]) (Z:=fun x w=>IntsAt w x.1 [1,2]) q0 df0 (fun x _ _ ha h=>IntsAt.alike h ha) (fun W h=>by have:=batchApi_ok h.1.1.1.1.1.1.book ex_names h.1.1.1.1.1.1.acts ex_open;rw [ex_batch] at this;exact this.mono fun e w2 ⟨a,c,h1,h2,h3⟩=>⟨(a,c),h1,h2,h3⟩) fun y a0 w hi df0 q0=>?_;refine co_run hi 8 [(25,.int .i64 0),(24,.slice y.1 2 y.2),(23,.int .i64 0),(22,.int .i64 1),(21,.int .i64 2),(20,.int .i64 0),(19,.int .i64 2),(18,.int .i64 1),(17,.int .i64 0),(16,.bool false),(15,.int .i64 0),(14,.int .i64 0),(13,.int .i64 0),(12,.int .i64 1),(11,.int .i64 0),(10,.slice x.1 3 x.2),(9,.int .i64 0),(8,.int .i64 2),(7,.int .i64 0),(6,.int .i64 0),(5,.int .i64 3),(4,.int .i64 0),(3,.int .i64 0),(2,.bool true),(1,.pointer (some ⟨B,0,none⟩))] [.inRegion (rop (pt fdB 12287)) [0,1,2,3,4,5,6,7,8],.code (pt fdB 16383)] q0 df0 fun a0 w hi df0 q0=>?_;refine co_book hi (r:=B) (vm:=vm) (vd:=vd) (vt:=vt) (fun w h=>h.1.1.1.1.1.1.1.box) q0 df0 rfl rfl rfl rfl (q0.ev 1 rfl) (by decide) fun a0 w hi df0 q0=>?_;refine co_call hi 24 [.agg #[vm,vd,vt]] 92 (α:=Option Addr × Nat) (V:=fun x=>.tuple #[.slice x.1 3 x.2,.int .i64 25,.int .i64 0]) (Z:=fun x w=>IntsAt w x.1 [2,0,1]) q0 df0 (fun x _ _ ha h=>IntsAt.alike h ha) (fun W h=>by have:=repairsApi_ok h.1.1.1.1.1.1.1.book ex_names h.1.1.1.1.1.1.1.acts ex_open;rw [ex_rep.1,ex_rep.2] at this;exact this.mono fun e w2 ⟨a,c,h1,h2,h3⟩=>⟨(a,c),h1,h2,h3⟩) fun z a0 w hi df0 q0=>?_;refine co_run hi 10 [(28,.int .i64 0),(27,.int .i64 25),(26,.slice z.1 3 z.2),(25,.int .i64 0),(24,.slice y.1 2 y.2),(23,.int .i64 0),(22,.int .i64 1),(21,.int .i64 2),(20,.int .i64 0),(19,.int .i64 2),(18,.int .i64 1),(17,.int .i64 0),(16,.bool false),(15,.int .i64 0),(14,.int .i64 0),(13,.int .i64 0),(12,.int .i64 1),(11,.int .i64 0),(10,.slice x.1 3 x.2),(9,.int .i64 0),(8,.int .i64 2),(7,.int .i64 0),(6,.int .i64 0),(5,.int .i64 3),(4,.int .i64 0),(3,.int .i64 0),(2,.bool true),(1,.pointer (some ⟨B,0,none⟩))] [.inRegion (rop (pt fdB 24575)) [0,1,2,3,4,5,6],.code (pt fdB 32767)] q0 df0 fun a0 w hi df0 q0=>?_;refine co_book hi (r:=B) (vm:=vm) (vd:=vd) (vt:=vt) (fun w h=>h.1.1.1.1.1.1.1.1.box) q0 df0 rfl rfl rfl rfl (q0.ev 1 rfl) (by decide) fun a0 w hi df0 q0=>?_;refine co_call hi 25 [.agg #[vm,vd,vt],.int .i64 0] 98 (α:=Option Addr × Nat) (V:=fun x=>.tuple #[.slice x.1 0 x.2,.int .i64 0]) (Z:=fun x w=>IntsAt w x.1 []) q0 df0 (fun x _ _ ha h=>IntsAt.alike h ha) (fun W h=>by have:=twins_ok (d:=0) h.1.1.1.1.1.1.1.1.book ex_names h.1.1.1.1.1.1.1.1.acts ex_book ex_twins.2;rw [ex_twins.1] at this;exact this.mono fun e w2 ⟨a,c,h1,h2,h3⟩=>⟨(a,c),h1,h2,h3⟩) fun u a0 w hi df0 q0=>?_;refine co_run hi 121 [(201,.slice x.1 3 x.2),(26,.slice z.1 3 z.2),(24,.slice y.1 2 y.2)] [.inRegion (rop (pt fdB 196607)) [1,2,3,4,5,6,7,8,9,10,11,12,13],.code .ret] q0 df0 fun a0 w hi df0 q0=>?_;refine co_lits hi (m:=3) (p:=#[(0,.const (.int .i64 0)),(1,.const (.int .i64 1)),(2,.const (.int .i64 2))]) [0,1,2] 27 3 q0 df0 rfl rfl rfl (by decide) rfl (fun W=>⟨by simp [go_sem],by simp [go_sem]⟩) fun l1 a0 w hi df0 q0=>?_;refine co_val hi 16 [.slice x.1 3 x.2,.slice l1 3 3] 203 (v:=.bool true) q0 df0 (fun W h=>sameNums_at h.1.1.1.1.1.1.1.2 h.2 rfl rfl (by decide) (by decide) (by decide)) fun a0 w hi df0 q0=>?_;refine co_run hi 2 [(205,.slice y.1 2 y.2),(204,.bool true),(26,.slice z.1 3 z.2)] [.inRegion (rop (pt fdB 196607)) [5,6,7,8,9,10,11,12,13],.code .ret] q0 df0 fun a0 w hi df0 q0=>?_;refine co_lits hi (m:=2) (p:=#[(0,.const (.int .i64 1)),(1,.const (.int .i64 2))]) [1,2] 27 3 q0 df0 rfl (wanted_g rfl rfl rfl (q0.g 204 rfl)) rfl (by decide) rfl (fun W=>⟨by simp [go_sem],by simp [go_sem]⟩) fun l2 a0 w hi df0 q0=>?_;refine co_val hi 16 [.slice y.1 2 y.2,.slice l2 2 2] 207 (v:=.bool true) q0 df0 (fun W h=>sameNums_at h.1.1.1.1.2 h.2 rfl rfl (by decide) (by decide) (by decide)) fun a0 w hi df0 q0=>?_;refine co_run hi 3 [(210,.slice z.1 3 z.2),(209,.bool true)] [.inRegion (rop (pt fdB 196607)) [10,11,12,13],.code .ret] q0 df0 fun a0 w hi df0 q0=>?_;refine co_lits hi (m:=3) (p:=#[(0,.const (.int .i64 2)),(1,.const (.int .i64 0)),(2,.const (.int .i64 1))]) [2,0,1] 27 3 q0 df0 rfl (wanted_g rfl rfl rfl (q0.g 209 rfl)) rfl (by decide) rfl (fun W=>⟨by simp [go_sem],by simp [go_sem]⟩) fun l3 a0 w hi df0 q0=>?_;refine co_val hi 16 [.slice z.1 3 z.2,.slice l3 3 3] 212 (v:=.bool true) q0 df0 (fun W h=>sameNums_at h.1.1.1.1.2 h.2 rfl rfl (by decide) (by decide) (by decide)) fun a0 w hi df0 q0=>?_;refine co_run hi 3 [(0,.bool true)] [.code .ret] q0 df0 fun a0 w hi df0 q0=>?_;exact co_back hi q0 df0 rfl Tryz.func5 rfl rfl
def playR (b:Fbk) (l path:List Int):Bool × Nat:=if playAl b l path=0 then playI (stepsOf l) path else (false,0)
def suspL (b:Fbk):List Int:=if openAl b 0=0 then suspTo (histsI b) b.devs.length else []
def histC (b:Fbk):Int:=if bookAl b=0 then ((histsI b).length:Nat) else 0
def heldR (b:Fbk) (k:Int) (x:Nat):Int:=if openAl b (devAl b k)=0 then heldI b k x else 0
section
variable {b:Fbk} {vm vd vt:Value} {w:World} {sa pa:Option Addr} {l path:List Int} {sc pc:Nat} {k:Int}
theorem play_any (hB:FBookAt w b vm vd vt) (hN:∀ m∈b.devs,m.name.size<=1000000) (hA:ActsAt w) (hI:IntsAt w sa l) (hsl:l.length<=1000000) (hP:IntsAt w pa path) (hpl:path.length<=1000000) (hpc:path.length<=pc) :
 Calls Mz.prog 6 #[.agg #[vm,vd,vt],.slice sa l.length sc,.slice pa path.length pc] w fun e w'=>e=.returned (.tuple #[.bool (playR b l path).1,.int .i64 ((playR b l path).2:Nat),.int .i64 (playAl b l path)])/\Below w.heap.size w w':=by
 by_cases h:playAl b l path=0
 ·have:=playApi_ok (sc:=sc) hB hN hA hI hsl hP hpl hpc h (r:=(playI (stepsOf l) path).1) (n:=(playI (stepsOf l) path).2) rfl;unfold playR;rw [if_pos h,h];exact this
 ·have:=playApi_no (sc:=sc) hB hN hI hsl hP hpl hpc rfl h;unfold playR;rw [if_neg h];exact this
theorem rPlay_any (hB:FBookAt w b vm vd vt) (hN:∀ m∈b.devs,m.name.size<=1000000) (hI:IntsAt w sa l) (hsl:l.length<=1000000) (hP:IntsAt w pa path) (hpl:path.length<=1000000) (hpc:path.length<=pc) :
 Calls Mz.prog 7 #[.agg #[vm,vd,vt],.slice sa l.length sc,.slice pa path.length pc] w fun e w'=>e=.returned (.tuple #[.bool (playR b l path).1,.int .i64 ((playR b l path).2:Nat),.int .i64 (playAl b l path)])/\Below w.heap.size w w' :=
 rPlay_at hB hN hI hsl hP hpl hpc rfl (fun h=>by unfold playR;rw [if_neg h];exact ⟨rfl,rfl⟩) (fun h=>by unfold playR;rw [if_pos h])
theorem hist_any (hB:FBookAt w b vm vd vt) (hN:∀ m∈b.devs,m.name.size<=1000000) (hA:ActsAt w) :
 Calls Mz.prog 10 #[.agg #[vm,vd,vt]] w fun e w'=>e=.returned (.tuple #[.int .i64 (histC b),.int .i64 (bookAl b)])/\Below w.heap.size w w':=by
 by_cases h:bookAl b=0
 ·have:=histApi_ok hB hN hA h;unfold histC;rw [if_pos h,h];exact this
 ·have:=histApi_no hB hN rfl h;unfold histC;rw [if_neg h];exact this
theorem rHist_any (hB:FBookAt w b vm vd vt) (hN:∀ m∈b.devs,m.name.size<=1000000) :
 Calls Mz.prog 11 #[.agg #[vm,vd,vt]] w fun e w'=>e=.returned (.tuple #[.int .i64 (histC b),.int .i64 (bookAl b)])/\Below w.heap.size w w':=by
 have:=rHistories_at hB hN;unfold histC;exact this
theorem state_any (hB:FBookAt w b vm vd vt) (hN:∀ m∈b.devs,m.name.size<=1000000) (hA:ActsAt w) :
 Calls Mz.prog 12 #[.agg #[vm,vd,vt],.int .i64 k] w fun e w'=>e=.returned (.tuple #[.int .i64 (heldR b k 1),.int .i64 (heldR b k 2),.int .i64 (openAl b (devAl b k))])/\Below w.heap.size w w':=by
 by_cases h:openAl b (devAl b k)=0
 ·have:=stateApi_ok hB hN hA h;unfold heldR;rw [if_pos h,if_pos h,h];exact this
 ·have:=stateApi_no hB hN hA rfl h;unfold heldR;rw [if_neg h,if_neg h];exact this
theorem rState_any (hB:FBookAt w b vm vd vt) (hN:∀ m∈b.devs,m.name.size<=1000000) :
 Calls Mz.prog 13 #[.agg #[vm,vd,vt],.int .i64 k] w fun e w'=>e=.returned (.tuple #[.int .i64 (heldR b k 1),.int .i64 (heldR b k 2),.int .i64 (openAl b (devAl b k))])/\Below w.heap.size w w':=by
 by_cases h:openAl b (devAl b k)=0
 ·have:=rState_ok hB hN h;unfold heldR;rw [if_pos h,if_pos h,h];exact this
 ·have:=rState_no hB hN rfl h;unfold heldR;rw [if_neg h,if_neg h];exact this
theorem susp_any (hB:FBookAt w b vm vd vt) (hN:∀ m∈b.devs,m.name.size<=1000000) (hA:ActsAt w) :
 Calls Mz.prog 14 #[.agg #[vm,vd,vt]] w fun e w'=>∃ x:Option Addr × Nat,e=.returned (.tuple #[.slice x.1 (suspL b).length x.2,.int .i64 (openAl b 0)])/\IntsAt w' x.1 (suspL b)/\Below w.heap.size w w':=by
 by_cases h:openAl b 0=0
 ·have:=suspApi_ok hB hN hA h;unfold suspL;rw [if_pos h,h];exact this.mono fun e w' ⟨a,c,h1,h2,h3⟩=>⟨(a,c),h1,h2,h3⟩
 ·have:=suspApi_no hB hN hA rfl h;unfold suspL;rw [if_neg h];exact this.mono fun e w' ⟨h1,h3⟩=>⟨(none,0),h1,(fun i hi=>by simp at hi),h3⟩
theorem rSusp_any (hB:FBookAt w b vm vd vt) (hN:∀ m∈b.devs,m.name.size<=1000000) :
 Calls Mz.prog 15 #[.agg #[vm,vd,vt]] w fun e w'=>∃ x:Option Addr × Nat,e=.returned (.tuple #[.slice x.1 (suspL b).length x.2,.int .i64 (openAl b 0)])/\IntsAt w' x.1 (suspL b)/\Below w.heap.size w w':=by
 by_cases h:openAl b 0=0
 ·have:=rSuspects_ok hB hN h;unfold suspL;rw [if_pos h,h];exact this.mono fun e w' ⟨a,c,h1,h2,h3⟩=>⟨(a,c),h1,h2,h3⟩
 ·have:=rSuspects_no hB hN rfl h;unfold suspL;rw [if_neg h];exact this.mono fun e w' ⟨h1,h3⟩=>⟨(none,0),h1,(fun i hi=>by simp at hi),h3⟩
end
attribute [local go_sem] Oper.semAt_some
theorem FRaw.alike {w w1:World} {b:Fbk} {vm vd vt:Value} (h:FRaw w b vm vd vt) (ha:Alike w w1):FRaw w1 b vm vd vt:=by
 obtain ⟨hm,⟨da,dc,e1,hD⟩,ta,tc,e2,hT⟩:=h;refine ⟨hm,⟨da,dc,e1,fun i hi=>?_⟩,ta,tc,e2,fun i hi=>?_⟩
 ·obtain ⟨b',o,e,hlt,k1,k2,k3,k4⟩:=hD i hi;exact ⟨b',o,e,Nat.lt_of_lt_of_le hlt ha.size,(ha.cell _ _ hlt).trans k1,(ha.cell _ _ hlt).trans k2,(ha.cell _ _ hlt).trans k3,(ha.cell _ _ hlt).trans k4⟩
 obtain ⟨b',o,e,hlt,pa,pc,k1,k2,k3,k4⟩:=hT i hi;exact ⟨b',o,e,Nat.lt_of_lt_of_le hlt ha.size,pa,pc,(ha.cell _ _ hlt).trans k1,k2,IntsAt.alike k3 ha,(ha.cell _ _ hlt).trans k4⟩
structure LB (b:Fbk) (vm vd vt:Value) (is:List (Option Addr × List Int)) (w:World):Prop where
 raw:FRaw w b vm vd vt
 acts:ActsAt w
 ints:∀ x∈is,IntsAt w x.1 x.2
theorem LB.alike {b:Fbk} {vm vd vt:Value} {is:List (Option Addr × List Int)} {w w1:World} (h:LB b vm vd vt is w) (ha:Alike w w1):LB b vm vd vt is w1:=⟨h.raw.alike ha,h.acts.alike ha,fun x hx=>IntsAt.alike (h.ints x hx) ha⟩
theorem LB.ivt {b:Fbk} {vm vd vt:Value} {is:List (Option Addr × List Int)} {w:World} (h:LB b vm vd vt is w):Ivt w (LB b vm vd vt is) w:=⟨fun _ _ ha h=>h.alike ha,h,Stays.refl w⟩
theorem found_coL {w:World} (hA:ActsAt w) (c:Frame) (cs:List Frame) :
 Leads Tryz.prog (fun fr' cs' w1=>∃ _:Unit,fr'=c.finish (.bool true)/\cs'=cs/\True/\Stays w w1) (Frame.enter Tryz.prog 5 ([]:List Value).toArray .normal) (c::cs) w :=
 (found_co hA c cs).mono fun _ _ _ ⟨h1,h2,h3⟩=>⟨(),h1,h2,trivial,h3⟩
theorem open_book {b:Fbk} {al:Int} (h:openAl b al=0):bookAl b=0:=by
 unfold openAl at h;by_cases h1:bookAl b=0
 ·exact h1
 ·rw [if_pos h1] at h;exact h
theorem suspL_le {b:Fbk}:(suspL b).length<=1000000:=by
 unfold suspL;by_cases h:openAl b 0=0
 ·rw [if_pos h];have:=suspTo_le (histsI b) b.devs.length;have h6:b.devs.length<=6:=(devsAl_ok (bookAl_ok (open_book h)).1).2.1;omega
 ·rw [if_neg h];simp
end Mt
end Go.Proofs.YtamolbnfliehjaaGreatDoor
