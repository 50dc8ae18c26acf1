/- the fault laws -/
import Derived.Test.YtgkajecjbflbbaaGreatDoorGB28
import Derived.Test.YtgkajecjbflbbaaGreatDoorRows
import Derived.Deep.Slices
import Derived.LaidMore
import Derived.Conc.HoldsTime
import Derived.SevenTiedAt
set_option maxHeartbeats 200000
set_option maxRecDepth 100000
set_option linter.all false
namespace Go.Proofs.YtgkajecjbflbbaaGreatDoor
namespace Mt
open Go Go.Conc Go.RowKit
section
variable {P:Program} {b:Frame} {a:Act} {w:World} {k:List Item} {cs:List Frame} {K:Frame->List Frame->World->Prop}
theorem leads_op {ops:Array Oper} {i:Nat} {rest:List Nat} (v:Value) (hb:b.kind=.normal) {o:Oper} (ho:ops[i]? = some o) (hw:Region.wanted o (yielded ops a.tmps)=true)
 (hr:∀ W D,View D W w->∀ d,(execOp a.eval o).run P (W.at d)=.ok (.value v) (W.at d)) (he:∀ W D,View D W w->∀ d,∀ e∈(execOp a.eval o).events P (W.at d) #[],EvOk D W.heap.size e)
 (h:∀ d,Leads P K (b.at (a.put o.dst v) (.inRegion ops rest::k)) cs (w.at d)):Leads P K (b.at a (.inRegion ops (i::rest)::k)) cs w :=
 fun L hL W D hv=>.step fun d=>⟨_,cs,W.at d,_,stepG_value ho hw (by rw [hb];decide) (hr W D hv d),fun e hm=>he W D hv d e (seen_mem hm),Nat.le_refl _,h d L hL (W.at d) D (hv.at d)⟩
theorem leads_call {ops:Array Oper} {i:Nat} {rest:List Nat} {f:FuncId} {args:Array Value} (hb:b.kind=.normal) {o:Oper} (ho:ops[i]? = some o) (hw:Region.wanted o (yielded ops a.tmps)=true)
 (hr:∀ W:World,(execOp a.eval o).run P W=.ok (.enter f args) W) (he:∀ W:World,(execOp a.eval o).events P W #[]=#[]) {Z:Value->World->Prop}
 (hc:∀ d,Leads P (fun fr' cs' w1=>∃ v,fr'=(b.at a (.inRegion ops (i::rest)::k)).finish v/\cs'=cs/\Z v w1) (Frame.enter P f args .normal) (b.at a (.inRegion ops (i::rest)::k)::cs) (w.at d))
 (h:∀ v w1,Z v w1->Leads P K (b.at (a.put o.dst v) (.inRegion ops rest::k)) cs w1):Leads P K (b.at a (.inRegion ops (i::rest)::k)) cs w:=by
 intro L hL W D hv;refine .step fun d=>⟨_,_,W.at d,_,stepG_enter ho hw (by rw [hb];decide) (hr _),fun e hm=>?_,Nat.le_refl _,((hc d L hL).trans ?_) (W.at d) D (hv.at d)⟩
 ·have:=seen_mem hm;rw [he] at this;simp at this
 ·rintro fr' cs' w1 hsz ⟨v,rfl,rfl,hz⟩;have hfin:(b.at a (.inRegion ops (i::rest)::k)).finish v=b.at (a.put o.dst v) (.inRegion ops rest::k):=by rw [Frame.finish_at,ho];rfl
  rw [hfin];exact h v w1 hz L (Nat.le_trans hL hsz)
end
theorem Stays.refl (w:World):Stays w w:=⟨rfl,Nat.le_refl _,fun _ _=>rfl,ConcM.OsLater.refl _⟩
theorem Stays.trans {a b c:World} (h:Stays a b) (k:Stays b c):Stays a c:=⟨k.output.trans h.output,Nat.le_trans h.size k.size,fun i hi=>(k.block i (Nat.lt_of_lt_of_le hi h.size)).trans (h.block i hi),h.os.trans k.os⟩
theorem Stays.at (w:World) (d:Nat):Stays w (w.at d):=⟨rfl,Nat.le_refl _,fun _ _=>rfl,ConcM.OsLater.refl _⟩
theorem Old.stays {w w1:World} (h:Old w w1):Stays w w1:=⟨h.output,h.size,h.block,h.os ▸ ConcM.OsLater.refl _⟩
theorem Stays.alike' {w w1:World} (h:Stays w w1):Alike w w1:=⟨h.size,fun b o hb=>World.cell?_of_block (h.block b hb)⟩
structure Ivt (w0:World) (I:World->Prop) (w:World):Prop where
 cl:∀ w1 w2,Alike w1 w2->I w1->I w2
 it:I w
 st:Stays w0 w
theorem Ivt.to {w0 w w1:World} {I:World->Prop} (h:Ivt w0 I w) (hs:Stays w w1):Ivt w0 I w1:=⟨h.cl,h.cl _ _ hs.alike' h.it,h.st.trans hs⟩
theorem Ivt.and {w0 w w1:World} {I J:World->Prop} (h:Ivt w0 I w) (hs:Stays w w1) (hj:∀ w1 w2,Alike w1 w2->J w1->J w2) (j:J w1):Ivt w0 (fun w=>I w/\J w) w1:=⟨fun a b hab x=>⟨h.cl a b hab x.1,hj a b hab x.2⟩,⟨h.cl _ _ hs.alike' h.it,j⟩,h.st.trans hs⟩
theorem Ivt.less {w0 w:World} {I J:World->Prop} (h:Ivt w0 I w) (hj:∀ w1 w2,Alike w1 w2->J w1->J w2) (j:∀ w,I w->J w):Ivt w0 J w:=⟨hj,j _ h.it,h.st⟩
theorem knl_all {a:Act}:∀ {l:List (Nat × Value)},(∀ x∈l,a.tmps[x.1]? = some x.2)->KnL a l
 | [],_=>trivial
 | y::l,h=>⟨h y (by simp),knl_all fun x hx=>h x (by simp [hx])⟩
theorem closed_lw {P:Program} {K:Frame->List Frame->World->Prop} {w:World}:Closed P true (fun _=>True) fun g=>∀ d,Leads P K g.frame g.callers (w.at d) :=
 fun fr cs fr1 cs1 h hk d=>leads_go (fun W=>h W trivial) fun d'=>hk d'
section
variable {P:Program} {K:Frame->List Frame->World->Prop} {b:Frame} {a:Act} {w0 w:World} {I:World->Prop} {k:List Item} {cs:List Frame} {n:Nat} {l:List (Nat × Value)} {D:List Deferred}
theorem co_runO (hi:Ivt w0 I w) (N:Nat) (ov l':List (Nat × Value)) (k':List Item) (o':List (Value × Value)) (q:Kn a n l) (hd:a.defers=D) (ho:Obl o')
 (h:∀ a1 w1,Ivt w0 I w1->a1.defers=D->Kn a1 n l'->Leads P K (b.at a1 k') cs w1) (hb:b.kind≠.early:=by k_ne) (e:∀ d,silR P d ov n N l k l'=some (l',k',o'):=by intro d;kernel_rfl):Leads P K (b.at a k) cs w :=
 cl_runO (main:=true) (W:=fun g=>∀ d,Leads P K g.frame g.callers (w.at d)) (b:=b) (cs:=cs) closed_lw N ov l' k' o' q hd ho (fun a1 h1 h2 d=>h a1 _ (hi.to (Stays.at w d)) h1 h2) hb e w.drawn
theorem co_run (hi:Ivt w0 I w) (N:Nat) (l':List (Nat × Value)) (k':List Item) (q:Kn a n l) (hd:a.defers=D)
 (h:∀ a1 w1,Ivt w0 I w1->a1.defers=D->Kn a1 n l'->Leads P K (b.at a1 k') cs w1) (hb:b.kind≠.early:=by k_ne) (e:∀ d,silR P d [] n N l k l'=some (l',k',[]):=by intro d;kernel_rfl):Leads P K (b.at a k) cs w:=co_runO hi N [] l' k' [] q hd trivial h hb e
def callR (P:Program) (n:Nat) (d:Nat->Value) (l:List (Nat × Value)) (ops:Array Oper) (i:Nat):Option (FuncId × List Value × Nat) :=
 match ops[i]? with
 | none=>none
 | some o=>match gd l ops o,o.op,o.dst with
  | some true,.call c,some j=>match c.callee with
   | .value (.func f)=>match P.funcs[f]? with
    | some fn=>if j < n/\fn.body.isSome=true/\(fn.name == "runtime.NumGoroutine")=false then some (f,c.args.toList.map (rho l d),j) else none
    | none=>none
   | _=>none
  | _,_,_=>none
theorem call_at {w:World} {a:Act} {ops:Array Oper} {i:Nat} {f:FuncId} {args:List Value} {j:Nat} (q:Kn a n l) (e:∀ d,callR P n d l ops i=some (f,args,j)) :
 ∃ o,ops[i]? = some o/\Region.wanted o (yielded ops a.tmps)=true/\o.dst=some j/\j < n/\(∀ W,(execOp a.eval o).run P W=.ok (.enter f args.toArray) W)/\∀ W,(execOp a.eval o).events P W #[]=#[]:=by
 have e:=e fun t=>a.tmps.getD t undef;unfold callR at e;split at e
 ·cases e
 ·rename_i o hi
  split at e
  ·rename_i c j' hg hop hd
   split at e
   ·rename_i f' hcal
    split at e
    ·rename_i fn hf
     split at e
     ·rename_i hx
      cases e;obtain ⟨hj,hb,hn⟩:=hx;have hb':fn.body.isNone=false:=by cases h:fn.body <;> simp_all
      obtain ⟨cal,args,ats⟩:=c;cases hcal;have hm:(args.toList.map (rho l fun t=>a.tmps.getD t undef)).toArray=args.map a.eval:=by rw [<- q.sil.ev,<- Array.toList_map,Array.toArray_toList]
      refine ⟨o,hi,gd_true q.sil hg,hd,hj,fun W=>?_,fun W=>events_call_body hop hf hn hb' _⟩;rw [hm];exact run_call_body hop hf hn hb'
     ·cases e
    ·cases e
   ·cases e
  ·cases e
theorem co_callP (hi:Ivt w0 I w) {ops:Array Oper} {i:Nat} {rest:List Nat} (f:FuncId) (args:List Value) (j:Nat) {α:Type} {V:α->Value} {Z:α->World->Prop} (q:Kn a n l) (hz:∀ x w1 w2,Alike w1 w2->Z x w1->Z x w2)
 (hc:∀ c cs w',I w'->Leads P (fun fr' cs' w1=>∃ x,fr'=c.finish (V x)/\cs'=cs/\Z x w1/\Stays w' w1) (Frame.enter P f args.toArray .normal) (c::cs) w')
 (h:j < n->∀ x w1,Ivt w0 (fun w=>I w/\Z x w) w1->Leads P K (b.at (a.put (some j) (V x)) (.inRegion ops rest::k)) cs w1)
 (hb:b.kind=.normal) (e:∀ d,callR P n d l ops i=some (f,args,j)):Leads P K (b.at a (.inRegion ops (i::rest)::k)) cs w:=by
 obtain ⟨o,h1,h2,h3,h4,h5,h6⟩:=call_at (w:=w) q e;refine leads_call (f:=f) (args:=args.toArray) (Z:=fun v w1=>∃ x,v=V x/\Z x w1/\Stays w w1) hb h1 h2 h5 h6 (fun d=>?_) ?_
 ·refine (hc _ _ _ (hi.to (Stays.at w d)).it).mono ?_;rintro fr' cs' w1 ⟨x,e1,e2,hz1,hs⟩;exact ⟨V x,e1,e2,x,rfl,hz1,(Stays.at w d).trans hs⟩
 ·rintro v w1 ⟨x,rfl,hz1,hs⟩;rw [h3];exact h h4 x w1 (hi.and hs (hz x) hz1)
theorem co_callL (hi:Ivt w0 I w) {ops:Array Oper} {i:Nat} {rest:List Nat} (f:FuncId) (args:List Value) (j:Nat) {α:Type} {V:α->Value} {Z:α->World->Prop} (q:Kn a n l) (hd:a.defers=D) (hz:∀ x w1 w2,Alike w1 w2->Z x w1->Z x w2)
 (hc:∀ c cs w',I w'->Leads P (fun fr' cs' w1=>∃ x,fr'=c.finish (V x)/\cs'=cs/\Z x w1/\Stays w' w1) (Frame.enter P f args.toArray .normal) (c::cs) w')
 (h:∀ x a1 w1,Ivt w0 (fun w=>I w/\Z x w) w1->a1.defers=D->Kn a1 n ((j,V x)::l.filter fun x=>x.1 != j)->Leads P K (b.at a1 (.inRegion ops rest::k)) cs w1)
 (hb:b.kind=.normal:=by rfl) (e:∀ d,callR P n d l ops i=some (f,args,j):=by intro d;kernel_rfl):Leads P K (b.at a (.inRegion ops (i::rest)::k)) cs w :=
 co_callP hi f args j q hz hc (fun hj x w1 h1=>h x _ w1 h1 hd (q.cons hj _)) hb e
end
section
variable {K:Frame->List Frame->World->Prop} {b:Frame} {a:Act} {w0 w:World} {I:World->Prop} {k:List Item} {cs:List Frame} {n:Nat} {l:List (Nat × Value)} {D:List Deferred}
theorem lone_co {I:World->Prop} (cl:∀ w1 w2,Alike w1 w2->I w1->I w2) {f:FuncId} {args:List Value} {α:Type} {V:α->Value} {Z:α->World->Prop} (hz:∀ x w1 w2,Alike w1 w2->Z x w1->Z x w2)
 (hc:∀ W,I W->Calls Mz.prog f args.toArray W fun e w2=>∃ x,e=.returned (V x)/\Z x w2/\Below W.heap.size W w2) (hg:badF f=false) :
 ∀ c cs w',I w'->Leads Tryz.prog (fun fr' cs' w1=>∃ x,fr'=c.finish (V x)/\cs'=cs/\Z x w1/\Stays w' w1) (Frame.enter Tryz.prog f args.toArray .normal) (c::cs) w':=by
 intro c cs w' hi';refine (calls_co (w:=w') (Z:=fun v w1=>∃ x,v=V x/\Z x w1) hg (fun v w1 w2 ht ⟨x,h1,h2⟩=>⟨x,h1,hz x _ _ ht.alike h2⟩) fun W hW=>?_).mono ?_
 ·refine (hc W (cl _ _ hW.alike hi')).mono ?_;rintro e w2 ⟨x,h1,h2,h3⟩;exact ⟨V x,h1,⟨x,rfl,h2⟩,h3⟩
 ·rintro fr' cs' w1 ⟨v,h1,h2,⟨x,rfl,hz1⟩,ho⟩;exact ⟨x,h1,h2,hz1,ho.stays⟩
theorem co_call (hi:Ivt w0 I w) {ops:Array Oper} {i:Nat} {rest:List Nat} (f:FuncId) (args:List Value) (j:Nat) {α:Type} {V:α->Value} {Z:α->World->Prop} (q:Kn a n l) (hd:a.defers=D) (hz:∀ x w1 w2,Alike w1 w2->Z x w1->Z x w2)
 (hc:∀ W,I W->Calls Mz.prog f args.toArray W fun e w2=>∃ x,e=.returned (V x)/\Z x w2/\Below W.heap.size W w2)
 (h:∀ x a1 w1,Ivt w0 (fun w=>I w/\Z x w) w1->a1.defers=D->Kn a1 n ((j,V x)::l.filter fun x=>x.1 != j)->Leads Tryz.prog K (b.at a1 (.inRegion ops rest::k)) cs w1)
 (hb:b.kind=.normal:=by rfl) (hg:badF f=false:=by rfl) (e:∀ d,callR Tryz.prog n d l ops i=some (f,args,j):=by intro d;kernel_rfl):Leads Tryz.prog K (b.at a (.inRegion ops (i::rest)::k)) cs w :=
 co_callL hi f args j q hd hz (lone_co hi.cl hz hc hg) h hb e
theorem co_val (hi:Ivt w0 I w) {ops:Array Oper} {i:Nat} {rest:List Nat} (f:FuncId) (args:List Value) (j:Nat) {v:Value} (q:Kn a n l) (hd:a.defers=D)
 (hc:∀ W,I W->Calls Mz.prog f args.toArray W fun e w2=>e=.returned v/\Below W.heap.size W w2)
 (h:∀ a1 w1,Ivt w0 I w1->a1.defers=D->Kn a1 n ((j,v)::l.filter fun x=>x.1 != j)->Leads Tryz.prog K (b.at a1 (.inRegion ops rest::k)) cs w1)
 (hb:b.kind=.normal:=by rfl) (hg:badF f=false:=by rfl) (e:∀ d,callR Tryz.prog n d l ops i=some (f,args,j):=by intro d;kernel_rfl):Leads Tryz.prog K (b.at a (.inRegion ops (i::rest)::k)) cs w:=by
 refine co_call (α:=Unit) (V:=fun _=>v) (Z:=fun _ _=>True) hi f args j q hd (fun _ _ _ _ _=>trivial) (fun W hW=>(hc W hW).mono ?_) (fun _ a1 w1 h1=>h a1 w1 (h1.less hi.cl fun _ x=>x.1)) hb hg e;rintro e w2 ⟨h1,h2⟩;exact ⟨(),h1,trivial,h2⟩
end
def BoxAt (r:Nat) (cells:Array Value) (w:World):Prop:=r < w.heap.size/\∀ (k:Nat) (v:Value),cells[k]? = some v->w.cell? ⟨r,k,none⟩=some v
theorem BoxAt.alike {r:Nat} {cells:Array Value} {w w1:World} (h:BoxAt r cells w) (ha:Alike w w1):BoxAt r cells w1:=⟨Nat.lt_of_lt_of_le h.1 ha.size,fun k v e=>(ha.cell r k h.1).trans (h.2 k v e)⟩
theorem View.alloc {D:Nat->Prop} {w v:World} (h:View D w v) (o:Obj):View D (w.alloc o) (v.alloc o):=by
 have hs:v.heap.size=w.heap.size:=h.size;refine ⟨h.tape,h.drawn,h.os,h.output,(by show (v.heap.push o).size=(w.heap.push o).size;rw [Array.size_push,Array.size_push,hs]),fun r hr=>?_,fun r hr=>?_⟩
 ·show (v.heap.push o)[r]? = (w.heap.push o)[r]?;rw [Array.getElem?_push,Array.getElem?_push,hs,h.live r hr]
 ·obtain ⟨⟨x,h1,h2⟩,h3⟩:=h.gone r hr;have hlt:r < w.heap.size:=(Array.getElem?_eq_some_iff.1 h1).1;refine ⟨⟨x,?_,h2⟩,?_⟩
  ·show (w.heap.push o)[r]? = some x;rw [Array.getElem?_push,if_neg (by omega)];exact h1
  ·show (v.heap.push o)[r]? = _;rw [Array.getElem?_push,if_neg (by omega)];exact h3
section
variable {P:Program} {K:Frame->List Frame->World->Prop} {b:Frame} {a:Act} {w0 w:World} {I:World->Prop} {k:List Item} {cs:List Frame} {n:Nat} {l:List (Nat × Value)} {D:List Deferred}
theorem co_new (hi:Ivt w0 I w) {ops:Array Oper} {i j:Nat} {rest:List Nat} (V:Nat->Value) (ob:Obj) {Z:Nat->World->Prop} {o:Oper} (ho:ops[i]? = some o) (hw:Region.wanted o (yielded ops a.tmps)=true) (hdst:o.dst=some j)
 (hr:∀ W:World,(execOp a.eval o).run P W=.ok (.value (V W.heap.size)) (W.alloc ob)/\(execOp a.eval o).events P W #[]=#[]) (hz:∀ r w1 w2,Alike w1 w2->Z r w1->Z r w2) (hZ:∀ W:World,Z W.heap.size (W.alloc ob))
 (h:∀ w1,Ivt w0 (fun w1=>I w1/\Z w.heap.size w1) w1->Leads P K (b.at (a.put (some j) (V w.heap.size)) (.inRegion ops rest::k)) cs w1)
 (hb:b.kind=.normal):Leads P K (b.at a (.inRegion ops (i::rest)::k)) cs w:=by
 intro L hL W D hv;have hsz:w.heap.size=W.heap.size:=hv.size;refine .step fun d=>⟨_,cs,(W.at d).alloc ob,_,stepG_value ho hw (by rw [hb];decide) (hr _).1,fun e hm=>?_,(by show W.heap.size<=(W.heap.push _).size;rw [Array.size_push];omega),?_⟩
 ·have:=seen_mem hm;rw [(hr _).2] at this;simp at this
 ·have hst:Stays w ((w.at d).alloc ob):=⟨rfl,(by show w.heap.size<=(w.heap.push _).size;rw [Array.size_push];omega),fun r hr=>by
   show (w.heap.push _)[r]? = _
   rw [Array.getElem?_push,if_neg (by omega)],ConcM.OsLater.refl _⟩
  have:=h _ (hi.and hst (hz _) (hZ (w.at d))) L (by show L<=(w.heap.push _).size;rw [Array.size_push];omega) _ _ ((hv.at d).alloc ob);rw [hdst];show LeadsR P L D _ (b.at (a.put (some j) (V W.heap.size)) _) cs _;rw [<- hsz];exact this
theorem co_box (hi:Ivt w0 I w) {ops:Array Oper} {i j:Nat} {rest:List Nat} {cells:Array Value} {t:TypeId} (q:Kn a n l) (hd:a.defers=D) {o:Oper} {x:Operand} (ho:ops[i]? = some o) (hop:o.op=.box t x) (hw:Region.wanted o (yielded ops a.tmps)=true) (hdst:o.dst=some j) (hx:a.eval x=.agg cells) (hj:j < n)
 (h:∀ r a1 w1,Ivt w0 (fun w=>I w/\BoxAt r cells w) w1->a1.defers=D->Kn a1 n ((j,.pointer (some ⟨r,0,none⟩))::l.filter fun x=>x.1 != j)->Leads P K (b.at a1 (.inRegion ops rest::k)) cs w1)
 (hb:b.kind=.normal:=by rfl):Leads P K (b.at a (.inRegion ops (i::rest)::k)) cs w:=by
 have ee:execOp a.eval o=execOp (fun _=>.agg cells) { o with op:=.box t x }:=by unfold execOp;rw [hop];simp only [hx]
 refine co_new hi (fun r=>.pointer (some ⟨r,0,none⟩)) (.cells cells t) (Z:=fun r w=>BoxAt r cells w) ho hw hdst (fun W=>by rw [ee];exact ⟨by simp [go_sem],by simp [go_sem]⟩) (fun _ _ _ ha x=>x.alike ha) (fun W=>⟨(by show W.heap.size < (W.heap.push _).size;rw [Array.size_push];omega),fun k v e=>?_⟩) (fun w1 h1=>h _ _ w1 h1 hd (q.cons hj _)) hb;rw [World.cell?_alloc_at _ _ _ _ rfl];exact e
theorem co_loadP (hi:Ivt w0 I w) {ops:Array Oper} {i j:Nat} {rest:List Nat} {v:Value} {r:Nat} {o:Oper} (ho:ops[i]? = some o) (hw:Region.wanted o (yielded ops a.tmps)=true) (hdst:o.dst=some j) {m:Nat} {c:Nat->Value} (hc:∀ k,k < m->w.cell? ⟨r,k,none⟩=some (c k)) (hm:0 < m)
 (hr:∀ W:World,(∀ k,k < m->W.cell? ⟨r,k,none⟩=some (c k))->(execOp a.eval o).run P W=.ok (.value v) W/\∀ e∈(execOp a.eval o).events P W #[],∃ k,e.loc=.cell ⟨r,k,none⟩)
 (h:∀ w1,Ivt w0 I w1->Leads P K (b.at (a.put (some j) v) (.inRegion ops rest::k)) cs w1) (hb:b.kind=.normal):Leads P K (b.at a (.inRegion ops (i::rest)::k)) cs w:=by
 refine leads_op v hb ho hw (fun W D hv d=>(hr (W.at d) fun k hk=>(hv.cell (hc k hk)).2).1) (fun W D hv d e he=>?_) fun d=>?_
 ·obtain ⟨k,hk⟩:=(hr (W.at d) fun k hk=>(hv.cell (hc k hk)).2).2 e he;obtain ⟨n0,y0⟩:=hv.cell (hc 0 hm);unfold EvOk;rw [hk];exact ⟨lt_of_cell (a:=⟨r,0,none⟩) y0,n0⟩
 ·rw [hdst];exact h _ (hi.to (Stays.at w d))
end
theorem co_start {P:Program} {K:Frame->List Frame->World->Prop} {cs:List Frame} {w:World} {f:FuncId} {fn:Func} {c:Code} {n:Nat} (args:List Value) (hf:P.funcs[f]? = some fn) (hc:fn.body=some c) (hn:fn.ntmps=n) (hl:args.length<=n)
 (h:∀ a:Act,a.defers=[]->Kn a n (args.zipIdx.map fun x=>(x.2,x.1))->Leads P K ((base f).at a [.code c]) cs w):Leads P K (Frame.enter P f args.toArray .normal) cs w:=by
 rw [enter_at args.toArray hf hc];refine h _ rfl ⟨?_,knl_all fun x hx=>?_⟩
 ·simp [hn];omega
 ·obtain ⟨y,hy,rfl⟩:=List.mem_map.1 hx;obtain ⟨v,i⟩:=y;have h1:=List.mem_zipIdx' hy;show (args.toArray ++ _)[i]? = some v;have h2:i < args.length:=h1.1;have h3:v=args[i]:=h1.2;rw [Array.getElem?_append_left (by simpa using h2)];simp [h2,h3]
theorem co_end {b:Frame} {a:Act} {w0 w:World} {I:World->Prop} {k:List Item} {n t:Nat} {l:List (Nat × Value)} {fn:Func} {v:Value} {P:Program} (hi:Ivt w0 I w) (q:Kn a n l) (hd:a.defers=[]) (hb:b.kind=.normal) (hx:P.inits.idxOf? b.fn=none) (hf:P.funcs[b.fn]? = some fn) (hr:fn.results=#[.tmp t]) (hv:l.lookup t=some v) :
 Leads P (Leaving0 P fun v' w'=>v'=v/\Stays w0 w') (b.at a (.code .ret::k)) [] w:=by
 refine leads_ret fun d=>.done ⟨rfl,rfl,hb,hd,hx,v,fn,hf,fun W=>?_,fun d'=>⟨rfl,⟨hi.st.output,hi.st.size,hi.st.block,hi.st.os⟩⟩⟩;have e:a.tmps.getD t undef=v:=by rw [Array.getD_eq_getD_getElem?,q.g t hv];rfl
 show (results fn a.tmps).runT P W #[]=_;rw [Sem.runT_eq,results_tmp hr _ P W,e];exact Prod.ext rfl (events_results_tmp hr _ _)
theorem co_back {P:Program} {b c:Frame} {cs:List Frame} {a:Act} {w0 w:World} {I:World->Prop} {k:List Item} {n t:Nat} {l:List (Nat × Value)} {fn:Func} {v:Value} (hi:Ivt w0 I w) (q:Kn a n l) (hd:a.defers=[]) (hb:b.kind=.normal) (hf:P.funcs[b.fn]? = some fn) (hr:fn.results=#[.tmp t]) (hv:l.lookup t=some v) :
 Leads P (fun fr' cs' w1=>fr'=c.finish v/\cs'=cs/\Stays w0 w1) (b.at a (.code .ret::k)) (c::cs) w:=by
 have e:a.tmps.getD t undef=v:=by rw [Array.getD_eq_getD_getElem?,q.g t hv];rfl
 refine leads_ret fun d=>leads_leave (v:=v) hb hd hf (fun W=>by rw [results_tmp hr _ P W,e]) (fun W=>events_results_tmp hr _ _) fun d'=>.done ⟨rfl,rfl,hi.st.output,hi.st.size,hi.st.block,hi.st.os⟩
section
variable {P:Program} {K:Frame->List Frame->World->Prop} {b:Frame} {k:List Item} {cs:List Frame} {ops:Array Oper}
end
end Mt
namespace Mt
open Go Go.RowKit Go.Maps Go.Conc
attribute [local go_sem] Oper.semAt_some
theorem co_bookP {K:Frame->List Frame->World->Prop} {b:Frame} {a:Act} {w0 w:World} {I:World->Prop} {k:List Item} {cs:List Frame} (hi:Ivt w0 I w) {ops:Array Oper} {i j r:Nat} {rest:List Nat} {vm vd vt:Value}
 (hbx:∀ w,I w->BoxAt r #[vm,vd,vt] w) {o:Oper} {x:Operand} (ho:ops[i]? = some o) (hop:o.op=.load 25 x) (hw:Region.wanted o (yielded ops a.tmps)=true) (hdst:o.dst=some j) (hx:a.eval x=.pointer (some ⟨r,0,none⟩)) 
 (h:∀ w1,Ivt w0 I w1->Leads Tryz.prog K (b.at (a.put (some j) (.agg #[vm,vd,vt])) (.inRegion ops rest::k)) cs w1) (hb:b.kind=.normal:=by rfl):Leads Tryz.prog K (b.at a (.inRegion ops (i::rest)::k)) cs w:=by
 obtain ⟨_,hc⟩:=hbx w hi.it;have ee:execOp a.eval o=execOp (fun _=>.pointer (some ⟨r,0,none⟩)) { o with op:=.load 25 x }:=by unfold execOp;rw [hop];simp only [hx]
 refine co_loadP hi (r:=r) (m:=3) (c:=fun k=>#[vm,vd,vt].getD k undef) ho hw hdst (fun k hk=>hc k _ ?_) (by omega) (fun W hW=>?_) h hb
 ·obtain rfl | rfl | rfl:k=0\/k=1\/k=2:=by omega
  all_goals rfl
 ·have y0:W.cell? ⟨r,0,none⟩=some vm:=hW 0 (by omega);have y1:W.cell? ⟨r,1,none⟩=some vd:=hW 1 (by omega);have y2:W.cell? ⟨r,2,none⟩=some vt:=hW 2 (by omega);rw [ee];refine ⟨by simp [go_sem,y0,y1,y2],fun e he=>?_⟩;simp [go_sem,y0,y1,y2] at he;rcases he with rfl | rfl | rfl <;> exact ⟨_,rfl⟩
theorem co_book {K:Frame->List Frame->World->Prop} {b:Frame} {a:Act} {w0 w:World} {I:World->Prop} {k:List Item} {cs:List Frame} {n:Nat} {l:List (Nat × Value)} {D:List Deferred} (hi:Ivt w0 I w) {ops:Array Oper} {i j r:Nat} {rest:List Nat} {vm vd vt:Value}
 (hbx:∀ w,I w->BoxAt r #[vm,vd,vt] w) (q:Kn a n l) (hd:a.defers=D) {o:Oper} {x:Operand} (ho:ops[i]? = some o) (hop:o.op=.load 25 x) (hw:Region.wanted o (yielded ops a.tmps)=true) (hdst:o.dst=some j) (hx:a.eval x=.pointer (some ⟨r,0,none⟩)) (hj:j < n)
 (h:∀ a1 w1,Ivt w0 I w1->a1.defers=D->Kn a1 n ((j,.agg #[vm,vd,vt])::l.filter fun x=>x.1 != j)->Leads Tryz.prog K (b.at a1 (.inRegion ops rest::k)) cs w1) (hb:b.kind=.normal:=by rfl):Leads Tryz.prog K (b.at a (.inRegion ops (i::rest)::k)) cs w :=
 co_bookP hi hbx ho hop hw hdst hx (fun w1 h1=>h _ w1 h1 hd (q.cons hj _)) hb
theorem co_lits {K:Frame->List Frame->World->Prop} {b:Frame} {a:Act} {w0 w:World} {I:World->Prop} {k:List Item} {cs:List Frame} {n:Nat} {l:List (Nat × Value)} {D:List Deferred} (hi:Ivt w0 I w) {ops:Array Oper} {i j m:Nat} {rest:List Nat} (ns:List Int) (T E:TypeId) (q:Kn a n l) (hd:a.defers=D) {o:Oper} (ho:ops[i]? = some o) (hw:Region.wanted o (yielded ops a.tmps)=true) (hdst:o.dst=some j) (hj:j < n) {p:Array (Nat × Operand)} (hop:o.op=.buildSlice T m p)
 (hr:∀ W:World,(execOp a.eval { o with op:=.buildSlice T m p }).run Tryz.prog W=.ok (.value (.slice (some ⟨W.heap.size,0,none⟩) m m)) (W.alloc (.cells (ns.map (Value.int .i64)).toArray E))/\(execOp a.eval { o with op:=.buildSlice T m p }).events Tryz.prog W #[]=#[])
 (h:∀ x a1 w1,Ivt w0 (fun w=>I w/\IntsAt w x ns) w1->a1.defers=D->Kn a1 n ((j,.slice x m m)::l.filter fun x=>x.1 != j)->Leads Tryz.prog K (b.at a1 (.inRegion ops rest::k)) cs w1) (hb:b.kind=.normal:=by rfl):Leads Tryz.prog K (b.at a (.inRegion ops (i::rest)::k)) cs w:=by
 have ee:execOp a.eval o=execOp a.eval { o with op:=.buildSlice T m p }:=by unfold execOp;rw [hop]
 refine co_new hi (fun r=>.slice (some ⟨r,0,none⟩) m m) (.cells (ns.map (Value.int .i64)).toArray E) (Z:=fun r w=>IntsAt w (some ⟨r,0,none⟩) ns) ho hw hdst (fun W=>by rw [ee];exact hr W) (fun r _ _ ha h=>IntsAt.alike h ha) (fun W k hk=>?_) (fun w1 h1=>h _ _ w1 h1 hd (q.cons hj _)) hb;refine ⟨_,0,rfl,(by show W.heap.size < (W.heap.push _).size;rw [Array.size_push];omega),?_⟩;rw [Nat.zero_add,World.cell?_alloc_at _ _ _ _ rfl];simp [hk]
attribute [local go_sem] Oper.semAt_some
noncomputable def fdB:Code:=Tryz.f16.body.getD .skip
noncomputable def fdC (n:Nat):Code:=cL (cR n fdB)
theorem fd_ok:[fdC 0,fdC 1].all (codeOk Tryz.prog)=true:=by kernel_rfl
theorem fdB_eq:fdB=seqs [fdC 0,fdC 1] (cR 2 fdB):=by kernel_rfl
structure LX (B:Nat) (vm vd vt:Value) (w:World):Prop where
 book:FBookAt w exB vm vd vt
 acts:ActsAt w
 box:BoxAt B #[vm,vd,vt] w
theorem LX.alike {B:Nat} {vm vd vt:Value} {w w1:World} (h:LX B vm vd vt w) (ha:Alike w w1):LX B vm vd vt w1:=⟨h.book.alike ha,h.acts.alike ha,h.box.alike ha⟩
def fdZ (a:Act) (w:World):Prop:=∃ B vm vd vt,a.defers=[]/\Kn a 214 [(1,.pointer (some ⟨B,0,none⟩))]/\LX B vm vd vt w
theorem fd_pre {W:World} (hA:ActsAt W):wps Mz.prog [fdC 0,fdC 1] (fun a' w2=>fdZ a' w2/\Old W w2) { tmps:=Array.replicate 214 U,defers:=[] } W:=by
 have HA:=Hh hA;clear hA;simp only [fdC,cL,cR,fdB,Tryz.f16,Option.getD_some,Array.replicate_succ,Array.replicate_zero,List.push_toArray,List.append_toArray,List.nil_append,List.cons_append];unfold wps;go_wp2;intro t;obtain ⟨V,hV⟩:∃ V,V=W.on t 0:=⟨_,rfl⟩;have HO:=Hh (show Old W V by rw [hV];exact (Old.refl W).on t 0);rw [<- hV];clear hV;unfold wps;go_wp2_with (go_at_call 63;(with_reducible refine (example_at _).mono ?_);rintro e w1 ⟨vm,vd,vt,rfl,hB,hb1⟩;have HB:=Hh hB;have hBB:=hB;obtain ⟨rfl,⟨da,dc,rfl,_,_⟩,ta,tc,rfl,_,_⟩:=hBB;clear hB);have hb2:Below V.heap.size V (w1.alloc (.cells #[.int .i64 exB.most,.slice da exB.devs.length dc,.slice ta exB.tests.length tc] 25)):=bel;have ho:=HO.out.trans (Below.old hb2);intro t;refine ⟨⟨w1.heap.size,.int .i64 exB.most,.slice da exB.devs.length dc,.slice ta exB.tests.length tc,rfl,⟨rfl,rfl,trivial⟩,?_⟩,ho.on t 0⟩;refine LX.alike (w:=w1.alloc (.cells #[.int .i64 exB.most,.slice da exB.devs.length dc,.slice ta exB.tests.length tc] 25)) ⟨HB.out.below (Below.al (Below.refl _ _) _),HA.out.alike ho.alike,(by show w1.heap.size < (w1.heap.push _).size;rw [Array.size_push];omega),fun k v e=>?_⟩ ((Old.refl _).on t 0).alike;rw [World.cell?_alloc_at _ _ _ _ rfl];exact e
theorem fd_enter:Frame.enter Tryz.prog 16 #[] .normal=(base 16).at { tmps:=Array.replicate 214 U,defers:=[] } [.code fdB]:=by kernel_rfl
theorem found_co {w:World} (hA:ActsAt w) (c:Frame) (cs:List Frame) :
 Leads Tryz.prog (fun fr' cs' w1=>fr'=c.finish (.bool true)/\cs'=cs/\Stays w w1) (Frame.enter Tryz.prog 16 #[] .normal) (c::cs) w:=by
 have hok:=List.all_eq_true.1 fd_ok;rw [fd_enter,fdB_eq];refine pieces_co (k:=[]) _ (fun c hc=>hok c hc) rfl (by kernel_rfl) rfl (Z:=fdZ) (fun a w1 w2 ht ⟨B,vm,vd,vt,h1,h2,h3⟩=>⟨B,vm,vd,vt,h1,h2,h3.alike ht.alike⟩) (fun W hW=>fd_pre (hA.alike hW.alike)) ?_;rintro a0 w ⟨B,vm,vd,vt,df0,q0,hx⟩ ho;have hi:Ivt _ (LX B vm vd vt) w:=⟨fun _ _ ha h=>h.alike ha,hx,ho.stays⟩;refine co_run hi 2 [(1,.pointer (some ⟨B,0,none⟩))] [.inRegion (rop (pt fdB 11)) [0,1,2,3,4,5,6,7,8,9,10],.code (pt fdB 15)] q0 df0 fun a0 w hi df0 q0=>?_;refine co_book hi (r:=B) (vm:=vm) (vd:=vd) (vt:=vt) (fun w h=>h.box) q0 df0 rfl rfl rfl rfl (q0.ev 1 rfl) (by decide) fun a0 w hi df0 q0=>?_;refine co_lits hi (m:=4) (p:=#[(0,.const (.int .i64 0)),(1,.const (.int .i64 0)),(2,.const (.int .i64 2)),(3,.const (.int .i64 1))]) [0,0,2,1] 52 54 q0 df0 rfl rfl rfl (by decide) rfl (fun W=>⟨by simp [go_sem],by simp [go_sem]⟩) fun sa a0 w hi df0 q0=>?_;refine co_lits hi (m:=2) (p:=#[(0,.const (.int .i64 2)),(1,.const (.int .i64 3))]) [2,3] 26 3 q0 df0 rfl rfl rfl (by decide) rfl (fun W=>⟨by simp [go_sem],by simp [go_sem]⟩) fun pa a0 w hi df0 q0=>?_;refine co_val hi 38 [.agg #[vm,vd,vt],.slice sa 4 4,.slice pa 2 2] 36 (v:=.tuple #[.bool true,.int .i64 0,.int .i64 0]) q0 df0 (fun W h=>playApi_ok (sc:=4) (pc:=2) h.1.1.book ex_names h.1.1.acts h.1.2 (by decide) h.2 (by decide) (by decide) ex_play.1 ex_play.2) fun a0 w hi df0 q0=>?_;refine co_run hi 10 [(4,.int .i64 0),(3,.int .i64 0),(2,.bool true),(1,.pointer (some ⟨B,0,none⟩))] [.inRegion (rop (pt fdB 23)) [0,1,2,3,4,5,6],.code (pt fdB 31)] q0 df0 fun a0 w hi df0 q0=>?_;refine co_book hi (r:=B) (vm:=vm) (vd:=vd) (vt:=vt) (fun w h=>h.1.1.box) q0 df0 rfl rfl rfl rfl (q0.ev 1 rfl) (by decide) fun a0 w hi df0 q0=>?_;refine co_val hi 35 [.agg #[vm,vd,vt]] 42 (v:=.tuple #[.int .i64 3,.int .i64 0]) q0 df0 (fun W h=>by have:=histApi_ok h.1.1.book ex_names h.1.1.acts ex_book;rw [ex_hists] at this;exact this) fun a0 w hi df0 q0=>?_;refine co_run hi 8 [(6,.int .i64 0),(5,.int .i64 3),(4,.int .i64 0),(3,.int .i64 0),(2,.bool true),(1,.pointer (some ⟨B,0,none⟩))] [.inRegion (rop (pt fdB 47)) [0,1,2,3,4,5,6,7,8],.code (pt fdB 63)] q0 df0 fun a0 w hi df0 q0=>?_;refine co_book hi (r:=B) (vm:=vm) (vd:=vd) (vt:=vt) (fun w h=>h.1.1.box) q0 df0 rfl rfl rfl rfl (q0.ev 1 rfl) (by decide) fun a0 w hi df0 q0=>?_;refine co_val hi 36 [.agg #[vm,vd,vt],.int .i64 2] 47 (v:=.tuple #[.int .i64 0,.int .i64 2,.int .i64 0]) q0 df0 (fun W h=>by have:=stateApi_ok (k:=2) h.1.1.book ex_names h.1.1.acts (by rw [ex_dev];exact ex_open);rw [ex_held.1,ex_held.2] at this;exact this) fun a0 w hi df0 q0=>?_;refine co_run hi 10 [(9,.int .i64 0),(8,.int .i64 2),(7,.int .i64 0),(6,.int .i64 0),(5,.int .i64 3),(4,.int .i64 0),(3,.int .i64 0),(2,.bool true),(1,.pointer (some ⟨B,0,none⟩))] [.inRegion (rop (pt fdB 95)) [0,1,2,3,4,5,6],.code (pt fdB 127)] q0 df0 fun a0 w hi df0 q0=>?_;refine co_book hi (r:=B) (vm:=vm) (vd:=vd) (vt:=vt) (fun w h=>h.1.1.box) q0 df0 rfl rfl rfl rfl (q0.ev 1 rfl) (by decide) fun a0 w hi df0 q0=>?_;refine co_call hi 37 [.agg #[vm,vd,vt]] 53 (α:=Option Addr × Nat) (V:=fun x=>.tuple #[.slice x.1 3 x.2,.int .i64 0]) (Z:=fun x w=>IntsAt w x.1 [0,1,2]) q0 df0 (fun x _ _ ha h=>IntsAt.alike h ha) (fun W h=>by have:=suspApi_ok h.1.1.book ex_names h.1.1.acts ex_open;rw [ex_susp] at this;exact this.mono fun e w2 ⟨a,c,h1,h2,h3⟩=>⟨(a,c),h1,h2,h3⟩) fun x a0 w hi df0 q0=>?_;refine co_run hi 8 [(11,.int .i64 0),(10,.slice x.1 3 x.2),(9,.int .i64 0),(8,.int .i64 2),(7,.int .i64 0),(6,.int .i64 0),(5,.int .i64 3),(4,.int .i64 0),(3,.int .i64 0),(2,.bool true),(1,.pointer (some ⟨B,0,none⟩))] [.inRegion (rop (pt fdB 191)) [0,1,2,3,4,5,6,7],.code (pt fdB 255)] q0 df0 fun a0 w hi df0 q0=>?_;refine co_book hi (r:=B) (vm:=vm) (vd:=vd) (vt:=vt) (fun w h=>h.1.1.1.box) q0 df0 rfl rfl rfl rfl (q0.ev 1 rfl) (by decide) fun a0 w hi df0 q0=>?_;refine co_lits hi (m:=1) (p:=#[(0,.const (.int .i64 3))]) [3] 26 3 q0 df0 rfl rfl rfl (by decide) rfl (fun W=>⟨by simp [go_sem],by simp [go_sem]⟩) fun p1 a0 w hi df0 q0=>?_;refine co_val hi 17 [.agg #[vm,vd,vt],.slice p1 1 1] 59 (v:=.tuple #[.int .i64 1,.int .i64 0]) q0 df0 (fun W h=>by have:=passApi_ok (pc:=1) h.1.1.1.1.book ex_names h.1.1.1.1.acts h.2 (by decide) (by decide) (by rw [ex_pass.2];exact ex_open);rw [ex_pass.1] at this;exact this) fun a0 w hi df0 q0=>?_;refine co_run hi 8 [(13,.int .i64 0),(12,.int .i64 1),(11,.int .i64 0),(10,.slice x.1 3 x.2),(9,.int .i64 0),(8,.int .i64 2),(7,.int .i64 0),(6,.int .i64 0),(5,.int .i64 3),(4,.int .i64 0),(3,.int .i64 0),(2,.bool true),(1,.pointer (some ⟨B,0,none⟩))] [.inRegion (rop (pt fdB 383)) [0,1,2,3,4,5,6,7],.code (pt fdB 511)] q0 df0 fun a0 w hi df0 q0=>?_;refine co_book hi (r:=B) (vm:=vm) (vd:=vd) (vt:=vt) (fun w h=>h.1.1.1.1.box) q0 df0 rfl rfl rfl rfl (q0.ev 1 rfl) (by decide) fun a0 w hi df0 q0=>?_;refine co_lits hi (m:=2) (p:=#[(0,.const (.int .i64 0)),(1,.const (.int .i64 3))]) [0,3] 26 3 q0 df0 rfl rfl rfl (by decide) rfl (fun W=>⟨by simp [go_sem],by simp [go_sem]⟩) fun p2 a0 w hi df0 q0=>?_;refine co_val hi 19 [.agg #[vm,vd,vt],.slice p2 2 2] 65 (v:=.tuple #[.int .i64 0,.int .i64 0]) q0 df0 (fun W h=>by have:=soundApi_ok (pc:=2) h.1.1.1.1.1.book ex_names h.1.1.1.1.1.acts h.2 (by decide) (by decide) (by rw [ex_sound.2];exact ex_open);rw [ex_sound.1] at this;exact this) fun a0 w hi df0 q0=>?_;refine co_run hi 8 [(15,.int .i64 0),(14,.int .i64 0),(13,.int .i64 0),(12,.int .i64 1),(11,.int .i64 0),(10,.slice x.1 3 x.2),(9,.int .i64 0),(8,.int .i64 2),(7,.int .i64 0),(6,.int .i64 0),(5,.int .i64 3),(4,.int .i64 0),(3,.int .i64 0),(2,.bool true),(1,.pointer (some ⟨B,0,none⟩))] [.inRegion (rop (pt fdB 767)) [0,1,2,3,4,5,6],.code (pt fdB 1023)] q0 df0 fun a0 w hi df0 q0=>?_;refine co_book hi (r:=B) (vm:=vm) (vd:=vd) (vt:=vt) (fun w h=>h.1.1.1.1.1.box) q0 df0 rfl rfl rfl rfl (q0.ev 1 rfl) (by decide) fun a0 w hi df0 q0=>?_;refine co_val hi 24 [.agg #[vm,vd,vt]] 70 (v:=.tuple #[.bool false,.int .i64 0]) q0 df0 (fun W h=>located_ok h.1.1.1.1.1.book ex_names h.1.1.1.1.1.acts ex_open ex_rows) fun a0 w hi df0 q0=>?_;refine co_run hi 8 [(17,.int .i64 0),(16,.bool false),(15,.int .i64 0),(14,.int .i64 0),(13,.int .i64 0),(12,.int .i64 1),(11,.int .i64 0),(10,.slice x.1 3 x.2),(9,.int .i64 0),(8,.int .i64 2),(7,.int .i64 0),(6,.int .i64 0),(5,.int .i64 3),(4,.int .i64 0),(3,.int .i64 0),(2,.bool true),(1,.pointer (some ⟨B,0,none⟩))] [.inRegion (rop (pt fdB 1535)) [0,1,2,3,4,5,6,7,8],.code (pt fdB 2047)] q0 df0 fun a0 w hi df0 q0=>?_;refine co_book hi (r:=B) (vm:=vm) (vd:=vd) (vt:=vt) (fun w h=>h.1.1.1.1.1.box) q0 df0 rfl rfl rfl rfl (q0.ev 1 rfl) (by decide) fun a0 w hi df0 q0=>?_;refine co_callL hi 26 [.agg #[vm,vd,vt]] 75 (α:=Unit) (V:=fun _=>.tuple #[.int .i64 1,.int .i64 2,.int .i64 0]) (Z:=fun _ _=>True) q0 df0 (fun _ _ _ _ _=>trivial) (fun c cs w h=>by have:=ask_co h.1.1.1.1.1.book ex_names h.1.1.1.1.1.acts ex_open c cs;rw [ex_ask.1,ex_ask.2] at this;exact this.mono fun _ _ _ ⟨h1,h2,h3⟩=>⟨(),h1,h2,trivial,h3⟩) fun _ a0 w hi df0 q0=>?_;refine co_run hi 10 [(20,.int .i64 0),(19,.int .i64 2),(18,.int .i64 1),(17,.int .i64 0),(16,.bool false),(15,.int .i64 0),(14,.int .i64 0),(13,.int .i64 0),(12,.int .i64 1),(11,.int .i64 0),(10,.slice x.1 3 x.2),(9,.int .i64 0),(8,.int .i64 2),(7,.int .i64 0),(6,.int .i64 0),(5,.int .i64 3),(4,.int .i64 0),(3,.int .i64 0),(2,.bool true),(1,.pointer (some ⟨B,0,none⟩))] [.inRegion (rop (pt fdB 3071)) [0,1,2,3,4,5,6,7,8],.code (pt fdB 4095)] q0 df0 fun a0 w hi df0 q0=>?_;refine co_book hi (r:=B) (vm:=vm) (vd:=vd) (vt:=vt) (fun w h=>h.1.1.1.1.1.1.box) q0 df0 rfl rfl rfl rfl (q0.ev 1 rfl) (by decide) fun a0 w hi df0 q0=>?_;refine co_val hi 28 [.agg #[vm,vd,vt]] 81 (v:=.tuple #[.int .i64 2,.int .i64 1,.int .i64 0]) q0 df0 (fun W h=>by have:=depthApi_ok h.1.1.1.1.1.1.book ex_names h.1.1.1.1.1.1.acts ex_open;rw [ex_depth.1,ex_depth.2] at this;exact this) fun a0 w hi df0 q0=>?_;refine co_run hi 10 [(23,.int .i64 0),(22,.int .i64 1),(21,.int .i64 2),(20,.int .i64 0),(19,.int .i64 2),(18,.int .i64 1),(17,.int .i64 0),(16,.bool false),(15,.int .i64 0),(14,.int .i64 0),(13,.int .i64 0),(12,.int .i64 1),(11,.int .i64 0),(10,.slice x.1 3 x.2),(9,.int .i64 0),(8,.int .i64 2),(7,.int .i64 0),(6,.int .i64 0),(5,.int .i64 3),(4,.int .i64 0),(3,.int .i64 0),(2,.bool true),(1,.pointer (some ⟨B,0,none⟩))] [.inRegion (rop (pt fdB 6143)) [0,1,2,3,4,5,6],.code (pt fdB 8191)] q0 df0 fun a0 w hi df0 q0=>?_;refine co_book hi (r:=B) (vm:=vm) (vd:=vd) (vt:=vt) (fun w h=>h.1.1.1.1.1.1.box) q0 df0 rfl rfl rfl rfl (q0.ev 1 rfl) (by decide) fun a0 w hi df0 q0=>?_;refine co_call hi 30 [.agg #[vm,vd,vt]] 87 (α:=Option Addr × Nat) (V:=fun x=>.tuple #[.slice x.1 2 x.2,.int .i64 0]) (Z:=fun x w=>IntsAt w x.1 [1,2]) q0 df0 (fun x _ _ ha h=>IntsAt.alike h ha) (fun W h=>by have:=batchApi_ok h.1.1.1.1.1.1.book ex_names h.1.1.1.1.1.1.acts ex_open;rw [ex_batch] at this;exact this.mono fun e w2 ⟨a,c,h1,h2,h3⟩=>⟨(a,c),h1,h2,h3⟩) fun y a0 w hi df0 q0=>?_;refine co_run hi 8 [(25,.int .i64 0),(24,.slice y.1 2 y.2),(23,.int .i64 0),(22,.int .i64 1),(21,.int .i64 2),(20,.int .i64 0),(19,.int .i64 2),(18,.int .i64 1),(17,.int .i64 0),(16,.bool false),(15,.int .i64 0),(14,.int .i64 0),(13,.int .i64 0),(12,.int .i64 1),(11,.int .i64 0),(10,.slice x.1 3 x.2),(9,.int .i64 0),(8,.int .i64 2),(7,.int .i64 0),(6,.int .i64 0),(5,.int .i64 3),(4,.int .i64 0),(3,.int .i64 0),(2,.bool true),(1,.pointer (some ⟨B,0,none⟩))] [.inRegion (rop (pt fdB 12287)) [0,1,2,3,4,5,6,7,8],.code (pt fdB 16383)] q0 df0 fun a0 w hi df0 q0=>?_;refine co_book hi (r:=B) (vm:=vm) (vd:=vd) (vt:=vt) (fun w h=>h.1.1.1.1.1.1.1.box) q0 df0 rfl rfl rfl rfl (q0.ev 1 rfl) (by decide) fun a0 w hi df0 q0=>?_;refine co_call hi 45 [.agg #[vm,vd,vt]] 92 (α:=Option Addr × Nat) (V:=fun x=>.tuple #[.slice x.1 3 x.2,.int .i64 25,.int .i64 0]) (Z:=fun x w=>IntsAt w x.1 [2,0,1]) q0 df0 (fun x _ _ ha h=>IntsAt.alike h ha) (fun W h=>by have:=repairsApi_ok h.1.1.1.1.1.1.1.book ex_names h.1.1.1.1.1.1.1.acts ex_open;rw [ex_rep.1,ex_rep.2] at this;exact this.mono fun e w2 ⟨a,c,h1,h2,h3⟩=>⟨(a,c),h1,h2,h3⟩) fun z a0 w hi df0 q0=>?_;refine co_run hi 10 [(28,.int .i64 0),(27,.int .i64 25),(26,.slice z.1 3 z.2),(25,.int .i64 0),(24,.slice y.1 2 y.2),(23,.int .i64 0),(22,.int .i64 1),(21,.int .i64 2),(20,.int .i64 0),(19,.int .i64 2),(18,.int .i64 1),(17,.int .i64 0),(16,.bool false),(15,.int .i64 0),(14,.int .i64 0),(13,.int .i64 0),(12,.int .i64 1),(11,.int .i64 0),(10,.slice x.1 3 x.2),(9,.int .i64 0),(8,.int .i64 2),(7,.int .i64 0),(6,.int .i64 0),(5,.int .i64 3),(4,.int .i64 0),(3,.int .i64 0),(2,.bool true),(1,.pointer (some ⟨B,0,none⟩))] [.inRegion (rop (pt fdB 24575)) [0,1,2,3,4,5,6],.code (pt fdB 32767)] q0 df0 fun a0 w hi df0 q0=>?_;refine co_book hi (r:=B) (vm:=vm) (vd:=vd) (vt:=vt) (fun w h=>h.1.1.1.1.1.1.1.1.box) q0 df0 rfl rfl rfl rfl (q0.ev 1 rfl) (by decide) fun a0 w hi df0 q0=>?_;refine co_call hi 21 [.agg #[vm,vd,vt],.int .i64 0] 98 (α:=Option Addr × Nat) (V:=fun x=>.tuple #[.slice x.1 0 x.2,.int .i64 0]) (Z:=fun x w=>IntsAt w x.1 []) q0 df0 (fun x _ _ ha h=>IntsAt.alike h ha) (fun W h=>by have:=twins_ok (d:=0) h.1.1.1.1.1.1.1.1.book ex_names h.1.1.1.1.1.1.1.1.acts ex_book ex_twins.2;rw [ex_twins.1] at this;exact this.mono fun e w2 ⟨a,c,h1,h2,h3⟩=>⟨(a,c),h1,h2,h3⟩) fun u a0 w hi df0 q0=>?_;refine co_run hi 121 [(201,.slice x.1 3 x.2),(26,.slice z.1 3 z.2),(24,.slice y.1 2 y.2)] [.inRegion (rop (pt fdB 196607)) [1,2,3,4,5,6,7,8,9,10,11,12,13],.code .ret] q0 df0 fun a0 w hi df0 q0=>?_;refine co_lits hi (m:=3) (p:=#[(0,.const (.int .i64 0)),(1,.const (.int .i64 1)),(2,.const (.int .i64 2))]) [0,1,2] 26 3 q0 df0 rfl rfl rfl (by decide) rfl (fun W=>⟨by simp [go_sem],by simp [go_sem]⟩) fun l1 a0 w hi df0 q0=>?_;refine co_val hi 23 [.slice x.1 3 x.2,.slice l1 3 3] 203 (v:=.bool true) q0 df0 (fun W h=>sameNums_at h.1.1.1.1.1.1.1.2 h.2 rfl rfl (by decide) (by decide) (by decide)) fun a0 w hi df0 q0=>?_;refine co_run hi 2 [(205,.slice y.1 2 y.2),(204,.bool true),(26,.slice z.1 3 z.2)] [.inRegion (rop (pt fdB 196607)) [5,6,7,8,9,10,11,12,13],.code .ret] q0 df0 fun a0 w hi df0 q0=>?_;refine co_lits hi (m:=2) (p:=#[(0,.const (.int .i64 1)),(1,.const (.int .i64 2))]) [1,2] 26 3 q0 df0 rfl (wanted_g rfl rfl rfl (q0.g 204 rfl)) rfl (by decide) rfl (fun W=>⟨by simp [go_sem],by simp [go_sem]⟩) fun l2 a0 w hi df0 q0=>?_;refine co_val hi 23 [.slice y.1 2 y.2,.slice l2 2 2] 207 (v:=.bool true) q0 df0 (fun W h=>sameNums_at h.1.1.1.1.2 h.2 rfl rfl (by decide) (by decide) (by decide)) fun a0 w hi df0 q0=>?_;refine co_run hi 3 [(210,.slice z.1 3 z.2),(209,.bool true)] [.inRegion (rop (pt fdB 196607)) [10,11,12,13],.code .ret] q0 df0 fun a0 w hi df0 q0=>?_;refine co_lits hi (m:=3) (p:=#[(0,.const (.int .i64 2)),(1,.const (.int .i64 0)),(2,.const (.int .i64 1))]) [2,0,1] 26 3 q0 df0 rfl (wanted_g rfl rfl rfl (q0.g 209 rfl)) rfl (by decide) rfl (fun W=>⟨by simp [go_sem],by simp [go_sem]⟩) fun l3 a0 w hi df0 q0=>?_;refine co_val hi 23 [.slice z.1 3 z.2,.slice l3 3 3] 212 (v:=.bool true) q0 df0 (fun W h=>sameNums_at h.1.1.1.1.2 h.2 rfl rfl (by decide) (by decide) (by decide)) fun a0 w hi df0 q0=>?_;refine co_run hi 3 [(0,.bool true)] [.code .ret] q0 df0 fun a0 w hi df0 q0=>?_;exact co_back hi q0 df0 rfl Tryz.func16 rfl rfl
section
variable {b:Fbk} {vm vd vt:Value} {w:World} {sa pa:Option Addr} {l path:List Int} {sc pc:Nat} {k:Int}
end
attribute [local go_sem] Oper.semAt_some
theorem FRaw.alike {w w1:World} {b:Fbk} {vm vd vt:Value} (h:FRaw w b vm vd vt) (ha:Alike w w1):FRaw w1 b vm vd vt:=by
 obtain ⟨hm,⟨da,dc,e1,hD⟩,ta,tc,e2,hT⟩:=h;refine ⟨hm,⟨da,dc,e1,fun i hi=>?_⟩,ta,tc,e2,fun i hi=>?_⟩
 ·obtain ⟨b',o,e,hlt,k1,k2,k3,k4⟩:=hD i hi;exact ⟨b',o,e,Nat.lt_of_lt_of_le hlt ha.size,(ha.cell _ _ hlt).trans k1,(ha.cell _ _ hlt).trans k2,(ha.cell _ _ hlt).trans k3,(ha.cell _ _ hlt).trans k4⟩
 obtain ⟨b',o,e,hlt,pa,pc,k1,k2,k3,k4⟩:=hT i hi;exact ⟨b',o,e,Nat.lt_of_lt_of_le hlt ha.size,pa,pc,(ha.cell _ _ hlt).trans k1,k2,IntsAt.alike k3 ha,(ha.cell _ _ hlt).trans k4⟩
structure LB (b:Fbk) (vm vd vt:Value) (is:List (Option Addr × List Int)) (w:World):Prop where
 raw:FRaw w b vm vd vt
 acts:ActsAt w
 ints:∀ x∈is,IntsAt w x.1 x.2
theorem LB.alike {b:Fbk} {vm vd vt:Value} {is:List (Option Addr × List Int)} {w w1:World} (h:LB b vm vd vt is w) (ha:Alike w w1):LB b vm vd vt is w1:=⟨h.raw.alike ha,h.acts.alike ha,fun x hx=>IntsAt.alike (h.ints x hx) ha⟩
theorem found_coL {w:World} (hA:ActsAt w) (c:Frame) (cs:List Frame) :
 Leads Tryz.prog (fun fr' cs' w1=>∃ _:Unit,fr'=c.finish (.bool true)/\cs'=cs/\True/\Stays w w1) (Frame.enter Tryz.prog 16 ([]:List Value).toArray .normal) (c::cs) w :=
 (found_co hA c cs).mono fun _ _ _ ⟨h1,h2,h3⟩=>⟨(),h1,h2,trivial,h3⟩
end Mt
namespace Mt
open Go Go.RowKit Go.Conc
theorem cellsStr:Tryz.prog.cellsOf 9=1:=by kernel_rfl
theorem cellsInt:Tryz.prog.cellsOf 3=1:=by kernel_rfl
theorem cellsBool:Tryz.prog.cellsOf 4=1:=by kernel_rfl
theorem cellsClm:Tryz.prog.cellsOf 29=1:=by kernel_rfl
theorem cellsBook:Tryz.prog.cellsOf 25=3:=by kernel_rfl
theorem cellsDev:Tryz.prog.cellsOf 74=4:=by kernel_rfl
theorem cellsTst:Tryz.prog.cellsOf 61=2:=by kernel_rfl
theorem cellsInts:Tryz.prog.cellsOf 26=1:=by kernel_rfl
theorem cellsDevs:Tryz.prog.cellsOf 22=1:=by kernel_rfl
theorem cellsTsts:Tryz.prog.cellsOf 23=1:=by kernel_rfl
theorem addr_plus (b o k:Nat):Addr.add ⟨b,o,none⟩ k=⟨b,o+k,none⟩:=by
 unfold Addr.add;split
 ·rename_i h;subst h;rfl
 ·rfl
theorem spot_of {w:World} {base:Nat} {a:Addr} {k q:Nat} {cs:List Value} (h:w.cells? base (a.add (0 * q)) k=some cs) (hk:0 < k):a.spot=none:=by
 obtain ⟨_,hl,hc⟩:=World.cells?_some h;have:=hc 0 hk;rw [List.getElem?_eq_getElem (by omega)] at this;simpa [Addr.add] using World.cell?_spot this
section
variable {H:Type} {enc:TypeId × Value->H} {w:World} {base:Nat} {sp:Nat->Bool} {held:Bool} {n:Nat} {cs:List Value} {y:DataW H × List MemPlace}
theorem open_dev (h:DataW.trod enc Tryz.prog w base sp held n 74 cs=some y):∃ m:Dev,cs=[.string m.name,.bool m.held,.bool m.blind,.int .i64 m.time]:=by
 obtain ⟨xs,k,_,_,hl,hx,hf⟩:=DataW.trod_struct Tryz.underlying74 h;rw [cellsDev] at hl;have hx3:xs.length=4:=hx;have h0:=hf 0 _ rfl;have h1:=hf 1 _ rfl;have h2:=hf 2 _ rfl;have h3:=hf 3 _ rfl
 match cs,hl,xs,hx3 with
 | [a,b,c,d],_,[x0,x1,x2,x3],_ =>
  simp [cellsStr,cellsInt,cellsBool] at h0 h1 h2 h3;obtain ⟨s,e0,_⟩:=DataW.trod_string Tryz.underlying9 h0;obtain ⟨g,e1,_⟩:=DataW.trod_bool Tryz.underlying4 h1;obtain ⟨d,e2,_⟩:=DataW.trod_bool Tryz.underlying4 h2;obtain ⟨t,e3,_⟩:=DataW.trod_int Tryz.underlying3 h3;cases e0;cases e1;cases e2;cases e3;exact ⟨⟨s,g,d,t⟩,rfl⟩
theorem open_ints {T E:TypeId} {f:Nat} (hT:Tryz.prog.underlying T=some (.slice E)) (hE:Tryz.prog.underlying E=some (.int .i64)) (hc:Tryz.prog.cellsOf E=1) (h:DataW.trod enc Tryz.prog w base (fun _=>true) held f T cs=some y):∃ a l c,cs=[.slice a (List.length l) c]/\List.length l<=c/\IntsAt w a l:=by
 rcases Deep.open_slice1 hT hc h with ⟨hcs,_⟩ | ⟨a,len,cap,m,k,V,D,Pl,hcs,hb,hl,hm,hmm,_,hx⟩
 ·exact ⟨none,[],0,hcs,Nat.le_refl _,fun i hi=>absurd hi (Nat.not_lt_zero _)⟩
 ·simp only [if_true] at hmm;obtain ⟨M,hM⟩:=Deep.choose_lt (α:=Int) (p:=fun i m=>w.cell? (a.add i)=some (.int .i64 m)) (fun i hi=>by
   obtain ⟨h1,h2⟩:=hx i (show i < m from hi)
   obtain ⟨q,e,_⟩:=DataW.trod_int hE h2
   exact ⟨q,h1.trans (congrArg some (List.cons.inj e).1)⟩)
  refine ⟨some a,(List.range len).map M,cap,by rw [hcs];simp,by simpa using hl,fun i hi=>?_⟩;have hi2:i < len:=by simpa using hi
  have hs:a.spot=none:=by simpa [Addr.add] using World.cell?_spot (hM 0 (by omega))
  obtain ⟨b,o,spot⟩:=a;simp only at hs;subst hs;have c0:=hM i (by omega);simp only [addr_plus] at c0;refine ⟨b,o,rfl,lt_of_cell c0,?_⟩;simp only [List.getElem_map,List.getElem_range];exact c0
theorem open_nums (h:DataW.trod enc Tryz.prog w base (fun _=>true) held n 26 cs=some y):∃ a l c,cs=[.slice a (List.length l) c]/\List.length l<=c/\IntsAt w a l:=open_ints Tryz.underlying26 Tryz.underlying3 cellsInt h
instance : Inhabited Dev := ⟨⟨ByteArray.empty, false, false, 0⟩⟩
instance : Inhabited Tst := ⟨⟨[], 0⟩⟩
theorem open_devs (h:DataW.trod enc Tryz.prog w base (fun _=>true) held n 22 cs=some y):∃ a l c,cs=[.slice a (List.length l) c]/\DevsAt w a l:=by
 rcases Deep.open_slice Tryz.underlying22 h with ⟨hcs,_⟩ | ⟨a,len,cap,m,k,D,Pl,hcs,hb,hl,hm,hmm,_,hx⟩
 ·exact ⟨none,[],0,hcs,fun i hi=>absurd hi (Nat.not_lt_zero _)⟩
 ·rw [cellsDev] at hx;simp only [if_true] at hmm;obtain ⟨M,hM⟩:=Deep.choose_lt (α:=Dev) (p:=fun i m=>w.cells? base (a.add (i * 4)) 4=some [.string m.name,.bool m.held,.bool m.blind,.int .i64 m.time]) (fun i hi=>by
   obtain ⟨cs',h1,h2⟩:=hx i (show i < m from hi)
   obtain ⟨q,rfl⟩:=open_dev h2
   exact ⟨q,h1⟩)
  refine ⟨some a,(List.range len).map M,cap,by rw [hcs];simp,fun i hi=>?_⟩;have hi2:i < len:=by simpa using hi
  have hs:=spot_of (hM 0 (by omega)) (by decide);obtain ⟨b,o,spot⟩:=a;simp only at hs;subst hs;obtain ⟨_,_,hc⟩:=World.cells?_some (hM i (by omega));have c0:=hc 0 (by decide);have c1:=hc 1 (by decide);have c2:=hc 2 (by decide);have c3:=hc 3 (by decide);simp only [addr_plus,Nat.add_zero,List.getElem?_cons_zero,List.getElem?_cons_succ] at c0 c1 c2 c3;refine ⟨b,o,rfl,lt_of_cell c0,?_,?_,?_,?_⟩ <;> simp only [List.getElem_map,List.getElem_range] <;> assumption
theorem open_tsts (h:DataW.trod enc Tryz.prog w base (fun _=>true) held n 23 cs=some y):∃ a l c,cs=[.slice a (List.length l) c]/\TestsRaw w a l:=by
 rcases Deep.open_slice Tryz.underlying23 h with ⟨hcs,_⟩ | ⟨a,len,cap,m,k,D,Pl,hcs,hb,hl,hm,hmm,_,hx⟩
 ·exact ⟨none,[],0,hcs,fun i hi=>absurd hi (Nat.not_lt_zero _)⟩
 ·rw [cellsTst] at hx;simp only [if_true] at hmm;obtain ⟨M,hM⟩:=Deep.choose_lt (α:=Tst) (p:=fun i m=>∃ pa pc,w.cells? base (a.add (i * 2)) 2=some [.slice pa m.path.length pc,.int .i64 m.seen]/\m.path.length<=pc/\IntsAt w pa m.path) (fun i hi=>by
   obtain ⟨cs',h1,h2⟩:=hx i (show i < m from hi)
   obtain ⟨xs,k',_,_,hl2,hx2,hf⟩:=DataW.trod_struct Tryz.underlying61 h2
   rw [cellsTst] at hl2
   have hx3:xs.length=2:=hx2
   have h0:=hf 0 _ rfl
   have h3:=hf 1 _ rfl
   match cs',hl2,xs,hx3 with
   | [u,v],_,[x0,x1],_ =>
    simp [cellsInts,cellsClm] at h0 h3
    obtain ⟨pa,q,pc,e,hq,hp⟩:=open_nums h0
    obtain ⟨s,e1,_⟩:=DataW.trod_int Tryz.underlying29 h3
    cases e;cases e1
    exact ⟨⟨q,s⟩,pa,pc,h1,hq,hp⟩)
  refine ⟨some a,(List.range len).map M,cap,by rw [hcs];simp,fun i hi=>?_⟩;have hi2:i < len:=by simpa using hi
  obtain ⟨_,_,hM0,_⟩:=hM 0 (by omega);have hs:=spot_of hM0 (by decide);obtain ⟨b,o,spot⟩:=a;simp only at hs;subst hs;obtain ⟨pa,pc,hMi,hq,hp⟩:=hM i (by omega);obtain ⟨_,_,hc⟩:=World.cells?_some hMi;have c0:=hc 0 (by decide);have c1:=hc 1 (by decide);simp only [addr_plus,Nat.add_zero,List.getElem?_cons_zero,List.getElem?_cons_succ] at c0 c1;refine ⟨b,o,rfl,lt_of_cell c0,pa,pc,?_,?_,?_,?_⟩ <;> simp only [List.getElem_map,List.getElem_range] <;> assumption
theorem open_fbook {v:Value} (h:DataW.trod enc Tryz.prog w base (fun _=>true) held n 25 v.cells.toList=some y):∃ b vm vd vt,v=.agg #[vm,vd,vt]/\FRaw w b vm vd vt:=by
 obtain ⟨xs,k,_,_,hl,hx,hf⟩:=DataW.trod_struct Tryz.underlying25 h;rw [cellsBook] at hl;obtain ⟨c,rfl⟩:∃ c,v=.agg c:=by
  cases v <;> first | exact ⟨_,rfl⟩ | (simp [Value.cells] at hl)
 simp only [Value.cells] at hl hf;have hx3:xs.length=3:=hx;have h0:=hf 0 _ rfl;have h1:=hf 1 _ rfl;have h2:=hf 2 _ rfl;obtain ⟨c⟩:=c;simp only at hl h0 h1 h2
 match c,hl,xs,hx3 with
 | [a0,a1,a2],_,[x0,x1,x2],_ =>
  simp [cellsInt,cellsDevs,cellsTsts] at h0 h1 h2;obtain ⟨q0,e0,_⟩:=DataW.trod_int Tryz.underlying3 h0;obtain ⟨da,dl,dc,e1,hd⟩:=open_devs h1;obtain ⟨ta,tl,tc,e2,ht⟩:=open_tsts h2;cases e0;cases e1;cases e2;exact ⟨⟨q0,dl,tl⟩,_,_,_,rfl,rfl,⟨_,_,rfl,hd⟩,_,_,rfl,ht⟩
end
theorem trod_array {H:Type} {enc:TypeId × Value->H} {P:Program} {w:World} {base:Nat} {spare:Nat->Bool} {held:Bool} {fuel n:Nat} {t e:TypeId} {cs:List Value} {x:DataW H × List MemPlace} (ht:P.underlying t=some (.array n e)) (h:DataW.trod enc P w base spare held fuel t cs=some x) :
 ∃ (xs:List (DataW H × List MemPlace)) (m:Nat),x=(.agg (xs.map (·.1)),xs.flatMap (·.2))/\cs.length=P.cellsOf t/\xs.length=n /\
  ∀ (i:Nat),i < n->DataW.trod enc P w base spare held m e ((cs.drop (i * P.cellsOf e)).take (P.cellsOf e))=xs[i]? := by
 cases fuel with
 | zero=>simp [DataW.trod] at h
 | succ m =>
  unfold DataW.trod at h;rw [ht] at h;split at h <;> simp_all;obtain ⟨hl,xs,hp,hd⟩:=h;exact ⟨xs,hd.symm,by simpa using mapM_some_length hp,m,fun i hi=>mapM_some_get hp i i (List.getElem?_range hi)⟩
theorem cellsAct:Tryz.prog.cellsOf 165=1:=by kernel_rfl
theorem cellsFun:Tryz.prog.cellsOf 163=1:=by kernel_rfl
theorem act_row {w:World} {sp:Nat->Bool} {n:Nat} {cs:List Value} {b1:UInt8} {r1:List UInt8} {f1:FuncId} {q:List MemPlace}
 (h:DataW.trod (funcToken Tryz.prog) Tryz.prog w 0 sp true n 165 cs=some (.agg [.held (b1::r1)],q))
 (h1:((List.range Tryz.prog.funcs.size).filter fun f=>(Tryz.prog.funcs[f]?).any (·.name.toUTF8.data.toList == b1::r1))=[f1]):cs=[.func (.func f1) #[] #[]]:=by
 obtain ⟨xs,k,_,he,hl,hx,hf⟩:=DataW.trod_struct Tryz.underlying165 h;rw [cellsAct] at hl;have hx3:xs.length=1:=hx;have g0:=hf 0 _ rfl
 match cs,hl,xs,hx3 with
 | [a0],_,[⟨x0,p0⟩],_ =>
  simp only [List.map_cons,List.map_nil,Prod.mk.injEq,DataW.agg.injEq,List.cons.injEq,and_true] at he;obtain ⟨e0,_⟩:=he;subst e0;simp [cellsFun] at g0;have c3:=func_of_trod Tryz.underlying163 h1 g0;subst c3;rfl
theorem gActs:Tryz.prog.globalNamed "baudot/fault.acts"=some 0:=by kernel_rfl
theorem tActs:(Tryz.prog.globals[0]?).map (·.type)=some 166:=by kernel_rfl
theorem acts_of_laid {W:World} (h:laidMetH Tryz.prog [("baudot/fault.acts",Rows.laid_baudot_fault_acts)] W):ActsAt W:=by
 obtain ⟨g,t,cs,fuel,p,hg,ht,hv,hd⟩:=h.funcs (List.mem_singleton.2 rfl);obtain rfl:=Option.some.inj (gActs.symm.trans hg);obtain rfl:=Option.some.inj (tActs.symm.trans ht);obtain ⟨xs,m,he,_,hx,hel⟩:=trod_array Tryz.underlying166 hd;have hcell:∀ i,W.cell? ⟨0,i,none⟩=cs.toList[i]? := fun i=>by
  rw [World.var?_cell hg hv i];simp
 rw [cellsAct] at hel;have e0:=hel 0 (by decide);have e1:=hel 1 (by decide);have e2:=hel 2 (by decide)
 match xs,hx with
 | [⟨x0,p0⟩,⟨x1,p1⟩,⟨x2,p2⟩],_ =>
  have hes:[x0,x1,x2]=_:=(DataW.agg.inj (congrArg Prod.fst he)).symm;simp only [List.getElem?_cons_zero,List.getElem?_cons_succ] at e0 e1 e2;injection hes with h0 hes;injection hes with h1 hes;injection hes with h2 hes;subst h0 h1 h2;have c0:=act_row (f1:=200+0) e0 (by kernel_rfl);have c1:=act_row (f1:=200+1) e1 (by kernel_rfl);have c2:=act_row (f1:=200+2) e2 (by kernel_rfl);have one:∀ {l:List Value} {k:Nat} {a:Value},(l.drop k).take 1=[a]->l[k]? = some a:=fun {l k a} h=>by
   have:((l.drop k).take 1)[0]? = some a:=by rw [h];rfl
   rw [List.getElem?_take,if_pos (by decide),List.getElem?_drop] at this;exact this
  have z0:=one c0;have z1:=one c1;have z2:=one c2;refine ⟨lt_of_cell ((hcell 0).trans z0),fun i hi=>?_⟩
  match i,hi with
  | 0,_=>exact (hcell _).trans z0
  | 1,_=>exact (hcell _).trans z1
  | 2,_=>exact (hcell _).trans z2
  | i+3,h=>omega
end Mt
namespace Mt
open Go Go.ChangeShapes Go.WideShapes Go.ChangeAt Go.RowKit Go.Conc
theorem ownNone:ownKnob Tryz.prog.godebug=none:=by kernel_rfl
theorem laidOutAll:laidOutB Tryz.prog=true:=by kernel_rfl
theorem door_met (os:Os) (args:Array Value):laidMetH Tryz.prog [("baudot/fault.acts",Rows.laid_baudot_fault_acts)] ((World.doorLaid Tryz.prog 20 os).forCall (fun _ _=>0) ⟨#[],args,[]⟩).memory :=
 laidMetH_of_parts3 (fuel:=8) (laidMet_of_run' 8 (by kernel_rfl) (by kernel_rfl)) (by kernel_rfl) (by kernel_rfl)
theorem arg_stays {H:Type} {enc:TypeId × Value->H} {t:TypeId} (hr:Tryz.prog.readableRec t=true) (hrow:t < Tryz.prog.types.size) {W W':World} {v:Value} {d:DataW H} {ps:List MemPlace}
 (h:DataW.Trod enc Tryz.prog W 0 (fun _=>true) true t v d ps) (ho:Old W W') (hlt:∀ x∈ps,x.block < W.heap.size) :
 DataW.Trod enc Tryz.prog W' 0 (fun b=>decide (b < W.heap.size)) true t v d ps :=
 DataW.Trod.of_heap (w:=W'.on W.tape 0) (by rfl) (Below.trod laidOutAll hr hrow h ho.below hlt)
theorem kept_old {W W':World} (ho:Old W W') (may:MemPlace->Prop):W.keptBut W' may:=ho.below.frame may
theorem Stays.view {D:Nat->Prop} {W w v:World} (hv:View D w v) (hD:∀ r,D r->W.heap.size<=r) (ho:Stays W v):Stays W w :=
 ⟨hv.output.symm.trans ho.output,hv.size ▸ ho.size,fun k hk=>(hv.live k fun d=>absurd (hD k d) (by omega)).symm.trans (ho.block k hk),hv.os ▸ ho.os⟩
theorem witness_calm {H:Type} {enc:TypeId × Value->H} {C:Checked} {os:Os} {f:FuncId} {fn:Func} {s:ChangeSpec} {conds:List PathCond} {apart:Bool} {X:World->Array Value->Prop} (w0:World) (args:Array Value) (fuel:Nat) (hos:w0.os=os)
 (hsh:(w0.forCall (fun _ _=>0) ⟨#[],args,[]⟩).Shaped C.prog)
 (hok:Input.okWideB C.prog (w0.forCall (fun _ _=>0) ⟨#[],args,[]⟩) f ⟨#[],args,[]⟩=true)
 (hpre:s.preB enc C.prog fn conds apart (w0.forCall (fun _ _=>0) ⟨#[],args,[]⟩).memory args fuel=true)
 (hsz:s.sizedB enc C.prog fn apart (w0.forCall (fun _ _=>0) ⟨#[],args,[]⟩).memory args fuel=true)
 (hx:X (w0.forCall (fun _ _=>0) ⟨#[],args,[]⟩).memory args) :
 ∃ (w:World) (tape:Tape) (i:Input),w.os=os/\(w.forCall tape i).Shaped C.prog/\i.vars=[]/\Input.okWide C.prog (w.forCall tape i) .any w.heap.size f i /\
  ((s.pre enc C.prog fn conds apart (w.forCall tape i).memory i.args/\X (w.forCall tape i).memory i.args)/\sizedMet enc C.prog fn (OpenSpec.ofChange s) apart (w.forCall tape i).memory i.args)/\({ calm:=true }:Assume).holds C.prog (lone (Frame.enter C.prog f i.args .normal) [] (w.forCall tape i)) :=
 ⟨w0,fun _ _=>0,⟨#[],args,[]⟩,hos,hsh,(Input.okWide_of_okWideB (base:=0) hok).1,(Input.okWide_of_okWideB hok).2,⟨⟨ChangeSpec.pre_of_preB hpre,hx⟩,sizedMet_of_sizedB hsz⟩,by
   simp only [Assume.holds]
   exact ⟨by simp,fun _ _ _ _=>rfl,by simp,by simp,by simp⟩⟩
end Mt
namespace Mt
open Go Go.RowKit Go.Maps Go.Conc
attribute [local go_sem] Oper.semAt_some
section
variable {P:Program} {K:Frame->List Frame->World->Prop} {b:Frame} {a:Act} {w0 w:World} {I:World->Prop} {k:List Item} {cs:List Frame} {n:Nat} {l:List (Nat × Value)} {D:List Deferred}
theorem co_op (hi:Ivt w0 I w) {ops:Array Oper} {i j:Nat} {rest:List Nat} (v:Value) (q:Kn a n l) (hd:a.defers=D) {o:Oper} (ho:ops[i]? = some o) (hw:Region.wanted o (yielded ops a.tmps)=true) (hdst:o.dst=some j) (hj:j < n)
 (hr:∀ W:World,(execOp a.eval o).run P W=.ok (.value v) W/\(execOp a.eval o).events P W #[]=#[])
 (h:∀ a1 w1,Ivt w0 I w1->a1.defers=D->Kn a1 n ((j,v)::l.filter fun x=>x.1 != j)->Leads P K (b.at a1 (.inRegion ops rest::k)) cs w1) (hb:b.kind=.normal:=by rfl):Leads P K (b.at a (.inRegion ops (i::rest)::k)) cs w:=by
 refine leads_op v hb ho hw (fun W D hv d=>(hr _).1) (fun W D hv d e he=>?_) fun d=>?_
 ·rw [(hr _).2] at he;simp at he
 ·rw [hdst];exact h _ _ (hi.to (Stays.at w d)) hd (q.cons hj _)
theorem co_cell (hi:Ivt w0 I w) {ops:Array Oper} {i j:Nat} {rest:List Nat} (v:Value) {r c:Nat} (q:Kn a n l) (hd:a.defers=D) {o:Oper} (ho:ops[i]? = some o) (hw:Region.wanted o (yielded ops a.tmps)=true) (hdst:o.dst=some j) (hj:j < n) (hc:w.cell? ⟨r,c,none⟩=some v)
 (hr:∀ W:World,W.cell? ⟨r,c,none⟩=some v->(execOp a.eval o).run P W=.ok (.value v) W/\∀ e∈(execOp a.eval o).events P W #[],e.loc=.cell ⟨r,c,none⟩)
 (h:∀ a1 w1,Ivt w0 I w1->a1.defers=D->Kn a1 n ((j,v)::l.filter fun x=>x.1 != j)->Leads P K (b.at a1 (.inRegion ops rest::k)) cs w1) (hb:b.kind=.normal:=by rfl):Leads P K (b.at a (.inRegion ops (i::rest)::k)) cs w:=by
 refine leads_op v hb ho hw (fun W D hv d=>(hr (W.at d) (hv.cell hc).2).1) (fun W D hv d e he=>?_) fun d=>?_
 ·have hk:=(hr (W.at d) (hv.cell hc).2).2 e he;obtain ⟨n0,y0⟩:=hv.cell hc;unfold EvOk;rw [hk];exact ⟨lt_of_cell (a:=⟨r,c,none⟩) y0,n0⟩
 ·rw [hdst];exact h _ _ (hi.to (Stays.at w d)) hd (q.cons hj _)
end
section
variable {a:Act} {o:Oper} {w:World} {ad:Addr} {v:Value} {x:Operand}
end
end Mt
end Go.Proofs.YtgkajecjbflbbaaGreatDoor
