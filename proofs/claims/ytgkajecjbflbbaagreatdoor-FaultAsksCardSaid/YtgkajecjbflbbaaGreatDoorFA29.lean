/- FaultAsks -/
import Derived.Test.YtgkajecjbflbbaaGreatDoorFA28
set_option maxHeartbeats 1000000
set_option maxRecDepth 100000
set_option linter.all false
namespace Go.Proofs.YtgkajecjbflbbaaGreatDoor
namespace Mt
open Go Go.Conc Go.RowKit
section
variable {P:Program} {b:Frame} {a:Act} {w:World} {k:List Item} {cs:List Frame} {K:Frame->List Frame->World->Prop}
theorem leads_op {ops:Array Oper} {i:Nat} {rest:List Nat} (v:Value) (hb:b.kind=.normal) {o:Oper} (ho:ops[i]? = some o) (hw:Region.wanted o (yielded ops a.tmps)=true)
 (hr:∀ W D,View D W w->∀ d,(execOp a.eval o).run P (W.at d)=.ok (.value v) (W.at d)) (he:∀ W D,View D W w->∀ d,∀ e∈(execOp a.eval o).events P (W.at d) #[],EvOk D W.heap.size e)
 (h:∀ d,Leads P K (b.at (a.put o.dst v) (.inRegion ops rest::k)) cs (w.at d)):Leads P K (b.at a (.inRegion ops (i::rest)::k)) cs w :=
 fun L hL W D hv=>.step fun d=>⟨_,cs,W.at d,_,stepG_value ho hw (by rw [hb];decide) (hr W D hv d),fun e hm=>he W D hv d e (seen_mem hm),Nat.le_refl _,h d L hL (W.at d) D (hv.at d)⟩
theorem leads_call {ops:Array Oper} {i:Nat} {rest:List Nat} {f:FuncId} {args:Array Value} (hb:b.kind=.normal) {o:Oper} (ho:ops[i]? = some o) (hw:Region.wanted o (yielded ops a.tmps)=true)
 (hr:∀ W:World,(execOp a.eval o).run P W=.ok (.enter f args) W) (he:∀ W:World,(execOp a.eval o).events P W #[]=#[]) {Z:Value->World->Prop}
 (hc:∀ d,Leads P (fun fr' cs' w1=>∃ v,fr'=(b.at a (.inRegion ops (i::rest)::k)).finish v/\cs'=cs/\Z v w1) (Frame.enter P f args .normal) (b.at a (.inRegion ops (i::rest)::k)::cs) (w.at d))
 (h:∀ v w1,Z v w1->Leads P K (b.at (a.put o.dst v) (.inRegion ops rest::k)) cs w1):Leads P K (b.at a (.inRegion ops (i::rest)::k)) cs w:=by
 intro L hL W D hv;refine .step fun d=>⟨_,_,W.at d,_,stepG_enter ho hw (by rw [hb];decide) (hr _),fun e hm=>?_,Nat.le_refl _,((hc d L hL).trans ?_) (W.at d) D (hv.at d)⟩
 ·have:=seen_mem hm;rw [he] at this;simp at this
 ·rintro fr' cs' w1 hsz ⟨v,rfl,rfl,hz⟩;have hfin:(b.at a (.inRegion ops (i::rest)::k)).finish v=b.at (a.put o.dst v) (.inRegion ops rest::k):=by rw [Frame.finish_at,ho];rfl
  rw [hfin];exact h v w1 hz L (Nat.le_trans hL hsz)
end
theorem Stays.refl (w:World):Stays w w:=⟨rfl,Nat.le_refl _,fun _ _=>rfl,ConcM.OsLater.refl _⟩
theorem Stays.trans {a b c:World} (h:Stays a b) (k:Stays b c):Stays a c:=⟨k.output.trans h.output,Nat.le_trans h.size k.size,fun i hi=>(k.block i (Nat.lt_of_lt_of_le hi h.size)).trans (h.block i hi),h.os.trans k.os⟩
theorem Stays.at (w:World) (d:Nat):Stays w (w.at d):=⟨rfl,Nat.le_refl _,fun _ _=>rfl,ConcM.OsLater.refl _⟩
theorem Old.stays {w w1:World} (h:Old w w1):Stays w w1:=⟨h.output,h.size,h.block,h.os ▸ ConcM.OsLater.refl _⟩
theorem Stays.alike' {w w1:World} (h:Stays w w1):Alike w w1:=⟨h.size,fun b o hb=>World.cell?_of_block (h.block b hb)⟩
structure Ivt (w0:World) (I:World->Prop) (w:World):Prop where
 cl:∀ w1 w2,Alike w1 w2->I w1->I w2
 it:I w
 st:Stays w0 w
theorem Ivt.to {w0 w w1:World} {I:World->Prop} (h:Ivt w0 I w) (hs:Stays w w1):Ivt w0 I w1:=⟨h.cl,h.cl _ _ hs.alike' h.it,h.st.trans hs⟩
theorem Ivt.and {w0 w w1:World} {I J:World->Prop} (h:Ivt w0 I w) (hs:Stays w w1) (hj:∀ w1 w2,Alike w1 w2->J w1->J w2) (j:J w1):Ivt w0 (fun w=>I w/\J w) w1:=⟨fun a b hab x=>⟨h.cl a b hab x.1,hj a b hab x.2⟩,⟨h.cl _ _ hs.alike' h.it,j⟩,h.st.trans hs⟩
theorem Ivt.less {w0 w:World} {I J:World->Prop} (h:Ivt w0 I w) (hj:∀ w1 w2,Alike w1 w2->J w1->J w2) (j:∀ w,I w->J w):Ivt w0 J w:=⟨hj,j _ h.it,h.st⟩
theorem knl_all {a:Act}:∀ {l:List (Nat × Value)},(∀ x∈l,a.tmps[x.1]? = some x.2)->KnL a l
 | [],_=>trivial
 | y::l,h=>⟨h y (by simp),knl_all fun x hx=>h x (by simp [hx])⟩
theorem closed_lw {P:Program} {K:Frame->List Frame->World->Prop} {w:World}:Closed P true (fun _=>True) fun g=>∀ d,Leads P K g.frame g.callers (w.at d) :=
 fun fr cs fr1 cs1 h hk d=>leads_go (fun W=>h W trivial) fun d'=>hk d'
section
variable {P:Program} {K:Frame->List Frame->World->Prop} {b:Frame} {a:Act} {w0 w:World} {I:World->Prop} {k:List Item} {cs:List Frame} {n:Nat} {l:List (Nat × Value)} {D:List Deferred}
theorem co_runO (hi:Ivt w0 I w) (N:Nat) (ov l':List (Nat × Value)) (k':List Item) (o':List (Value × Value)) (q:Kn a n l) (hd:a.defers=D) (ho:Obl o')
 (h:∀ a1 w1,Ivt w0 I w1->a1.defers=D->Kn a1 n l'->Leads P K (b.at a1 k') cs w1) (hb:b.kind≠.early:=by k_ne) (e:∀ d,silR P d ov n N l k l'=some (l',k',o'):=by intro d;kernel_rfl):Leads P K (b.at a k) cs w :=
 cl_runO (main:=true) (W:=fun g=>∀ d,Leads P K g.frame g.callers (w.at d)) (b:=b) (cs:=cs) closed_lw N ov l' k' o' q hd ho (fun a1 h1 h2 d=>h a1 _ (hi.to (Stays.at w d)) h1 h2) hb e w.drawn
theorem co_run (hi:Ivt w0 I w) (N:Nat) (l':List (Nat × Value)) (k':List Item) (q:Kn a n l) (hd:a.defers=D)
 (h:∀ a1 w1,Ivt w0 I w1->a1.defers=D->Kn a1 n l'->Leads P K (b.at a1 k') cs w1) (hb:b.kind≠.early:=by k_ne) (e:∀ d,silR P d [] n N l k l'=some (l',k',[]):=by intro d;kernel_rfl):Leads P K (b.at a k) cs w:=co_runO hi N [] l' k' [] q hd trivial h hb e
def callR (P:Program) (n:Nat) (d:Nat->Value) (l:List (Nat × Value)) (ops:Array Oper) (i:Nat):Option (FuncId × List Value × Nat) :=
 match ops[i]? with
 | none=>none
 | some o=>match gd l ops o,o.op,o.dst with
  | some true,.call c,some j=>match c.callee with
   | .value (.func f)=>match P.funcs[f]? with
    | some fn=>if j < n/\fn.body.isSome=true/\(fn.name == "runtime.NumGoroutine")=false then some (f,c.args.toList.map (rho l d),j) else none
    | none=>none
   | _=>none
  | _,_,_=>none
theorem call_at {w:World} {a:Act} {ops:Array Oper} {i:Nat} {f:FuncId} {args:List Value} {j:Nat} (q:Kn a n l) (e:∀ d,callR P n d l ops i=some (f,args,j)) :
 ∃ o,ops[i]? = some o/\Region.wanted o (yielded ops a.tmps)=true/\o.dst=some j/\j < n/\(∀ W,(execOp a.eval o).run P W=.ok (.enter f args.toArray) W)/\∀ W,(execOp a.eval o).events P W #[]=#[]:=by
 have e:=e fun t=>a.tmps.getD t undef;unfold callR at e;split at e
 ·cases e
 ·rename_i o hi
  split at e
  ·rename_i c j' hg hop hd
   split at e
   ·rename_i f' hcal
    split at e
    ·rename_i fn hf
     split at e
     ·rename_i hx
      cases e;obtain ⟨hj,hb,hn⟩:=hx;have hb':fn.body.isNone=false:=by cases h:fn.body <;> simp_all
      obtain ⟨cal,args,ats⟩:=c;cases hcal;have hm:(args.toList.map (rho l fun t=>a.tmps.getD t undef)).toArray=args.map a.eval:=by rw [<- q.sil.ev,<- Array.toList_map,Array.toArray_toList]
      refine ⟨o,hi,gd_true q.sil hg,hd,hj,fun W=>?_,fun W=>events_call_body hop hf hn hb' _⟩;rw [hm];exact run_call_body hop hf hn hb'
     ·cases e
    ·cases e
   ·cases e
  ·cases e
theorem co_callP (hi:Ivt w0 I w) {ops:Array Oper} {i:Nat} {rest:List Nat} (f:FuncId) (args:List Value) (j:Nat) {α:Type} {V:α->Value} {Z:α->World->Prop} (q:Kn a n l) (hz:∀ x w1 w2,Alike w1 w2->Z x w1->Z x w2)
 (hc:∀ c cs w',I w'->Leads P (fun fr' cs' w1=>∃ x,fr'=c.finish (V x)/\cs'=cs/\Z x w1/\Stays w' w1) (Frame.enter P f args.toArray .normal) (c::cs) w')
 (h:j < n->∀ x w1,Ivt w0 (fun w=>I w/\Z x w) w1->Leads P K (b.at (a.put (some j) (V x)) (.inRegion ops rest::k)) cs w1)
 (hb:b.kind=.normal) (e:∀ d,callR P n d l ops i=some (f,args,j)):Leads P K (b.at a (.inRegion ops (i::rest)::k)) cs w:=by
 obtain ⟨o,h1,h2,h3,h4,h5,h6⟩:=call_at (w:=w) q e;refine leads_call (f:=f) (args:=args.toArray) (Z:=fun v w1=>∃ x,v=V x/\Z x w1/\Stays w w1) hb h1 h2 h5 h6 (fun d=>?_) ?_
 ·refine (hc _ _ _ (hi.to (Stays.at w d)).it).mono ?_;rintro fr' cs' w1 ⟨x,e1,e2,hz1,hs⟩;exact ⟨V x,e1,e2,x,rfl,hz1,(Stays.at w d).trans hs⟩
 ·rintro v w1 ⟨x,rfl,hz1,hs⟩;rw [h3];exact h h4 x w1 (hi.and hs (hz x) hz1)
theorem co_callL (hi:Ivt w0 I w) {ops:Array Oper} {i:Nat} {rest:List Nat} (f:FuncId) (args:List Value) (j:Nat) {α:Type} {V:α->Value} {Z:α->World->Prop} (q:Kn a n l) (hd:a.defers=D) (hz:∀ x w1 w2,Alike w1 w2->Z x w1->Z x w2)
 (hc:∀ c cs w',I w'->Leads P (fun fr' cs' w1=>∃ x,fr'=c.finish (V x)/\cs'=cs/\Z x w1/\Stays w' w1) (Frame.enter P f args.toArray .normal) (c::cs) w')
 (h:∀ x a1 w1,Ivt w0 (fun w=>I w/\Z x w) w1->a1.defers=D->Kn a1 n ((j,V x)::l.filter fun x=>x.1 != j)->Leads P K (b.at a1 (.inRegion ops rest::k)) cs w1)
 (hb:b.kind=.normal:=by rfl) (e:∀ d,callR P n d l ops i=some (f,args,j):=by intro d;kernel_rfl):Leads P K (b.at a (.inRegion ops (i::rest)::k)) cs w :=
 co_callP hi f args j q hz hc (fun hj x w1 h1=>h x _ w1 h1 hd (q.cons hj _)) hb e
end
section
variable {K:Frame->List Frame->World->Prop} {b:Frame} {a:Act} {w0 w:World} {I:World->Prop} {k:List Item} {cs:List Frame} {n:Nat} {l:List (Nat × Value)} {D:List Deferred}
theorem lone_co {I:World->Prop} (cl:∀ w1 w2,Alike w1 w2->I w1->I w2) {f:FuncId} {args:List Value} {α:Type} {V:α->Value} {Z:α->World->Prop} (hz:∀ x w1 w2,Alike w1 w2->Z x w1->Z x w2)
 (hc:∀ W,I W->Calls Mz.prog f args.toArray W fun e w2=>∃ x,e=.returned (V x)/\Z x w2/\Below W.heap.size W w2) (hg:badF f=false) :
 ∀ c cs w',I w'->Leads Tryz.prog (fun fr' cs' w1=>∃ x,fr'=c.finish (V x)/\cs'=cs/\Z x w1/\Stays w' w1) (Frame.enter Tryz.prog f args.toArray .normal) (c::cs) w':=by
 intro c cs w' hi';refine (calls_co (w:=w') (Z:=fun v w1=>∃ x,v=V x/\Z x w1) hg (fun v w1 w2 ht ⟨x,h1,h2⟩=>⟨x,h1,hz x _ _ ht.alike h2⟩) fun W hW=>?_).mono ?_
 ·refine (hc W (cl _ _ hW.alike hi')).mono ?_;rintro e w2 ⟨x,h1,h2,h3⟩;exact ⟨V x,h1,⟨x,rfl,h2⟩,h3⟩
 ·rintro fr' cs' w1 ⟨v,h1,h2,⟨x,rfl,hz1⟩,ho⟩;exact ⟨x,h1,h2,hz1,ho.stays⟩
theorem co_call (hi:Ivt w0 I w) {ops:Array Oper} {i:Nat} {rest:List Nat} (f:FuncId) (args:List Value) (j:Nat) {α:Type} {V:α->Value} {Z:α->World->Prop} (q:Kn a n l) (hd:a.defers=D) (hz:∀ x w1 w2,Alike w1 w2->Z x w1->Z x w2)
 (hc:∀ W,I W->Calls Mz.prog f args.toArray W fun e w2=>∃ x,e=.returned (V x)/\Z x w2/\Below W.heap.size W w2)
 (h:∀ x a1 w1,Ivt w0 (fun w=>I w/\Z x w) w1->a1.defers=D->Kn a1 n ((j,V x)::l.filter fun x=>x.1 != j)->Leads Tryz.prog K (b.at a1 (.inRegion ops rest::k)) cs w1)
 (hb:b.kind=.normal:=by rfl) (hg:badF f=false:=by rfl) (e:∀ d,callR Tryz.prog n d l ops i=some (f,args,j):=by intro d;kernel_rfl):Leads Tryz.prog K (b.at a (.inRegion ops (i::rest)::k)) cs w :=
 co_callL hi f args j q hd hz (lone_co hi.cl hz hc hg) h hb e
theorem co_val (hi:Ivt w0 I w) {ops:Array Oper} {i:Nat} {rest:List Nat} (f:FuncId) (args:List Value) (j:Nat) {v:Value} (q:Kn a n l) (hd:a.defers=D)
 (hc:∀ W,I W->Calls Mz.prog f args.toArray W fun e w2=>e=.returned v/\Below W.heap.size W w2)
 (h:∀ a1 w1,Ivt w0 I w1->a1.defers=D->Kn a1 n ((j,v)::l.filter fun x=>x.1 != j)->Leads Tryz.prog K (b.at a1 (.inRegion ops rest::k)) cs w1)
 (hb:b.kind=.normal:=by rfl) (hg:badF f=false:=by rfl) (e:∀ d,callR Tryz.prog n d l ops i=some (f,args,j):=by intro d;kernel_rfl):Leads Tryz.prog K (b.at a (.inRegion ops (i::rest)::k)) cs w:=by
 refine co_call (α:=Unit) (V:=fun _=>v) (Z:=fun _ _=>True) hi f args j q hd (fun _ _ _ _ _=>trivial) (fun W hW=>(hc W hW).mono ?_) (fun _ a1 w1 h1=>h a1 w1 (h1.less hi.cl fun _ x=>x.1)) hb hg e;rintro e w2 ⟨h1,h2⟩;exact ⟨(),h1,trivial,h2⟩
end
def BoxAt (r:Nat) (cells:Array Value) (w:World):Prop:=r < w.heap.size/\∀ (k:Nat) (v:Value),cells[k]? = some v->w.cell? ⟨r,k,none⟩=some v
theorem BoxAt.alike {r:Nat} {cells:Array Value} {w w1:World} (h:BoxAt r cells w) (ha:Alike w w1):BoxAt r cells w1:=⟨Nat.lt_of_lt_of_le h.1 ha.size,fun k v e=>(ha.cell r k h.1).trans (h.2 k v e)⟩
theorem View.alloc {D:Nat->Prop} {w v:World} (h:View D w v) (o:Obj):View D (w.alloc o) (v.alloc o):=by
 have hs:v.heap.size=w.heap.size:=h.size;refine ⟨h.tape,h.drawn,h.os,h.output,(by show (v.heap.push o).size=(w.heap.push o).size;rw [Array.size_push,Array.size_push,hs]),fun r hr=>?_,fun r hr=>?_⟩
 ·show (v.heap.push o)[r]? = (w.heap.push o)[r]?;rw [Array.getElem?_push,Array.getElem?_push,hs,h.live r hr]
 ·obtain ⟨⟨x,h1,h2⟩,h3⟩:=h.gone r hr;have hlt:r < w.heap.size:=(Array.getElem?_eq_some_iff.1 h1).1;refine ⟨⟨x,?_,h2⟩,?_⟩
  ·show (w.heap.push o)[r]? = some x;rw [Array.getElem?_push,if_neg (by omega)];exact h1
  ·show (v.heap.push o)[r]? = _;rw [Array.getElem?_push,if_neg (by omega)];exact h3
section
variable {P:Program} {K:Frame->List Frame->World->Prop} {b:Frame} {a:Act} {w0 w:World} {I:World->Prop} {k:List Item} {cs:List Frame} {n:Nat} {l:List (Nat × Value)} {D:List Deferred}
theorem co_new (hi:Ivt w0 I w) {ops:Array Oper} {i j:Nat} {rest:List Nat} (V:Nat->Value) (ob:Obj) {Z:Nat->World->Prop} {o:Oper} (ho:ops[i]? = some o) (hw:Region.wanted o (yielded ops a.tmps)=true) (hdst:o.dst=some j)
 (hr:∀ W:World,(execOp a.eval o).run P W=.ok (.value (V W.heap.size)) (W.alloc ob)/\(execOp a.eval o).events P W #[]=#[]) (hz:∀ r w1 w2,Alike w1 w2->Z r w1->Z r w2) (hZ:∀ W:World,Z W.heap.size (W.alloc ob))
 (h:∀ w1,Ivt w0 (fun w1=>I w1/\Z w.heap.size w1) w1->Leads P K (b.at (a.put (some j) (V w.heap.size)) (.inRegion ops rest::k)) cs w1)
 (hb:b.kind=.normal):Leads P K (b.at a (.inRegion ops (i::rest)::k)) cs w:=by
 intro L hL W D hv;have hsz:w.heap.size=W.heap.size:=hv.size;refine .step fun d=>⟨_,cs,(W.at d).alloc ob,_,stepG_value ho hw (by rw [hb];decide) (hr _).1,fun e hm=>?_,(by show W.heap.size<=(W.heap.push _).size;rw [Array.size_push];omega),?_⟩
 ·have:=seen_mem hm;rw [(hr _).2] at this;simp at this
 ·have hst:Stays w ((w.at d).alloc ob):=⟨rfl,(by show w.heap.size<=(w.heap.push _).size;rw [Array.size_push];omega),fun r hr=>by
   show (w.heap.push _)[r]? = _
   rw [Array.getElem?_push,if_neg (by omega)],ConcM.OsLater.refl _⟩
  have:=h _ (hi.and hst (hz _) (hZ (w.at d))) L (by show L<=(w.heap.push _).size;rw [Array.size_push];omega) _ _ ((hv.at d).alloc ob);rw [hdst];show LeadsR P L D _ (b.at (a.put (some j) (V W.heap.size)) _) cs _;rw [<- hsz];exact this
theorem co_box (hi:Ivt w0 I w) {ops:Array Oper} {i j:Nat} {rest:List Nat} {cells:Array Value} {t:TypeId} (q:Kn a n l) (hd:a.defers=D) {o:Oper} {x:Operand} (ho:ops[i]? = some o) (hop:o.op=.box t x) (hw:Region.wanted o (yielded ops a.tmps)=true) (hdst:o.dst=some j) (hx:a.eval x=.agg cells) (hj:j < n)
 (h:∀ r a1 w1,Ivt w0 (fun w=>I w/\BoxAt r cells w) w1->a1.defers=D->Kn a1 n ((j,.pointer (some ⟨r,0,none⟩))::l.filter fun x=>x.1 != j)->Leads P K (b.at a1 (.inRegion ops rest::k)) cs w1)
 (hb:b.kind=.normal:=by rfl):Leads P K (b.at a (.inRegion ops (i::rest)::k)) cs w:=by
 have ee:execOp a.eval o=execOp (fun _=>.agg cells) { o with op:=.box t x }:=by unfold execOp;rw [hop];simp only [hx]
 refine co_new hi (fun r=>.pointer (some ⟨r,0,none⟩)) (.cells cells t) (Z:=fun r w=>BoxAt r cells w) ho hw hdst (fun W=>by rw [ee];exact ⟨by simp [go_sem],by simp [go_sem]⟩) (fun _ _ _ ha x=>x.alike ha) (fun W=>⟨(by show W.heap.size < (W.heap.push _).size;rw [Array.size_push];omega),fun k v e=>?_⟩) (fun w1 h1=>h _ _ w1 h1 hd (q.cons hj _)) hb;rw [World.cell?_alloc_at _ _ _ _ rfl];exact e
theorem co_loadP (hi:Ivt w0 I w) {ops:Array Oper} {i j:Nat} {rest:List Nat} {v:Value} {r:Nat} {o:Oper} (ho:ops[i]? = some o) (hw:Region.wanted o (yielded ops a.tmps)=true) (hdst:o.dst=some j) {m:Nat} {c:Nat->Value} (hc:∀ k,k < m->w.cell? ⟨r,k,none⟩=some (c k)) (hm:0 < m)
 (hr:∀ W:World,(∀ k,k < m->W.cell? ⟨r,k,none⟩=some (c k))->(execOp a.eval o).run P W=.ok (.value v) W/\∀ e∈(execOp a.eval o).events P W #[],∃ k,e.loc=.cell ⟨r,k,none⟩)
 (h:∀ w1,Ivt w0 I w1->Leads P K (b.at (a.put (some j) v) (.inRegion ops rest::k)) cs w1) (hb:b.kind=.normal):Leads P K (b.at a (.inRegion ops (i::rest)::k)) cs w:=by
 refine leads_op v hb ho hw (fun W D hv d=>(hr (W.at d) fun k hk=>(hv.cell (hc k hk)).2).1) (fun W D hv d e he=>?_) fun d=>?_
 ·obtain ⟨k,hk⟩:=(hr (W.at d) fun k hk=>(hv.cell (hc k hk)).2).2 e he;obtain ⟨n0,y0⟩:=hv.cell (hc 0 hm);unfold EvOk;rw [hk];exact ⟨lt_of_cell (a:=⟨r,0,none⟩) y0,n0⟩
 ·rw [hdst];exact h _ (hi.to (Stays.at w d))
end
theorem co_start {P:Program} {K:Frame->List Frame->World->Prop} {cs:List Frame} {w:World} {f:FuncId} {fn:Func} {c:Code} {n:Nat} (args:List Value) (hf:P.funcs[f]? = some fn) (hc:fn.body=some c) (hn:fn.ntmps=n) (hl:args.length<=n)
 (h:∀ a:Act,a.defers=[]->Kn a n (args.zipIdx.map fun x=>(x.2,x.1))->Leads P K ((base f).at a [.code c]) cs w):Leads P K (Frame.enter P f args.toArray .normal) cs w:=by
 rw [enter_at args.toArray hf hc];refine h _ rfl ⟨?_,knl_all fun x hx=>?_⟩
 ·simp [hn];omega
 ·obtain ⟨y,hy,rfl⟩:=List.mem_map.1 hx;obtain ⟨v,i⟩:=y;have h1:=List.mem_zipIdx' hy;show (args.toArray ++ _)[i]? = some v;have h2:i < args.length:=h1.1;have h3:v=args[i]:=h1.2;rw [Array.getElem?_append_left (by simpa using h2)];simp [h2,h3]
theorem co_end {b:Frame} {a:Act} {w0 w:World} {I:World->Prop} {k:List Item} {n t:Nat} {l:List (Nat × Value)} {fn:Func} {v:Value} {P:Program} (hi:Ivt w0 I w) (q:Kn a n l) (hd:a.defers=[]) (hb:b.kind=.normal) (hx:P.inits.idxOf? b.fn=none) (hf:P.funcs[b.fn]? = some fn) (hr:fn.results=#[.tmp t]) (hv:l.lookup t=some v) :
 Leads P (Leaving0 P fun v' w'=>v'=v/\Stays w0 w') (b.at a (.code .ret::k)) [] w:=by
 refine leads_ret fun d=>.done ⟨rfl,rfl,hb,hd,hx,v,fn,hf,fun W=>?_,fun d'=>⟨rfl,⟨hi.st.output,hi.st.size,hi.st.block,hi.st.os⟩⟩⟩;have e:a.tmps.getD t undef=v:=by rw [Array.getD_eq_getD_getElem?,q.g t hv];rfl
 show (results fn a.tmps).runT P W #[]=_;rw [Sem.runT_eq,results_tmp hr _ P W,e];exact Prod.ext rfl (events_results_tmp hr _ _)
theorem co_back {P:Program} {b c:Frame} {cs:List Frame} {a:Act} {w0 w:World} {I:World->Prop} {k:List Item} {n t:Nat} {l:List (Nat × Value)} {fn:Func} {v:Value} (hi:Ivt w0 I w) (q:Kn a n l) (hd:a.defers=[]) (hb:b.kind=.normal) (hf:P.funcs[b.fn]? = some fn) (hr:fn.results=#[.tmp t]) (hv:l.lookup t=some v) :
 Leads P (fun fr' cs' w1=>fr'=c.finish v/\cs'=cs/\Stays w0 w1) (b.at a (.code .ret::k)) (c::cs) w:=by
 have e:a.tmps.getD t undef=v:=by rw [Array.getD_eq_getD_getElem?,q.g t hv];rfl
 refine leads_ret fun d=>leads_leave (v:=v) hb hd hf (fun W=>by rw [results_tmp hr _ P W,e]) (fun W=>events_results_tmp hr _ _) fun d'=>.done ⟨rfl,rfl,hi.st.output,hi.st.size,hi.st.block,hi.st.os⟩
section
variable {P:Program} {K:Frame->List Frame->World->Prop} {b:Frame} {k:List Item} {cs:List Frame} {ops:Array Oper}
end
end Mt
namespace Mt
open Go Go.RowKit Go.Maps Go.Conc
attribute [local go_sem] Oper.semAt_some
theorem co_bookP {K:Frame->List Frame->World->Prop} {b:Frame} {a:Act} {w0 w:World} {I:World->Prop} {k:List Item} {cs:List Frame} (hi:Ivt w0 I w) {ops:Array Oper} {i j r:Nat} {rest:List Nat} {vm vd vt:Value}
 (hbx:∀ w,I w->BoxAt r #[vm,vd,vt] w) {o:Oper} {x:Operand} (ho:ops[i]? = some o) (hop:o.op=.load 25 x) (hw:Region.wanted o (yielded ops a.tmps)=true) (hdst:o.dst=some j) (hx:a.eval x=.pointer (some ⟨r,0,none⟩)) 
 (h:∀ w1,Ivt w0 I w1->Leads Tryz.prog K (b.at (a.put (some j) (.agg #[vm,vd,vt])) (.inRegion ops rest::k)) cs w1) (hb:b.kind=.normal:=by rfl):Leads Tryz.prog K (b.at a (.inRegion ops (i::rest)::k)) cs w:=by
 obtain ⟨_,hc⟩:=hbx w hi.it;have ee:execOp a.eval o=execOp (fun _=>.pointer (some ⟨r,0,none⟩)) { o with op:=.load 25 x }:=by unfold execOp;rw [hop];simp only [hx]
 refine co_loadP hi (r:=r) (m:=3) (c:=fun k=>#[vm,vd,vt].getD k undef) ho hw hdst (fun k hk=>hc k _ ?_) (by omega) (fun W hW=>?_) h hb
 ·obtain rfl | rfl | rfl:k=0\/k=1\/k=2:=by omega
  all_goals rfl
 ·have y0:W.cell? ⟨r,0,none⟩=some vm:=hW 0 (by omega);have y1:W.cell? ⟨r,1,none⟩=some vd:=hW 1 (by omega);have y2:W.cell? ⟨r,2,none⟩=some vt:=hW 2 (by omega);rw [ee];refine ⟨by simp [go_sem,y0,y1,y2],fun e he=>?_⟩;simp [go_sem,y0,y1,y2] at he;rcases he with rfl | rfl | rfl <;> exact ⟨_,rfl⟩
theorem co_book {K:Frame->List Frame->World->Prop} {b:Frame} {a:Act} {w0 w:World} {I:World->Prop} {k:List Item} {cs:List Frame} {n:Nat} {l:List (Nat × Value)} {D:List Deferred} (hi:Ivt w0 I w) {ops:Array Oper} {i j r:Nat} {rest:List Nat} {vm vd vt:Value}
 (hbx:∀ w,I w->BoxAt r #[vm,vd,vt] w) (q:Kn a n l) (hd:a.defers=D) {o:Oper} {x:Operand} (ho:ops[i]? = some o) (hop:o.op=.load 25 x) (hw:Region.wanted o (yielded ops a.tmps)=true) (hdst:o.dst=some j) (hx:a.eval x=.pointer (some ⟨r,0,none⟩)) (hj:j < n)
 (h:∀ a1 w1,Ivt w0 I w1->a1.defers=D->Kn a1 n ((j,.agg #[vm,vd,vt])::l.filter fun x=>x.1 != j)->Leads Tryz.prog K (b.at a1 (.inRegion ops rest::k)) cs w1) (hb:b.kind=.normal:=by rfl):Leads Tryz.prog K (b.at a (.inRegion ops (i::rest)::k)) cs w :=
 co_bookP hi hbx ho hop hw hdst hx (fun w1 h1=>h _ w1 h1 hd (q.cons hj _)) hb
theorem co_lits {K:Frame->List Frame->World->Prop} {b:Frame} {a:Act} {w0 w:World} {I:World->Prop} {k:List Item} {cs:List Frame} {n:Nat} {l:List (Nat × Value)} {D:List Deferred} (hi:Ivt w0 I w) {ops:Array Oper} {i j m:Nat} {rest:List Nat} (ns:List Int) (T E:TypeId) (q:Kn a n l) (hd:a.defers=D) {o:Oper} (ho:ops[i]? = some o) (hw:Region.wanted o (yielded ops a.tmps)=true) (hdst:o.dst=some j) (hj:j < n) {p:Array (Nat × Operand)} (hop:o.op=.buildSlice T m p)
 (hr:∀ W:World,(execOp a.eval { o with op:=.buildSlice T m p }).run Tryz.prog W=.ok (.value (.slice (some ⟨W.heap.size,0,none⟩) m m)) (W.alloc (.cells (ns.map (Value.int .i64)).toArray E))/\(execOp a.eval { o with op:=.buildSlice T m p }).events Tryz.prog W #[]=#[])
 (h:∀ x a1 w1,Ivt w0 (fun w=>I w/\IntsAt w x ns) w1->a1.defers=D->Kn a1 n ((j,.slice x m m)::l.filter fun x=>x.1 != j)->Leads Tryz.prog K (b.at a1 (.inRegion ops rest::k)) cs w1) (hb:b.kind=.normal:=by rfl):Leads Tryz.prog K (b.at a (.inRegion ops (i::rest)::k)) cs w:=by
 have ee:execOp a.eval o=execOp a.eval { o with op:=.buildSlice T m p }:=by unfold execOp;rw [hop]
 refine co_new hi (fun r=>.slice (some ⟨r,0,none⟩) m m) (.cells (ns.map (Value.int .i64)).toArray E) (Z:=fun r w=>IntsAt w (some ⟨r,0,none⟩) ns) ho hw hdst (fun W=>by rw [ee];exact hr W) (fun r _ _ ha h=>IntsAt.alike h ha) (fun W k hk=>?_) (fun w1 h1=>h _ _ w1 h1 hd (q.cons hj _)) hb;refine ⟨_,0,rfl,(by show W.heap.size < (W.heap.push _).size;rw [Array.size_push];omega),?_⟩;rw [Nat.zero_add,World.cell?_alloc_at _ _ _ _ rfl];simp [hk]
attribute [local go_sem] Oper.semAt_some
noncomputable def fdB:Code:=Tryz.f16.body.getD .skip
noncomputable def fdC (n:Nat):Code:=cL (cR n fdB)
theorem fd_ok:[fdC 0,fdC 1].all (codeOk Tryz.prog)=true:=by kernel_rfl
theorem fdB_eq:fdB=seqs [fdC 0,fdC 1] (cR 2 fdB):=by kernel_rfl
structure LX (B:Nat) (vm vd vt:Value) (w:World):Prop where
 book:FBookAt w exB vm vd vt
 acts:ActsAt w
 box:BoxAt B #[vm,vd,vt] w
theorem LX.alike {B:Nat} {vm vd vt:Value} {w w1:World} (h:LX B vm vd vt w) (ha:Alike w w1):LX B vm vd vt w1:=⟨h.book.alike ha,h.acts.alike ha,h.box.alike ha⟩
def fdZ (a:Act) (w:World):Prop:=∃ B vm vd vt,a.defers=[]/\Kn a 214 [(1,.pointer (some ⟨B,0,none⟩))]/\LX B vm vd vt w
theorem fd_pre {W:World} (hA:ActsAt W):wps Mz.prog [fdC 0,fdC 1] (fun a' w2=>fdZ a' w2/\Old W w2) { tmps:=Array.replicate 214 U,defers:=[] } W:=by
 have HA:=Hh hA;clear hA;simp only [fdC,cL,cR,fdB,Tryz.f16,Option.getD_some,Array.replicate_succ,Array.replicate_zero,List.push_toArray,List.append_toArray,List.nil_append,List.cons_append];unfold wps;go_wp2;intro t;obtain ⟨V,hV⟩:∃ V,V=W.on t 0:=⟨_,rfl⟩;have HO:=Hh (show Old W V by rw [hV];exact (Old.refl W).on t 0);rw [<- hV];clear hV;unfold wps;go_wp2_with (go_at_call 63;(with_reducible refine (example_at _).mono ?_);rintro e w1 ⟨vm,vd,vt,rfl,hB,hb1⟩;have HB:=Hh hB;have hBB:=hB;obtain ⟨rfl,⟨da,dc,rfl,_,_⟩,ta,tc,rfl,_,_⟩:=hBB;clear hB);have hb2:Below V.heap.size V (w1.alloc (.cells #[.int .i64 exB.most,.slice da exB.devs.length dc,.slice ta exB.tests.length tc] 25)):=bel;have ho:=HO.out.trans (Below.old hb2);intro t;refine ⟨⟨w1.heap.size,.int .i64 exB.most,.slice da exB.devs.length dc,.slice ta exB.tests.length tc,rfl,⟨rfl,rfl,trivial⟩,?_⟩,ho.on t 0⟩;refine LX.alike (w:=w1.alloc (.cells #[.int .i64 exB.most,.slice da exB.devs.length dc,.slice ta exB.tests.length tc] 25)) ⟨HB.out.below (Below.al (Below.refl _ _) _),HA.out.alike ho.alike,(by show w1.heap.size < (w1.heap.push _).size;rw [Array.size_push];omega),fun k v e=>?_⟩ ((Old.refl _).on t 0).alike;rw [World.cell?_alloc_at _ _ _ _ rfl];exact e
theorem fd_enter:Frame.enter Tryz.prog 16 #[] .normal=(base 16).at { tmps:=Array.replicate 214 U,defers:=[] } [.code fdB]:=by kernel_rfl
theorem found_co {w:World} (hA:ActsAt w) (c:Frame) (cs:List Frame) :
 Leads Tryz.prog (fun fr' cs' w1=>fr'=c.finish (.bool true)/\cs'=cs/\Stays w w1) (Frame.enter Tryz.prog 16 #[] .normal) (c::cs) w:=by
 have hok:=List.all_eq_true.1 fd_ok;rw [fd_enter,fdB_eq];refine pieces_co (k:=[]) _ (fun c hc=>hok c hc) rfl (by kernel_rfl) rfl (Z:=fdZ) (fun a w1 w2 ht ⟨B,vm,vd,vt,h1,h2,h3⟩=>⟨B,vm,vd,vt,h1,h2,h3.alike ht.alike⟩) (fun W hW=>fd_pre (hA.alike hW.alike)) ?_;rintro a0 w ⟨B,vm,vd,vt,df0,q0,hx⟩ ho;have hi:Ivt _ (LX B vm vd vt) w:=⟨fun _ _ ha h=>h.alike ha,hx,ho.stays⟩;refine co_run hi 2 [(1,.pointer (some ⟨B,0,none⟩))] [.inRegion (rop (pt fdB 11)) [0,1,2,3,4,5,6,7,8,9,10],.code (pt fdB 15)] q0 df0 fun a0 w hi df0 q0=>?_;refine co_book hi (r:=B) (vm:=vm) (vd:=vd) (vt:=vt) (fun w h=>h.box) q0 df0 rfl rfl rfl rfl (q0.ev 1 rfl) (by decide) fun a0 w hi df0 q0=>?_;refine co_lits hi (m:=4) (p:=#[(0,.const (.int .i64 0)),(1,.const (.int .i64 0)),(2,.const (.int .i64 2)),(3,.const (.int .i64 1))]) [0,0,2,1] 52 54 q0 df0 rfl rfl rfl (by decide) rfl (fun W=>⟨by simp [go_sem],by simp [go_sem]⟩) fun sa a0 w hi df0 q0=>?_;refine co_lits hi (m:=2) (p:=#[(0,.const (.int .i64 2)),(1,.const (.int .i64 3))]) [2,3] 26 3 q0 df0 rfl rfl rfl (by decide) rfl (fun W=>⟨by simp [go_sem],by simp [go_sem]⟩) fun pa a0 w hi df0 q0=>?_;refine co_val hi 38 [.agg #[vm,vd,vt],.slice sa 4 4,.slice pa 2 2] 36 (v:=.tuple #[.bool true,.int .i64 0,.int .i64 0]) q0 df0 (fun W h=>playApi_ok (sc:=4) (pc:=2) h.1.1.book ex_names h.1.1.acts h.1.2 (by decide) h.2 (by decide) (by decide) ex_play.1 ex_play.2) fun a0 w hi df0 q0=>?_;refine co_run hi 10 [(4,.int .i64 0),(3,.int .i64 0),(2,.bool true),(1,.pointer (some ⟨B,0,none⟩))] [.inRegion (rop (pt fdB 23)) [0,1,2,3,4,5,6],.code (pt fdB 31)] q0 df0 fun a0 w hi df0 q0=>?_;refine co_book hi (r:=B) (vm:=vm) (vd:=vd) (vt:=vt) (fun w h=>h.1.1.box) q0 df0 rfl rfl rfl rfl (q0.ev 1 rfl) (by decide) fun a0 w hi df0 q0=>?_;refine co_val hi 35 [.agg #[vm,vd,vt]] 42 (v:=.tuple #[.int .i64 3,.int .i64 0]) q0 df0 (fun W h=>by have:=histApi_ok h.1.1.book ex_names h.1.1.acts ex_book;rw [ex_hists] at this;exact this) fun a0 w hi df0 q0=>?_;refine co_run hi 8 [(6,.int .i64 0),(5,.int .i64 3),(4,.int .i64 0),(3,.int .i64 0),(2,.bool true),(1,.pointer (some ⟨B,0,none⟩))] [.inRegion (rop (pt fdB 47)) [0,1,2,3,4,5,6,7,8],.code (pt fdB 63)] q0 df0 fun a0 w hi df0 q0=>?_;refine co_book hi (r:=B) (vm:=vm) (vd:=vd) (vt:=vt) (fun w h=>h.1.1.box) q0 df0 rfl rfl rfl rfl (q0.ev 1 rfl) (by decide) fun a0 w hi df0 q0=>?_;refine co_val hi 36 [.agg #[vm,vd,vt],.int .i64 2] 47 (v:=.tuple #[.int .i64 0,.int .i64 2,.int .i64 0]) q0 df0 (fun W h=>by have:=stateApi_ok (k:=2) h.1.1.book ex_names h.1.1.acts (by rw [ex_dev];exact ex_open);rw [ex_held.1,ex_held.2] at this;exact this) fun a0 w hi df0 q0=>?_;refine co_run hi 10 [(9,.int .i64 0),(8,.int .i64 2),(7,.int .i64 0),(6,.int .i64 0),(5,.int .i64 3),(4,.int .i64 0),(3,.int .i64 0),(2,.bool true),(1,.pointer (some ⟨B,0,none⟩))] [.inRegion (rop (pt fdB 95)) [0,1,2,3,4,5,6],.code (pt fdB 127)] q0 df0 fun a0 w hi df0 q0=>?_;refine co_book hi (r:=B) (vm:=vm) (vd:=vd) (vt:=vt) (fun w h=>h.1.1.box) q0 df0 rfl rfl rfl rfl (q0.ev 1 rfl) (by decide) fun a0 w hi df0 q0=>?_;refine co_call hi 37 [.agg #[vm,vd,vt]] 53 (α:=Option Addr × Nat) (V:=fun x=>.tuple #[.slice x.1 3 x.2,.int .i64 0]) (Z:=fun x w=>IntsAt w x.1 [0,1,2]) q0 df0 (fun x _ _ ha h=>IntsAt.alike h ha) (fun W h=>by have:=suspApi_ok h.1.1.book ex_names h.1.1.acts ex_open;rw [ex_susp] at this;exact this.mono fun e w2 ⟨a,c,h1,h2,h3⟩=>⟨(a,c),h1,h2,h3⟩) fun x a0 w hi df0 q0=>?_;refine co_run hi 8 [(11,.int .i64 0),(10,.slice x.1 3 x.2),(9,.int .i64 0),(8,.int .i64 2),(7,.int .i64 0),(6,.int .i64 0),(5,.int .i64 3),(4,.int .i64 0),(3,.int .i64 0),(2,.bool true),(1,.pointer (some ⟨B,0,none⟩))] [.inRegion (rop (pt fdB 191)) [0,1,2,3,4,5,6,7],.code (pt fdB 255)] q0 df0 fun a0 w hi df0 q0=>?_;refine co_book hi (r:=B) (vm:=vm) (vd:=vd) (vt:=vt) (fun w h=>h.1.1.1.box) q0 df0 rfl rfl rfl rfl (q0.ev 1 rfl) (by decide) fun a0 w hi df0 q0=>?_;refine co_lits hi (m:=1) (p:=#[(0,.const (.int .i64 3))]) [3] 26 3 q0 df0 rfl rfl rfl (by decide) rfl (fun W=>⟨by simp [go_sem],by simp [go_sem]⟩) fun p1 a0 w hi df0 q0=>?_;refine co_val hi 17 [.agg #[vm,vd,vt],.slice p1 1 1] 59 (v:=.tuple #[.int .i64 1,.int .i64 0]) q0 df0 (fun W h=>by have:=passApi_ok (pc:=1) h.1.1.1.1.book ex_names h.1.1.1.1.acts h.2 (by decide) (by decide) (by rw [ex_pass.2];exact ex_open);rw [ex_pass.1] at this;exact this) fun a0 w hi df0 q0=>?_;refine co_run hi 8 [(13,.int .i64 0),(12,.int .i64 1),(11,.int .i64 0),(10,.slice x.1 3 x.2),(9,.int .i64 0),(8,.int .i64 2),(7,.int .i64 0),(6,.int .i64 0),(5,.int .i64 3),(4,.int .i64 0),(3,.int .i64 0),(2,.bool true),(1,.pointer (some ⟨B,0,none⟩))] [.inRegion (rop (pt fdB 383)) [0,1,2,3,4,5,6,7],.code (pt fdB 511)] q0 df0 fun a0 w hi df0 q0=>?_;refine co_book hi (r:=B) (vm:=vm) (vd:=vd) (vt:=vt) (fun w h=>h.1.1.1.1.box) q0 df0 rfl rfl rfl rfl (q0.ev 1 rfl) (by decide) fun a0 w hi df0 q0=>?_;refine co_lits hi (m:=2) (p:=#[(0,.const (.int .i64 0)),(1,.const (.int .i64 3))]) [0,3] 26 3 q0 df0 rfl rfl rfl (by decide) rfl (fun W=>⟨by simp [go_sem],by simp [go_sem]⟩) fun p2 a0 w hi df0 q0=>?_;refine co_val hi 19 [.agg #[vm,vd,vt],.slice p2 2 2] 65 (v:=.tuple #[.int .i64 0,.int .i64 0]) q0 df0 (fun W h=>by have:=soundApi_ok (pc:=2) h.1.1.1.1.1.book ex_names h.1.1.1.1.1.acts h.2 (by decide) (by decide) (by rw [ex_sound.2];exact ex_open);rw [ex_sound.1] at this;exact this) fun a0 w hi df0 q0=>?_;refine co_run hi 8 [(15,.int .i64 0),(14,.int .i64 0),(13,.int .i64 0),(12,.int .i64 1),(11,.int .i64 0),(10,.slice x.1 3 x.2),(9,.int .i64 0),(8,.int .i64 2),(7,.int .i64 0),(6,.int .i64 0),(5,.int .i64 3),(4,.int .i64 0),(3,.int .i64 0),(2,.bool true),(1,.pointer (some ⟨B,0,none⟩))] [.inRegion (rop (pt fdB 767)) [0,1,2,3,4,5,6],.code (pt fdB 1023)] q0 df0 fun a0 w hi df0 q0=>?_;refine co_book hi (r:=B) (vm:=vm) (vd:=vd) (vt:=vt) (fun w h=>h.1.1.1.1.1.box) q0 df0 rfl rfl rfl rfl (q0.ev 1 rfl) (by decide) fun a0 w hi df0 q0=>?_;refine co_val hi 24 [.agg #[vm,vd,vt]] 70 (v:=.tuple #[.bool false,.int .i64 0]) q0 df0 (fun W h=>located_ok h.1.1.1.1.1.book ex_names h.1.1.1.1.1.acts ex_open ex_rows) fun a0 w hi df0 q0=>?_;refine co_run hi 8 [(17,.int .i64 0),(16,.bool false),(15,.int .i64 0),(14,.int .i64 0),(13,.int .i64 0),(12,.int .i64 1),(11,.int .i64 0),(10,.slice x.1 3 x.2),(9,.int .i64 0),(8,.int .i64 2),(7,.int .i64 0),(6,.int .i64 0),(5,.int .i64 3),(4,.int .i64 0),(3,.int .i64 0),(2,.bool true),(1,.pointer (some ⟨B,0,none⟩))] [.inRegion (rop (pt fdB 1535)) [0,1,2,3,4,5,6,7,8],.code (pt fdB 2047)] q0 df0 fun a0 w hi df0 q0=>?_;refine co_book hi (r:=B) (vm:=vm) (vd:=vd) (vt:=vt) (fun w h=>h.1.1.1.1.1.box) q0 df0 rfl rfl rfl rfl (q0.ev 1 rfl) (by decide) fun a0 w hi df0 q0=>?_;refine co_callL hi 26 [.agg #[vm,vd,vt]] 75 (α:=Unit) (V:=fun _=>.tuple #[.int .i64 1,.int .i64 2,.int .i64 0]) (Z:=fun _ _=>True) q0 df0 (fun _ _ _ _ _=>trivial) (fun c cs w h=>by have:=ask_co h.1.1.1.1.1.book ex_names h.1.1.1.1.1.acts ex_open c cs;rw [ex_ask.1,ex_ask.2] at this;exact this.mono fun _ _ _ ⟨h1,h2,h3⟩=>⟨(),h1,h2,trivial,h3⟩) fun _ a0 w hi df0 q0=>?_;refine co_run hi 10 [(20,.int .i64 0),(19,.int .i64 2),(18,.int .i64 1),(17,.int .i64 0),(16,.bool false),(15,.int .i64 0),(14,.int .i64 0),(13,.int .i64 0),(12,.int .i64 1),(11,.int .i64 0),(10,.slice x.1 3 x.2),(9,.int .i64 0),(8,.int .i64 2),(7,.int .i64 0),(6,.int .i64 0),(5,.int .i64 3),(4,.int .i64 0),(3,.int .i64 0),(2,.bool true),(1,.pointer (some ⟨B,0,none⟩))] [.inRegion (rop (pt fdB 3071)) [0,1,2,3,4,5,6,7,8],.code (pt fdB 4095)] q0 df0 fun a0 w hi df0 q0=>?_;refine co_book hi (r:=B) (vm:=vm) (vd:=vd) (vt:=vt) (fun w h=>h.1.1.1.1.1.1.box) q0 df0 rfl rfl rfl rfl (q0.ev 1 rfl) (by decide) fun a0 w hi df0 q0=>?_;refine co_val hi 28 [.agg #[vm,vd,vt]] 81 (v:=.tuple #[.int .i64 2,.int .i64 1,.int .i64 0]) q0 df0 (fun W h=>by have:=depthApi_ok h.1.1.1.1.1.1.book ex_names h.1.1.1.1.1.1.acts ex_open;rw [ex_depth.1,ex_depth.2] at this;exact this) fun a0 w hi df0 q0=>?_;refine co_run hi 10 [(23,.int .i64 0),(22,.int .i64 1),(21,.int .i64 2),(20,.int .i64 0),(19,.int .i64 2),(18,.int .i64 1),(17,.int .i64 0),(16,.bool false),(15,.int .i64 0),(14,.int .i64 0),(13,.int .i64 0),(12,.int .i64 1),(11,.int .i64 0),(10,.slice x.1 3 x.2),(9,.int .i64 0),(8,.int .i64 2),(7,.int .i64 0),(6,.int .i64 0),(5,.int .i64 3),(4,.int .i64 0),(3,.int .i64 0),(2,.bool true),(1,.pointer (some ⟨B,0,none⟩))] [.inRegion (rop (pt fdB 6143)) [0,1,2,3,4,5,6],.code (pt fdB 8191)] q0 df0 fun a0 w hi df0 q0=>?_;refine co_book hi (r:=B) (vm:=vm) (vd:=vd) (vt:=vt) (fun w h=>h.1.1.1.1.1.1.box) q0 df0 rfl rfl rfl rfl (q0.ev 1 rfl) (by decide) fun a0 w hi df0 q0=>?_;refine co_call hi 30 [.agg #[vm,vd,vt]] 87 (α:=Option Addr × Nat) (V:=fun x=>.tuple #[.slice x.1 2 x.2,.int .i64 0]) (Z:=fun x w=>IntsAt w x.1 [1,2]) q0 df0 (fun x _ _ ha h=>IntsAt.alike h ha) (fun W h=>by have:=batchApi_ok h.1.1.1.1.1.1.book ex_names h.1.1.1.1.1.1.acts ex_open;rw [ex_batch] at this;exact this.mono fun e w2 ⟨a,c,h1,h2,h3⟩=>⟨(a,c),h1,h2,h3⟩) fun y a0 w hi df0 q0=>?_;refine co_run hi 8 [(25,.int .i64 0),(24,.slice y.1 2 y.2),(23,.int .i64 0),(22,.int .i64 1),(21,.int .i64 2),(20,.int .i64 0),(19,.int .i64 2),(18,.int .i64 1),(17,.int .i64 0),(16,.bool false),(15,.int .i64 0),(14,.int .i64 0),(13,.int .i64 0),(12,.int .i64 1),(11,.int .i64 0),(10,.slice x.1 3 x.2),(9,.int .i64 0),(8,.int .i64 2),(7,.int .i64 0),(6,.int .i64 0),(5,.int .i64 3),(4,.int .i64 0),(3,.int .i64 0),(2,.bool true),(1,.pointer (some ⟨B,0,none⟩))] [.inRegion (rop (pt fdB 12287)) [0,1,2,3,4,5,6,7,8],.code (pt fdB 16383)] q0 df0 fun a0 w hi df0 q0=>?_;refine co_book hi (r:=B) (vm:=vm) (vd:=vd) (vt:=vt) (fun w h=>h.1.1.1.1.1.1.1.box) q0 df0 rfl rfl rfl rfl (q0.ev 1 rfl) (by decide) fun a0 w hi df0 q0=>?_;refine co_call hi 45 [.agg #[vm,vd,vt]] 92 (α:=Option Addr × Nat) (V:=fun x=>.tuple #[.slice x.1 3 x.2,.int .i64 25,.int .i64 0]) (Z:=fun x w=>IntsAt w x.1 [2,0,1]) q0 df0 (fun x _ _ ha h=>IntsAt.alike h ha) (fun W h=>by have:=repairsApi_ok h.1.1.1.1.1.1.1.book ex_names h.1.1.1.1.1.1.1.acts ex_open;rw [ex_rep.1,ex_rep.2] at this;exact this.mono fun e w2 ⟨a,c,h1,h2,h3⟩=>⟨(a,c),h1,h2,h3⟩) fun z a0 w hi df0 q0=>?_;refine co_run hi 10 [(28,.int .i64 0),(27,.int .i64 25),(26,.slice z.1 3 z.2),(25,.int .i64 0),(24,.slice y.1 2 y.2),(23,.int .i64 0),(22,.int .i64 1),(21,.int .i64 2),(20,.int .i64 0),(19,.int .i64 2),(18,.int .i64 1),(17,.int .i64 0),(16,.bool false),(15,.int .i64 0),(14,.int .i64 0),(13,.int .i64 0),(12,.int .i64 1),(11,.int .i64 0),(10,.slice x.1 3 x.2),(9,.int .i64 0),(8,.int .i64 2),(7,.int .i64 0),(6,.int .i64 0),(5,.int .i64 3),(4,.int .i64 0),(3,.int .i64 0),(2,.bool true),(1,.pointer (some ⟨B,0,none⟩))] [.inRegion (rop (pt fdB 24575)) [0,1,2,3,4,5,6],.code (pt fdB 32767)] q0 df0 fun a0 w hi df0 q0=>?_;refine co_book hi (r:=B) (vm:=vm) (vd:=vd) (vt:=vt) (fun w h=>h.1.1.1.1.1.1.1.1.box) q0 df0 rfl rfl rfl rfl (q0.ev 1 rfl) (by decide) fun a0 w hi df0 q0=>?_;refine co_call hi 21 [.agg #[vm,vd,vt],.int .i64 0] 98 (α:=Option Addr × Nat) (V:=fun x=>.tuple #[.slice x.1 0 x.2,.int .i64 0]) (Z:=fun x w=>IntsAt w x.1 []) q0 df0 (fun x _ _ ha h=>IntsAt.alike h ha) (fun W h=>by have:=twins_ok (d:=0) h.1.1.1.1.1.1.1.1.book ex_names h.1.1.1.1.1.1.1.1.acts ex_book ex_twins.2;rw [ex_twins.1] at this;exact this.mono fun e w2 ⟨a,c,h1,h2,h3⟩=>⟨(a,c),h1,h2,h3⟩) fun u a0 w hi df0 q0=>?_;refine co_run hi 121 [(201,.slice x.1 3 x.2),(26,.slice z.1 3 z.2),(24,.slice y.1 2 y.2)] [.inRegion (rop (pt fdB 196607)) [1,2,3,4,5,6,7,8,9,10,11,12,13],.code .ret] q0 df0 fun a0 w hi df0 q0=>?_;refine co_lits hi (m:=3) (p:=#[(0,.const (.int .i64 0)),(1,.const (.int .i64 1)),(2,.const (.int .i64 2))]) [0,1,2] 26 3 q0 df0 rfl rfl rfl (by decide) rfl (fun W=>⟨by simp [go_sem],by simp [go_sem]⟩) fun l1 a0 w hi df0 q0=>?_;refine co_val hi 23 [.slice x.1 3 x.2,.slice l1 3 3] 203 (v:=.bool true) q0 df0 (fun W h=>sameNums_at h.1.1.1.1.1.1.1.2 h.2 rfl rfl (by decide) (by decide) (by decide)) fun a0 w hi df0 q0=>?_;refine co_run hi 2 [(205,.slice y.1 2 y.2),(204,.bool true),(26,.slice z.1 3 z.2)] [.inRegion (rop (pt fdB 196607)) [5,6,7,8,9,10,11,12,13],.code .ret] q0 df0 fun a0 w hi df0 q0=>?_;refine co_lits hi (m:=2) (p:=#[(0,.const (.int .i64 1)),(1,.const (.int .i64 2))]) [1,2] 26 3 q0 df0 rfl (wanted_g rfl rfl rfl (q0.g 204 rfl)) rfl (by decide) rfl (fun W=>⟨by simp [go_sem],by simp [go_sem]⟩) fun l2 a0 w hi df0 q0=>?_;refine co_val hi 23 [.slice y.1 2 y.2,.slice l2 2 2] 207 (v:=.bool true) q0 df0 (fun W h=>sameNums_at h.1.1.1.1.2 h.2 rfl rfl (by decide) (by decide) (by decide)) fun a0 w hi df0 q0=>?_;refine co_run hi 3 [(210,.slice z.1 3 z.2),(209,.bool true)] [.inRegion (rop (pt fdB 196607)) [10,11,12,13],.code .ret] q0 df0 fun a0 w hi df0 q0=>?_;refine co_lits hi (m:=3) (p:=#[(0,.const (.int .i64 2)),(1,.const (.int .i64 0)),(2,.const (.int .i64 1))]) [2,0,1] 26 3 q0 df0 rfl (wanted_g rfl rfl rfl (q0.g 209 rfl)) rfl (by decide) rfl (fun W=>⟨by simp [go_sem],by simp [go_sem]⟩) fun l3 a0 w hi df0 q0=>?_;refine co_val hi 23 [.slice z.1 3 z.2,.slice l3 3 3] 212 (v:=.bool true) q0 df0 (fun W h=>sameNums_at h.1.1.1.1.2 h.2 rfl rfl (by decide) (by decide) (by decide)) fun a0 w hi df0 q0=>?_;refine co_run hi 3 [(0,.bool true)] [.code .ret] q0 df0 fun a0 w hi df0 q0=>?_;exact co_back hi q0 df0 rfl Tryz.func16 rfl rfl
section
variable {b:Fbk} {vm vd vt:Value} {w:World} {sa pa:Option Addr} {l path:List Int} {sc pc:Nat} {k:Int}
end
attribute [local go_sem] Oper.semAt_some
theorem FRaw.alike {w w1:World} {b:Fbk} {vm vd vt:Value} (h:FRaw w b vm vd vt) (ha:Alike w w1):FRaw w1 b vm vd vt:=by
 obtain ⟨hm,⟨da,dc,e1,hD⟩,ta,tc,e2,hT⟩:=h;refine ⟨hm,⟨da,dc,e1,fun i hi=>?_⟩,ta,tc,e2,fun i hi=>?_⟩
 ·obtain ⟨b',o,e,hlt,k1,k2,k3,k4⟩:=hD i hi;exact ⟨b',o,e,Nat.lt_of_lt_of_le hlt ha.size,(ha.cell _ _ hlt).trans k1,(ha.cell _ _ hlt).trans k2,(ha.cell _ _ hlt).trans k3,(ha.cell _ _ hlt).trans k4⟩
 obtain ⟨b',o,e,hlt,pa,pc,k1,k2,k3,k4⟩:=hT i hi;exact ⟨b',o,e,Nat.lt_of_lt_of_le hlt ha.size,pa,pc,(ha.cell _ _ hlt).trans k1,k2,IntsAt.alike k3 ha,(ha.cell _ _ hlt).trans k4⟩
structure LB (b:Fbk) (vm vd vt:Value) (is:List (Option Addr × List Int)) (w:World):Prop where
 raw:FRaw w b vm vd vt
 acts:ActsAt w
 ints:∀ x∈is,IntsAt w x.1 x.2
theorem LB.alike {b:Fbk} {vm vd vt:Value} {is:List (Option Addr × List Int)} {w w1:World} (h:LB b vm vd vt is w) (ha:Alike w w1):LB b vm vd vt is w1:=⟨h.raw.alike ha,h.acts.alike ha,fun x hx=>IntsAt.alike (h.ints x hx) ha⟩
theorem LB.ivt {b:Fbk} {vm vd vt:Value} {is:List (Option Addr × List Int)} {w:World} (h:LB b vm vd vt is w):Ivt w (LB b vm vd vt is) w:=⟨fun _ _ ha h=>h.alike ha,h,Stays.refl w⟩
theorem found_coL {w:World} (hA:ActsAt w) (c:Frame) (cs:List Frame) :
 Leads Tryz.prog (fun fr' cs' w1=>∃ _:Unit,fr'=c.finish (.bool true)/\cs'=cs/\True/\Stays w w1) (Frame.enter Tryz.prog 16 ([]:List Value).toArray .normal) (c::cs) w :=
 (found_co hA c cs).mono fun _ _ _ ⟨h1,h2,h3⟩=>⟨(),h1,h2,trivial,h3⟩
end Mt
namespace Mt
open Go Go.RowKit Go.Maps
attribute [local go_sem] Oper.semAt_some
def fitI (b:Fbk):Bool:=!greatI b && decide (bookAl b=0)
theorem names_ok {b:Fbk} (h:greatI b=false):∀ m∈b.devs,m.name.size<=1000000:=fun m hm=>Nat.le_trans ((great_no h).2.2.1 m hm) (by decide)
theorem fit_ok {b:Fbk} (h:fitI b=true):greatI b=false/\bookAl b=0:=by
 unfold fitI at h;simpa using h
section
variable {b:Fbk} {vm vd vt:Value} {w:World}
theorem fit_at (hR:FRaw w b vm vd vt):Calls Mz.prog 32 #[.agg #[vm,vd,vt]] w fun e w'=>e=.returned (.bool (fitI b))/\Below w.heap.size w w':=by
 have HR:=Hh hR;obtain ⟨rfl,⟨da,dc,rfl,_⟩,ta,tc,rfl,_⟩:=hR;obtain ⟨g,hg⟩:∃ g,greatI b=g:=⟨_,rfl⟩;have HG:=Hh hg;cases g
 ·have hN:=Hh (names_ok hg);obtain ⟨t,ht⟩:∃ t,bookAl b=t:=⟨_,rfl⟩;have HT:=Hh ht;have hf:fitI b=decide (t=0):=by unfold fitI;rw [hg,ht];rfl
  rw [hf];by_cases h0:t=0
  ·subst h0;clear hg ht hf
   go_enter (mz_func (i:=32) rfl Tryz.func32),Tryz.ntmps32
   go_wp2_with (first
    | (go_at_call 15;(with_reducible refine (great_at (HR.out.alike (Below.alike (bel))) HG.out).mono ?_);rintro e w1 ⟨rfl,hb1⟩;have y0:w1.cell? ⟨w.heap.size,0,none⟩=some (.int .i64 b.most):=(hb1.cell (p:=⟨w.heap.size,0,none⟩) (by simp)).trans (by rw [World.cell?_alloc_at _ _ _ _ rfl];rfl);have y1:w1.cell? ⟨w.heap.size,1,none⟩=some (.slice da b.devs.length dc):=(hb1.cell (p:=⟨w.heap.size,1,none⟩) (by simp)).trans (by rw [World.cell?_alloc_at _ _ _ _ rfl];rfl);have y2:w1.cell? ⟨w.heap.size,2,none⟩=some (.slice ta b.tests.length tc):=(hb1.cell (p:=⟨w.heap.size,2,none⟩) (by simp)).trans (by rw [World.cell?_alloc_at _ _ _ _ rfl];rfl))
    | (go_at_call 81;(with_reducible refine (rCheckBook_at ((HR.out.book HG.out).below (bel)) hN.out HT.out).mono ?_);rintro e w2 ⟨rfl,hb2⟩))
   go_ret;exact ⟨rfl,bel⟩
  ·have hz:(t == 0)=false:=by simpa using h0
   have hd:decide (t=0)=false:=by simp [h0]
   rw [hd];clear hg ht hf h0 hd
   go_enter (mz_func (i:=32) rfl Tryz.func32),Tryz.ntmps32
   go_wp2_with (first
    | (go_at_call 15;(with_reducible refine (great_at (HR.out.alike (Below.alike (bel))) HG.out).mono ?_);rintro e w1 ⟨rfl,hb1⟩;have y0:w1.cell? ⟨w.heap.size,0,none⟩=some (.int .i64 b.most):=(hb1.cell (p:=⟨w.heap.size,0,none⟩) (by simp)).trans (by rw [World.cell?_alloc_at _ _ _ _ rfl];rfl);have y1:w1.cell? ⟨w.heap.size,1,none⟩=some (.slice da b.devs.length dc):=(hb1.cell (p:=⟨w.heap.size,1,none⟩) (by simp)).trans (by rw [World.cell?_alloc_at _ _ _ _ rfl];rfl);have y2:w1.cell? ⟨w.heap.size,2,none⟩=some (.slice ta b.tests.length tc):=(hb1.cell (p:=⟨w.heap.size,2,none⟩) (by simp)).trans (by rw [World.cell?_alloc_at _ _ _ _ rfl];rfl))
    | (go_at_call 81;(with_reducible refine (rCheckBook_at ((HR.out.book HG.out).below (bel)) hN.out HT.out).mono ?_);rintro e w2 ⟨rfl,hb2⟩))
   go_ret;exact ⟨rfl,bel⟩
 ·have hf:fitI b=false:=by unfold fitI;rw [hg];rfl
  rw [hf];clear hg hf
  go_enter (mz_func (i:=32) rfl Tryz.func32),Tryz.ntmps32
  go_wp2_with (go_at_call 15;(with_reducible refine (great_at (HR.out.alike (Below.alike (bel))) HG.out).mono ?_);rintro e w1 ⟨rfl,hb1⟩);go_ret;exact ⟨rfl,bel⟩
end
end Mt
end Go.Proofs.YtgkajecjbflbbaaGreatDoor
