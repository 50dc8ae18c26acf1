/- FaultTwins -/
import Derived.Test.YtgkajecjbflbbaaGreatDoorGBase
import Derived.Deep.WholeRow
set_option maxHeartbeats 1000000
set_option maxRecDepth 100000
set_option linter.all false
namespace Go.Proofs.YtgkajecjbflbbaaGreatDoor
namespace Mt
open Go Go.RowKit Go.Maps
attribute [local go_sem] Oper.semAt_some
def stL (n:Nat) (s:Nat->Nat):List Int:=(List.range n).map fun i=>(s i:Int)
theorem stL_len (n:Nat) (s:Nat->Nat):(stL n s).length=n:=by simp [stL]
theorem stL_get {n:Nat} {s:Nat->Nat} {i:Nat} (h:i < (stL n s).length):(stL n s)[i]=(s i:Int):=by simp [stL]
section
variable {w:World} {sa pa:Option Addr} {l:List Int} {sc pc n:Nat} {s:Nat->Nat}
end
attribute [local go_sem] Oper.semAt_some
theorem stepsOf_stL {n:Nat} {s:Nat->Nat} {j:Nat} (h:j < n):stepsOf (stL n s) j=s j:=by
 simp [stepsOf,stL,List.getD,h]
theorem plays_congr {s s' p:Nat->Nat}:∀ (N i:Nat),(∀ j,i<=j->j < i+N->s (p j)=s' (p j))->plays s p N i=plays s' p N i
 | 0,i,_=>rfl
 | N+1,i,h=>by
  unfold plays;rw [h i (Nat.le_refl _) (by omega),plays_congr N (i+1) (fun j h1 h2=>h j (by omega) (by omega))]
theorem playI_congr {n:Nat} {s s':Nat->Nat} {l:List Int} (hl:∀ x∈l,0<=x/\x < (n:Int)) (h:∀ j,j < n->s j=s' j):playI s l=playI s' l:=by
 unfold playI;apply plays_congr;intro j _ hj;apply h;rw [Nat.zero_add] at hj;have:=hl _ (List.getElem_mem hj);unfold stepsOf;simp [List.getD,hj];omega
section
variable {b:Fbk} {vm vd vt:Value}
end
end Mt
namespace Mt
open Go Go.Conc Go.RowKit
section
variable {P:Program} {K:Frame->List Frame->World->Prop} {b:Frame} {a:Act} {w0 w:World} {I:World->Prop} {k:List Item} {cs:List Frame} {n:Nat} {l:List (Nat × Value)} {D:List Deferred}
end
section
variable {K:Frame->List Frame->World->Prop} {b:Frame} {a:Act} {w0 w:World} {I:World->Prop} {k:List Item} {cs:List Frame} {n:Nat} {l:List (Nat × Value)} {D:List Deferred}
theorem co_valP (hi:Ivt w0 I w) {ops:Array Oper} {i:Nat} {rest:List Nat} (f:FuncId) (args:List Value) (j:Nat) {v:Value} (q:Kn a n l)
 (hc:∀ W,I W->Calls Mz.prog f args.toArray W fun e w2=>e=.returned v/\Below W.heap.size W w2)
 (h:∀ w1,Ivt w0 I w1->Leads Tryz.prog K (b.at (a.put (some j) v) (.inRegion ops rest::k)) cs w1)
 (hb:b.kind=.normal:=by rfl) (hg:badF f=false:=by rfl) (e:∀ d,callR Tryz.prog n d l ops i=some (f,args,j):=by intro d;kernel_rfl):Leads Tryz.prog K (b.at a (.inRegion ops (i::rest)::k)) cs w:=by
 refine co_callP (α:=Unit) (V:=fun _=>v) (Z:=fun _ _=>True) hi f args j q (fun _ _ _ _ _=>trivial) (lone_co hi.cl (fun _ _ _ _ _=>trivial) (fun W hW=>(hc W hW).mono ?_) hg) (fun _ _ w1 h1=>h w1 (h1.less hi.cl fun _ x=>x.1)) hb e;rintro e w2 ⟨h1,h2⟩;exact ⟨(),h1,trivial,h2⟩
end
section
variable {P:Program} {K:Frame->List Frame->World->Prop} {b:Frame} {a:Act} {w0 w:World} {I:World->Prop} {k:List Item} {cs:List Frame} {n:Nat} {l:List (Nat × Value)} {D:List Deferred}
end
section
variable {P:Program} {K:Frame->List Frame->World->Prop} {b:Frame} {k:List Item} {cs:List Frame} {ops:Array Oper}
def nds (base:List (Nat × Value)) (ds:Nat->Nat) (V:Nat->Value) (ops:Array Oper) (i:Nat):List (Nat × Value):=base ++ ((List.range ops.size).filter fun d=>needs ops i d).map fun d=>(ds d,V d)
theorem nds_kn {base:List (Nat × Value)} {ds:Nat->Nat} {V:Nat->Value} {i n:Nat} {L:Array Bool} {a:Act} (q:Kn a n (lst base ds V ops.size L)) (h:∀ d,needs ops i d=true->L.getD d false=true):Kn a n (nds base ds V ops i):=by
 refine ⟨q.sz,knl_mem.2 fun x hx=>?_⟩;rcases List.mem_append.1 hx with hx | hx
 ·exact knl_mem.1 q.kn x (List.mem_append_left _ hx)
 ·obtain ⟨d,hd,rfl⟩:=List.mem_map.1 hx;obtain ⟨hd1,hd2⟩:=List.mem_filter.1 hd;exact lst_get q (List.mem_range.1 hd1) (h d hd2)
theorem lst_put {base:List (Nat × Value)} {ds:Nat->Nat} {V:Nat->Value} {i n N:Nat} {L:Array Bool} {a:Act} (h1:∀ k,k < N->ds k=ds i->k=i) (h2:∀ x∈base,x.1≠ds i) (hj:ds i < n) (q:Kn a n (lst base ds V N L)):Kn (a.put (some (ds i)) (V i)) n (lst base ds V N (L.setIfInBounds i true)):=lst_step h1 h2 (q.cons hj _)
theorem co_one {w0 w:World} {I:World->Prop} {a:Act} {n i j:Nat} {rest:List Nat} {l:List (Nat × Value)} {v v0:Value} (hi:Ivt w0 I w) (q:Kn a n l) (hv:v0=v)
 (h:∀ w1,Ivt w0 I w1->Leads P K (b.at (a.put (some j) v) (.inRegion ops rest::k)) cs w1) (hb:b.kind=.normal:=by rfl) (e:∀ d,st1 P d [] n l [.inRegion ops [i]]=some ((j,v0)::l,[.inRegion ops []],[]):=by intro d;kernel_rfl):Leads P K (b.at a (.inRegion ops (i::rest)::k)) cs w:=by
 subst hv;have e:=e fun t=>a.tmps.getD t undef;have hne:b.kind≠.early:=by rw [hb];decide
 unfold st1 at e;simp only at e;split at e
 ·cases e
 ·rename_i o ho
  split at e
  ·rename_i j' hg hd
   split at e
   ·rename_i v' hp
    split at e
    ·rename_i hj
     simp only [List.lookup_nil] at e;cases e;have hx:=fun w=>pureV_run hp w;rw [<- q.sil.ev] at hx;refine leads_op v0 hb ho (gd_true q.sil hg) (fun W D hv d=>(hx _).1) (fun W D hv d e he=>?_) fun d=>?_
     ·rw [(hx _).2] at he;simp at he
     ·rw [hd];exact h _ (hi.to (Stays.at w d))
    ·cases e
   ·cases e
  ·rename_i j' hg hd
   split at e
   ·rename_i hj
    cases e;refine leads_go (fun W=>stepG_unwanted ho (gd_true q.sil hg)) fun d=>?_;rw [hd];exact h _ (hi.to (Stays.at w d))
   ·cases e
  ·cases e
  ·cases e
end
end Mt
namespace Mt
open Go Go.RowKit Go.Maps Go.Conc
attribute [local go_sem] Oper.semAt_some
theorem LB.ivt {b:Fbk} {vm vd vt:Value} {is:List (Option Addr × List Int)} {w:World} (h:LB b vm vd vt is w):Ivt w (LB b vm vd vt is) w:=⟨fun _ _ ha h=>h.alike ha,h,Stays.refl w⟩
attribute [local go_sem] Oper.semAt_some
section
variable {P:Program} {K:Frame->List Frame->World->Prop} {b:Frame} {a:Act} {w0 w:World} {I:World->Prop} {k:List Item} {cs:List Frame} {n:Nat} {l:List (Nat × Value)} {D:List Deferred}
end
section
variable {a:Act} {o:Oper} {w:World} {ad:Addr} {v:Value} {x:Operand}
theorem ld_tests (ho:o.op=.load 23 x) (hx:a.eval x=.pointer (some ad)):∀ w:World,w.cell? ad=some v->(execOp a.eval o).run Tryz.prog w=.ok (.value v) w/\∀ e∈(execOp a.eval o).events Tryz.prog w #[],e.loc=.cell ad:=fun w hc=>by
 have e:execOp a.eval o=execOp (fun _=>.pointer (some ad)) { o with op:=.load 23 x }:=by unfold execOp;rw [ho];simp only [hx]
 rw [e];exact ⟨by simp [go_sem,hc],by simp [go_sem,hc]⟩
theorem ld_devs (ho:o.op=.load 22 x) (hx:a.eval x=.pointer (some ad)):∀ w:World,w.cell? ad=some v->(execOp a.eval o).run Tryz.prog w=.ok (.value v) w/\∀ e∈(execOp a.eval o).events Tryz.prog w #[],e.loc=.cell ad:=fun w hc=>by
 have e:execOp a.eval o=execOp (fun _=>.pointer (some ad)) { o with op:=.load 22 x }:=by unfold execOp;rw [ho];simp only [hx]
 rw [e];exact ⟨by simp [go_sem,hc],by simp [go_sem,hc]⟩
theorem ld_int (ho:o.op=.load 3 x) (hx:a.eval x=.pointer (some ad)):∀ w:World,w.cell? ad=some v->(execOp a.eval o).run Tryz.prog w=.ok (.value v) w/\∀ e∈(execOp a.eval o).events Tryz.prog w #[],e.loc=.cell ad:=fun w hc=>by
 have e:execOp a.eval o=execOp (fun _=>.pointer (some ad)) { o with op:=.load 3 x }:=by unfold execOp;rw [ho];simp only [hx]
 rw [e];exact ⟨by simp [go_sem,hc],by simp [go_sem,hc]⟩
end
attribute [local go_sem] Oper.semAt_some
section
variable {a:Act} {o:Oper} {p q:Nat} {n:Nat}
theorem ix_tests {tb to c i:Nat} (ho:o.op=.indexAddr 23 (.tmp p) (.tmp q)) (hx:a.tmps[p]? = some (.slice (some ⟨tb,to,none⟩) n c)) (hy:a.tmps[q]? = some (.int .i64 (i:Int))) (hi:i < n) :
 ∀ W:World,(execOp a.eval o).run Tryz.prog W=.ok (.value (.pointer (some ⟨tb,to+i * 2,none⟩))) W/\(execOp a.eval o).events Tryz.prog W #[]=#[]:=fun W=>by
 have hiI:(i:Int) < (n:Int):=by omega
 have e:execOp a.eval o=execOp a.eval { o with op:=.indexAddr 23 (.tmp p) (.tmp q) }:=by unfold execOp;rw [ho]
 rw [e];exact ⟨by simp [go_sem,hx,hy,hiI],by simp [go_sem,hx,hy,hiI]⟩
end
attribute [local go_sem] Oper.semAt_some
section
variable {P:Program} {K:Frame->List Frame->World->Prop} {b:Frame} {a:Act} {w0 w:World} {I:World->Prop} {k:List Item} {cs:List Frame} {n:Nat} {l:List (Nat × Value)} {D:List Deferred}
theorem co_opP {P:Program} (hi:Ivt w0 I w) {ops:Array Oper} {i j:Nat} {rest:List Nat} (v:Value) {o:Oper} (ho:ops[i]? = some o) (hw:Region.wanted o (yielded ops a.tmps)=true) (hdst:o.dst=some j)
 (hr:∀ W:World,(execOp a.eval o).run P W=.ok (.value v) W/\(execOp a.eval o).events P W #[]=#[])
 (h:∀ w1,Ivt w0 I w1->Leads P K (b.at (a.put (some j) v) (.inRegion ops rest::k)) cs w1) (hb:b.kind=.normal:=by rfl):Leads P K (b.at a (.inRegion ops (i::rest)::k)) cs w:=by
 refine leads_op v hb ho hw (fun W D hv d=>(hr _).1) (fun W D hv d e he=>?_) fun d=>?_
 ·rw [(hr _).2] at he;simp at he
 ·rw [hdst];exact h _ (hi.to (Stays.at w d))
theorem co_cellP {P:Program} (hi:Ivt w0 I w) {ops:Array Oper} {i j:Nat} {rest:List Nat} (v:Value) {r c:Nat} {o:Oper} (ho:ops[i]? = some o) (hw:Region.wanted o (yielded ops a.tmps)=true) (hdst:o.dst=some j) (hc:w.cell? ⟨r,c,none⟩=some v)
 (hr:∀ W:World,W.cell? ⟨r,c,none⟩=some v->(execOp a.eval o).run P W=.ok (.value v) W/\∀ e∈(execOp a.eval o).events P W #[],e.loc=.cell ⟨r,c,none⟩)
 (h:∀ w1,Ivt w0 I w1->Leads P K (b.at (a.put (some j) v) (.inRegion ops rest::k)) cs w1) (hb:b.kind=.normal:=by rfl):Leads P K (b.at a (.inRegion ops (i::rest)::k)) cs w:=by
 refine leads_op v hb ho hw (fun W D hv d=>(hr (W.at d) (hv.cell hc).2).1) (fun W D hv d e he=>?_) fun d=>?_
 ·have hk:=(hr (W.at d) (hv.cell hc).2).2 e he;obtain ⟨n0,y0⟩:=hv.cell hc;unfold EvOk;rw [hk];exact ⟨lt_of_cell (a:=⟨r,c,none⟩) y0,n0⟩
 ·rw [hdst];exact h _ (hi.to (Stays.at w d))
theorem op_rem2 {o:Oper} {p q:Nat} {t u:TypeId} {k m N:Nat} (hm:k % N=m) (ho:o.op=.binOp .rem t (.tmp p) (.tmp q) u) (hx:a.tmps[p]? = some (.int .i64 (k:Int))) (hy:a.tmps[q]? = some (.int .i64 (N:Int))) (hn:0 < N) (hk:k<=255) :
 ∀ W:World,(execOp a.eval o).run Tryz.prog W=.ok (.value (.int .i64 (m:Int))) W/\(execOp a.eval o).events Tryz.prog W #[]=#[]:=by
 subst hm;exact op_rem ho hx hy hn hk
end
section
variable {P:Program} {K:Frame->List Frame->World->Prop} {b:Frame} {k:List Item} {cs:List Frame} {ops:Array Oper}
theorem go_lead2 {md:Region.Mode} {rk:Nat->Nat} (hl:lowB md ops rk=true) (J:Array Bool->Act->World->Prop)
 (step:∀ i o L a w rest,ops[i]? = some o->L.getD i true=false->(∀ e∈o.after,Region.binds md e=true->L.getD e.on false=true)->J L a w ->
   (∀ a1 w1,J (L.setIfInBounds i true) a1 w1->Leads P K (b.at a1 (.inRegion ops rest::k)) cs w1)->Leads P K (b.at a (.inRegion ops (i::rest)::k)) cs w)
 (fin:∀ L a w,L.size=ops.size->(∀ i,i < ops.size->L.getD i true=true)->J L a w->Leads P K (b.at a (.inRegion ops []::k)) cs w) :
 ∀ (fuel t:Nat) (L:Array Bool) (a:Act) (w:World),left L ops.size<=fuel->L.size=ops.size->J L a w->Leads P K (b.at a (.inRegion ops (Region.linearise.go md ops fuel t L [])::k)) cs w:=by
 intro fuel
 induction fuel with
 | zero =>
  intro t L a w h0 hs hi;have:Region.linearise.go md ops 0 t L []=[]:=by simp [Region.linearise.go]
  rw [this];exact fin L a w hs (left_zero (by omega)) hi
 | succ fuel ih =>
  intro t L a w h0 hs hi;simp only [Region.linearise.go]
  change Leads P K (b.at a (.inRegion ops (match (Region.ready md ops L)[t % (Region.ready md ops L).length]? with
   | some i=>Region.linearise.go md ops fuel (t / (Region.ready md ops L).length) (L.setIfInBounds i true) [i]
   | none=>[].reverse)::k)) cs w
  cases hx:(Region.ready md ops L)[t % (Region.ready md ops L).length]? with
  | none =>
   have hnil:Region.ready md ops L=[]:=by
    cases hr:Region.ready md ops L with
    | nil=>rfl
    | cons x xs =>
     rw [hr] at hx;have hlt:t % (x::xs).length < (x::xs).length:=Nat.mod_lt _ (by simp);simp at hx;simp at hlt;omega
   exact fin L a w hs (all_done hl hs hnil) hi
  | some i =>
   simp only [];rw [linearise_go_acc,List.reverse_singleton,List.singleton_append];have hr:=List.mem_of_getElem? hx;obtain ⟨hun,o,ho,hall⟩:=mem_ready.1 hr;have hlt:i < ops.size:=(Array.getElem?_eq_some_iff.1 ho).1;refine step i o L a w _ ho hun hall hi fun a1 w1 h1=>ih _ _ a1 w1 ?_ (by simp [hs]) h1;have:=left_set hun hlt;omega
theorem leads_draw2 {id:Nat} (rk:Region.Mode->Nat->Nat) (hl:∀ md,lowB md ops (rk md)=true) (J:Array Bool->Act->World->Prop) {a:Act} {w:World}
 (h0:∀ w1,Stays w w1->J (Array.replicate ops.size false) a w1)
 (step:∀ i L a w rest,i < ops.size->L.getD i true=false->(∀ d,needs ops i d=true->L.getD d false=true)->J L a w ->
   (∀ a1 w1,J (L.setIfInBounds i true) a1 w1->Leads P K (b.at a1 (.inRegion ops rest::k)) cs w1)->Leads P K (b.at a (.inRegion ops (i::rest)::k)) cs w)
 (fin:∀ L a w,L.size=ops.size->(∀ i,i < ops.size->L.getD i true=true)->J L a w->Leads P K (b.at a (.inRegion ops []::k)) cs w) :
 Leads P K (b.at a (.code (.region id ops true)::k)) cs w:=by
 intro L hL W D hv;refine .step fun d=>?_;have:∃ md t,Region.schedule (P.follows .mixedOrders) ops ((W.at d).tape (W.at d).drawn (.order b.fn id))=Region.linearise.go md ops ops.size t (Array.replicate ops.size false) []:=by
  unfold Region.schedule Region.linearise;split
  ·exact ⟨_,_,rfl⟩
  ·exact ⟨_,_,rfl⟩
 obtain ⟨md,t,ht⟩:=this;refine ⟨_,_,_,#[],stepG_region_draw,(fun e he=>by simp at he),Nat.le_refl _,?_⟩;rw [ht];have hv':View D { W.at d with drawn:=(W.at d).drawn+1 } (w.at (d+1)):=⟨hv.tape,rfl,hv.os,hv.output,hv.size,hv.live,hv.gone⟩;exact go_lead2 (hl md) J (fun i o L a w rest ho hu h=>step i L a w rest (Array.getElem?_eq_some_iff.1 ho).1 hu fun d=>needs_spec ho h) fin ops.size _ _ a (w.at (d+1)) left_le (by simp) (h0 _ (Stays.at w (d+1))) L hL _ _ hv'
theorem co_drawR {w0 w:World} {I:World->Prop} {a:Act} {n id:Nat} {base:List (Nat × Value)} {D:List Deferred} (hi:Ivt w0 I w) (rk:Region.Mode->Nat->Nat) (ds:Nat->Nat) (V:Nat->Value) (q:Kn a n base) (hd:a.defers=D)
 (hinj:∀ i,i < ops.size->∀ k,k < ops.size->ds k=ds i->k=i) (hbase:((List.range ops.size).all fun i=>base.all fun x=>x.1 != ds i)=true) (hlt:∀ i,i < ops.size->ds i < n)
 (step:∀ i,i < ops.size->∀ a w,Ivt w0 I w->Kn a n (nds base ds V ops i)->∀ rest,(∀ w1,Ivt w0 I w1->Leads P K (b.at (a.put (some (ds i)) (V i)) (.inRegion ops rest::k)) cs w1)->Leads P K (b.at a (.inRegion ops (i::rest)::k)) cs w)
 (fin:∀ a w,Ivt w0 I w->a.defers=D->Kn a n (base ++ (List.range ops.size).map fun i=>(ds i,V i))->Leads P K (b.at a (.inRegion ops []::k)) cs w)
 (hl:∀ md,lowB md ops (rk md)=true:=by intro md;cases md <;> kernel_rfl):Leads P K (b.at a (.code (.region id ops true)::k)) cs w:=by
 refine leads_draw2 rk hl (fun L a w=>Ivt w0 I w/\a.defers=D/\Kn a n (lst base ds V ops.size L)) (fun w1 hs=>⟨hi.to hs,hd,lst_none q⟩) ?_ ?_
 ·rintro i L a w rest hi1 _ hn ⟨h1,h2,h3⟩ hk;exact step i hi1 a w h1 (nds_kn h3 hn) rest fun w1 h4=>hk _ w1 ⟨h4,h2,lst_put (hinj i hi1) (fun x hx=>by have:=List.all_eq_true.1 (List.all_eq_true.1 hbase i (List.mem_range.2 hi1)) x hx;simpa using this) (hlt i hi1) h3⟩
 ·rintro L a w hs hall ⟨h1,h2,h3⟩;refine fin a w h1 h2 ⟨h3.sz,knl_mem.2 fun x hx=>?_⟩;rcases List.mem_append.1 hx with hx | hx
  ·exact knl_mem.1 h3.kn x (List.mem_append_left _ hx)
  ·obtain ⟨i,hi2,rfl⟩:=List.mem_map.1 hx;have hi3:=List.mem_range.1 hi2;refine lst_get h3 hi3 ?_;have:=hall i hi3;have h5:i < L.size:=by omega
   simpa [h5] using this
theorem lst_swap {base:List (Nat × Value)} {ds:Nat->Nat} {V V':Nat->Value} {n N:Nat} {L:Array Bool} {a:Act} (h:∀ i,i < N->L.getD i false=true->V i=V' i) (q:Kn a n (lst base ds V N L)):Kn a n (lst base ds V' N L):=by
 refine ⟨q.sz,knl_mem.2 fun x hx=>?_⟩;rcases List.mem_append.1 hx with hx | hx
 ·exact knl_mem.1 q.kn x (List.mem_append_left _ hx)
 ·obtain ⟨i,hi,rfl⟩:=List.mem_map.1 hx;obtain ⟨h1,h2⟩:=List.mem_filter.1 hi;show a.tmps[ds i]? = some (V' i);rw [<- h i (List.mem_range.1 h1) h2];exact lst_get q (List.mem_range.1 h1) h2
theorem co_drawE {α:Type} {w0 w:World} {I:World->Prop} {a:Act} {n id:Nat} {base:List (Nat × Value)} {D:List Deferred} (hi:Ivt w0 I w) (rk:Region.Mode->Nat->Nat) (ds:Nat->Nat) (x0:α) (V:α->Nat->Value) (Z:α->World->Prop) (i0:Nat) (dep:Nat->Bool) (q:Kn a n base) (hd:a.defers=D)
 (hinj:∀ i,i < ops.size->∀ k,k < ops.size->ds k=ds i->k=i) (hbase:((List.range ops.size).all fun i=>base.all fun x=>x.1 != ds i)=true) (hlt:∀ i,i < ops.size->ds i < n)
 (hi0:dep i0=true) (hi0':i0 < ops.size) (hdep:∀ i,i < ops.size->dep i=true->i≠i0->∃ d,d < ops.size/\needs ops i d=true/\dep d=true) (hV:∀ x i,i < ops.size->dep i=false->V x i=V x0 i)
 (step:∀ i,i < ops.size->i≠i0->∀ (x:α) (J:World->Prop),(∀ w,J w->I w)->(dep i=true->∀ w,J w->Z x w)->∀ a w,Ivt w0 J w->Kn a n (nds base ds (V x) ops i)->∀ rest,(∀ w1,Ivt w0 J w1->Leads P K (b.at (a.put (some (ds i)) (V x i)) (.inRegion ops rest::k)) cs w1)->Leads P K (b.at a (.inRegion ops (i::rest)::k)) cs w)
 (step0:∀ a w,Ivt w0 I w->Kn a n (nds base ds (V x0) ops i0)->∀ rest,(∀ x w1,Ivt w0 (fun w=>I w/\Z x w) w1->Leads P K (b.at (a.put (some (ds i0)) (V x i0)) (.inRegion ops rest::k)) cs w1)->Leads P K (b.at a (.inRegion ops (i0::rest)::k)) cs w)
 (fin:∀ x a w,Ivt w0 (fun w=>I w/\Z x w) w->a.defers=D->Kn a n (base ++ (List.range ops.size).map fun i=>(ds i,V x i))->Leads P K (b.at a (.inRegion ops []::k)) cs w)
 (hl:∀ md,lowB md ops (rk md)=true:=by intro md;cases md <;> kernel_rfl):Leads P K (b.at a (.code (.region id ops true)::k)) cs w:=by
 refine leads_draw2 rk hl (fun L a w=>a.defers=D/\((L.getD i0 false=false/\(∀ i,i < ops.size->dep i=true->L.getD i false=false)/\Ivt w0 I w/\Kn a n (lst base ds (V x0) ops.size L))\/∃ x,L.getD i0 false=true/\Ivt w0 (fun w=>I w/\Z x w) w/\Kn a n (lst base ds (V x) ops.size L)))
  (fun w1 hs=>⟨hd,.inl ⟨by simp [Array.getD_eq_getD_getElem?,Array.getElem?_replicate];split <;> rfl,fun i _ _=>by simp [Array.getD_eq_getD_getElem?,Array.getElem?_replicate];split <;> rfl,hi.to hs,lst_none q⟩⟩) ?_ ?_
 ·rintro i L a w rest hi1 hun hn ⟨h2,h⟩ hk;have hL:i < L.size:=Classical.byContradiction fun hc=>by simp [Array.getD_eq_getD_getElem?,hc] at hun
  have hb1:∀ x∈base,x.1≠ds i:=fun x hx=>by have:=List.all_eq_true.1 (List.all_eq_true.1 hbase i (List.mem_range.2 hi1)) x hx;simpa using this
  have hset:∀ j,j≠i->(L.setIfInBounds i true).getD j false=L.getD j false:=fun j hj=>by
   simp only [Array.getD_eq_getD_getElem?,Array.getElem?_setIfInBounds,if_neg (Ne.symm hj)]
  by_cases e:i=i0
  ·subst e;rcases h with ⟨h3,h4,h5,h6⟩ | ⟨x,h3,h5,h6⟩
   ·refine step0 a w h5 (nds_kn h6 hn) rest fun x w1 h7=>hk _ w1 ⟨h2,.inr ⟨x,by simp [Array.getD_eq_getD_getElem?,hL],h7,?_⟩⟩;refine lst_put (V:=V x) (hinj i hi1) hb1 (hlt i hi1) (lst_swap (fun j hj hLj=>?_) h6);by_cases hdj:dep j=true
    ·rw [h4 j hj hdj] at hLj;cases hLj
    ·exact (hV x j hj (by simpa using hdj)).symm
   ·simp [Array.getD_eq_getD_getElem?,hL] at hun h3;rw [hun] at h3;cases h3
  ·rcases h with ⟨h3,h4,h5,h6⟩ | ⟨x,h3,h5,h6⟩
   ·have hdi:dep i=false:=by
     by_cases hd':dep i=true
     ·obtain ⟨d,hd1,hd2,hd3⟩:=hdep i hi1 hd' e;have:=hn d hd2;rw [h4 d hd1 hd3] at this;cases this
     ·simpa using hd'
    refine step i hi1 e x0 I (fun _ h=>h) (fun hd'=>by rw [hdi] at hd';cases hd') a w h5 (nds_kn h6 hn) rest fun w1 h7=>hk _ w1 ⟨h2,.inl ⟨?_,fun j hj hdj=>?_,h7,lst_put (hinj i hi1) hb1 (hlt i hi1) h6⟩⟩
    ·rw [hset _ (Ne.symm e)];exact h3
    ·rw [hset j (fun e'=>by subst e';rw [hdi] at hdj;cases hdj)];exact h4 j hj hdj
   ·exact step i hi1 e x _ (fun _ h=>h.1) (fun _ _ h=>h.2) a w h5 (nds_kn h6 hn) rest fun w1 h7=>hk _ w1 ⟨h2,.inr ⟨x,by rw [hset _ (Ne.symm e)];exact h3,h7,lst_put (hinj i hi1) hb1 (hlt i hi1) h6⟩⟩
 ·rintro L a w hs hall ⟨h2,h⟩;have hT:∀ i,i < ops.size->L.getD i false=true:=fun i hi2=>by
   have:=hall i hi2;have h5:i < L.size:=by omega
   simpa [Array.getD_eq_getD_getElem?,h5] using this
  rcases h with ⟨h3,_⟩ | ⟨x,_,h5,h6⟩
  ·rw [hT i0 hi0'] at h3;cases h3
  ·refine fin x a w h5 h2 ⟨h6.sz,knl_mem.2 fun y hy=>?_⟩;rcases List.mem_append.1 hy with hy | hy
   ·exact knl_mem.1 h6.kn y (List.mem_append_left _ hy)
   ·obtain ⟨i,hi2,rfl⟩:=List.mem_map.1 hy;exact lst_get h6 (List.mem_range.1 hi2) (hT i (List.mem_range.1 hi2))
theorem co_exP {a:Act} {w0 w:World} {I:World->Prop} {n:Nat} {l:List (Nat × Value)} (hi:Ivt w0 I w) {i:Nat} {rest:List Nat} (f:FuncId) (args:List Value) (j:Nat) {α:Type} {V:α->Value} {Z:α->World->Prop} (q:Kn a n l) (hz:∀ x w1 w2,Alike w1 w2->Z x w1->Z x w2)
 (hc:∀ W,I W->Calls Mz.prog f args.toArray W fun e w2=>∃ x,e=.returned (V x)/\Z x w2/\Below W.heap.size W w2)
 (h:∀ x w1,Ivt w0 (fun w=>I w/\Z x w) w1->Leads Tryz.prog K (b.at (a.put (some j) (V x)) (.inRegion ops rest::k)) cs w1)
 (hb:b.kind=.normal:=by rfl) (hg:badF f=false:=by rfl) (e:∀ d,callR Tryz.prog n d l ops i=some (f,args,j):=by intro d;kernel_rfl):Leads Tryz.prog K (b.at a (.inRegion ops (i::rest)::k)) cs w :=
 co_callP hi f args j q hz (lone_co hi.cl hz hc hg) (fun _ x w1 h1=>h x w1 h1) hb e
end
structure PathIn (ta tb to i:Nat) (qa:Option Addr) (qc:Nat) (l:List Int) (w:World):Prop where
 cell:w.cell? ⟨tb,to+i * 2,none⟩=some (.slice qa l.length qc)
 ints:IntsAt w qa l
 lt:tb < w.heap.size
theorem PathIn.alike {ta tb to i:Nat} {qa:Option Addr} {qc:Nat} {l:List Int} {w w1:World} (h:PathIn ta tb to i qa qc l w) (ha:Alike w w1):PathIn ta tb to i qa qc l w1:=⟨(ha.cell _ _ h.lt).trans h.cell,IntsAt.alike h.ints ha,Nat.lt_of_lt_of_le h.lt ha.size⟩
theorem test_path {w:World} {b:Fbk} {vm vd:Value} {ta:Option Addr} {tb to tc i:Nat} (h:FRaw w b vm vd (.slice ta b.tests.length tc)) (hto:ta=some ⟨tb,to,none⟩) (hi:i < b.tests.length):∃ qa qc,PathIn 0 tb to i qa qc b.tests[i].path w/\b.tests[i].path.length<=qc:=by
 subst hto;obtain ⟨_,_,ta,c,e,hT⟩:=h;cases e;obtain ⟨b',o,e,h1,qa,qc,h2,h3,h4,_⟩:=hT i hi;cases e;exact ⟨qa,qc,⟨h2,h4,h1⟩,h3⟩
theorem ld_ints {a:Act} {o:Oper} {ad:Addr} {v:Value} {x:Operand} (ho:o.op=.load 26 x) (hx:a.eval x=.pointer (some ad)):∀ w:World,w.cell? ad=some v->(execOp a.eval o).run Tryz.prog w=.ok (.value v) w/\∀ e∈(execOp a.eval o).events Tryz.prog w #[],e.loc=.cell ad:=fun w hc=>by
 have ee:execOp a.eval o=execOp (fun _=>.pointer (some ad)) { o with op:=.load 26 x }:=by unfold execOp;rw [ho];simp only [hx]
 rw [ee];exact ⟨by simp [go_sem,hc],fun e he=>by simp [go_sem,hc] at he;rw [he]⟩
attribute [local go_sem] Oper.semAt_some
section
variable {w:World}
theorem asc_at {la:Option Addr} {l:List Int} {lc n:Nat} (hL:IntsAt w la l) (hll:l.length<=1000000) (hn:n<=1000000) (ha:l.Pairwise (· < ·)) (hb:∀ x∈l,0<=x/\x < (n:Int)) :
 Calls Mz.prog 42 #[.slice la l.length lc,.int .i64 (n:Int)] w fun e w'=>e=.returned (.int .i64 0)/\Below w.heap.size w w':=by
 have HL:=Hh hL;have HA:=Hh ha;have HB:=Hh hb;have hwr:IntKind.i64.wrap ((n:Int) - 1)=(n:Int) - 1:=IntWalk.i64_in _ (by omega);clear hL ha hb
 go_enter (mz_func (i:=42) rfl Tryz.func42),Tryz.ntmps42
 go_wp2;go_loopw [5] (fun i wr=>∃ k:Nat,k<=l.length/\i=.int .i64 k/\Below w.heap.size w wr) (fun i _=>l.length - (intOf i).toNat)
 case atStart=>exact ⟨0,Nat.zero_le _,rfl,Below.refl _ _⟩
 case round =>
  obtain ⟨k,hk,rfl,hW⟩:=hrel;by_cases hlt:k < l.length
  ·obtain ⟨pb,po,rfl,hpb,c0⟩:=HL.out k hlt;have c1:=(hW.cell (p:=⟨pb,po+k,none⟩) hpb).trans c0;have hxb:=HB.out l[k] (List.getElem_mem hlt);have hin:inB l[k] 0 ((n:Int) - 1)=true:=by unfold inB;simp;omega
   have hprev:0 < k->∃ y,w.cell? ⟨pb,po+(k - 1),none⟩=some (.int .i64 y)/\y < l[k]:=fun h0=>by
    obtain ⟨pb',po',e,_,c2⟩:=HL.out (k - 1) (by omega);cases e;exact ⟨_,c2,List.pairwise_iff_getElem.1 HA.out (k - 1) k (by omega) hlt (by omega)⟩
   generalize l[k]=x at c0 c1 hxb hin hprev;have HIN:=Hh (fun W=>rin_at (w:=W) hin);clear c0 hin;by_cases h0:k=0
   ·subst h0;clear hprev;rw [Nat.add_zero] at c1;have hk0:decide ((0:Int) < 0)=false:=by decide
    go_wp2_with (go_at_call 43;(with_reducible refine (HIN.out _).mono ?_);rintro e w1 ⟨rfl,hw1⟩;subst hw1)
    go_region
    go_wp2;go_roundw
    case rel=>first | exact ⟨1,hlt,by go_num,hW⟩ | exact ⟨1,hlt,by go_num,bel⟩
    case measure=>simp [intOf];omega
   ·obtain ⟨y,c2,hyx⟩:=hprev (by omega);have c3:=(hW.cell (p:=⟨pb,po+(k - 1),none⟩) hpb).trans c2;obtain ⟨j,rfl⟩:∃ j,k=j+1:=⟨k - 1,by omega⟩;simp only [Nat.add_sub_cancel] at c3;have hgt:decide ((((j+1:Nat):Int)) > 0)=true:=decide_eq_true (by omega);have hge:decide (x<=y)=false:=decide_eq_false (by omega);clear c2;go_wp2_with (go_at_call 43;(with_reducible refine (HIN.out _).mono ?_);rintro e w1 ⟨rfl,hw1⟩;subst hw1)
    go_region
    go_wp2;go_roundw
    case rel=>first | exact ⟨j+1+1,hlt,by go_num,hW⟩ | exact ⟨j+1+1,hlt,by go_num,bel⟩
    case measure=>simp [intOf];omega
  ·obtain rfl:k=l.length:=by omega
   go_wp2;exact bodyPost_ret (v:=.int .i64 0) (by simp [results,Tryz.results42,go_sem, *]) rfl ⟨rfl,hW⟩
end
attribute [local go_sem] Oper.semAt_some
theorem play_al {b:Fbk} (hb:bookAl b=0) {s:Nat->Nat} (h3:∀ k,s k < 3) {l:List Int} (hl:pathAl b.devs.length l=0):playAl b (stL b.devs.length s) l=0:=by
 unfold playAl;rw [if_neg (by simp [hb]),if_neg (by simp [stL_len]),if_neg ?_]
 ·exact hl
 ·simp only [List.any_eq_true,not_exists,not_and,Bool.not_eq_true',Bool.not_eq_false];intro x hx;obtain ⟨k,_,rfl⟩:=List.mem_map.1 hx;have:=h3 k;unfold isSt;have:s k=0\/s k=1\/s k=2:=by omega
  rcases this with h | h | h <;> simp [h]
theorem play_stL {n:Nat} {s:Nat->Nat} {l:List Int} (hl:∀ x∈l,0<=x/\x < (n:Int)):playI (stepsOf (stL n s)) l=playI s l:=playI_congr hl fun j hj=>stepsOf_stL hj
end Mt
namespace Mt
open Go Go.RowKit
theorem row_get {b:Fbk} {s:Nat->Nat} {j:Nat} (hj:j < 6):(rowOf b s).get j=passTo s b.tests b.tests.length j:=by
 have:j=0\/j=1\/j=2\/j=3\/j=4\/j=5:=by omega
 rcases this with rfl | rfl | rfl | rfl | rfl | rfl <;> rfl
theorem row_in {b:Fbk} {s:Nat->Nat} {j:Nat} (hj:j < 6) (h:j < b.tests.length):(rowOf b s).get j=(playI s b.tests[j].path).1:=by
 rw [row_get hj];unfold passTo;simp [h]
theorem mem_twin {b:Fbk} {d k:Nat} {x:Int}:x∈twinTo b d k↔∃ i:Nat,i < k/\x=(i:Int)/\i≠d/\trace b i=trace b d:=by
 unfold twinTo isTwin;simp only [List.mem_map,List.mem_filter,List.mem_range,Bool.and_eq_true,decide_eq_true_eq];constructor
 ·rintro ⟨i,⟨h1,h2,h3⟩,rfl⟩;exact ⟨i,h1,rfl,h2,h3⟩
 ·rintro ⟨i,h1,rfl,h2,h3⟩;exact ⟨i,⟨h1,h2,h3⟩,rfl⟩
theorem twin_mem {b:Fbk} {d k i:Nat}:(i:Int)∈twinTo b d k↔i < k/\i≠d/\trace b i=trace b d:=by
 rw [mem_twin];constructor
 ·rintro ⟨j,h1,e,h2⟩;obtain rfl:i=j:=by omega
  exact ⟨h1,h2⟩
 ·rintro ⟨h1,h2⟩;exact ⟨i,h1,rfl,h2⟩
theorem twin_asc (b:Fbk) (d k:Nat):(twinTo b d k).Pairwise (· < ·):=by
 unfold twinTo;exact List.pairwise_map.2 ((List.pairwise_lt_range.filter _).imp fun h=>Int.ofNat_lt.2 h)
theorem twin_bd {b:Fbk} {d k:Nat}:∀ x∈twinTo b d k,0<=x/\x < (k:Int):=fun x hx=>by
 obtain ⟨i,h1,rfl,_⟩:=mem_twin.1 hx;omega
theorem twin_self {b:Fbk} {d k:Nat}:(d:Int) ∉ twinTo b d k:=fun h=>(twin_mem.1 h).2.1 rfl
theorem twin_sym {b:Fbk} {i j k:Nat} (hi:i < k) (hj:j < k) (hij:i≠j):(j:Int)∈twinTo b i k↔(i:Int)∈twinTo b j k:=by
 rw [twin_mem,twin_mem];exact ⟨fun h=>⟨hi,hij,h.2.2.symm⟩,fun h=>⟨hj,Ne.symm hij,h.2.2.symm⟩⟩
theorem twin_count (b:Fbk) (d:Nat):∀ k,(twinTo b d k).length+(if d < k then 1 else 0)=(List.range k).countP fun i=>decide (trace b i=trace b d)
 | 0=>by simp [twinTo]
 | k+1=>by
  have ih:=twin_count b d k;rw [List.range_succ,List.countP_append,twinTo_succ,List.length_append,List.countP_singleton];unfold isTwin;by_cases h1:k=d
  ·subst h1;simp at ih ⊢;omega
  ·by_cases h2:trace b k=trace b d
   ·by_cases h3:d < k
    ·have h4:d < k+1:=by omega
     simp [h1,h2,h3,h4] at ih ⊢;omega
    ·have h4:¬ d < k+1:=by omega
     simp [h1,h2,h3,h4] at ih ⊢;omega
   ·by_cases h3:d < k
    ·have h4:d < k+1:=by omega
     simp [h1,h2,h3,h4] at ih ⊢;omega
    ·have h4:¬ d < k+1:=by omega
     simp [h1,h2,h3,h4] at ih ⊢;omega
theorem twin_len {b:Fbk} {i j k:Nat} (hi:i < k) (hj:j < k) (h:(j:Int)∈twinTo b i k):(twinTo b i k).length=(twinTo b j k).length:=by
 have e:=(twin_mem.1 h).2.2;have h1:=twin_count b i k;have h2:=twin_count b j k;rw [e] at h2;rw [if_pos hi] at h1;rw [if_pos hj] at h2;omega
theorem twin_trans {b:Fbk} {i j m k:Nat} (h:(j:Int)∈twinTo b i k) (hm:(m:Int)∈twinTo b i k) (hn:m≠j):(m:Int)∈twinTo b j k:=by
 have h1:=twin_mem.1 h;have h2:=twin_mem.1 hm;exact twin_mem.2 ⟨h2.1,hn,h2.2.2.trans h1.2.2.symm⟩
end Mt
namespace Mt
open Go Go.RowKit Go.Maps
attribute [local go_sem] Oper.semAt_some
theorem staInfo2:(Mz.prog.info? 54).map (fun i=>(i.zero,i.size,i.bytes))=some (some (.int .i64 0),1,8):=by
 show (Tryz.prog.info? 54).map _=_
 kernel_rfl
def stas (n:Nat):Array Value:=madeCells #[.int .i64 0] n
def mkS (n:Nat) (W:World):World:=W.alloc (.cells (stas n) 54)
theorem make_stas {n:Nat} {m:Int} (h:(n:Int)=m) (hn:n<=64) (w:World):(Instr.makeSlice 52 (.int .i64 m) (.int .i64 m)).run Mz.prog w=.ok (.slice (some ⟨w.heap.size,0,none⟩) n n) (mkS n w):=by
 subst h;obtain ⟨i0,hi,hz,hsz,hb⟩:=info_parts staInfo2;have h:=run_makeSlice (P:=Mz.prog) w 52 54 i0 (.int .i64 0) (mzu Tryz.underlying52) hi hz .i64 .i64 n n (by omega) (Int.le_refl _) (by rw [hsz];simp;omega) (by rw [hb];omega) (by omega);rw [hsz] at h;simp only [Int.toNat_natCast,Nat.mul_one] at h;exact h
theorem mkS_facts {n:Nat} {w:World}:(mkS n w).heap.size=w.heap.size+1/\(∀ j,j < n->(mkS n w).cell? ⟨w.heap.size,j,none⟩=some (.int .i64 0))/\(∀ j,(mkS n w).frozen? ⟨w.heap.size,j,none⟩=false)/\Below w.heap.size w (mkS n w):=by
 refine ⟨by simp [mkS],fun j hj=>?_,fun j=>?_,Below.al (Below.refl _ _) _⟩
 ·unfold mkS;rw [World.cell?_alloc_at _ _ _ _ rfl];unfold stas madeCells;rw [Array.getElem?_map,Array.getElem?_range,if_pos hj,Option.map_some];simp [Nat.mod_one]
 ·unfold mkS;rw [World.frozen?_alloc_at _ _ _ _ rfl]
theorem one_done {n k v:Nat} (hk:k < n) (W:World):IntsAt ((mkS n W).setCell ⟨W.heap.size,k,none⟩ (.int .i64 (v:Int))) (some ⟨W.heap.size,0,none⟩) (stL n (oneS k v)):=fun i hi=>by
 obtain ⟨m1,m2,_,_⟩:=mkS_facts (n:=n) (w:=W);have hin:i < n:=by rw [stL_len] at hi;exact hi
 refine ⟨W.heap.size,0,rfl,by simp [World.setCell,m1],?_⟩;rw [stL_get,Nat.zero_add];unfold oneS;by_cases e:i=k
 ·subst e;rw [if_pos rfl];exact World.cell?_setCell_same' _ _ _ (by rw [m2 i hin];rfl)
 ·rw [if_neg e,World.cell?_setCell_other (h:=fun e'=>by injection e' with _ e';exact e e'.symm),m2 i hin];rfl
section
variable {w:World} {b:Fbk} {vm vd vt:Value}
theorem justOne_at (hB:FBookAt w b vm vd vt) (h20:b.devs.length<=20) {k v:Nat} (hk:k < b.devs.length) :
 Calls Mz.prog 50 #[.agg #[vm,vd,vt],.int .i64 (k:Int),.int .i64 (v:Int)] w fun e w'=>∃ a:Option Addr,e=.returned (.slice a b.devs.length b.devs.length)/\IntsAt w' a (stL b.devs.length (oneS k v))/\Below w.heap.size w w':=by
 obtain ⟨rfl,⟨da,dc,rfl,_,_⟩,ta,tc,rfl,_,_⟩:=hB;obtain ⟨n,hn⟩:∃ n,b.devs.length=n:=⟨_,rfl⟩;rw [hn] at h20 hk ⊢;clear hn;have hkI:(k:Int) < (n:Int):=by omega
 have hmk:=fun W=>make_stas (n:=n) rfl (by omega) W;obtain ⟨W0,hW0⟩:∃ W0,W0=w.alloc (.cells #[.int .i64 b.most,.slice da n dc,.slice ta b.tests.length tc] 25):=⟨_,rfl⟩;have hs0:W0.heap.size=w.heap.size+1:=by rw [hW0];simp
 have hb0:Below w.heap.size w W0:=by rw [hW0];(exact bel)
 obtain ⟨m1,m2,m3,m4⟩:=mkS_facts (n:=n) (w:=W0);have c0:=m2 k hk;have f0:=m3 k;rw [hs0] at c0 f0;rw [hW0] at c0 f0;have HB0:=Hh hb0;have HM:=Hh (And.intro m1 m4);have HD:=Hh (one_done (v:=v) hk W0);rw [hs0] at HD;clear m1 m2 m3 m4 hb0
 go_enter (mz_func (i:=50) rfl Tryz.func50),Tryz.ntmps50
 go_wp2;rw [<- hW0];exact bodyPost_ret (v:=.slice (some ⟨w.heap.size+1,0,none⟩) n n) (by simp [results,Tryz.results50,go_sem, *]) rfl ⟨_,rfl,HD.out,Below.setCell (Below.next HB0.out HM.out.2) (by show w.heap.size<=w.heap.size+1;omega) _⟩
end
end Mt
namespace Mt
open Go Go.RowKit Go.Maps Go.Conc
attribute [local go_sem] Oper.semAt_some
section
variable {P:Program} {K:Frame->List Frame->World->Prop} {b:Frame} {a:Act} {w0 w:World} {I:World->Prop} {k:List Item} {cs:List Frame} {n N:Nat} {D:List Deferred} {C:Code}
theorem co_loop (hi:Ivt w0 I w) (n:Nat) (L:Nat->List (Nat × Value)) (q:Kn a N (L 0)) (hd:a.defers=D)
 (step:∀ j,j<=n->∀ a w,Ivt w0 I w->a.defers=D->Kn a N (L j)->(j < n->∀ a' w',Ivt w0 I w'->a'.defers=D->Kn a' N (L (j+1))->Leads P K (b.at a' (.inLoop C::k)) cs w')->Leads P K (b.at a (.code C::.inLoop C::k)) cs w) :
 Leads P K (b.at a (.code (.loop C)::k)) cs w:=by
 have key:∀ m j,j+m=n->∀ a w,Ivt w0 I w->a.defers=D->Kn a N (L j)->Leads P K (b.at a (.code C::.inLoop C::k)) cs w:=by
  intro m
  induction m with
  | zero=>exact fun j hj a w h1 h2 h3=>step j (by omega) a w h1 h2 h3 fun h=>by omega
  | succ m ih =>
   intro j hj a w h1 h2 h3;refine step j (by omega) a w h1 h2 h3 fun _ a' w' g1 g2 g3=>?_;exact leads_go (fun d=>rfl) fun d=>ih (j+1) (by omega) a' _ (g1.to (Stays.at w' d)) g2 g3
 exact leads_go (fun d=>rfl) fun d=>key n 0 (by omega) a _ (hi.to (Stays.at w d)) hd q
theorem ix_ints {a:Act} {o:Oper} {p q:Nat} {n tb to c i:Nat} (ho:o.op=.indexAddr 26 (.tmp p) (.tmp q)) (hx:a.tmps[p]? = some (.slice (some ⟨tb,to,none⟩) n c)) (hy:a.tmps[q]? = some (.int .i64 (i:Int))) (hi:i < n) :
 ∀ W:World,(execOp a.eval o).run Tryz.prog W=.ok (.value (.pointer (some ⟨tb,to+i,none⟩))) W/\(execOp a.eval o).events Tryz.prog W #[]=#[]:=fun W=>by
 have hiI:(i:Int) < (n:Int):=by omega
 have e:execOp a.eval o=execOp a.eval { o with op:=.indexAddr 26 (.tmp p) (.tmp q) }:=by unfold execOp;rw [ho]
 rw [e];exact ⟨by simp [go_sem,hx,hy,hiI],by simp [go_sem,hx,hy,hiI]⟩
end
end Mt
end Go.Proofs.YtgkajecjbflbbaaGreatDoor
