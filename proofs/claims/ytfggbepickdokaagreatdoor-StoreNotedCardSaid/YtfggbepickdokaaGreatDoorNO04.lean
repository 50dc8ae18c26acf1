/- Leads to StoreNoted of chapter 6: Law4 NO5 NO6 U15. -/
import Derived.Test.YtfggbepickdokaaGreatDoorNO03
set_option maxHeartbeats 16000000
set_option maxRecDepth 100000
set_option linter.all false
namespace Go.Proofs.YtfggbepickdokaaGreatDoor
open Go.RowKit Sp Mt Go.Conc
def opOk (ops:Array Oper) (ins:List Nat) (i:Nat) (o:Oper):Bool :=
 (o.looksAt ops).all (fun j=>ins.contains j || o.after.toList.any fun e=>Region.binds .any e && (ops[e.on]?).any fun p=>p.dst == some j) &&
 (o.after.toList.all fun e=>decide (e.on < i)) &&
 o.dst.all (fun j=>!ins.contains j && (List.range ops.size).all fun m=>m == i || (ops[m]?).all fun p=>p.dst != some j)
def regOk (ops:Array Oper) (ins:List Nat):Bool:=(List.range ops.size).all fun i=>(ops[i]?).all fun o=>opOk ops ins i o
def tally (S:Nat) (l:Array Bool):Nat:=(List.range S).countP fun i=>l.getD i false
theorem countP_more {p q:Nat→Bool} {i:Nat} (hp:p i=false) (hq:q i=true) (he:∀ j,j≠i→q j=p j):∀ (l:List Nat),l.Nodup→i∈l→l.countP q=l.countP p+1
 | [],_,h=>by cases h
 | x::l,hn,h=>by
  rw [List.nodup_cons] at hn
  by_cases hx:x=i
  ·subst hx
   have:l.countP q=l.countP p:=List.countP_congr fun y hy=>by rw [he y fun e=>hn.1 (e ▸ hy)]
   simp [List.countP_cons,hp,hq,this]
  ·have hm:i∈l:=(List.mem_cons.1 h).resolve_left fun e=>hx e.symm
   have:=countP_more hp hq he l hn.2 hm
   rw [List.countP_cons,List.countP_cons,this,he x hx]
   omega
theorem listed_set {l:Array Bool} {i j:Nat} (hi:i < l.size):(l.setIfInBounds i true).getD j false=if j=i then true else l.getD j false:=by
 by_cases h:j=i
 ·subst h
  simp [Array.getD,hi]
 ·rw [if_neg h]
  simp only [Array.getD_eq_getD_getElem?]
  rw [Array.getElem?_setIfInBounds_ne (fun e=>h e.symm)]
theorem getD_same {l:Array Bool} {i:Nat} (hi:i < l.size):l.getD i true=l.getD i false:=by simp [Array.getD,hi]
section
variable {P:Program} {b:Frame} {a:Act} {w:World} {k:List Item} {cs:List Frame} {K:Frame→List Frame→World→Prop}
theorem leads_region_draw {id:Nat} {ops:Array Oper} (hm:P.follows .mixedOrders=true) (h:∀ t d,Leads P K (b.at a (.inRegion ops (Region.linearise .any ops t)::k)) cs (w.at d)):Leads P K (b.at a (.code (.region id ops true)::k)) cs w :=
 .step fun d=>⟨b.at a (.inRegion ops (Region.linearise .any ops ((w.at d).tape (w.at d).drawn (.order b.fn id)))::k),cs,w.at (d+1),#[],by
  simp [stepG,stepG.exec,G,Frame.at,choose,Sem.run,Question.forced,Question.cut,Region.schedule,hm,World.at],by simp,Nat.le_refl _,h _ _⟩
theorem all_any {ops:Array Oper} {ins:List Nat} {V:Nat→Value} {n:Nat} {w0:World} (hreg:regOk ops ins=true)
 (hstep:∀ (i:Nat) (o:Oper),ops[i]? = some o→∀ (a:Act) (w:World) (rest:List Nat),a.tmps.size=n→a.defers=[]→(∀ j,(o.looksAt ops).contains j=true→a.tmps[j]? = some (V j))→Old w0 w →
   (∀ w1,Old w0 w1→LeadsA P K (b.at (a.put o.dst (V (o.dst.getD 0))) (.inRegion ops rest::k)) cs w1)→LeadsA P K (b.at a (.inRegion ops (i::rest)::k)) cs w)
 (hend:∀ (a:Act) (w:World),a.tmps.size=n→a.defers=[]→(∀ (i:Nat) (o:Oper),ops[i]? = some o→∀ j,o.dst=some j→a.tmps[j]? = some (V j))→Old w0 w→LeadsA P K (b.at a k) cs w)
 (hdn:∀ (i:Nat) (o:Oper),ops[i]? = some o→∀ j,o.dst=some j→j < n) :
 ∀ (fuel t:Nat) (l:Array Bool) (a:Act) (w:World),l.size=ops.size→tally ops.size l+fuel=ops.size→a.tmps.size=n→a.defers=[]→(∀ j∈ins,a.tmps[j]? = some (V j)) →
  (∀ (i:Nat) (o:Oper),ops[i]? = some o→l.getD i false=true→∀ j,o.dst=some j→a.tmps[j]? = some (V j))→Old w0 w →
  LeadsA P K (b.at a (.inRegion ops (Region.linearise.go .any ops fuel t l [])::k)) cs w:=by
 have hR:∀ (i:Nat) (o:Oper),ops[i]? = some o→opOk ops ins i o=true:=fun i o ho=>by
  have hi:i < ops.size:=(Array.getElem?_eq_some_iff.1 ho).1
  have:=List.all_eq_true.1 hreg i (List.mem_range.2 hi)
  rw [ho] at this
  exact this
 have stop:∀ (l:Array Bool) (a:Act) (w:World),(∀ i,i < ops.size→l.getD i false=true)→a.tmps.size=n→a.defers=[] →
  (∀ (i:Nat) (o:Oper),ops[i]? = some o→l.getD i false=true→∀ j,o.dst=some j→a.tmps[j]? = some (V j))→Old w0 w→LeadsA P K (b.at a (.inRegion ops []::k)) cs w:=fun l a w hall hsz hdf hl ho =>
  all_end (hend a w hsz hdf (fun i o hio j hj=>hl i o hio (hall i (Array.getElem?_eq_some_iff.1 hio).1) j hj) ho)
 intro fuel
 induction fuel with
 | zero =>
  intro t l a w hls ht hsz hdf hin hl ho
  have hall:∀ i,i < ops.size→l.getD i false=true:=fun i hi=>by
   have h1:(List.range ops.size).countP (fun i=>l.getD i false)=(List.range ops.size).length:=by rw [List.length_range];unfold tally at ht;omega
   exact List.countP_eq_length.1 h1 i (List.mem_range.2 hi)
  have e:Region.linearise.go .any ops 0 t l []=[]:=by simp [Region.linearise.go]
  rw [e]
  exact stop l a w hall hsz hdf hl ho
 | succ fuel ih =>
  intro t l a w hls ht hsz hdf hin hl ho
  simp only [Region.linearise.go]
  change LeadsA P K (b.at a (.inRegion ops (match (Region.ready .any ops l)[t % (Region.ready .any ops l).length]? with
   | some i=>Region.linearise.go .any ops fuel (t / (Region.ready .any ops l).length) (l.setIfInBounds i true) [i]
   | none=>[].reverse)::k)) cs w
  cases hi:(Region.ready .any ops l)[t % (Region.ready .any ops l).length]? with
  | none =>
   have hnil:Region.ready .any ops l=[]:=by
    cases hr:Region.ready .any ops l with
    | nil=>rfl
    | cons x xs =>
     rw [hr] at hi
     have hlt:t % (x::xs).length < (x::xs).length:=Nat.mod_lt _ (by simp)
     simp at hi
     simp at hlt
     omega
   have hall:∀ i,i < ops.size→l.getD i false=true:=by
    intro i
    induction i using Nat.strongRecOn with
    | _ i ihi =>
     intro his
     have ho':ops[i]? = some ops[i]:=Array.getElem?_eq_getElem his
     have hk:=hR i _ ho'
     simp only [opOk,Bool.and_eq_true,List.all_eq_true,decide_eq_true_eq] at hk
     refine Classical.byContradiction fun hc=>?_
     have hmem:i∈Region.ready .any ops l:=by
      unfold Region.ready
      refine List.mem_filter.2 ⟨List.mem_range.2 his,?_⟩
      rw [ho',getD_same (by omega)]
      simp only [Option.map_some,Option.getD_some,Bool.and_eq_true,Bool.not_eq_true',← Array.all_toList,List.all_eq_true,Bool.or_eq_true]
      exact ⟨by simpa using hc,fun e he=>.inr (ihi _ (hk.1.2 e he) (Nat.lt_trans (hk.1.2 e he) his))⟩
     rw [hnil] at hmem
     cases hmem
   exact stop l a w hall hsz hdf hl ho
  | some i =>
   simp only []
   rw [linearise_go_acc,List.reverse_singleton,List.singleton_append]
   have hmem:=List.mem_of_getElem? hi
   unfold Region.ready at hmem
   obtain ⟨hir,hrd⟩:=List.mem_filter.1 hmem
   have his:=List.mem_range.1 hir
   have ho':ops[i]? = some ops[i]:=Array.getElem?_eq_getElem his
   rw [ho',getD_same (by omega)] at hrd
   simp only [Option.map_some,Option.getD_some,Bool.and_eq_true,Bool.not_eq_true',← Array.all_toList,List.all_eq_true,Bool.or_eq_true] at hrd
   obtain ⟨hun,haf⟩:=hrd
   have hk:=hR i _ ho'
   simp only [opOk,Bool.and_eq_true,List.all_eq_true,Bool.or_eq_true] at hk
   obtain ⟨⟨hlook,_⟩,hdst⟩:=hk
   refine hstep i _ ho' a w _ hsz hdf (fun j hj=>?_) ho fun w1 ho1=>?_
   ·rcases hlook j (by simpa using hj) with h1 | h1
    ·exact hin j (by simpa using h1)
    ·obtain ⟨e,he,h2⟩:=List.any_eq_true.1 h1
     simp only [Bool.and_eq_true] at h2
     obtain ⟨hb,hd⟩:=h2
     cases hp:ops[e.on]? with
     | none=>rw [hp] at hd;simp at hd
     | some p =>
      rw [hp] at hd
      have hd2:p.dst=some j:=by simpa using hd
      refine hl e.on p hp ?_ j hd2
      rcases haf e he with h3 | h3
      ·rw [hb] at h3;simp at h3
      ·exact h3
   ·have hmore:tally ops.size (l.setIfInBounds i true)=tally ops.size l+1:=by
     unfold tally
     refine countP_more (i:=i) hun ?_ (fun j hj=>?_) _ List.nodup_range hir
     ·rw [listed_set (by omega),if_pos rfl]
     ·rw [listed_set (by omega),if_neg hj]
    have hkeep:∀ j v,(∀ d,ops[i].dst=some d→j≠d)→a.tmps[j]? = some v→(a.put ops[i].dst (V (ops[i].dst.getD 0))).tmps[j]? = some v:=fun j v hne hv=>by
     cases hd:ops[i].dst with
     | none=>exact hv
     | some d=>exact (put_keep (hne d hd)).trans hv
    have hsz1:(a.put ops[i].dst (V (ops[i].dst.getD 0))).tmps.size=n:=by
     cases hd:ops[i].dst with
     | none=>exact hsz
     | some d=>exact (Array.size_setIfInBounds).trans hsz
    refine ih _ _ _ _ (by simpa using hls) (by omega) hsz1 ?_ (fun j hj=>?_) (fun m o hm hlm j hj=>?_) ho1
    ·cases hd:ops[i].dst with
     | none=>exact hdf
     | some d=>exact hdf
    ·refine hkeep j _ (fun d hd e=>?_) (hin j hj)
     subst e
     rw [hd] at hdst
     simp [hj] at hdst
    ·by_cases hmi:m=i
     ·subst hmi
      obtain rfl:ops[m]=o:=Option.some.inj (ho'.symm.trans hm)
      rw [hj]
      exact put_at (by rw [hsz];exact hdn m _ hm j hj)
     ·refine hkeep j _ (fun d hd e=>?_) (hl m o hm (by rw [listed_set (by omega),if_neg hmi] at hlm;exact hlm) j hj)
      subst e
      rw [hd] at hdst
      simp only [Option.all_some,Bool.and_eq_true,List.all_eq_true] at hdst
      have:=hdst.2 m (List.mem_range.2 (Array.getElem?_eq_some_iff.1 hm).1)
      rw [hm] at this
      simp [hmi,hj] at this
theorem all_region_draw {id:Nat} {ops:Array Oper} (ins:List Nat) (V:Nat→Value) {n:Nat} {w0:World} (hm:P.follows .mixedOrders=true) (hreg:regOk ops ins=true)
 (hsz:a.tmps.size=n) (hdf:a.defers=[]) (hin:∀ j∈ins,a.tmps[j]? = some (V j)) (ho:Old w0 w)
 (hdn:∀ (i:Nat) (o:Oper),ops[i]? = some o→∀ j,o.dst=some j→j < n)
 (hstep:∀ (i:Nat) (o:Oper),ops[i]? = some o→∀ (a:Act) (w:World) (rest:List Nat),a.tmps.size=n→a.defers=[]→(∀ j,(o.looksAt ops).contains j=true→a.tmps[j]? = some (V j))→Old w0 w →
   (∀ w1,Old w0 w1→LeadsA P K (b.at (a.put o.dst (V (o.dst.getD 0))) (.inRegion ops rest::k)) cs w1)→LeadsA P K (b.at a (.inRegion ops (i::rest)::k)) cs w)
 (hend:∀ (a:Act) (w:World),a.tmps.size=n→a.defers=[]→(∀ (i:Nat) (o:Oper),ops[i]? = some o→∀ j,o.dst=some j→a.tmps[j]? = some (V j))→Old w0 w→LeadsA P K (b.at a k) cs w) :
 LeadsA P K (b.at a (.code (.region id ops true)::k)) cs w:=fun w' t=>leads_region_draw hm fun s d=>by
 refine all_any hreg hstep hend hdn ops.size s (Array.replicate ops.size false) a w (by simp) ?_ hsz hdf hin (fun i o _ hl=>?_) ho _ (t.at0 d)
 ·have:tally ops.size (Array.replicate ops.size false)=0:=by
   unfold tally
   rw [List.countP_eq_zero]
   intro i hi
   have hi2:=List.mem_range.1 hi
   simp [Array.getD,hi2]
  omega
 ·have:(Array.replicate ops.size false).getD i false=false:=by
   simp only [Array.getD_eq_getD_getElem?]
   cases h:(Array.replicate ops.size false)[i]? with
   | none=>rfl
   | some x =>
    obtain ⟨_,h2⟩:=Array.getElem?_eq_some_iff.1 h
    simp at h2
    simp [h2]
  rw [this] at hl
  cases hl
end
section
variable {P:Program} {b:Frame} {a:Act} {w:World} {k:List Item} {cs:List Frame} {K:Frame→List Frame→World→Prop} {ops:Array Oper} {i:Nat} {rest:List Nat} {w0:World} {o:Oper}
theorem oDv (v:Value) (hb:b.kind=.normal) (ho:ops[i]? = some o) (hw:Region.wanted o (yielded ops a.tmps)=true)
 (hx:∀ w',(execOp a.eval o).run P w'=.ok (.value v) w'∧(execOp a.eval o).events P w' #[]=#[]) (hM:Old w0 w)
 (h:∀ w1,Old w0 w1→LeadsA P K (b.at (a.put o.dst v) (.inRegion ops rest::k)) cs w1):LeadsA P K (b.at a (.inRegion ops (i::rest)::k)) cs w :=
 all_op v hb ho hw (fun w'=>(hx w').1) (fun w'=>(hx w').2) (h _ hM)
theorem oDr (v:Value) (hb:b.kind=.normal) (ho:ops[i]? = some o) (hw:Region.wanted o (yielded ops a.tmps)=true) (hM:Old w0 w)
 (hr:∀ w',Old w0 w'→(execOp a.eval o).run P w'=.ok (.value v) w') (he:∀ w',Old w0 w'→∀ e∈(execOp a.eval o).events P w' #[],EvOk w'.heap.size e)
 (h:∀ w1,Old w0 w1→LeadsA P K (b.at (a.put o.dst v) (.inRegion ops rest::k)) cs w1):LeadsA P K (b.at a (.inRegion ops (i::rest)::k)) cs w:=fun w1 t =>
 leads_op v hb ho hw (fun d=>hr _ (hM.twin0 (t.at0 d))) (fun d e hm=>he _ (hM.twin0 (t.at0 d)) e hm) fun d=>h _ (hM.twin0 (t.at0 d)) _ (Twin.refl0 _)
theorem oDc (f:FuncId) (args:Array Value) (v:Value) (hb:b.kind=.normal) (ho:ops[i]? = some o) (hw:Region.wanted o (yielded ops a.tmps)=true)
 (hx:∀ w',(execOp a.eval o).run P w'=.ok (.enter f args) w'∧(execOp a.eval o).events P w' #[]=#[]) (hM:Old w0 w)
 (hc:∀ (c:Frame) (w':World),Old w0 w'→Leads P (fun fr' cs' w1=>∃ v',fr'=c.finish v'∧cs'=cs∧v'=v∧Old w0 w1) (Frame.enter P f args .normal) (c::cs) w')
 (h:∀ w1,Old w0 w1→LeadsA P K (b.at (a.put o.dst v) (.inRegion ops rest::k)) cs w1):LeadsA P K (b.at a (.inRegion ops (i::rest)::k)) cs w:=by
 refine all_call f args hb ho hw (fun w'=>(hx w').1) (fun w'=>(hx w').2) (Z:=fun v' w1=>v'=v∧Old w0 w1) (fun c w' t=>hc c w' (hM.twin0 t)) ?_
 rintro v' w1 ⟨rfl,ho1⟩
 exact h _ ho1
theorem oDs (ho:ops[i]? = some o) (hw:Region.wanted o (yielded ops a.tmps)=false) (hM:Old w0 w)
 (h:∀ w1,Old w0 w1→LeadsA P K (b.at (a.put o.dst undef) (.inRegion ops rest::k)) cs w1):LeadsA P K (b.at a (.inRegion ops (i::rest)::k)) cs w:=fun _ t =>
 leads_go (fun d=>stepG_unwanted ho hw) fun d=>h _ hM _ (t.at0 d)
end
def StepAll (S:Nat→Oper→Prop):Nat→List Oper→Prop
 | _,[]=>True
 | i,o::l=>S i o∧StepAll S (i+1) l
theorem StepAll.get {S:Nat→Oper→Prop}:∀ {l:List Oper} {m i:Nat} {o:Oper},StepAll S m l→l[i]? = some o→S (m+i) o
 | [],_,_,_,_,h=>by simp at h
 | x::l,m,0,o,hs,h=>by
  simp at h
  subst h
  exact hs.1
 | x::l,m,i+1,o,hs,h=>by
  have:=StepAll.get (i:=i) hs.2 (by simpa using h)
  rwa [show m+1+i=m+(i+1) by omega] at this
theorem draw_all {P:Program} {b:Frame} {a:Act} {w:World} {k:List Item} {cs:List Frame} {K:Frame→List Frame→World→Prop} {id:Nat} {ops:Array Oper} (ins:List (Nat × Value)) (V:Nat→Value) {n:Nat} {w0:World} (hm:P.follows .mixedOrders=true) (hreg:regOk ops (ins.map (·.1))=true)
 (q:Kn a n ins) (hin:ins.map (fun x=>V x.1)=ins.map (·.2)) (ho:Old w0 w) (hdn:(ops.toList.all fun o=>o.dst.all fun j=>decide (j < n))=true)
 (hstep:StepAll (fun i o=>∀ (a:Act) (w:World) (rest:List Nat),(∀ j,(o.looksAt ops).contains j=true→a.tmps[j]? = some (V j))→Old w0 w →
   (∀ w1,Old w0 w1→LeadsA P K (b.at (a.put o.dst (V (o.dst.getD 0))) (.inRegion ops rest::k)) cs w1)→LeadsA P K (b.at a (.inRegion ops (i::rest)::k)) cs w) 0 ops.toList)
 (hend:∀ (a:Act) (w:World),a.defers=[]→(∀ (i:Nat) (o:Oper),ops[i]? = some o→∀ j,o.dst=some j→a.tmps[j]? = some (V j))→Old w0 w→LeadsA P K (b.at a k) cs w) :
 LeadsA P K (b.at a (.code (.region id ops true)::k)) cs w:=by
 refine all_region_draw (ins.map (·.1)) V hm hreg q.sz q.df (fun j hj=>?_) ho (fun i o hi j hj=>?_) (fun i o hi a w rest _ _ kn hM h=>?_) (fun a w _ df kn hM=>hend a w df kn hM)
 ·obtain ⟨x,hx,rfl⟩:=List.mem_map.1 hj
  have hv:V x.1=x.2:=List.map_inj_left.1 hin x hx
  rw [hv]
  have hk:=q.kn
  clear hreg hin hj
  revert hk
  induction ins with
  | nil=>cases hx
  | cons y l ih =>
   intro hk
   rcases List.mem_cons.1 hx with rfl | hx
   ·exact hk.1
   ·exact ih ⟨q.sz,q.df,hk.2⟩ hx hk.2
 ·have:=List.all_eq_true.1 hdn o (List.mem_of_getElem? (by simpa using hi))
  rw [hj] at this
  simpa using this
 ·have:=hstep.get (i:=i) (o:=o) (by simpa using hi)
  rw [Nat.zero_add] at this
  exact this a w rest kn hM h
end Go.Proofs.YtfggbepickdokaaGreatDoor
namespace Go.Proofs.YtfggbepickdokaaGreatDoor
open Go.RowKit Go.Maps Sp Mt Go.Conc
variable {B X O P mc sc iN kN:Nat} {b:Bk} {r:Rec} {s s2 t n m u:Int} {vr vg vm vs vc ur ug um us uc y0:Value} {w w0:World} {d:Nat→Value}
theorem no_leaves {a:Act} {k:List Item} (g6:a.tmps[8]? = some (.bool true)) (df:a.defers=[]) (h:Old w0 w) :
 Leaving0 Tryz.prog (fun v w'=>v=.bool true∧Old w0 w') { (Go.Conc.base 4).at a k with mode:=.returning } [] w:=by
 refine ⟨rfl,rfl,rfl,df,by kernel_rfl,.bool true,_,Tryz.func4,fun d=>⟨⟨rfl,h.at d⟩,#[],?_,by simp⟩⟩
 rw [Sem.runT_eq]
 refine Prod.ext ?_ ?_ <;> simp [results,Tryz.results4,go_sem,Frame.at,Go.Conc.base,g6]
theorem noFrame {c:Code} {x0 x1 x2 x3:Value} (hc:Tryz.f4.body=some c):Frame.enter Tryz.prog 4 #[x0,x1,x2,x3] .normal=(Go.Conc.base 4).at (nI x0 x1 x2 x3 fun _=>undef) [.code c]:=by
 rw [Go.Conc.enter_at #[x0,x1,x2,x3] Tryz.func4 hc]
 simp only [Tryz.ntmps4,nI,List.size_toArray,List.length_cons,List.length_nil,Nat.reduceAdd,Nat.reduceSub,Array.replicate_succ,Array.replicate_zero,List.push_toArray,List.append_toArray,List.nil_append,List.cons_append]
theorem stored_old {w':World} (hK:KindsAt w) (t:Old w w') (c:Frame) (cs:List Frame):Leads Tryz.prog (fun fr' cs' w1=>∃ v,fr'=c.finish v∧cs'=cs∧v=.bool true∧Old w w1) (Frame.enter Tryz.prog 8 #[] .normal) (c::cs) w':=by
 refine (stored_co (t.kinds hK) c cs).mono ?_
 rintro fr' cs' w2 ⟨h1,h2,ho⟩
 exact ⟨_,h1,h2,rfl,t.trans ho⟩
theorem no_early2 (hold:Old w0 w) (hK:KindsAt w)  {a:Act} (q:Kn a 238 []) {kk:List Item} :
 LeadsA Tryz.prog (Leaving0 Tryz.prog fun v w'=>v=.bool true∧Old w0 w') ((Go.Conc.base 4).at a (.code (cnd (sqr (no 1)))::kk)) [] w:=by
 have nb:(Go.Conc.base 4).kind=.normal:=rfl
 simp only [no,sqN,sql,sqr,cnd,blk,lpc,Tryz.f4,Option.getD_some]
 refine all_seq ?_
 refine all_region ?_
 simp only [List.size_toArray,List.length_cons,List.length_nil,Nat.reduceAdd,Nat.zero_add,List.range,List.range.loop]
 refine sc 8 #[] nb rfl rfl rfl (fun w'=>by simp [go_sem];exact ev_call Tryz.func8 (by kernel_rfl) (by kernel_rfl)) q (by decide) rfl (v:=.bool true) (fun c w' t=>stored_lead3 hK t _ _) fun _ _ ho q=>?_
 replace hK:=ho.kinds hK
 replace hold:=hold.trans ho
 clear ho
 refine st (.bool true) nb rfl rfl rfl (fun _=>by simp [go_sem,q.g 45 rfl]) q (by decide) rfl fun _ q=>?_
 refine all_end ?_
 refine all_ret ?_
 intro w' t
 exact .done (no_leaves (q.g 8 rfl) q.df (hold.twin0 t))
theorem no_early8 (hold:Old w0 w) (hK:KindsAt w) (hP:BxSt w P noBook ur ug um us uc) (hpl:P < w.heap.size) {a:Act} (q:Kn a 238 [(10,.pointer (some ⟨P,0,none⟩)),(11,.int .i64 t),(12,.int .i64 t)]) {kk:List Item} :
 LeadsA Tryz.prog (Leaving0 Tryz.prog fun v w'=>v=.bool true∧Old w0 w') ((Go.Conc.base 4).at a (.code (cnd (sqr (sqr (no 5))))::kk)) [] w:=by
 have nb:(Go.Conc.base 4).kind=.normal:=rfl
 simp only [no,sqN,sql,sqr,cnd,blk,lpc,Tryz.f4,Option.getD_some]
 refine all_seq ?_
 refine all_region ?_
 simp only [List.size_toArray,List.length_cons,List.length_nil,Nat.reduceAdd,Nat.zero_add,List.range,List.range.loop]
 refine st (.int .i64 t) nb rfl rfl rfl (fun _=>by simp [go_sem,q.g 11 rfl]) q (by decide) rfl fun _ q=>?_
 refine st (.int .i64 t) nb rfl rfl rfl (fun _=>by simp [go_sem,q.g 12 rfl]) q (by decide) rfl fun _ q=>?_
 refine st (.bool true) nb rfl rfl rfl (fun _=>by simp [go_sem,q.g 65 rfl,q.g 66 rfl]) q (by decide) rfl fun _ q=>?_
 refine st (.bool true) nb rfl rfl rfl (fun _=>by simp [go_sem,q.g 67 rfl]) q (by decide) rfl fun _ q=>?_
 refine sr (.agg #[ur,ug,um,us,uc]) nb rfl rfl (wanted_g rfl rfl rfl (q.g 68 rfl)) (fun w' t=>by simp [go_sem,q.g 10 rfl,show w'.cell? ⟨P,0,none⟩=some (ur) from (t.cell _).trans hP.c0,show w'.cell? ⟨P,1,none⟩=some (ug) from (t.cell _).trans hP.c1,show w'.cell? ⟨P,2,none⟩=some (um) from (t.cell _).trans hP.c2,show w'.cell? ⟨P,3,none⟩=some (us) from (t.cell _).trans hP.c3,show w'.cell? ⟨P,4,none⟩=some (uc) from (t.cell _).trans hP.c4]) (fun w' t=>by simp [go_sem,q.g 10 rfl,EvOk,show w'.cell? ⟨P,0,none⟩=some (ur) from (t.cell _).trans hP.c0,show w'.cell? ⟨P,1,none⟩=some (ug) from (t.cell _).trans hP.c1,show w'.cell? ⟨P,2,none⟩=some (um) from (t.cell _).trans hP.c2,show w'.cell? ⟨P,3,none⟩=some (us) from (t.cell _).trans hP.c3,show w'.cell? ⟨P,4,none⟩=some (uc) from (t.cell _).trans hP.c4,show P < w'.heap.size from by rw [t.size];exact hpl]) q (by decide) rfl fun _ q=>?_
 refine st (.agg #[.int .i64 0,.int .i64 0,.slice none 0 0,.slice none 0 0,.slice none 0 0]) nb rfl rfl (wanted_g rfl rfl rfl (q.g 68 rfl)) (fun _=>by simp [go_sem]) q (by decide) rfl fun _ q=>?_
 refine sc 24 #[.agg #[ur,ug,um,us,uc],.agg #[.int .i64 0,.int .i64 0,.slice none 0 0,.slice none 0 0,.slice none 0 0]] nb rfl rfl (wanted_g rfl rfl rfl (q.g 68 rfl)) (fun w'=>by simp [go_sem,q.g 69 rfl,q.g 70 rfl];exact ev_call Tryz.func24 (by kernel_rfl) (by kernel_rfl)) q (by decide) rfl (v:=.bool true) (fun c w' t=>lone_call (v:=.bool true) t fun W hW=>(same_at (hW.book hP.bk) (noBook_at W)).mono (by rintro e w2 ⟨rfl,hb⟩;exact ⟨rfl,hb⟩)) fun _ _ ho q=>?_
 replace hK:=ho.kinds hK
 replace hold:=hold.trans ho
 clear ho
 refine st (.bool true) nb rfl rfl rfl (fun _=>by simp [go_sem,q.g 68 rfl,q.g 71 rfl]) q (by decide) rfl fun _ q=>?_
 refine st (.bool true) nb rfl rfl rfl (fun _=>by simp [go_sem,q.g 72 rfl]) q (by decide) rfl fun _ q=>?_
 refine sc 8 #[] nb rfl rfl (wanted_g rfl rfl rfl (q.g 73 rfl)) (fun w'=>by simp [go_sem];exact ev_call Tryz.func8 (by kernel_rfl) (by kernel_rfl)) q (by decide) rfl (v:=.bool true) (fun c w' t=>stored_lead3 hK t _ _) fun _ _ ho q=>?_
 replace hK:=ho.kinds hK
 replace hold:=hold.trans ho
 clear ho
 refine st (.bool true) nb rfl rfl rfl (fun _=>by simp [go_sem,q.g 73 rfl,q.g 74 rfl]) q (by decide) rfl fun _ q=>?_
 refine st (.bool true) nb rfl rfl rfl (fun _=>by simp [go_sem,q.g 75 rfl]) q (by decide) rfl fun _ q=>?_
 refine all_end ?_
 refine all_ret ?_
 intro w' t
 exact .done (no_leaves (q.g 8 rfl) q.df (hold.twin0 t))
theorem no_early14 (hold:Old w0 w) (hK:KindsAt w) (hP:BxSt w P noBook ur ug um us uc) (hpl:P < w.heap.size) {a:Act} (q:Kn a 238 [(10,.pointer (some ⟨P,0,none⟩)),(11,.int .i64 10)]) {kk:List Item} :
 LeadsA Tryz.prog (Leaving0 Tryz.prog fun v w'=>v=.bool true∧Old w0 w') ((Go.Conc.base 4).at a (.code (cnd (sqr (no 9)))::kk)) [] w:=by
 have nb:(Go.Conc.base 4).kind=.normal:=rfl
 simp only [no,sqN,sql,sqr,cnd,blk,lpc,Tryz.f4,Option.getD_some]
 refine all_seq ?_
 refine all_region ?_
 simp only [List.size_toArray,List.length_cons,List.length_nil,Nat.reduceAdd,Nat.zero_add,List.range,List.range.loop]
 refine st (.int .i64 10) nb rfl rfl rfl (fun _=>by simp [go_sem,q.g 11 rfl]) q (by decide) rfl fun _ q=>?_
 refine st (.bool true) nb rfl rfl rfl (fun _=>by simp [go_sem,q.g 100 rfl]) q (by decide) rfl fun _ q=>?_
 refine st (.bool true) nb rfl rfl rfl (fun _=>by simp [go_sem,q.g 101 rfl]) q (by decide) rfl fun _ q=>?_
 refine sr (.agg #[ur,ug,um,us,uc]) nb rfl rfl (wanted_g rfl rfl rfl (q.g 102 rfl)) (fun w' t=>by simp [go_sem,q.g 10 rfl,show w'.cell? ⟨P,0,none⟩=some (ur) from (t.cell _).trans hP.c0,show w'.cell? ⟨P,1,none⟩=some (ug) from (t.cell _).trans hP.c1,show w'.cell? ⟨P,2,none⟩=some (um) from (t.cell _).trans hP.c2,show w'.cell? ⟨P,3,none⟩=some (us) from (t.cell _).trans hP.c3,show w'.cell? ⟨P,4,none⟩=some (uc) from (t.cell _).trans hP.c4]) (fun w' t=>by simp [go_sem,q.g 10 rfl,EvOk,show w'.cell? ⟨P,0,none⟩=some (ur) from (t.cell _).trans hP.c0,show w'.cell? ⟨P,1,none⟩=some (ug) from (t.cell _).trans hP.c1,show w'.cell? ⟨P,2,none⟩=some (um) from (t.cell _).trans hP.c2,show w'.cell? ⟨P,3,none⟩=some (us) from (t.cell _).trans hP.c3,show w'.cell? ⟨P,4,none⟩=some (uc) from (t.cell _).trans hP.c4,show P < w'.heap.size from by rw [t.size];exact hpl]) q (by decide) rfl fun _ q=>?_
 refine st (.agg #[.int .i64 0,.int .i64 0,.slice none 0 0,.slice none 0 0,.slice none 0 0]) nb rfl rfl (wanted_g rfl rfl rfl (q.g 102 rfl)) (fun _=>by simp [go_sem]) q (by decide) rfl fun _ q=>?_
 refine sc 24 #[.agg #[ur,ug,um,us,uc],.agg #[.int .i64 0,.int .i64 0,.slice none 0 0,.slice none 0 0,.slice none 0 0]] nb rfl rfl (wanted_g rfl rfl rfl (q.g 102 rfl)) (fun w'=>by simp [go_sem,q.g 103 rfl,q.g 104 rfl];exact ev_call Tryz.func24 (by kernel_rfl) (by kernel_rfl)) q (by decide) rfl (v:=.bool true) (fun c w' t=>lone_call (v:=.bool true) t fun W hW=>(same_at (hW.book hP.bk) (noBook_at W)).mono (by rintro e w2 ⟨rfl,hb⟩;exact ⟨rfl,hb⟩)) fun _ _ ho q=>?_
 replace hK:=ho.kinds hK
 replace hold:=hold.trans ho
 clear ho
 refine st (.bool true) nb rfl rfl rfl (fun _=>by simp [go_sem,q.g 102 rfl,q.g 105 rfl]) q (by decide) rfl fun _ q=>?_
 refine st (.bool true) nb rfl rfl rfl (fun _=>by simp [go_sem,q.g 106 rfl]) q (by decide) rfl fun _ q=>?_
 refine sc 8 #[] nb rfl rfl (wanted_g rfl rfl rfl (q.g 107 rfl)) (fun w'=>by simp [go_sem];exact ev_call Tryz.func8 (by kernel_rfl) (by kernel_rfl)) q (by decide) rfl (v:=.bool true) (fun c w' t=>stored_lead3 hK t _ _) fun _ _ ho q=>?_
 replace hK:=ho.kinds hK
 replace hold:=hold.trans ho
 clear ho
 refine st (.bool true) nb rfl rfl rfl (fun _=>by simp [go_sem,q.g 107 rfl,q.g 108 rfl]) q (by decide) rfl fun _ q=>?_
 refine st (.bool true) nb rfl rfl rfl (fun _=>by simp [go_sem,q.g 109 rfl]) q (by decide) rfl fun _ q=>?_
 refine all_end ?_
 refine all_ret ?_
 intro w' t
 exact .done (no_leaves (q.g 8 rfl) q.df (hold.twin0 t))
theorem no_last0 {cb co cn cc db do2 dn dc:Nat} {ce:Int} (hold:Old w0 w) (hK:KindsAt w) (hkc:kN < cn) (hc:w.cell? ⟨cb,co+kN,none⟩=some (.int .i64 ce)) (h1:(ce == 0)=true) {a:Act} (q:Kn a 238 [(18,.int .i64 (kN:Int)),(25,.slice (some ⟨cb,co,none⟩) cn cc),(27,.slice (some ⟨db,do2,none⟩) dn dc)]) :
 LeadsA Tryz.prog (Leaving0 Tryz.prog fun v w'=>v=.bool true∧Old w0 w') ((Go.Conc.base 4).at a [.code (.seq (no 20) .ret)]) [] w:=by
 have hcl:=lt_of_cell hc
 simp only at hcl
 have nb:(Go.Conc.base 4).kind=.normal:=rfl
 simp only [no,sqN,sql,sqr,cnd,blk,lpc,Tryz.f4,Option.getD_some]
 refine all_seq ?_
 refine draw_all [(18,.int .i64 (kN:Int)),(25,.slice (some ⟨cb,co,none⟩) cn cc),(27,.slice (some ⟨db,do2,none⟩) dn dc)] (fun j=>(List.lookup j [(18,.int .i64 (kN:Int)),(25,.slice (some ⟨cb,co,none⟩) cn cc),(27,.slice (some ⟨db,do2,none⟩) dn dc),(219,.slice (some ⟨cb,co,none⟩) cn cc),(220,.int .i64 (kN:Int)),(221,.pointer (some ⟨cb,co+kN,none⟩)),(222,.int .i64 ce),(223,.bool true),(224,.bool true),(225,undef),(226,undef),(227,undef),(228,undef),(229,undef),(230,undef),(231,undef),(232,undef),(233,undef),(234,.bool true),(235,.bool true),(236,.bool true),(237,.bool true),(8,.bool true)]).getD undef) (by kernel_rfl) (by kernel_rfl) q rfl (Old.refl _) (by kernel_rfl) ?_ ?_
 ·refine ⟨?_,?_,?_,?_,?_,?_,?_,?_,?_,?_,?_,?_,?_,?_,?_,?_,?_,?_,?_,?_,trivial⟩
  ·intro a w rest kn hM h
   have g25:a.tmps[25]? = some (.slice (some ⟨cb,co,none⟩) cn cc):=kn 25 rfl
   exact oDv (.slice (some ⟨cb,co,none⟩) cn cc) nb rfl rfl (fun _=>by simp [go_sem,g25]) hM h
  ·intro a w rest kn hM h
   have g18:a.tmps[18]? = some (.int .i64 (kN:Int)):=kn 18 rfl
   exact oDv (.int .i64 (kN:Int)) nb rfl rfl (fun _=>by simp [go_sem,g18]) hM h
  ·intro a w rest kn hM h
   have g219:a.tmps[219]? = some (.slice (some ⟨cb,co,none⟩) cn cc):=kn 219 rfl
   have g220:a.tmps[220]? = some (.int .i64 (kN:Int)):=kn 220 rfl
   exact oDv (.pointer (some ⟨cb,co+kN,none⟩)) nb rfl rfl (fun _=>by simp [go_sem,g219,g220,hkc]) hM h
  ·intro a w rest kn hM h
   have g221:a.tmps[221]? = some (.pointer (some ⟨cb,co+kN,none⟩)):=kn 221 rfl
   exact oDr (.int .i64 ce) nb rfl rfl hM (fun w' t=>by simp [go_sem,g221,show w'.cell? ⟨cb,co+kN,none⟩=some (.int .i64 ce) from t.cell2 hc]) (fun w' t=>by simp [go_sem,g221,EvOk,show w'.cell? ⟨cb,co+kN,none⟩=some (.int .i64 ce) from t.cell2 hc,show cb < w'.heap.size from Nat.lt_of_lt_of_le hcl t.size]) h
  ·intro a w rest kn hM h
   have g222:a.tmps[222]? = some (.int .i64 ce):=kn 222 rfl
   exact oDv (.bool true) nb rfl rfl (fun _=>by simp [go_sem,g222,h1]) hM h
  ·intro a w rest kn hM h
   have g223:a.tmps[223]? = some (.bool true):=kn 223 rfl
   exact oDv (.bool true) nb rfl rfl (fun _=>by simp [go_sem,g223]) hM h
  ·intro a w rest kn hM h
   have g224:a.tmps[224]? = some (.bool true):=kn 224 rfl
   exact oDs rfl (unwanted_g rfl rfl rfl g224) hM h
  ·intro a w rest kn hM h
   have g224:a.tmps[224]? = some (.bool true):=kn 224 rfl
   exact oDs rfl (unwanted_g rfl rfl rfl g224) hM h
  ·intro a w rest kn hM h
   have g224:a.tmps[224]? = some (.bool true):=kn 224 rfl
   exact oDs rfl (unwanted_g rfl rfl rfl g224) hM h
  ·intro a w rest kn hM h
   have g224:a.tmps[224]? = some (.bool true):=kn 224 rfl
   exact oDs rfl (unwanted_g rfl rfl rfl g224) hM h
  ·intro a w rest kn hM h
   have g224:a.tmps[224]? = some (.bool true):=kn 224 rfl
   exact oDs rfl (unwanted_g rfl rfl rfl g224) hM h
  ·intro a w rest kn hM h
   have g224:a.tmps[224]? = some (.bool true):=kn 224 rfl
   exact oDs rfl (unwanted_g rfl rfl rfl g224) hM h
  ·intro a w rest kn hM h
   have g224:a.tmps[224]? = some (.bool true):=kn 224 rfl
   exact oDs rfl (unwanted_g rfl rfl rfl g224) hM h
  ·intro a w rest kn hM h
   have g224:a.tmps[224]? = some (.bool true):=kn 224 rfl
   exact oDs rfl (unwanted_g rfl rfl rfl g224) hM h
  ·intro a w rest kn hM h
   have g224:a.tmps[224]? = some (.bool true):=kn 224 rfl
   exact oDs rfl (unwanted_g rfl rfl rfl g224) hM h
  ·intro a w rest kn hM h
   have g224:a.tmps[224]? = some (.bool true):=kn 224 rfl
   have g233:a.tmps[233]? = some (undef):=kn 233 rfl
   exact oDv (.bool true) nb rfl rfl (fun _=>by simp [go_sem,g224,g233]) hM h
  ·intro a w rest kn hM h
   have g234:a.tmps[234]? = some (.bool true):=kn 234 rfl
   exact oDv (.bool true) nb rfl rfl (fun _=>by simp [go_sem,g234]) hM h
  ·intro a w rest kn hM h
   have g235:a.tmps[235]? = some (.bool true):=kn 235 rfl
   exact oDc 8 #[] (.bool true) nb rfl (wanted_g rfl rfl rfl g235) (fun w'=>by simp [go_sem];exact ev_call Tryz.func8 (by kernel_rfl) (by kernel_rfl)) hM (fun c w' t=>stored_old hK t _ _) h
  ·intro a w rest kn hM h
   have g235:a.tmps[235]? = some (.bool true):=kn 235 rfl
   have g236:a.tmps[236]? = some (.bool true):=kn 236 rfl
   exact oDv (.bool true) nb rfl rfl (fun _=>by simp [go_sem,g235,g236]) hM h
  ·intro a w rest kn hM h
   have g237:a.tmps[237]? = some (.bool true):=kn 237 rfl
   exact oDv (.bool true) nb rfl rfl (fun _=>by simp [go_sem,g237]) hM h
 ·intro a1 w1 df kn hM
  have g10:a1.tmps[8]? = some (.bool true):=kn 19 _ rfl 8 rfl
  refine all_ret ?_
  intro w' t
  exact .done (no_leaves g10 df ((hold.trans hM).twin0 t))
theorem no_last1 {cb co cn cc db do2 dn dc:Nat} {ce:Int} (hold:Old w0 w) (hK:KindsAt w) (hkc:kN < cn) (hc:w.cell? ⟨cb,co+kN,none⟩=some (.int .i64 ce)) (h1:(ce == 0)=false) (hkd:kN < dn) (hd:w.cell? ⟨db,do2+kN,none⟩=some (.int .i64 ce)) {a:Act} (q:Kn a 238 [(18,.int .i64 (kN:Int)),(25,.slice (some ⟨cb,co,none⟩) cn cc),(27,.slice (some ⟨db,do2,none⟩) dn dc)]) :
 LeadsA Tryz.prog (Leaving0 Tryz.prog fun v w'=>v=.bool true∧Old w0 w') ((Go.Conc.base 4).at a [.code (.seq (no 20) .ret)]) [] w:=by
 have hcl:=lt_of_cell hc
 have hdl:=lt_of_cell hd
 simp only at hcl hdl
 have nb:(Go.Conc.base 4).kind=.normal:=rfl
 simp only [no,sqN,sql,sqr,cnd,blk,lpc,Tryz.f4,Option.getD_some]
 refine all_seq ?_
 refine draw_all [(18,.int .i64 (kN:Int)),(25,.slice (some ⟨cb,co,none⟩) cn cc),(27,.slice (some ⟨db,do2,none⟩) dn dc)] (fun j=>(List.lookup j [(18,.int .i64 (kN:Int)),(25,.slice (some ⟨cb,co,none⟩) cn cc),(27,.slice (some ⟨db,do2,none⟩) dn dc),(219,.slice (some ⟨cb,co,none⟩) cn cc),(220,.int .i64 (kN:Int)),(221,.pointer (some ⟨cb,co+kN,none⟩)),(222,.int .i64 ce),(223,.bool false),(224,.bool false),(225,.slice (some ⟨db,do2,none⟩) dn dc),(226,.int .i64 (kN:Int)),(227,.pointer (some ⟨db,do2+kN,none⟩)),(228,.int .i64 ce),(229,.slice (some ⟨cb,co,none⟩) cn cc),(230,.int .i64 (kN:Int)),(231,.pointer (some ⟨cb,co+kN,none⟩)),(232,.int .i64 ce),(233,.bool true),(234,.bool true),(235,.bool true),(236,.bool true),(237,.bool true),(8,.bool true)]).getD undef) (by kernel_rfl) (by kernel_rfl) q rfl (Old.refl _) (by kernel_rfl) ?_ ?_
 ·refine ⟨?_,?_,?_,?_,?_,?_,?_,?_,?_,?_,?_,?_,?_,?_,?_,?_,?_,?_,?_,?_,trivial⟩
  ·intro a w rest kn hM h
   have g25:a.tmps[25]? = some (.slice (some ⟨cb,co,none⟩) cn cc):=kn 25 rfl
   exact oDv (.slice (some ⟨cb,co,none⟩) cn cc) nb rfl rfl (fun _=>by simp [go_sem,g25]) hM h
  ·intro a w rest kn hM h
   have g18:a.tmps[18]? = some (.int .i64 (kN:Int)):=kn 18 rfl
   exact oDv (.int .i64 (kN:Int)) nb rfl rfl (fun _=>by simp [go_sem,g18]) hM h
  ·intro a w rest kn hM h
   have g219:a.tmps[219]? = some (.slice (some ⟨cb,co,none⟩) cn cc):=kn 219 rfl
   have g220:a.tmps[220]? = some (.int .i64 (kN:Int)):=kn 220 rfl
   exact oDv (.pointer (some ⟨cb,co+kN,none⟩)) nb rfl rfl (fun _=>by simp [go_sem,g219,g220,hkc]) hM h
  ·intro a w rest kn hM h
   have g221:a.tmps[221]? = some (.pointer (some ⟨cb,co+kN,none⟩)):=kn 221 rfl
   exact oDr (.int .i64 ce) nb rfl rfl hM (fun w' t=>by simp [go_sem,g221,show w'.cell? ⟨cb,co+kN,none⟩=some (.int .i64 ce) from t.cell2 hc]) (fun w' t=>by simp [go_sem,g221,EvOk,show w'.cell? ⟨cb,co+kN,none⟩=some (.int .i64 ce) from t.cell2 hc,show cb < w'.heap.size from Nat.lt_of_lt_of_le hcl t.size]) h
  ·intro a w rest kn hM h
   have g222:a.tmps[222]? = some (.int .i64 ce):=kn 222 rfl
   exact oDv (.bool false) nb rfl rfl (fun _=>by simp [go_sem,g222,h1]) hM h
  ·intro a w rest kn hM h
   have g223:a.tmps[223]? = some (.bool false):=kn 223 rfl
   exact oDv (.bool false) nb rfl rfl (fun _=>by simp [go_sem,g223]) hM h
  ·intro a w rest kn hM h
   have g27:a.tmps[27]? = some (.slice (some ⟨db,do2,none⟩) dn dc):=kn 27 rfl
   have g224:a.tmps[224]? = some (.bool false):=kn 224 rfl
   exact oDv (.slice (some ⟨db,do2,none⟩) dn dc) nb rfl (wanted_g rfl rfl rfl g224) (fun _=>by simp [go_sem,g27]) hM h
  ·intro a w rest kn hM h
   have g18:a.tmps[18]? = some (.int .i64 (kN:Int)):=kn 18 rfl
   have g224:a.tmps[224]? = some (.bool false):=kn 224 rfl
   exact oDv (.int .i64 (kN:Int)) nb rfl (wanted_g rfl rfl rfl g224) (fun _=>by simp [go_sem,g18]) hM h
  ·intro a w rest kn hM h
   have g225:a.tmps[225]? = some (.slice (some ⟨db,do2,none⟩) dn dc):=kn 225 rfl
   have g226:a.tmps[226]? = some (.int .i64 (kN:Int)):=kn 226 rfl
   have g224:a.tmps[224]? = some (.bool false):=kn 224 rfl
   exact oDv (.pointer (some ⟨db,do2+kN,none⟩)) nb rfl (wanted_g rfl rfl rfl g224) (fun _=>by simp [go_sem,g225,g226,hkd]) hM h
  ·intro a w rest kn hM h
   have g227:a.tmps[227]? = some (.pointer (some ⟨db,do2+kN,none⟩)):=kn 227 rfl
   have g224:a.tmps[224]? = some (.bool false):=kn 224 rfl
   exact oDr (.int .i64 ce) nb rfl (wanted_g rfl rfl rfl g224) hM (fun w' t=>by simp [go_sem,g227,show w'.cell? ⟨db,do2+kN,none⟩=some (.int .i64 ce) from t.cell2 hd]) (fun w' t=>by simp [go_sem,g227,EvOk,show w'.cell? ⟨db,do2+kN,none⟩=some (.int .i64 ce) from t.cell2 hd,show db < w'.heap.size from Nat.lt_of_lt_of_le hdl t.size]) h
  ·intro a w rest kn hM h
   have g25:a.tmps[25]? = some (.slice (some ⟨cb,co,none⟩) cn cc):=kn 25 rfl
   have g224:a.tmps[224]? = some (.bool false):=kn 224 rfl
   exact oDv (.slice (some ⟨cb,co,none⟩) cn cc) nb rfl (wanted_g rfl rfl rfl g224) (fun _=>by simp [go_sem,g25]) hM h
  ·intro a w rest kn hM h
   have g18:a.tmps[18]? = some (.int .i64 (kN:Int)):=kn 18 rfl
   have g224:a.tmps[224]? = some (.bool false):=kn 224 rfl
   exact oDv (.int .i64 (kN:Int)) nb rfl (wanted_g rfl rfl rfl g224) (fun _=>by simp [go_sem,g18]) hM h
  ·intro a w rest kn hM h
   have g229:a.tmps[229]? = some (.slice (some ⟨cb,co,none⟩) cn cc):=kn 229 rfl
   have g230:a.tmps[230]? = some (.int .i64 (kN:Int)):=kn 230 rfl
   have g224:a.tmps[224]? = some (.bool false):=kn 224 rfl
   exact oDv (.pointer (some ⟨cb,co+kN,none⟩)) nb rfl (wanted_g rfl rfl rfl g224) (fun _=>by simp [go_sem,g229,g230,hkc]) hM h
  ·intro a w rest kn hM h
   have g231:a.tmps[231]? = some (.pointer (some ⟨cb,co+kN,none⟩)):=kn 231 rfl
   have g224:a.tmps[224]? = some (.bool false):=kn 224 rfl
   exact oDr (.int .i64 ce) nb rfl (wanted_g rfl rfl rfl g224) hM (fun w' t=>by simp [go_sem,g231,show w'.cell? ⟨cb,co+kN,none⟩=some (.int .i64 ce) from t.cell2 hc]) (fun w' t=>by simp [go_sem,g231,EvOk,show w'.cell? ⟨cb,co+kN,none⟩=some (.int .i64 ce) from t.cell2 hc,show cb < w'.heap.size from Nat.lt_of_lt_of_le hcl t.size]) h
  ·intro a w rest kn hM h
   have g228:a.tmps[228]? = some (.int .i64 ce):=kn 228 rfl
   have g232:a.tmps[232]? = some (.int .i64 ce):=kn 232 rfl
   have g224:a.tmps[224]? = some (.bool false):=kn 224 rfl
   exact oDv (.bool true) nb rfl (wanted_g rfl rfl rfl g224) (fun _=>by simp [go_sem,g228,g232]) hM h
  ·intro a w rest kn hM h
   have g224:a.tmps[224]? = some (.bool false):=kn 224 rfl
   have g233:a.tmps[233]? = some (.bool true):=kn 233 rfl
   exact oDv (.bool true) nb rfl rfl (fun _=>by simp [go_sem,g224,g233]) hM h
  ·intro a w rest kn hM h
   have g234:a.tmps[234]? = some (.bool true):=kn 234 rfl
   exact oDv (.bool true) nb rfl rfl (fun _=>by simp [go_sem,g234]) hM h
  ·intro a w rest kn hM h
   have g235:a.tmps[235]? = some (.bool true):=kn 235 rfl
   exact oDc 8 #[] (.bool true) nb rfl (wanted_g rfl rfl rfl g235) (fun w'=>by simp [go_sem];exact ev_call Tryz.func8 (by kernel_rfl) (by kernel_rfl)) hM (fun c w' t=>stored_old hK t _ _) h
  ·intro a w rest kn hM h
   have g235:a.tmps[235]? = some (.bool true):=kn 235 rfl
   have g236:a.tmps[236]? = some (.bool true):=kn 236 rfl
   exact oDv (.bool true) nb rfl rfl (fun _=>by simp [go_sem,g235,g236]) hM h
  ·intro a w rest kn hM h
   have g237:a.tmps[237]? = some (.bool true):=kn 237 rfl
   exact oDv (.bool true) nb rfl rfl (fun _=>by simp [go_sem,g237]) hM h
 ·intro a1 w1 df kn hM
  have g10:a1.tmps[8]? = some (.bool true):=kn 19 _ rfl 8 rfl
  refine all_ret ?_
  intro w' t
  exact .done (no_leaves g10 df ((hold.trans hM).twin0 t))
variable {B X O P mc sc iN kN:Nat} {b:Bk} {r:Rec} {s s2 t n m u:Int} {vr vg vm vs vc ur ug um us uc y0:Value} {w w0:World} {d:Nat→Value}
theorem noteAl_one {b:Bk} {r:Rec} (hk:bookAl b=0):noteAl b r=openAl (moreR b r) 0:=by
 unfold noteAl
 rw [if_neg (by simp [hk])]
theorem throughAl_in {b:Bk} {i:Nat} (hi:i < b.ss.length) (ho:openAl b 0=0):throughAl b (i:Int)=0:=by
 unfold throughAl
 have:throughAsk b (i:Int)=0:=by unfold throughAsk;rw [if_pos (by unfold inB;simp;omega)]
 rw [this];exact ho
theorem no_co {w:World} {b:Bk} {r:Rec} {s s2:Int} {vr vg vm vs vc:Value} (hR:RawAt w b vr vg vm vs vc) (hK:KindsAt w) (hs0:0≤s) (hs1:s≤255) (ht0:0≤s2) (ht1:s2≤255) :
 Leads Tryz.prog (Leaving0 Tryz.prog fun v w'=>v=.bool true∧Old w w') (Frame.enter Tryz.prog 4 #[.agg #[vr,vg,vm,vs,vc],.agg #[.int .i64 r.k,.int .i64 r.a,.int .i64 r.b,.int .i64 r.m],.int .u8 s,.int .u8 s2] .normal) [] w:=by
 have hok:=progOk.code _ _ Tryz.func4 _ noBody_eq
 simp only [codeOk,Bool.and_eq_true] at hok
 obtain ⟨k0,k1,k2,k3,k4,k5,k6,k7,k8,k9,k10,k11,k12,k13,k14,k15,k16,k17,k18,k19,k20,_⟩:=hok
 have k1':=k1
 have k5':=k5
 have k9':=k9
 rw [no1_eq] at k1'
 rw [no5_eq] at k5'
 rw [no9_eq] at k9'
 simp only [codeOk,Bool.and_eq_true] at k1' k5' k9'
 rw [noFrame noBody_eq]
 have nb:(Go.Conc.base 4).kind=.normal:=rfl
 have nd:MarksOnly []:=fun d hd=>by cases hd
 refine piece_step k0 nb nd (Z:=NZ0 b r s s2 vr vg vm vs vc) (fun a w1 w2 ht h=>by obtain ⟨B,X,y,h1,h2,h3⟩:=h;exact ⟨B,X,y,h1,h2.twin ht,h3.twin ht⟩) (fun W hW=>no_0 (d:=fun _=>undef) (hW.raw hR) (hW.kinds hK)) fun a0 w0 hz ho0=>?_
 obtain ⟨B,X,y0,⟨d0,rfl⟩,hE,hX⟩:=hz
 obtain ⟨y,hy⟩:∃ y:Bool,(y=true↔¬ (SmallB b∧bookAl b=0∧0 < b.ss.length∧0 < b.ms.length)):=by
  by_cases h:SmallB b∧bookAl b=0∧0 < b.ss.length∧0 < b.ms.length
  ·exact ⟨false,by simp only [Bool.false_eq_true,false_iff];exact fun h2=>h2 h⟩
  ·exact ⟨true,by simp only [true_iff];exact h⟩
 refine leads_seq fun d=>?_
 rw [no1_eq]
 have hE:=hE.twin (on_at w0 d)
 have hX:=hX.twin (on_at w0 d)
 have ho0:=ho0.at d
 refine piece_step k1'.1 nb nd (Z:=NZ1 B X s s2 y) (fun a w1 w2 ht h=>h) (fun W hW=>no_1 (hE.twin hW) hy) fun a1 w1 hz ho=>?_
 obtain ⟨d1,rfl⟩:=hz
 have hE:=hE.old ho
 have hX:=hX.old ho
 have ho1:=ho0.trans ho
 clear ho
 cases y with
 | true =>
  refine leads_cond (t:=true) (by simp [go_sem,nG]) fun da=>?_
  simp only [if_true]
  exact (no_early2 (ho1.at da) ((on_at w1 da).kinds hE.kd) ⟨rfl,rfl,trivial⟩).here
 | false =>
  obtain ⟨hS,hk,hsp,hmp⟩:SmallB b∧bookAl b=0∧0 < b.ss.length∧0 < b.ms.length:=Classical.byContradiction fun h=>by have:=hy.2 h;cases this
  refine leads_cond (t:=false) (by simp [go_sem,nG]) fun dd=>?_
  simp only [Bool.false_eq_true,if_false]
  refine leads_skip fun dd2=>?_
  have hE:=BxSt.of ((hE.twin (on_at w1 dd)).twin (on_at (w1.at dd) dd2)) hS
  have hX:=(hX.twin (on_at w1 dd)).twin (on_at (w1.at dd) dd2)
  have ho2:=(ho1.at dd).at dd2
  generalize (w1.at dd).at dd2=w2 at hE hX ho2
  clear ho1 ho0
  obtain ⟨d2,hd2⟩:∃ d,nG B X s s2 (.bool false) d1=nF B X s s2 d:=fr_of (by kernel_rfl)
  rw [hd2]
  obtain ⟨t,ht⟩:∃ t,noteAl b r=t:=⟨_,rfl⟩
  refine pieces_co [no 2,no 3,no 4] (by simp [k2,k3,k4]) nb rfl (Z:=NZA B X s s2 b r vr vg vm vs vc t (if t=0 then moreR b r else noBook)) (fun a w1 w2 ht h=>by obtain ⟨O,P,uc1,ur,ug,um,us,uc,h1,h2,h4,h5⟩:=h;exact ⟨O,P,uc1,ur,ug,um,us,uc,h1,h2.twin ht,h4.twin ht,h5.twin ht⟩) (fun W hW=>no_A (hE.twin hW) (hX.twin hW) hS ht rfl) fun a4 w4 hz ho=>?_
  obtain ⟨O,P,uc1,ur,ug,um,us,uc,⟨d4,rfl⟩,hE,hO,hP⟩:=hz
  have ho4:=ho2.trans ho
  clear ho ho2
  rw [noteAl_one hk] at ht
  obtain ⟨u,hu⟩:∃ u,bookAl (moreR b r)=u:=⟨_,rfl⟩
  obtain ⟨y6,hy6⟩:∃ y,(u != 0)=y:=⟨_,rfl⟩
  refine leads_seq fun e1=>?_
  rw [no5_eq]
  have hE:=hE.twin (on_at w4 e1)
  have hO:=hO.twin (on_at w4 e1)
  have hP:=hP.twin (on_at w4 e1)
  have ho4:=ho4.at e1
  generalize w4.at e1=w5 at hE hO hP ho4
  refine pieces_co [sql (no 5),sql (sqr (no 5))] (by simp [k5'.1,k5'.2.1]) nb rfl (Z:=NZ5 B X O P s s2 t u y6) (fun a w1 w2 ht h=>h) (fun W hW=>no_5 (hO.twin hW) (fun m hm=>hS.names m hm) hu hy6) fun a6 w6 hz ho=>?_
  obtain ⟨h69,d6,rfl⟩:=hz
  have hE:=hE.old ho
  have hO:=hO.old ho
  have hP:=hP.old ho
  have ho6:=ho4.trans ho
  clear ho ho4
  cases y6 with
  | true =>
   have hu0:u≠0:=by simpa using hy6
   have htu:t=u:=by
    rw [← ht]
    unfold openAl
    rw [if_pos (by rw [hu];exact hu0),hu]
   subst htu
   rw [if_neg hu0] at hP
   refine leads_cond (t:=true) (by simp [go_sem,h69]) fun e2=>?_
   simp only [if_true]
   have hP:=hP.twin (on_at w6 e2)
   exact (no_early8 (ho6.at e2) hP.kd hP (lt_of_cell hP.c0) ⟨rfl,rfl,rfl,rfl,rfl,trivial⟩).here
  | false =>
   have hu0:u=0:=by simpa using hy6
   subst hu0
   refine leads_cond (t:=false) (by simp [go_sem,h69]) fun e2=>?_
   simp only [Bool.false_eq_true,if_false]
   refine leads_skip fun e3=>?_
   have hE:=(hE.twin (on_at w6 e2)).twin (on_at _ e3)
   have hO:=(hO.twin (on_at w6 e2)).twin (on_at _ e3)
   have hP:=(hP.twin (on_at w6 e2)).twin (on_at _ e3)
   have ho6:=(ho6.at e2).at e3
   generalize (w6.at e2).at e3=w7 at hE hO hP ho6
   obtain ⟨n,hn⟩:∃ n,histN b=n:=⟨_,rfl⟩
   obtain ⟨m,hm⟩:∃ m,histN (moreR b r)=m:=⟨_,rfl⟩
   have hnl:((pasts b).length:Int)=n:=by rw [← hn];unfold histN;rw [if_pos hk]
   have hml:((pasts (moreR b r)).length:Int)=m:=by rw [← hm];unfold histN;rw [if_pos hu]
   have hin:inB m 0 n=true:=by
    have:=pasts_moreR_le b r
    unfold inB
    simp
    omega
   obtain ⟨y9,hy9⟩:∃ y,(m == 0)=y:=⟨_,rfl⟩
   refine pieces_co [no 6,no 7,no 8] (by simp [k6,k7,k8]) nb rfl (Z:=NZN B X O P s s2 t m) (fun a w1 w2 ht h=>h) (fun W hW=>no_6 (hE.twin hW) (hO.twin hW) hS.names (fun m hm=>hS.names m hm) hk hu hn hm hin) fun a8 w8 hz ho=>?_
   obtain ⟨d8,rfl⟩:=hz
   have hE:=hE.old ho
   have hO:=hO.old ho
   have hP:=hP.old ho
   have ho8:=ho6.trans ho
   clear ho ho6
   rw [openAl_zero hu] at ht
   refine leads_seq fun e4=>?_
   rw [no9_eq]
   have hE:=hE.twin (on_at w8 e4)
   have hO:=hO.twin (on_at w8 e4)
   have hP:=hP.twin (on_at w8 e4)
   have ho8:=ho8.at e4
   generalize w8.at e4=wX at hE hO hP ho8
   refine piece_step k9'.1 nb nd (Z:=NZ9 B X O P s s2 t m y9) (fun a w1 w2 ht h=>h) (fun W hW=>no_9 hy9) fun a9 w9 hz ho=>?_
   obtain ⟨h89,d9,rfl⟩:=hz
   have hE:=hE.old ho
   have hO:=hO.old ho
   have hP:=hP.old ho
   have ho9:=ho8.trans ho
   clear ho ho8
   cases y9 with
   | true =>
    have hm0:m=0:=by simpa using hy9
    have hpn:pasts (moreR b r)=[]:=List.eq_nil_of_length_eq_zero (by omega)
    rw [if_pos hpn] at ht
    subst ht
    rw [if_neg (by decide)] at hP
    refine leads_cond (t:=true) (by simp [go_sem,h89]) fun e5=>?_
    simp only [if_true]
    have hP:=hP.twin (on_at w9 e5)
    exact (no_early14 (ho9.at e5) hP.kd hP (lt_of_cell hP.c0) ⟨rfl,rfl,rfl,rfl,trivial⟩).here
   | false =>
    have hm0:m≠0:=by simpa using hy9
    have hpn:pasts (moreR b r)≠[]:=fun e=>hm0 (by rw [← hml,e];rfl)
    have hpn1:pasts b≠[]:=fun e=>hpn (by rw [pasts_moreR,e];rfl)
    rw [if_neg hpn] at ht
    subst ht
    rw [if_pos rfl] at hP
    have hoB:openAl b 0=0:=by rw [openAl_zero hk,if_neg hpn1]
    have hoM:openAl (moreR b r) 0=0:=by rw [openAl_zero hu,if_neg hpn]
    have hi0:0≤s % (b.ss.length:Int):=Int.emod_nonneg _ (by omega)
    have hi1:s % (b.ss.length:Int) < (b.ss.length:Int):=Int.emod_lt_of_pos _ (by omega)
    have hj0:0≤s2 % (b.ms.length:Int):=Int.emod_nonneg _ (by omega)
    have hj1:s2 % (b.ms.length:Int) < (b.ms.length:Int):=Int.emod_lt_of_pos _ (by omega)
    obtain ⟨iN,hiN⟩:∃ iN:Nat,s % (b.ss.length:Int)=(iN:Int):=⟨_,(Int.toNat_of_nonneg hi0).symm⟩
    obtain ⟨kN,hkN⟩:∃ kN:Nat,s2 % (b.ms.length:Int)=(kN:Int):=⟨_,(Int.toNat_of_nonneg hj0).symm⟩
    have hil:iN < b.ss.length:=by omega
    have hkl:kN < b.ms.length:=by omega
    have hta:=throughAl_in hil hoB
    have htb:throughAl (moreR b r) (iN:Int)=0:=throughAl_in (b:=moreR b r) hil hoM
    have hlv:=thr_moreR hta htb
    have hmv:=miss_moreR (b:=b) (r:=r)
    have hdv:=deliv_moreR hpn hkl
    have hcl:=deliv_len b
    have hdl:(deliveredI (moreR b r)).length=b.ms.length:=deliv_len (moreR b r)
    have hpl:=(bookAl_ok hk).1.pl
    have hxl:(thr b (iN:Int)).length≤1000000:=thr_len (fun x hx=>by have:=hpl x hx;omega)
    have hyl:(thr (moreR b r) (iN:Int)).length≤1000000:=thr_len (b:=moreR b r) (fun x hx=>by have:=hpl x hx;omega)
    have hul:(missI b).length≤1000000:=by have:=missI_bd hk;omega
    have hvl:(missI (moreR b r)).length≤1000000:=by have:=missI_bd hu;omega
    obtain ⟨c,hc⟩:∃ c,deliveredI b=c:=⟨_,rfl⟩
    obtain ⟨dl,hd⟩:∃ dl,deliveredI (moreR b r)=dl:=⟨_,rfl⟩
    rw [hc,hd] at hdv
    rw [hc] at hcl
    rw [hd] at hdl
    refine leads_cond (t:=false) (by simp [go_sem,h89]) fun e5=>?_
    simp only [Bool.false_eq_true,if_false]
    refine leads_skip fun e6=>?_
    have hE:=(hE.twin (on_at w9 e5)).twin (on_at _ e6)
    have hO:=(hO.twin (on_at w9 e5)).twin (on_at _ e6)
    have hP:=(hP.twin (on_at w9 e5)).twin (on_at _ e6)
    have ho9:=(ho9.at e5).at e6
    generalize (w9.at e5).at e6=wA at hE hO hP ho9
    refine pieces_co [no 10,no 11] (by simp [k10,k11]) nb rfl (Z:=NZK B P iN kN) (fun a w1 w2 ht h=>h) (fun W hW=>no_10 (hE.twin hW) (hO.twin hW) (hP.twin hW) hS hsp hmp hs0 hs1 ht0 ht1 hiN hkN) fun aB wB hz ho=>?_
    obtain ⟨dB,rfl⟩:=hz
    have hE:=hE.old ho
    have hP:=hP.old ho
    have hoB2:=ho9.trans ho
    clear ho ho9
    refine pieces_co [no 12,no 13,no 14,no 15,no 16,no 17,no 18] (by simp [k12,k13,k14,k15,k16,k17,k18]) nb rfl (Z:=NZE kN (missI b) (missI (moreR b r)) c dl) (fun a w1 w2 ht h=>by obtain ⟨qa,qc,pa,pc,ca,cc,da,dc,h1,h2,h3,h4,h5,h6⟩:=h;exact ⟨qa,qc,pa,pc,ca,cc,da,dc,h1,ht.kinds h2,ht.parts h3,ht.parts h4,ht.ints h5,ht.ints h6⟩) (fun W hW=>no_B (hE.twin hW) (hP.twin hW) hS.names (fun m hm=>hS.names m hm) hoB hoM rfl rfl hta rfl htb rfl rfl hc hd hxl hyl hlv) fun aC wC hz ho=>?_
    obtain ⟨qa,qc,pa,pc,ca,cc,da,dc,⟨dC,rfl⟩,hKC,hq,hp,hci,hdi⟩:=hz
    have hoC:=hoB2.trans ho
    clear ho hoB2
    refine pieces_co [no 19] (by simp [k19]) nb rfl (Z:=fun a' w2=>(∃ d,a'=nZ kN ca c.length cc da dl.length dc d)∧KindsAt w2∧IntsAt w2 ca c∧IntsAt w2 da dl) (fun a w1 w2 ht h=>⟨h.1,ht.kinds h.2.1,ht.ints h.2.2.1,ht.ints h.2.2.2⟩) (fun W hW=>wps_nq (Code.wp_mono (fun e a' w' h=>by
     cases e <;> first | exact h.elim | skip
     obtain ⟨⟨d,rfl⟩,hb⟩:=h
     refine ⟨rfl,fun X1 t1=>?_⟩
     have o1:=(Old.ofBelow hb).twin0 t1
     exact ⟨⟨⟨d,rfl⟩,o1.kinds (hW.kinds hKC),o1.ints (hW.ints hci),o1.ints (hW.ints hdi)⟩,o1⟩) (no_19 (hW.parts hq) (hW.parts hp) hul hvl hmv))) fun aD wD hz ho=>?_
    obtain ⟨⟨dD,rfl⟩,hKD,hci,hdi⟩:=hz
    have hoD:=hoC.trans ho
    have hkc:kN < c.length:=by omega
    have hkd:kN < dl.length:=by omega
    obtain ⟨cb,co,rfl,hcb,hcc⟩:=hci kN hkc
    obtain ⟨db,do2,rfl,hdb,hdd⟩:=hdi kN hkd
    rw [List.getD_eq_getElem?_getD,List.getD_eq_getElem?_getD,List.getElem?_eq_getElem hkc,List.getElem?_eq_getElem hkd,Option.getD_some,Option.getD_some] at hdv
    by_cases h0:c[kN]=0
    ·exact (no_last0 hoD hKD hkc hcc (by rw [h0];rfl) ⟨rfl,rfl,rfl,rfl,rfl,trivial⟩).here
    ·have he:=hdv.resolve_left h0
     rw [he] at hdd
     exact (no_last1 hoD hKD hkc hcc (by rw [beq_eq_false_iff_ne];exact h0) hkd hdd ⟨rfl,rfl,rfl,rfl,rfl,trivial⟩).here
end Go.Proofs.YtfggbepickdokaaGreatDoor
namespace Go.Proofs.YtfggbepickdokaaGreatDoor
open Go.ChangeShapes Go.WideShapes Go.ChangeAt Go.RowKit Sp
section
variable {H:Type} {enc:TypeId × Value→H} {w:World} {base n:Nat} {held:Bool} {y:DataW H × List MemPlace}
theorem open_recv {v:Value} (h:DataW.trod enc Tryz.prog w base (fun _=>true) held n 49 v.cells.toList=some y):∃ r:Rec,v=.agg #[.int .i64 r.k,.int .i64 r.a,.int .i64 r.b,.int .i64 r.m]:=by
 obtain ⟨r,e⟩:=open_rec h
 refine ⟨r,?_⟩
 cases v <;> first | (simp [Value.cells] at e;done) | skip
 rename_i c
 obtain ⟨c⟩:=c
 simp only [Value.cells] at e
 rw [e]
end
end Go.Proofs.YtfggbepickdokaaGreatDoor
