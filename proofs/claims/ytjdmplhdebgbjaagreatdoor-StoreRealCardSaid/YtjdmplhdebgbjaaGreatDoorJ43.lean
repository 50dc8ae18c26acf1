/- Leads to StoreReal of chapter 6: Law Law2 Law3 Law4 Co5 U10 U12. -/
import Derived.Test.YtjdmplhdebgbjaaGreatDoorJ42
import Derived.StillTailTactics
set_option maxHeartbeats 4000000
set_option maxRecDepth 100000
set_option linter.all false
namespace Go.Proofs.YtjdmplhdebgbjaaGreatDoor
open Go.RowKit Sp Mt Go.Conc
section
variable {P:Program} {b:Frame} {a:Act} {w:World} {k:List Item} {cs:List Frame} {K:Frame->List Frame->World->Prop}
theorem Twin.refl0 (w:World):Twin 0 w w:=⟨rfl,rfl,rfl,fun _=>rfl,fun _=>rfl,fun _ _=>rfl⟩
theorem Twin.at0 {w w1:World} (h:Twin 0 w w1) (d:Nat):Twin 0 w (w1.at d):=⟨h.os,h.output,h.size,h.cell,h.frozen,h.block⟩
theorem Twin.old0 {w w1 w2:World} (h:Twin 0 w w1) (k:Old w1 w2):Old w w2:=⟨k.os.trans h.os,k.output.trans h.output,by rw [← h.size];exact k.size,fun i hi=>(k.block i (by rw [h.size];exact hi)).trans (h.block i (Nat.zero_le _))⟩
def LeadsA (P:Program) (K:Frame->List Frame->World->Prop) (fr:Frame) (cs:List Frame) (w:World):Prop:=∀ w',Twin 0 w w'->Leads P K fr cs w'
theorem LeadsA.here {fr:Frame} (h:LeadsA P K fr cs w):Leads P K fr cs w:=h w (Twin.refl0 w)
theorem all_region {id:Nat} {ops:Array Oper} (h:LeadsA P K (b.at a (.inRegion ops (List.range ops.size)::k)) cs w):LeadsA P K (b.at a (.code (.region id ops false)::k)) cs w:=fun _ t=>leads_region fun d=>h _ (t.at0 d)
theorem all_end {ops:Array Oper} (h:LeadsA P K (b.at a k) cs w):LeadsA P K (b.at a (.inRegion ops []::k)) cs w:=fun _ t=>leads_inRegion fun d=>h _ (t.at0 d)
theorem all_seq {x y:Code} (h:LeadsA P K (b.at a (.code x::.code y::k)) cs w):LeadsA P K (b.at a (.code (.seq x y)::k)) cs w:=fun _ t=>leads_seq fun d=>h _ (t.at0 d)
theorem all_ret (h:LeadsA P K { b.at a (.code .ret::k) with mode:=.returning } cs w):LeadsA P K (b.at a (.code .ret::k)) cs w:=fun _ t=>leads_ret fun d=>h _ (t.at0 d)
theorem all_op {ops:Array Oper} {i:Nat} {rest:List Nat} (v:Value) (hb:b.kind=.normal) {o:Oper} (ho:ops[i]? = some o) (hw:Region.wanted o (yielded ops a.tmps)=true)
 (hr:∀ w',(execOp a.eval o).run P w'=.ok (.value v) w') (he:∀ w',(execOp a.eval o).events P w' #[]=#[])
 (h:LeadsA P K (b.at (a.put o.dst v) (.inRegion ops rest::k)) cs w):LeadsA P K (b.at a (.inRegion ops (i::rest)::k)) cs w:=fun _ t =>
 leads_op v hb ho hw (fun d=>hr _) (fun d e hm=>by rw [he] at hm;simp at hm) fun d=>h _ (t.at0 d)
theorem all_call {ops:Array Oper} {i:Nat} {rest:List Nat} (f:FuncId) (args:Array Value) (hb:b.kind=.normal) {o:Oper} (ho:ops[i]? = some o) (hw:Region.wanted o (yielded ops a.tmps)=true)
 (hr:∀ w',(execOp a.eval o).run P w'=.ok (.enter f args) w') (he:∀ w',(execOp a.eval o).events P w' #[]=#[]) {Z:Value->World->Prop}
 (hc:∀ (c:Frame) (w':World),Twin 0 w w'->Leads P (fun fr' cs' w1=>∃ v,fr'=c.finish v/\cs'=cs/\Z v w1) (Frame.enter P f args .normal) (c::cs) w')
 (h:∀ v w1,Z v w1->LeadsA P K (b.at (a.put o.dst v) (.inRegion ops rest::k)) cs w1):LeadsA P K (b.at a (.inRegion ops (i::rest)::k)) cs w:=fun w' t =>
 leads_call hb ho hw (fun d=>hr _) (fun d=>he _) (fun d=>hc _ _ (t.at0 d)) fun v w1 hz=>(h v w1 hz).here
end
section
variable {w:World} {cs:List Frame} {c:Frame}
theorem lone_call {f:FuncId} {args:Array Value} {v:Value} {w':World} (t:Twin 0 w w') (h:∀ W,Twin w.heap.size w W->Calls Tryz.prog f args W fun e w2=>e=.returned v/\Below W.heap.size W w2) :
 Leads Tryz.prog (fun fr' cs' w1=>∃ v',fr'=c.finish v'/\cs'=cs/\v'=v/\Old w w1) (Frame.enter Tryz.prog f args .normal) (c::cs) w':=by
 refine (calls_co (Z:=fun v' _=>v'=v) (fun _ _ _ _ h=>h) fun W hW=>?_).mono ?_
 ·refine (h W ⟨hW.os.trans t.os,hW.output.trans t.output,hW.size.trans t.size,fun a=>(hW.cell a).trans (t.cell a),fun a=>(hW.frozen a).trans (t.frozen a),fun k hk=>(hW.block k (by rw [t.size];exact hk)).trans (t.block k (Nat.zero_le _))⟩).mono ?_;rintro e w2 ⟨rfl,hb⟩;exact ⟨_,rfl,rfl,hb⟩
 ·rintro fr' cs' w1 ⟨v',h1,h2,h3,ho⟩;exact ⟨v',h1,h2,h3,t.old0 ho⟩
end
theorem wps_cons {P:Program} {c:Code} {l:List Code} {Q:Act->World->Prop} {a:Act} {w:World} (h:c.wp P (fun e a' w'=>e=.normal/\a'.defers=[]/\∀ X,Twin 0 w' X->wps P l Q a' X) a w):wps P (c::l) Q a w :=
 Code.wp_mono (fun _ _ _ ⟨h1,h2,h3⟩=>⟨h1,h2,fun _=>h3 _ ⟨rfl,rfl,rfl,fun _=>rfl,fun _=>rfl,fun _ _=>rfl⟩⟩) h
theorem Old.twin0 {w w1 X:World} (h:Old w w1) (t:Twin 0 w1 X):Old w X:=⟨t.os.trans h.os,t.output.trans h.output,by rw [t.size];exact h.size,fun k hk=>(t.block k (Nat.zero_le _)).trans (h.block k hk)⟩
theorem Old.ofBelow {w w1:World} (h:Below w.heap.size w w1):Old w w1:=⟨h.os,h.output,h.size,h.block⟩
theorem row_twin {A B:World} {base e size m:Nat} {v:Value} {xs:List Value} (h:A.ownsRow base e size v m xs) (t:Twin 0 A B):B.ownsRow base e size v m xs:=by
 obtain ⟨h1,h2 | ⟨g,cap,cur,e1,e2,e3,e4⟩⟩:=h
 ·exact ⟨h1,.inl h2⟩
 ·exact ⟨h1,.inr ⟨g,cap,cur,e1,e2,(t.block g (Nat.zero_le _)).trans e3,e4⟩⟩
def NQ (R:Act->World->Prop):Exit->Act->World->Prop
 | .normal,a,w=>R a w
 | _,_,_=>False
theorem wps_nq {P:Program} {c:Code} {l:List Code} {Q:Act->World->Prop} {a:Act} {w:World} (h:c.wp P (NQ fun a' w'=>a'.defers=[]/\∀ X,Twin 0 w' X->wps P l Q a' X) a w):wps P (c::l) Q a w:=by
 refine wps_cons (Code.wp_mono (fun e a' w' hq=>?_) h);cases e <;> first | exact ⟨rfl,hq.1,hq.2⟩ | exact hq.elim
section
variable {P:Program} {b:Frame} {a:Act} {w:World} {k:List Item} {cs:List Frame} {K:Frame->List Frame->World->Prop}
theorem put_at {a:Act} {j:Nat} {v:Value} (h:j < a.tmps.size):(a.put (some j) v).tmps[j]? = some v:=by
 show (a.tmps.setIfInBounds j v)[j]? = some v;simp [h]
theorem put_keep {a:Act} {j i:Nat} {v:Value} (hne:i≠j):(a.put (some j) v).tmps[i]? = a.tmps[i]? := by
 show (a.tmps.setIfInBounds j v)[i]? = a.tmps[i]?;rw [Array.getElem?_setIfInBounds_ne (by omega)]
theorem wanted_g {o ok:Oper} {ops:Array Oper} {tmps:Array Value} {m j:Nat} {want:Bool} (hg:o.guard=some (m,want)) (hk:ops[m]? = some ok) (hd:ok.dst=some j) (hA:tmps[j]? = some (.bool want)):Region.wanted o (yielded ops tmps)=true:=by
 unfold Region.wanted yielded;rw [hg];simp [hk,hd,hA]
end
section
variable {P:Program} {b:Frame} {a:Act} {w:World} {k:List Item} {cs:List Frame} {K:Frame->List Frame->World->Prop}
end
def KnL (a:Act):List (Nat × Value)->Prop
 | []=>True
 | x::l=>a.tmps[x.1]? = some x.2/\KnL a l
structure Kn (a:Act) (n:Nat) (l:List (Nat × Value)):Prop where
 sz:a.tmps.size=n
 df:a.defers=[]
 kn:KnL a l
theorem KnL.get {a:Act} {j:Nat} {v:Value}:∀ {l:List (Nat × Value)},KnL a l->l.lookup j=some v->a.tmps[j]? = some v
 | [],_,e=>by simp at e
 | (i,u)::l,h,e=>by
  rw [List.lookup_cons] at e;by_cases hji:j=i
  ·subst hji;simp at e;rw [← e];exact h.1
  ·rw [beq_eq_false_iff_ne.2 hji] at e;exact KnL.get h.2 e
theorem KnL.put {a:Act} {j:Nat} {v:Value}:∀ {l:List (Nat × Value)},KnL a l->(l.all fun x=>x.1 != j)=true->KnL (a.put (some j) v) l
 | [],_,_=>trivial
 | x::l,h,e=>by
  simp only [List.all_cons,Bool.and_eq_true,bne_iff_ne] at e;exact ⟨(put_keep e.1).trans h.1,KnL.put h.2 e.2⟩
section
variable {P:Program} {b:Frame} {a:Act} {w:World} {k:List Item} {cs:List Frame} {K:Frame->List Frame->World->Prop} {n:Nat} {l:List (Nat × Value)}
theorem Kn.g (q:Kn a n l) (j:Nat) {v:Value} (e:l.lookup j=some v):a.tmps[j]? = some v:=q.kn.get e
theorem Kn.cons (q:Kn a n l) {j:Nat} (hj:j < n) (e:(l.all fun x=>x.1 != j)=true) (v:Value):Kn (a.put (some j) v) n ((j,v)::l):=⟨(Array.size_setIfInBounds).trans q.sz,q.df,put_at (by rw [q.sz];exact hj),q.kn.put e⟩
theorem st {ops:Array Oper} {i j:Nat} {rest:List Nat} (v:Value) (hb:b.kind=.normal) {o:Oper} (ho:ops[i]? = some o) (hd:o.dst=some j) (hw:Region.wanted o (yielded ops a.tmps)=true)
 (hx:∀ w',(execOp a.eval o).run P w'=.ok (.value v) w'/\(execOp a.eval o).events P w' #[]=#[]) (q:Kn a n l) (hj:j < n) (e:(l.all fun x=>x.1 != j)=true)
 (h:∀ a1,Kn a1 n ((j,v)::l)->LeadsA P K (b.at a1 (.inRegion ops rest::k)) cs w):LeadsA P K (b.at a (.inRegion ops (i::rest)::k)) cs w:=by
 refine all_op v hb ho hw (fun w'=>(hx w').1) (fun w'=>(hx w').2) ?_;rw [hd];exact h _ (q.cons hj e v)
theorem sc {ops:Array Oper} {i j:Nat} {rest:List Nat} (f:FuncId) (args:Array Value) (hb:b.kind=.normal) {o:Oper} (ho:ops[i]? = some o) (hd:o.dst=some j) (hw:Region.wanted o (yielded ops a.tmps)=true)
 (hx:∀ w',(execOp a.eval o).run P w'=.ok (.enter f args) w'/\(execOp a.eval o).events P w' #[]=#[]) (q:Kn a n l) (hj:j < n) (e:(l.all fun x=>x.1 != j)=true) {v:Value}
 (hc:∀ (c:Frame) (w':World),Twin 0 w w'->Leads P (fun fr' cs' w1=>∃ v',fr'=c.finish v'/\cs'=cs/\v'=v/\Old w w1) (Frame.enter P f args .normal) (c::cs) w')
 (h:∀ (a1:Act) (w1:World),Old w w1->Kn a1 n ((j,v)::l)->LeadsA P K (b.at a1 (.inRegion ops rest::k)) cs w1):LeadsA P K (b.at a (.inRegion ops (i::rest)::k)) cs w:=by
 refine all_call f args hb ho hw (fun w'=>(hx w').1) (fun w'=>(hx w').2) (Z:=fun v' w1=>v'=v/\Old w w1) hc ?_;rintro v' w1 ⟨rfl,ho1⟩;rw [hd];exact h _ _ ho1 (q.cons hj e v')
end
def sql:Code->Code
 | .seq a _=>a
 | c=>c
def sqr:Code->Code
 | .seq _ b=>b
 | c=>c
def cnd:Code->Code
 | .cond _ a _=>a
 | c=>c
def sqN:Nat->Code->Code
 | 0,c=>c
 | k+1,c=>sqN k (sqr c)
theorem fr_of {F:(Nat->Value)->Act} {a':Act} (h:a'=F fun i=>a'.tmps.getD i undef):∃ d,a'=F d:=⟨_,h⟩
def opOk (ops:Array Oper) (ins:List Nat) (i:Nat) (o:Oper):Bool :=
 (o.looksAt ops).all (fun j=>ins.contains j || o.after.toList.any fun e=>Region.binds .any e && (ops[e.on]?).any fun p=>p.dst == some j) &&
 (o.after.toList.all fun e=>decide (e.on < i)) &&
 o.dst.all (fun j=>!ins.contains j && (List.range ops.size).all fun m=>m == i || (ops[m]?).all fun p=>p.dst != some j)
def regOk (ops:Array Oper) (ins:List Nat):Bool:=(List.range ops.size).all fun i=>(ops[i]?).all fun o=>opOk ops ins i o
def tally (S:Nat) (l:Array Bool):Nat:=(List.range S).countP fun i=>l.getD i false
theorem countP_more {p q:Nat->Bool} {i:Nat} (hp:p i=false) (hq:q i=true) (he:∀ j,j≠i->q j=p j):∀ (l:List Nat),l.Nodup->i∈l->l.countP q=l.countP p+1
 | [],_,h=>by cases h
 | x::l,hn,h=>by
  rw [List.nodup_cons] at hn;by_cases hx:x=i
  ·subst hx;have:l.countP q=l.countP p:=List.countP_congr fun y hy=>by rw [he y fun e=>hn.1 (e ▸ hy)]
   simp [List.countP_cons,hp,hq,this]
  ·have hm:i∈l:=(List.mem_cons.1 h).resolve_left fun e=>hx e.symm;have:=countP_more hp hq he l hn.2 hm;rw [List.countP_cons,List.countP_cons,this,he x hx];omega
theorem listed_set {l:Array Bool} {i j:Nat} (hi:i < l.size):(l.setIfInBounds i true).getD j false=if j=i then true else l.getD j false:=by
 by_cases h:j=i
 ·subst h;simp [Array.getD,hi]
 ·rw [if_neg h];simp only [Array.getD_eq_getD_getElem?];rw [Array.getElem?_setIfInBounds_ne (fun e=>h e.symm)]
theorem getD_same {l:Array Bool} {i:Nat} (hi:i < l.size):l.getD i true=l.getD i false:=by simp [Array.getD,hi]
section
variable {P:Program} {b:Frame} {a:Act} {w:World} {k:List Item} {cs:List Frame} {K:Frame->List Frame->World->Prop}
theorem leads_region_draw {id:Nat} {ops:Array Oper} (hm:P.follows .mixedOrders=true) (h:∀ t d,Leads P K (b.at a (.inRegion ops (Region.linearise .any ops t)::k)) cs (w.at d)):Leads P K (b.at a (.code (.region id ops true)::k)) cs w :=
 .step fun d=>⟨b.at a (.inRegion ops (Region.linearise .any ops ((w.at d).tape (w.at d).drawn (.order b.fn id)))::k),cs,w.at (d+1),#[],by
  simp [stepG,stepG.exec,G,Frame.at,choose,Sem.run,Question.forced,Question.cut,Region.schedule,hm,World.at],by simp,Nat.le_refl _,h _ _⟩
theorem all_any {ops:Array Oper} {ins:List Nat} {V:Nat->Value} {n:Nat} {w0:World} (hreg:regOk ops ins=true)
 (hstep:∀ (i:Nat) (o:Oper),ops[i]? = some o->∀ (a:Act) (w:World) (rest:List Nat),a.tmps.size=n->a.defers=[]->(∀ j,(o.looksAt ops).contains j=true->a.tmps[j]? = some (V j))->Old w0 w ->
   (∀ w1,Old w0 w1->LeadsA P K (b.at (a.put o.dst (V (o.dst.getD 0))) (.inRegion ops rest::k)) cs w1)->LeadsA P K (b.at a (.inRegion ops (i::rest)::k)) cs w)
 (hend:∀ (a:Act) (w:World),a.tmps.size=n->a.defers=[]->(∀ (i:Nat) (o:Oper),ops[i]? = some o->∀ j,o.dst=some j->a.tmps[j]? = some (V j))->Old w0 w->LeadsA P K (b.at a k) cs w)
 (hdn:∀ (i:Nat) (o:Oper),ops[i]? = some o->∀ j,o.dst=some j->j < n) :
 ∀ (fuel t:Nat) (l:Array Bool) (a:Act) (w:World),l.size=ops.size->tally ops.size l+fuel=ops.size->a.tmps.size=n->a.defers=[]->(∀ j∈ins,a.tmps[j]? = some (V j)) ->
  (∀ (i:Nat) (o:Oper),ops[i]? = some o->l.getD i false=true->∀ j,o.dst=some j->a.tmps[j]? = some (V j))->Old w0 w ->
  LeadsA P K (b.at a (.inRegion ops (Region.linearise.go .any ops fuel t l [])::k)) cs w:=by
 have hR:∀ (i:Nat) (o:Oper),ops[i]? = some o->opOk ops ins i o=true:=fun i o ho=>by
  have hi:i < ops.size:=(Array.getElem?_eq_some_iff.1 ho).1;have:=List.all_eq_true.1 hreg i (List.mem_range.2 hi);rw [ho] at this;exact this
 have stop:∀ (l:Array Bool) (a:Act) (w:World),(∀ i,i < ops.size->l.getD i false=true)->a.tmps.size=n->a.defers=[] ->
  (∀ (i:Nat) (o:Oper),ops[i]? = some o->l.getD i false=true->∀ j,o.dst=some j->a.tmps[j]? = some (V j))->Old w0 w->LeadsA P K (b.at a (.inRegion ops []::k)) cs w:=fun l a w hall hsz hdf hl ho =>
  all_end (hend a w hsz hdf (fun i o hio j hj=>hl i o hio (hall i (Array.getElem?_eq_some_iff.1 hio).1) j hj) ho)
 intro fuel
 induction fuel with
 | zero =>
  intro t l a w hls ht hsz hdf hin hl ho;have hall:∀ i,i < ops.size->l.getD i false=true:=fun i hi=>by
   have h1:(List.range ops.size).countP (fun i=>l.getD i false)=(List.range ops.size).length:=by rw [List.length_range];unfold tally at ht;omega
   exact List.countP_eq_length.1 h1 i (List.mem_range.2 hi)
  have e:Region.linearise.go .any ops 0 t l []=[]:=by simp [Region.linearise.go]
  rw [e];exact stop l a w hall hsz hdf hl ho
 | succ fuel ih =>
  intro t l a w hls ht hsz hdf hin hl ho;simp only [Region.linearise.go]
  change LeadsA P K (b.at a (.inRegion ops (match (Region.ready .any ops l)[t % (Region.ready .any ops l).length]? with
   | some i=>Region.linearise.go .any ops fuel (t / (Region.ready .any ops l).length) (l.setIfInBounds i true) [i]
   | none=>[].reverse)::k)) cs w
  cases hi:(Region.ready .any ops l)[t % (Region.ready .any ops l).length]? with
  | none =>
   have hnil:Region.ready .any ops l=[]:=by
    cases hr:Region.ready .any ops l with
    | nil=>rfl
    | cons x xs =>
     rw [hr] at hi;have hlt:t % (x::xs).length < (x::xs).length:=Nat.mod_lt _ (by simp);simp at hi;simp at hlt;omega
   have hall:∀ i,i < ops.size->l.getD i false=true:=by
    intro i
    induction i using Nat.strongRecOn with
    | _ i ihi =>
     intro his;have ho':ops[i]? = some ops[i]:=Array.getElem?_eq_getElem his;have hk:=hR i _ ho';simp only [opOk,Bool.and_eq_true,List.all_eq_true,decide_eq_true_eq] at hk;refine Classical.byContradiction fun hc=>?_;have hmem:i∈Region.ready .any ops l:=by
      unfold Region.ready;refine List.mem_filter.2 ⟨List.mem_range.2 his,?_⟩;rw [ho',getD_same (by omega)];simp only [Option.map_some,Option.getD_some,Bool.and_eq_true,Bool.not_eq_true',← Array.all_toList,List.all_eq_true,Bool.or_eq_true];exact ⟨by simpa using hc,fun e he=>.inr (ihi _ (hk.1.2 e he) (Nat.lt_trans (hk.1.2 e he) his))⟩
     rw [hnil] at hmem;cases hmem
   exact stop l a w hall hsz hdf hl ho
  | some i =>
   simp only [];rw [linearise_go_acc,List.reverse_singleton,List.singleton_append];have hmem:=List.mem_of_getElem? hi;unfold Region.ready at hmem;obtain ⟨hir,hrd⟩:=List.mem_filter.1 hmem;have his:=List.mem_range.1 hir;have ho':ops[i]? = some ops[i]:=Array.getElem?_eq_getElem his;rw [ho',getD_same (by omega)] at hrd;simp only [Option.map_some,Option.getD_some,Bool.and_eq_true,Bool.not_eq_true',← Array.all_toList,List.all_eq_true,Bool.or_eq_true] at hrd;obtain ⟨hun,haf⟩:=hrd;have hk:=hR i _ ho';simp only [opOk,Bool.and_eq_true,List.all_eq_true,Bool.or_eq_true] at hk;obtain ⟨⟨hlook,_⟩,hdst⟩:=hk;refine hstep i _ ho' a w _ hsz hdf (fun j hj=>?_) ho fun w1 ho1=>?_
   ·rcases hlook j (by simpa using hj) with h1 | h1
    ·exact hin j (by simpa using h1)
    ·obtain ⟨e,he,h2⟩:=List.any_eq_true.1 h1;simp only [Bool.and_eq_true] at h2;obtain ⟨hb,hd⟩:=h2
     cases hp:ops[e.on]? with
     | none=>rw [hp] at hd;simp at hd
     | some p =>
      rw [hp] at hd;have hd2:p.dst=some j:=by simpa using hd
      refine hl e.on p hp ?_ j hd2;rcases haf e he with h3 | h3
      ·rw [hb] at h3;simp at h3
      ·exact h3
   ·have hmore:tally ops.size (l.setIfInBounds i true)=tally ops.size l+1:=by
     unfold tally;refine countP_more (i:=i) hun ?_ (fun j hj=>?_) _ List.nodup_range hir
     ·rw [listed_set (by omega),if_pos rfl]
     ·rw [listed_set (by omega),if_neg hj]
    have hkeep:∀ j v,(∀ d,ops[i].dst=some d->j≠d)->a.tmps[j]? = some v->(a.put ops[i].dst (V (ops[i].dst.getD 0))).tmps[j]? = some v:=fun j v hne hv=>by
     cases hd:ops[i].dst with
     | none=>exact hv
     | some d=>exact (put_keep (hne d hd)).trans hv
    have hsz1:(a.put ops[i].dst (V (ops[i].dst.getD 0))).tmps.size=n:=by
     cases hd:ops[i].dst with
     | none=>exact hsz
     | some d=>exact (Array.size_setIfInBounds).trans hsz
    refine ih _ _ _ _ (by simpa using hls) (by omega) hsz1 ?_ (fun j hj=>?_) (fun m o hm hlm j hj=>?_) ho1
    ·cases hd:ops[i].dst with
     | none=>exact hdf
     | some d=>exact hdf
    ·refine hkeep j _ (fun d hd e=>?_) (hin j hj);subst e;rw [hd] at hdst;simp [hj] at hdst
    ·by_cases hmi:m=i
     ·subst hmi;obtain rfl:ops[m]=o:=Option.some.inj (ho'.symm.trans hm);rw [hj];exact put_at (by rw [hsz];exact hdn m _ hm j hj)
     ·refine hkeep j _ (fun d hd e=>?_) (hl m o hm (by rw [listed_set (by omega),if_neg hmi] at hlm;exact hlm) j hj);subst e;rw [hd] at hdst;simp only [Option.all_some,Bool.and_eq_true,List.all_eq_true] at hdst;have:=hdst.2 m (List.mem_range.2 (Array.getElem?_eq_some_iff.1 hm).1);rw [hm] at this;simp [hmi,hj] at this
theorem all_region_draw {id:Nat} {ops:Array Oper} (ins:List Nat) (V:Nat->Value) {n:Nat} {w0:World} (hm:P.follows .mixedOrders=true) (hreg:regOk ops ins=true)
 (hsz:a.tmps.size=n) (hdf:a.defers=[]) (hin:∀ j∈ins,a.tmps[j]? = some (V j)) (ho:Old w0 w)
 (hdn:∀ (i:Nat) (o:Oper),ops[i]? = some o->∀ j,o.dst=some j->j < n)
 (hstep:∀ (i:Nat) (o:Oper),ops[i]? = some o->∀ (a:Act) (w:World) (rest:List Nat),a.tmps.size=n->a.defers=[]->(∀ j,(o.looksAt ops).contains j=true->a.tmps[j]? = some (V j))->Old w0 w ->
   (∀ w1,Old w0 w1->LeadsA P K (b.at (a.put o.dst (V (o.dst.getD 0))) (.inRegion ops rest::k)) cs w1)->LeadsA P K (b.at a (.inRegion ops (i::rest)::k)) cs w)
 (hend:∀ (a:Act) (w:World),a.tmps.size=n->a.defers=[]->(∀ (i:Nat) (o:Oper),ops[i]? = some o->∀ j,o.dst=some j->a.tmps[j]? = some (V j))->Old w0 w->LeadsA P K (b.at a k) cs w) :
 LeadsA P K (b.at a (.code (.region id ops true)::k)) cs w:=fun w' t=>leads_region_draw hm fun s d=>by
 refine all_any hreg hstep hend hdn ops.size s (Array.replicate ops.size false) a w (by simp) ?_ hsz hdf hin (fun i o _ hl=>?_) ho _ (t.at0 d)
 ·have:tally ops.size (Array.replicate ops.size false)=0:=by
   unfold tally;rw [List.countP_eq_zero];intro i hi;have hi2:=List.mem_range.1 hi;simp [Array.getD,hi2]
  omega
 ·have:(Array.replicate ops.size false).getD i false=false:=by
   simp only [Array.getD_eq_getD_getElem?]
   cases h:(Array.replicate ops.size false)[i]? with
   | none=>rfl
   | some x =>
    obtain ⟨_,h2⟩:=Array.getElem?_eq_some_iff.1 h;simp at h2;simp [h2]
  rw [this] at hl;cases hl
end
section
variable {P:Program} {b:Frame} {a:Act} {w:World} {k:List Item} {cs:List Frame} {K:Frame->List Frame->World->Prop} {ops:Array Oper} {i:Nat} {rest:List Nat} {w0:World} {o:Oper}
theorem oDv (v:Value) (hb:b.kind=.normal) (ho:ops[i]? = some o) (hw:Region.wanted o (yielded ops a.tmps)=true)
 (hx:∀ w',(execOp a.eval o).run P w'=.ok (.value v) w'/\(execOp a.eval o).events P w' #[]=#[]) (hM:Old w0 w)
 (h:∀ w1,Old w0 w1->LeadsA P K (b.at (a.put o.dst v) (.inRegion ops rest::k)) cs w1):LeadsA P K (b.at a (.inRegion ops (i::rest)::k)) cs w :=
 all_op v hb ho hw (fun w'=>(hx w').1) (fun w'=>(hx w').2) (h _ hM)
theorem oDr (v:Value) (hb:b.kind=.normal) (ho:ops[i]? = some o) (hw:Region.wanted o (yielded ops a.tmps)=true) (hM:Old w0 w)
 (hr:∀ w',Old w0 w'->(execOp a.eval o).run P w'=.ok (.value v) w') (he:∀ w',Old w0 w'->∀ e∈(execOp a.eval o).events P w' #[],EvOk w'.heap.size e)
 (h:∀ w1,Old w0 w1->LeadsA P K (b.at (a.put o.dst v) (.inRegion ops rest::k)) cs w1):LeadsA P K (b.at a (.inRegion ops (i::rest)::k)) cs w:=fun w1 t =>
 leads_op v hb ho hw (fun d=>hr _ (hM.twin0 (t.at0 d))) (fun d e hm=>he _ (hM.twin0 (t.at0 d)) e hm) fun d=>h _ (hM.twin0 (t.at0 d)) _ (Twin.refl0 _)
theorem oDc (f:FuncId) (args:Array Value) (v:Value) (hb:b.kind=.normal) (ho:ops[i]? = some o) (hw:Region.wanted o (yielded ops a.tmps)=true)
 (hx:∀ w',(execOp a.eval o).run P w'=.ok (.enter f args) w'/\(execOp a.eval o).events P w' #[]=#[]) (hM:Old w0 w)
 (hc:∀ (c:Frame) (w':World),Old w0 w'->Leads P (fun fr' cs' w1=>∃ v',fr'=c.finish v'/\cs'=cs/\v'=v/\Old w0 w1) (Frame.enter P f args .normal) (c::cs) w')
 (h:∀ w1,Old w0 w1->LeadsA P K (b.at (a.put o.dst v) (.inRegion ops rest::k)) cs w1):LeadsA P K (b.at a (.inRegion ops (i::rest)::k)) cs w:=by
 refine all_call f args hb ho hw (fun w'=>(hx w').1) (fun w'=>(hx w').2) (Z:=fun v' w1=>v'=v/\Old w0 w1) (fun c w' t=>hc c w' (hM.twin0 t)) ?_;rintro v' w1 ⟨rfl,ho1⟩;exact h _ ho1
end
def StepAll (S:Nat->Oper->Prop):Nat->List Oper->Prop
 | _,[]=>True
 | i,o::l=>S i o/\StepAll S (i+1) l
theorem StepAll.get {S:Nat->Oper->Prop}:∀ {l:List Oper} {m i:Nat} {o:Oper},StepAll S m l->l[i]? = some o->S (m+i) o
 | [],_,_,_,_,h=>by simp at h
 | x::l,m,0,o,hs,h=>by
  simp at h;subst h;exact hs.1
 | x::l,m,i+1,o,hs,h=>by
  have:=StepAll.get (i:=i) hs.2 (by simpa using h)
  rwa [show m+1+i=m+(i+1) by omega] at this
theorem draw_all {P:Program} {b:Frame} {a:Act} {w:World} {k:List Item} {cs:List Frame} {K:Frame->List Frame->World->Prop} {id:Nat} {ops:Array Oper} (ins:List (Nat × Value)) (V:Nat->Value) {n:Nat} {w0:World} (hm:P.follows .mixedOrders=true) (hreg:regOk ops (ins.map (·.1))=true)
 (q:Kn a n ins) (hin:ins.map (fun x=>V x.1)=ins.map (·.2)) (ho:Old w0 w) (hdn:(ops.toList.all fun o=>o.dst.all fun j=>decide (j < n))=true)
 (hstep:StepAll (fun i o=>∀ (a:Act) (w:World) (rest:List Nat),(∀ j,(o.looksAt ops).contains j=true->a.tmps[j]? = some (V j))->Old w0 w ->
   (∀ w1,Old w0 w1->LeadsA P K (b.at (a.put o.dst (V (o.dst.getD 0))) (.inRegion ops rest::k)) cs w1)->LeadsA P K (b.at a (.inRegion ops (i::rest)::k)) cs w) 0 ops.toList)
 (hend:∀ (a:Act) (w:World),a.defers=[]->(∀ (i:Nat) (o:Oper),ops[i]? = some o->∀ j,o.dst=some j->a.tmps[j]? = some (V j))->Old w0 w->LeadsA P K (b.at a k) cs w) :
 LeadsA P K (b.at a (.code (.region id ops true)::k)) cs w:=by
 refine all_region_draw (ins.map (·.1)) V hm hreg q.sz q.df (fun j hj=>?_) ho (fun i o hi j hj=>?_) (fun i o hi a w rest _ _ kn hM h=>?_) (fun a w _ df kn hM=>hend a w df kn hM)
 ·obtain ⟨x,hx,rfl⟩:=List.mem_map.1 hj;have hv:V x.1=x.2:=List.map_inj_left.1 hin x hx;rw [hv];have hk:=q.kn;clear hreg hin hj;revert hk
  induction ins with
  | nil=>cases hx
  | cons y l ih =>
   intro hk;rcases List.mem_cons.1 hx with rfl | hx
   ·exact hk.1
   ·exact ih ⟨q.sz,q.df,hk.2⟩ hx hk.2
 ·have:=List.all_eq_true.1 hdn o (List.mem_of_getElem? (by simpa using hi));rw [hj] at this;simpa using this
 ·have:=hstep.get (i:=i) (o:=o) (by simpa using hi);rw [Nat.zero_add] at this;exact this a w rest kn hM h
theorem lone_old {w0 w':World} {c:Frame} {cs:List Frame} {f:FuncId} {args:Array Value} {v:Value} (t:Old w0 w') (h:∀ W,Twin w'.heap.size w' W->Calls Tryz.prog f args W fun e w2=>e=.returned v/\Below W.heap.size W w2) :
 Leads Tryz.prog (fun fr' cs' w1=>∃ v',fr'=c.finish v'/\cs'=cs/\v'=v/\Old w0 w1) (Frame.enter Tryz.prog f args .normal) (c::cs) w':=by
 refine (lone_call (Twin.refl0 w') h).mono ?_;rintro fr' cs' w1 ⟨v',h1,h2,h3,ho⟩;exact ⟨v',h1,h2,h3,t.trans ho⟩
theorem OldN.trans {n:Nat} {a b c:World} (h:OldN n a b) (k:OldN n b c):OldN n a c:=⟨k.os.trans h.os,k.output.trans h.output,Nat.le_trans h.size k.size,fun i hi=>(k.block i hi).trans (h.block i hi)⟩
theorem OldN.ofOld {n:Nat} {a b:World} (h:Old a b) (hn:n<=a.heap.size):OldN n a b:=⟨h.os,h.output,h.size,fun k hk=>h.block k (Nat.lt_of_lt_of_le hk hn)⟩
theorem OldN.twin0 {n:Nat} {w w1 X:World} (h:OldN n w w1) (t:Twin 0 w1 X):OldN n w X:=⟨t.os.trans h.os,t.output.trans h.output,by rw [t.size];exact h.size,fun k hk=>(t.block k (Nat.zero_le _)).trans (h.block k hk)⟩
theorem OldN.ks {n O:Nat} {w A B:World} (h:OldN n w A) (hn:n<=w.heap.size) (hO:n<=O) (hk:KS (fun k=>k≠O) A B):OldN n w B:=⟨hk.os.trans h.os,hk.output.trans h.output,Nat.le_trans h.size hk.size,fun k hkl=>(hk.block k (Nat.lt_of_lt_of_le hkl (Nat.le_trans hn h.size)) (by show k≠O;omega)).trans (h.block k hkl)⟩
theorem Old.frozen2 {w w1:World} (h:Old w w1) {b:Nat} (hb:b < w.heap.size) (o:Nat):w1.frozen? ⟨b,o,none⟩=w.frozen? ⟨b,o,none⟩:=World.frozen?_of_block (h.block b hb)
theorem Old.ofN {w w1 w2:World} (h:Old w w1) (k:OldN w.heap.size w1 w2):Old w w2:=⟨k.os.trans h.os,k.output.trans h.output,Nat.le_trans h.size k.size,fun i hi=>(k.block i hi).trans (h.block i hi)⟩
theorem pieces_coN {b:Frame} {a:Act} {w:World} {k:List Item} {cs:List Frame} {R:Code} {n:Nat} (hn:n<=w.heap.size) (l:List Code) (hc:∀ c∈l,codeOk Tryz.prog c=true) (hb:b.kind=.normal) (hd:a.defers=[]) {Z:Act->World->Prop} (hZ:∀ a w1 w2,Twin w.heap.size w1 w2->Z a w1->Z a w2)
 (h:∀ W,Twin w.heap.size w W->wps Tryz.prog l (fun a' w2=>Z a' w2/\OldN n W w2) a W) {K:Frame->List Frame->World->Prop} (hk:∀ a' w',Z a' w'->OldN n w w'->Leads Tryz.prog K (b.at a' (.code R::k)) cs w') :
 Leads Tryz.prog K (b.at a (.code (seqs l R)::k)) cs w:=by
 have hl:=muted_like Tryz.prog w;refine (wps_leads (Q:=fun a' W2=>Z a' W2/\OldN n (muted w) W2) progOk hb l hl hc hd fun t=>?_).trans ?_
 ·refine wps_mono ?_ l (h _ (muted_twin w t));rintro a' w2 ⟨h1,h2⟩;exact ⟨h1,h2.os,h2.output,h2.size,h2.block⟩
 ·rintro fr' cs' w1 ⟨a',w1',e1,e2,h3,hq⟩;rw [e1,e2];obtain ⟨hz,ho⟩:=hq w1'.tape;exact hk a' w1 (hZ _ _ _ (like_twin hl h3 w1'.tape 0) hz) (like_oldN hn hl h3 (d2:=0) (t:=w1'.tape) (t2:=w1'.tape) ⟨ho.os,rfl,ho.output,ho.size,ho.block⟩)
section
variable {P:Program} {b:Frame} {a:Act} {w:World} {k:List Item} {cs:List Frame} {K:Frame->List Frame->World->Prop}
end
end Go.Proofs.YtjdmplhdebgbjaaGreatDoor
namespace Go.Proofs.YtjdmplhdebgbjaaGreatDoor
open Go.RowKit Go.Maps Sp
def U16sAt (w:World) (a:Option Addr) (l:List Int):Prop:=∀ i (h:i < l.length),∃ b o,a=some ⟨b,o,none⟩/\b < w.heap.size/\w.cell? ⟨b,o+i,none⟩=some (.int .u16 l[i])/\0<=l[i]/\l[i]<=65535
theorem U16sAt.below {w w':World} {a:Option Addr} {l:List Int} (h:U16sAt w a l) (hb:Below w.heap.size w w'):U16sAt w' a l:=fun i hi=>by
 obtain ⟨b,o,e,hlt,h1,h2⟩:=h i hi;exact ⟨b,o,e,Nat.lt_of_lt_of_le hlt hb.size,(hb.cell hlt).trans h1,h2⟩
def choiceI (l:List Int) (k:Nat):Int:=l.getD k 0
theorem choiceI_bd {w:World} {a:Option Addr} {l:List Int} (h:U16sAt w a l) (k:Nat):0<=choiceI l k/\choiceI l k<=65535:=by
 unfold choiceI;by_cases hk:k < l.length
 ·obtain ⟨_,_,_,_,_,h1,h2⟩:=h k hk;simp only [List.getD_eq_getElem?_getD,List.getElem?_eq_getElem hk,Option.getD_some];exact ⟨h1,h2⟩
 ·simp only [List.getD_eq_getElem?_getD,List.getElem?_eq_none (Nat.le_of_not_lt hk),Option.getD_none];omega
section
variable {w:World} {la:Option Addr} {lc n:Nat} {l:List Int}
theorem choice_at (hL:U16sAt w la l) (hn:n=l.length) (k:Nat) {t:Int} (ht:choiceI l k=t) :
 Calls Tryz.prog 36 #[.slice la n lc,.int .i64 k] w fun e w'=>e=.returned (.int .i64 t)/\w'=w:=by
 subst hn ht;unfold choiceI;by_cases hk:k < l.length
 ·obtain ⟨b,o,rfl,hb,h0,h1,h2⟩:=hL k hk;simp only [List.getD_eq_getElem?_getD,List.getElem?_eq_getElem hk,Option.getD_some];generalize l[k]=x at h0 h1 h2;have hw:IntKind.i64.wrap x=x:=wrapI (by omega) (by omega)
  go_enter Tryz.func36,Tryz.ntmps36
  go_wp2;go_ret;exact ⟨rfl,rfl⟩
 ·simp only [List.getD_eq_getElem?_getD,List.getElem?_eq_none (Nat.le_of_not_lt hk),Option.getD_none]
  go_enter Tryz.func36,Tryz.ntmps36
  go_wp2;go_ret;exact ⟨rfl,rfl⟩
end
def camePK (b:Bk) (p:List Int) (k:Nat):List Int:=(List.range k).map fun i=>choiceI p i % ((((b.ss[i]?).elim 0 List.length:Nat):Int)+1)
def cameP (b:Bk) (p:List Int):List Int:=camePK b p b.ss.length
theorem camePK_len (b:Bk) (p:List Int) (k:Nat):(camePK b p k).length=k:=by simp [camePK]
theorem camePK_succ (b:Bk) (p:List Int) {k:Nat} (h:k < b.ss.length):camePK b p (k+1)=camePK b p k ++ [choiceI p k % ((b.ss[k].length:Int)+1)]:=by
 unfold camePK;rw [List.range_succ,List.map_append,List.map_cons,List.map_nil,List.getElem?_eq_getElem h];rfl
theorem cameP_really (b:Bk) (p:List Int):Really b (cameP b p):=by
 unfold cameP;refine ⟨camePK_len _ _ _,fun i h=>?_⟩;have hi:i < b.ss.length:=by rw [camePK_len] at h;exact h
 have e:(camePK b p b.ss.length)[i]=choiceI p i % ((b.ss[i].length:Int)+1):=by
  have e2:∀ (f:Nat->Int) (n m:Nat) (h:m < ((List.range n).map f).length),((List.range n).map f)[m]=f m:=fun f n m h=>by simp
  rw [show (camePK b p b.ss.length)[i]=choiceI p i % ((((b.ss[i]?).elim 0 List.length:Nat):Int)+1) from e2 _ _ _ _,List.getElem?_eq_getElem hi];rfl
 rw [e];have h0:=Int.emod_nonneg (choiceI p i) (show ((b.ss[i].length:Int)+1)≠0 by omega);have h1:=Int.emod_lt_of_pos (choiceI p i) (show 0 < ((b.ss[i].length:Int)+1) by omega);exact ⟨h0,hi,by omega⟩
section
variable {b:Bk} {vr vg vm vs vc:Value} {w:World} {la:Option Addr} {lc n:Nat} {l:List Int}
def RowRet (w:World) (l:List Int) (e:Ending) (w':World):Prop:=∃ a c,e=.returned (.slice a l.length c)/\w'.ownsRow w.heap.size 3 1 (.slice a l.length c) l.length (l.map (Value.int .i64))/\Below w.heap.size w w'
theorem came_at (hB:BookAt w b vr vg vm vs vc) (hs1:b.ss.length<=20) (hs2:∀ s∈b.ss,s.length<=20) (hL:U16sAt w la l) (hn:n=l.length) :
 Calls Tryz.prog 6 #[.agg #[vr,vg,vm,vs,vc],.slice la n lc] w (RowRet w (cameP b l)):=by
 subst hn;obtain ⟨sa,sc,rfl,hSS,_⟩:=hB.ss;have HSS:=Hh hSS;have HL:=Hh hL;have HS2:=Hh hs2;clear hSS hL hs2 hB
 go_enter Tryz.func6,Tryz.ntmps6
 go_wp2;obtain ⟨W0,hW0⟩:∃ W0,W0=w.alloc (.cells #[vr,vg,vm,.slice sa b.ss.length sc,vc] 26):=⟨_,rfl⟩;rw [← hW0];have hb0:Below w.heap.size w W0:=by rw [hW0];(exact bel)
 have hsz:W0.heap.size=w.heap.size+1:=by rw [hW0];simp
 have c3:W0.cell? ⟨w.heap.size,3,none⟩=some (.slice sa b.ss.length sc):=by rw [hW0,World.cell?_alloc_at _ _ _ _ rfl];rfl
 have HB0:=Hh hb0;have hlw:w.heap.size < W0.heap.size:=by omega
 clear hW0 hb0;go_loopw [5,6] (fun v t wr=>∃ (k:Nat) (a:Option Addr) (c:Nat),k<=b.ss.length/\t=.int .i64 k/\v=.slice a k c/\Hid (wr.ownsRow W0.heap.size 3 1 (.slice a k c) k ((camePK b l k).map (Value.int .i64)))/\Below W0.heap.size W0 wr) (fun _ t _=>b.ss.length - (intOf t).toNat)
 case atStart=>exact ⟨0,none,0,Nat.zero_le _,rfl,rfl,by show World.ownsRow _ _ _ _ _ _ _;simpa [camePK] using World.ownsRow_nil _ _ _ _,Below.refl _ _⟩
 case round =>
  obtain ⟨k,a,c,hk,rfl,rfl,HROW,hW⟩:=hrel;have hWs:=hW.size;have d3:=(hW.cell (p:=⟨w.heap.size,3,none⟩) hlw).trans c3;have hlr:w.heap.size < wr.heap.size:=by omega
  by_cases hlt:k < b.ss.length
  ·obtain ⟨sb,so,rfl,hsb,pa,pc,e0,hpc,_,_⟩:=HSS.out k hlt;have hsb0:sb < W0.heap.size:=by omega
   have f0:=(HB0.out.cell (p:=⟨sb,so+k,none⟩) hsb).trans e0;have d0:=(hW.cell (p:=⟨sb,so+k,none⟩) hsb0).trans f0;have hsbr:sb < wr.heap.size:=by omega
   have hl20:=HS2.out _ (List.getElem_mem hlt);have hsn:=camePK_succ b l hlt;generalize b.ss[k].length=ln at d0 hl20 hsn f0 e0 hpc;obtain ⟨hc0,hc1⟩:=choiceI_bd HL.out k;generalize hcv:choiceI l k=cv at hc0 hc1 hsn;have HCV:=Hh hcv;have HSN:=Hh hsn;have HALL:=Hh (fun (w':World) (h:Below W0.heap.size W0 w')=>(⟨h,(h.cell (p:=⟨w.heap.size,3,none⟩) hlw).trans c3,(h.cell (p:=⟨sb,so+k,none⟩) hsb0).trans f0⟩:Below W0.heap.size W0 w'/\w'.cell? ⟨w.heap.size,3,none⟩=some (.slice (some ⟨sb,so,none⟩) b.ss.length sc)/\w'.cell? ⟨sb,so+k,none⟩=some (.slice pa ln pc)));have hw1:IntKind.i64.wrap ((ln:Int)+1)=(ln:Int)+1:=wrapI (by omega) (by omega);have hnz:((ln:Int)+1 == 0)=false:=by rw [beq_eq_false_iff_ne];omega
   have hnz2:¬ ((ln:Int)+1=0):=by omega
   have htm:cv.tmod ((ln:Int)+1)=cv % ((ln:Int)+1):=Int.tmod_eq_emod_of_nonneg hc0;have hc0':(0:Int)<=cv:=hc0;have hl1:(1:Int)<=(ln:Int)+1:=by omega
   have hl2:(ln:Int)+1<=21:=by omega
   clear hcv hsn f0 e0 hpc;go_wp2;go_region_held3 (fun w'=>Below W0.heap.size W0 w'/\w'.cell? ⟨w.heap.size,3,none⟩=some (.slice (some ⟨sb,so,none⟩) b.ss.length sc)/\w'.cell? ⟨sb,so+k,none⟩=some (.slice pa ln pc))
    ((go_split_ands;exact HALL.out _ (bel)))
    (first
      | (go_at_call 36;go_split_ands;(with_reducible refine (choice_at (HL.out.below (Below.next HB0.out ‹Below W0.heap.size W0 _›)) rfl k HCV.out).mono ?_);rintro e w1 ⟨rfl,rfl⟩)
      | (refine step_appW W0 rfl _ _ 30 rfl 3 Tryz.underlying30 intInfo rfl (by omega) (.slice a k c) k ((camePK b l k).map (Value.int .i64)) rfl (some ⟨wr.heap.size,0,none⟩) 1 1 [.int .i64 (cv % ((ln:Int)+1))] rfl rfl (by simp [Value.oneCell']) (k+1) rfl (by omega) ?_ ?_ ?_ ?_;(focus ((exact bel)));exact row_keep' HROW.out ((KS.alloc (fun _=>True) _ _).trans (KS.drew _ _)) (fun _ _=>trivial);exact (src_new wr [.int .i64 (cv % ((ln:Int)+1))] 3 rfl 1).ks (KS.drew (fun _=>True) _) (fun ad e=>by cases e;exact ⟨by simp,trivial⟩);intro a4 c4 w4 hown4 hks4 hbw4)
      | fail "no arm")
   have HO:=Hh hown4;have HB4:=Hh hbw4;clear hown4 hbw4 hks4 hw1 hnz hnz2 htm hl1 hl2;go_wp2;go_roundw
   case rel=>exact ⟨k+1,a4,c4,by omega,by go_num,rfl,by rw [HSN.out,List.map_append];exact HO,HB4.out⟩
   case measure=>simp [intOf];omega
  ·obtain rfl:k=b.ss.length:=by omega
   go_wp2;go_ret;exact ⟨a,c,by rw [show (cameP b l).length=b.ss.length from camePK_len _ _ _];rfl,by rw [show (cameP b l).length=b.ss.length from camePK_len _ _ _];exact ownsRow_base HROW.out (by omega),Below.next HB0.out hW⟩
end
theorem hasPart_at {pa:Option Addr} {pc n:Nat} {l:List Prt} {p:Prt} {w:World} {t:Bool} (hP:PartsAt w pa l) (hn:n=l.length) (hl:l.length<=1000000) (h:decide (p∈l)=t) :
 Calls Tryz.prog 21 #[.slice pa n pc,.agg #[.int .i64 p.1,.int .i64 p.2]] w fun e w'=>e=.returned (.bool t)/\Below w.heap.size w w':=by
 subst hn;obtain ⟨pm,pg⟩:=p;have H:=Hh h;clear h;have HP:=Hh hP;clear hP
 go_enter Tryz.func21,Tryz.ntmps21
 go_wp2;obtain ⟨W0,hW0⟩:∃ W0,W0=w.alloc (.cells #[.int .i64 pm,.int .i64 pg] 34):=⟨_,rfl⟩;rw [← hW0];have hb0:Below w.heap.size w W0:=by rw [hW0];(exact bel)
 have c0:W0.cell? ⟨w.heap.size,0,none⟩=some (.int .i64 pm):=by rw [hW0,World.cell?_alloc_at _ _ _ _ rfl];rfl
 have c1:W0.cell? ⟨w.heap.size,1,none⟩=some (.int .i64 pg):=by rw [hW0,World.cell?_alloc_at _ _ _ _ rfl];rfl
 have hs0:w.heap.size < W0.heap.size:=by rw [hW0];simp
 clear hW0;go_loopw [5] (fun i wr=>∃ k:Nat,k<=l.length/\i=.int .i64 k/\Hid ((pm,pg) ∉ l.take k)/\Below W0.heap.size W0 wr) (fun i _=>l.length - (intOf i).toNat)
 case atStart=>exact ⟨0,Nat.zero_le _,rfl,by simp [Hid],Below.refl _ _⟩
 case round =>
  obtain ⟨k,hk,rfl,hno,hW⟩:=hrel;have hWs:=hW.size;by_cases hlt:k < l.length
  ·obtain ⟨lb,lo,rfl,hlb,e0,e1⟩:=HP.out k hlt;have hb1:=Below.next hb0 hW;have d0:=(hb1.cell hlb).trans e0;have d1:=(hb1.cell hlb).trans e1;have x0:=(hW.cell (p:=⟨w.heap.size,0,none⟩) hs0).trans c0;have x1:=(hW.cell (p:=⟨w.heap.size,1,none⟩) hs0).trans c1;have hlb2:lb < wr.heap.size:=Nat.lt_of_lt_of_le hlb hb1.size;have hx2:w.heap.size < wr.heap.size:=by omega
   have htk:=List.take_succ_eq_append_getElem hlt;have hin:l[k]∈l:=List.getElem_mem hlt;generalize l[k]=q at d0 d1 htk hin;obtain ⟨qm,qg⟩:=q;simp only at d0 d1;have HTK:=Hh htk;have HIN:=Hh hin;clear htk e0 e1 c0 c1 hin;by_cases hq:qm=pm/\qg=pg
   ·obtain ⟨rfl,rfl⟩:=hq;have heq:=fun w=>(eqPart qm qg qm qg w).trans (by simp:_=Result.ok (Value.bool true) w);have ht:t=true:=by rw [← H.out];simpa using HIN.out
    subst ht;go_wp2;go_quiet (fail);go_wp2;go_ret;exact ⟨rfl,bel⟩
   ·have heq:=fun w=>(eqPart qm qg pm pg w).trans (show _=Result.ok (Value.bool false) w by
     have:(qm == pm && qg == pg)=false:=by simpa using hq
     rw [this])
    have hn2:(pm,pg) ∉ l.take (k+1):=by
     rw [HTK.out];simp only [List.mem_append,List.mem_singleton,Prod.mk.injEq,not_or];exact ⟨hno.out,fun h=>hq ⟨h.1.symm,h.2.symm⟩⟩
    have HN:=Hh hn2;clear hq hn2;go_wp2;go_quiet (fail);go_wp2;go_roundw
    case rel=>exact ⟨k+1,by omega,by go_num,HN.out,bel⟩
    case measure=>simp [intOf];omega
  ·have ht:t=false:=by
    have:=hno.out;rw [List.take_of_length_le (by omega)] at this;rw [← H.out];simpa using this
   subst ht;go_wp2;go_ret;exact ⟨rfl,bel⟩
section
variable {b:Bk} {vr vg vm vs vc:Value} {w:World} {la:Option Addr} {lc n:Nat} {l:List Prt}
end
end Go.Proofs.YtjdmplhdebgbjaaGreatDoor

