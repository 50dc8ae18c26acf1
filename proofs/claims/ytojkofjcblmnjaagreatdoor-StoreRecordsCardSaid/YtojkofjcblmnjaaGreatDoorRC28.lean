/- StoreRecords -/
import Derived.Test.YtojkofjcblmnjaaGreatDoorRC27
set_option maxHeartbeats 1000000
set_option maxRecDepth 100000
set_option linter.all false
namespace Go.Proofs.YtojkofjcblmnjaaGreatDoor
section
open Go.RowKit Sp Mt Go.Conc
section
variable {P:Program} {b:Frame} {a:Act} {w:World} {k:List Item} {cs:List Frame} {K:Frame->List Frame->World->Prop}
theorem Twin.refl0 (w:World):Twin 0 w w:=⟨rfl,rfl,rfl,fun _=>rfl,fun _=>rfl,fun _ _=>rfl⟩
theorem Twin.at0 {w w1:World} (h:Twin 0 w w1) (d:Nat):Twin 0 w (w1.at d):=⟨h.os,h.output,h.size,h.cell,h.frozen,h.block⟩
theorem Twin.old0 {w w1 w2:World} (h:Twin 0 w w1) (k:Old w1 w2):Old w w2:=⟨k.os.trans h.os,k.output.trans h.output,by rw [<- h.size];exact k.size,fun i hi=>(k.block i (by rw [h.size];exact hi)).trans (h.block i (Nat.zero_le _))⟩
def LeadsA (P:Program) (K:Frame->List Frame->World->Prop) (fr:Frame) (cs:List Frame) (w:World):Prop:=∀ w',Twin 0 w w'->Leads P K fr cs w'
theorem LeadsA.here {fr:Frame} (h:LeadsA P K fr cs w):Leads P K fr cs w:=h w (Twin.refl0 w)
theorem all_region {id:Nat} {ops:Array Oper} (h:LeadsA P K (b.at a (.inRegion ops (List.range ops.size)::k)) cs w):LeadsA P K (b.at a (.code (.region id ops false)::k)) cs w:=fun _ t=>leads_region fun d=>h _ (t.at0 d)
theorem all_end {ops:Array Oper} (h:LeadsA P K (b.at a k) cs w):LeadsA P K (b.at a (.inRegion ops []::k)) cs w:=fun _ t=>leads_inRegion fun d=>h _ (t.at0 d)
theorem all_seq {x y:Code} (h:LeadsA P K (b.at a (.code x::.code y::k)) cs w):LeadsA P K (b.at a (.code (.seq x y)::k)) cs w:=fun _ t=>leads_seq fun d=>h _ (t.at0 d)
theorem all_ret (h:LeadsA P K { b.at a (.code .ret::k) with mode:=.returning } cs w):LeadsA P K (b.at a (.code .ret::k)) cs w:=fun _ t=>leads_ret fun d=>h _ (t.at0 d)
theorem all_op {ops:Array Oper} {i:Nat} {rest:List Nat} (v:Value) (hb:b.kind=.normal) {o:Oper} (ho:ops[i]? = some o) (hw:Region.wanted o (yielded ops a.tmps)=true)
 (hr:∀ w',(execOp a.eval o).run P w'=.ok (.value v) w') (he:∀ w',(execOp a.eval o).events P w' #[]=#[])
 (h:LeadsA P K (b.at (a.put o.dst v) (.inRegion ops rest::k)) cs w):LeadsA P K (b.at a (.inRegion ops (i::rest)::k)) cs w:=fun _ t =>
 leads_op v hb ho hw (fun d=>hr _) (fun d e hm=>by rw [he] at hm;simp at hm) fun d=>h _ (t.at0 d)
theorem all_call {ops:Array Oper} {i:Nat} {rest:List Nat} (f:FuncId) (args:Array Value) (hb:b.kind=.normal) {o:Oper} (ho:ops[i]? = some o) (hw:Region.wanted o (yielded ops a.tmps)=true)
 (hr:∀ w',(execOp a.eval o).run P w'=.ok (.enter f args) w') (he:∀ w',(execOp a.eval o).events P w' #[]=#[]) {Z:Value->World->Prop}
 (hc:∀ (c:Frame) (w':World),Twin 0 w w'->Leads P (fun fr' cs' w1=>∃ v,fr'=c.finish v/\cs'=cs/\Z v w1) (Frame.enter P f args .normal) (c::cs) w')
 (h:∀ v w1,Z v w1->LeadsA P K (b.at (a.put o.dst v) (.inRegion ops rest::k)) cs w1):LeadsA P K (b.at a (.inRegion ops (i::rest)::k)) cs w:=fun w' t =>
 leads_call hb ho hw (fun d=>hr _) (fun d=>he _) (fun d=>hc _ _ (t.at0 d)) fun v w1 hz=>(h v w1 hz).here
end
section
variable {w:World} {cs:List Frame} {c:Frame}
theorem lone_call {f:FuncId} {args:Array Value} {v:Value} {w':World} (t:Twin 0 w w') (h:∀ W,Twin w.heap.size w W->Calls Tryz.prog f args W fun e w2=>e=.returned v/\Below W.heap.size W w2) :
 Leads Tryz.prog (fun fr' cs' w1=>∃ v',fr'=c.finish v'/\cs'=cs/\v'=v/\Old w w1) (Frame.enter Tryz.prog f args .normal) (c::cs) w':=by
 refine (calls_co (Z:=fun v' _=>v'=v) (fun _ _ _ _ h=>h) fun W hW=>?_).mono ?_
 ·refine (h W ⟨hW.os.trans t.os,hW.output.trans t.output,hW.size.trans t.size,fun a=>(hW.cell a).trans (t.cell a),fun a=>(hW.frozen a).trans (t.frozen a),fun k hk=>(hW.block k (by rw [t.size];exact hk)).trans (t.block k (Nat.zero_le _))⟩).mono ?_;rintro e w2 ⟨rfl,hb⟩;exact ⟨_,rfl,rfl,hb⟩
 ·rintro fr' cs' w1 ⟨v',h1,h2,h3,ho⟩;exact ⟨v',h1,h2,h3,t.old0 ho⟩
end
theorem wps_cons {P:Program} {c:Code} {l:List Code} {Q:Act->World->Prop} {a:Act} {w:World} (h:c.wp P (fun e a' w'=>e=.normal/\a'.defers=[]/\∀ X,Twin 0 w' X->wps P l Q a' X) a w):wps P (c::l) Q a w :=
 Code.wp_mono (fun _ _ _ ⟨h1,h2,h3⟩=>⟨h1,h2,fun _=>h3 _ ⟨rfl,rfl,rfl,fun _=>rfl,fun _=>rfl,fun _ _=>rfl⟩⟩) h
theorem Twin.five {n:Nat} {w w1:World} (h:Twin n w w1) {r:Nat} {v0 v1 v2 v3 v4:Value} (k:Five w r v0 v1 v2 v3 v4):Five w1 r v0 v1 v2 v3 v4:=⟨(h.cell _).trans k.c0,(h.cell _).trans k.c1,(h.cell _).trans k.c2,(h.cell _).trans k.c3,(h.cell _).trans k.c4,by rw [h.size];exact k.lt⟩
theorem Old.twin0 {w w1 X:World} (h:Old w w1) (t:Twin 0 w1 X):Old w X:=⟨t.os.trans h.os,t.output.trans h.output,by rw [t.size];exact h.size,fun k hk=>(t.block k (Nat.zero_le _)).trans (h.block k hk)⟩
theorem Old.ofBelow {w w1:World} (h:Below w.heap.size w w1):Old w w1:=⟨h.os,h.output,h.size,h.block⟩
theorem Old.ks {w A B:World} {O:Nat} (h:Old w A) (hO:w.heap.size<=O) (hk:KS (fun k=>k < A.heap.size/\k≠O) A B):Old w B:=⟨hk.os.trans h.os,hk.output.trans h.output,Nat.le_trans h.size hk.size,fun k hkl=>(hk.block k (Nat.lt_of_lt_of_le hkl h.size) ⟨Nat.lt_of_lt_of_le hkl h.size,by omega⟩).trans (h.block k hkl)⟩
def NQ (R:Act->World->Prop):Exit->Act->World->Prop
 | .normal,a,w=>R a w
 | _,_,_=>False
theorem wps_nq {P:Program} {c:Code} {l:List Code} {Q:Act->World->Prop} {a:Act} {w:World} (h:c.wp P (NQ fun a' w'=>a'.defers=[]/\∀ X,Twin 0 w' X->wps P l Q a' X) a w):wps P (c::l) Q a w:=by
 refine wps_cons (Code.wp_mono (fun e a' w' hq=>?_) h);cases e <;> first | exact ⟨rfl,hq.1,hq.2⟩ | exact hq.elim
section
variable {P:Program} {b:Frame} {a:Act} {w:World} {k:List Item} {cs:List Frame} {K:Frame->List Frame->World->Prop}
theorem put_at {a:Act} {j:Nat} {v:Value} (h:j < a.tmps.size):(a.put (some j) v).tmps[j]? = some v:=by
 show (a.tmps.setIfInBounds j v)[j]? = some v;simp [h]
theorem put_keep {a:Act} {j i:Nat} {v:Value} (hne:i≠j):(a.put (some j) v).tmps[i]? = a.tmps[i]? := by
 show (a.tmps.setIfInBounds j v)[i]? = a.tmps[i]?;rw [Array.getElem?_setIfInBounds_ne (by omega)]
theorem wanted_g {o ok:Oper} {ops:Array Oper} {tmps:Array Value} {m j:Nat} {want:Bool} (hg:o.guard=some (m,want)) (hk:ops[m]? = some ok) (hd:ok.dst=some j) (hA:tmps[j]? = some (.bool want)):Region.wanted o (yielded ops tmps)=true:=by
 unfold Region.wanted yielded;rw [hg];simp [hk,hd,hA]
end
section
variable {P:Program} {b:Frame} {a:Act} {w:World} {k:List Item} {cs:List Frame} {K:Frame->List Frame->World->Prop}
end
def KnL (a:Act):List (Nat × Value)->Prop
 | []=>True
 | x::l=>a.tmps[x.1]? = some x.2/\KnL a l
structure Kn (a:Act) (n:Nat) (l:List (Nat × Value)):Prop where
 sz:a.tmps.size=n
 df:a.defers=[]
 kn:KnL a l
theorem KnL.get {a:Act} {j:Nat} {v:Value}:∀ {l:List (Nat × Value)},KnL a l->l.lookup j=some v->a.tmps[j]? = some v
 | [],_,e=>by simp at e
 | (i,u)::l,h,e=>by
  rw [List.lookup_cons] at e;by_cases hji:j=i
  ·subst hji;simp at e;rw [<- e];exact h.1
  ·rw [beq_eq_false_iff_ne.2 hji] at e;exact KnL.get h.2 e
theorem KnL.put {a:Act} {j:Nat} {v:Value}:∀ {l:List (Nat × Value)},KnL a l->(l.all fun x=>x.1 != j)=true->KnL (a.put (some j) v) l
 | [],_,_=>trivial
 | x::l,h,e=>by
  simp only [List.all_cons,Bool.and_eq_true,bne_iff_ne] at e;exact ⟨(put_keep e.1).trans h.1,KnL.put h.2 e.2⟩
section
variable {P:Program} {b:Frame} {a:Act} {w:World} {k:List Item} {cs:List Frame} {K:Frame->List Frame->World->Prop} {n:Nat} {l:List (Nat × Value)}
theorem Kn.g (q:Kn a n l) (j:Nat) {v:Value} (e:l.lookup j=some v):a.tmps[j]? = some v:=q.kn.get e
theorem Kn.cons (q:Kn a n l) {j:Nat} (hj:j < n) (e:(l.all fun x=>x.1 != j)=true) (v:Value):Kn (a.put (some j) v) n ((j,v)::l):=⟨(Array.size_setIfInBounds).trans q.sz,q.df,put_at (by rw [q.sz];exact hj),q.kn.put e⟩
theorem st {ops:Array Oper} {i j:Nat} {rest:List Nat} (v:Value) (hb:b.kind=.normal) {o:Oper} (ho:ops[i]? = some o) (hd:o.dst=some j) (hw:Region.wanted o (yielded ops a.tmps)=true)
 (hx:∀ w',(execOp a.eval o).run P w'=.ok (.value v) w'/\(execOp a.eval o).events P w' #[]=#[]) (q:Kn a n l) (hj:j < n) (e:(l.all fun x=>x.1 != j)=true)
 (h:∀ a1,Kn a1 n ((j,v)::l)->LeadsA P K (b.at a1 (.inRegion ops rest::k)) cs w):LeadsA P K (b.at a (.inRegion ops (i::rest)::k)) cs w:=by
 refine all_op v hb ho hw (fun w'=>(hx w').1) (fun w'=>(hx w').2) ?_;rw [hd];exact h _ (q.cons hj e v)
theorem sr {ops:Array Oper} {i j:Nat} {rest:List Nat} (v:Value) (hb:b.kind=.normal) {o:Oper} (ho:ops[i]? = some o) (hd:o.dst=some j) (hw:Region.wanted o (yielded ops a.tmps)=true)
 (hr:∀ w',Twin 0 w w'->(execOp a.eval o).run P w'=.ok (.value v) w') (he:∀ w',Twin 0 w w'->∀ e∈(execOp a.eval o).events P w' #[],EvOk w'.heap.size e) (q:Kn a n l) (hj:j < n) (e:(l.all fun x=>x.1 != j)=true)
 (h:∀ a1,Kn a1 n ((j,v)::l)->LeadsA P K (b.at a1 (.inRegion ops rest::k)) cs w):LeadsA P K (b.at a (.inRegion ops (i::rest)::k)) cs w:=fun w1 t =>
 leads_op v hb ho hw (fun d=>hr _ (t.at0 d)) (fun d e hm=>he _ (t.at0 d) e hm) fun d=>by
  rw [hd];exact h _ (q.cons hj e v) _ (t.at0 d)
theorem sc {ops:Array Oper} {i j:Nat} {rest:List Nat} (f:FuncId) (args:Array Value) (hb:b.kind=.normal) {o:Oper} (ho:ops[i]? = some o) (hd:o.dst=some j) (hw:Region.wanted o (yielded ops a.tmps)=true)
 (hx:∀ w',(execOp a.eval o).run P w'=.ok (.enter f args) w'/\(execOp a.eval o).events P w' #[]=#[]) (q:Kn a n l) (hj:j < n) (e:(l.all fun x=>x.1 != j)=true) {v:Value}
 (hc:∀ (c:Frame) (w':World),Twin 0 w w'->Leads P (fun fr' cs' w1=>∃ v',fr'=c.finish v'/\cs'=cs/\v'=v/\Old w w1) (Frame.enter P f args .normal) (c::cs) w')
 (h:∀ (a1:Act) (w1:World),Old w w1->Kn a1 n ((j,v)::l)->LeadsA P K (b.at a1 (.inRegion ops rest::k)) cs w1):LeadsA P K (b.at a (.inRegion ops (i::rest)::k)) cs w:=by
 refine all_call f args hb ho hw (fun w'=>(hx w').1) (fun w'=>(hx w').2) (Z:=fun v' w1=>v'=v/\Old w w1) hc ?_;rintro v' w1 ⟨rfl,ho1⟩;rw [hd];exact h _ _ ho1 (q.cons hj e v')
end
def sql:Code->Code
 | .seq a _=>a
 | c=>c
def sqr:Code->Code
 | .seq _ b=>b
 | c=>c
def cnd:Code->Code
 | .cond _ a _=>a
 | c=>c
def sqN:Nat->Code->Code
 | 0,c=>c
 | k+1,c=>sqN k (sqr c)
theorem fr_of {F:(Nat->Value)->Act} {a':Act} (h:a'=F fun i=>a'.tmps.getD i undef):∃ d,a'=F d:=⟨_,h⟩
theorem OldN.refl (n:Nat) (w:World):OldN n w w:=⟨rfl,rfl,Nat.le_refl _,fun _ _=>rfl⟩
theorem OldN.trans {n:Nat} {a b c:World} (h:OldN n a b) (k:OldN n b c):OldN n a c:=⟨k.os.trans h.os,k.output.trans h.output,Nat.le_trans h.size k.size,fun i hi=>(k.block i hi).trans (h.block i hi)⟩
theorem OldN.ofOld {n:Nat} {a b:World} (h:Old a b) (hn:n<=a.heap.size):OldN n a b:=⟨h.os,h.output,h.size,fun k hk=>h.block k (Nat.lt_of_lt_of_le hk hn)⟩
theorem OldN.twin0 {n:Nat} {w w1 X:World} (h:OldN n w w1) (t:Twin 0 w1 X):OldN n w X:=⟨t.os.trans h.os,t.output.trans h.output,by rw [t.size];exact h.size,fun k hk=>(t.block k (Nat.zero_le _)).trans (h.block k hk)⟩
theorem OldN.ks {n O:Nat} {w A B:World} (h:OldN n w A) (hn:n<=w.heap.size) (hO:n<=O) (hk:KS (fun k=>k≠O) A B):OldN n w B:=⟨hk.os.trans h.os,hk.output.trans h.output,Nat.le_trans h.size hk.size,fun k hkl=>(hk.block k (Nat.lt_of_lt_of_le hkl (Nat.le_trans hn h.size)) (by show k≠O;omega)).trans (h.block k hkl)⟩
theorem Old.frozen2 {w w1:World} (h:Old w w1) {b:Nat} (hb:b < w.heap.size) (o:Nat):w1.frozen? ⟨b,o,none⟩=w.frozen? ⟨b,o,none⟩:=World.frozen?_of_block (h.block b hb)
theorem Old.ofN {w w1 w2:World} (h:Old w w1) (k:OldN w.heap.size w1 w2):Old w w2:=⟨k.os.trans h.os,k.output.trans h.output,Nat.le_trans h.size k.size,fun i hi=>(k.block i hi).trans (h.block i hi)⟩
theorem pieces_coN {b:Frame} {a:Act} {w:World} {k:List Item} {cs:List Frame} {R:Code} {n:Nat} (hn:n<=w.heap.size) (l:List Code) (hc:∀ c∈l,codeOk Tryz.prog c=true) (hb:b.kind=.normal) (hd:a.defers=[]) {Z:Act->World->Prop} (hZ:∀ a w1 w2,Twin w.heap.size w1 w2->Z a w1->Z a w2)
 (h:∀ W,Twin w.heap.size w W->wps Tryz.prog l (fun a' w2=>Z a' w2/\OldN n W w2) a W) {K:Frame->List Frame->World->Prop} (hk:∀ a' w',Z a' w'->OldN n w w'->Leads Tryz.prog K (b.at a' (.code R::k)) cs w') :
 Leads Tryz.prog K (b.at a (.code (seqs l R)::k)) cs w:=by
 have hl:=muted_like Tryz.prog w;refine (wps_leads (Q:=fun a' W2=>Z a' W2/\OldN n (muted w) W2) progOk hb l hl hc hd fun t=>?_).trans ?_
 ·refine wps_mono ?_ l (h _ (muted_twin w t));rintro a' w2 ⟨h1,h2⟩;exact ⟨h1,h2.os,h2.output,h2.size,h2.block⟩
 ·rintro fr' cs' w1 ⟨a',w1',e1,e2,h3,hq⟩;rw [e1,e2];obtain ⟨hz,ho⟩:=hq w1'.tape;exact hk a' w1 (hZ _ _ _ (like_twin hl h3 w1'.tape 0) hz) (like_oldN hn hl h3 (d2:=0) (t:=w1'.tape) (t2:=w1'.tape) ⟨ho.os,rfl,ho.output,ho.size,ho.block⟩)
section
variable {P:Program} {b:Frame} {a:Act} {w:World} {k:List Item} {cs:List Frame} {K:Frame->List Frame->World->Prop}
end
def blk:Code->Code
 | .block _ c=>c
 | c=>c
def lpc:Code->Code
 | .loop c=>c
 | c=>c
end
section
open Go.RowKit Sp
def moreS (b:Bk) (x:List Prt):Bk:={ b with ss:=b.ss ++ [x] }
theorem most_upto (l:List (List Int)) (i n:Nat) (hn:n<=6) (h0:∀ v,n<=v->cntI l i v=0):((List.range n).map (cntI l i)).foldl max 0=mostI l i:=by
 have b:=fun v=>cntI_bd l i v;have b0:=b 0;have b1:=b 1;have b2:=b 2;have b3:=b 3;have b4:=b 4;have b5:=b 5;rw [mostI_eq];rcases (show n=0\/n=1\/n=2\/n=3\/n=4\/n=5\/n=6 by omega) with rfl | rfl | rfl | rfl | rfl | rfl | rfl
 all_goals simp only [List.range,List.range.loop,List.map,List.foldl]
 ·rw [h0 0 (by omega),h0 1 (by omega),h0 2 (by omega),h0 3 (by omega),h0 4 (by omega),h0 5 (by omega)];rfl
 ·rw [h0 1 (by omega),h0 2 (by omega),h0 3 (by omega),h0 4 (by omega),h0 5 (by omega)];omega
 ·rw [h0 2 (by omega),h0 3 (by omega),h0 4 (by omega),h0 5 (by omega)];omega
 ·rw [h0 3 (by omega),h0 4 (by omega),h0 5 (by omega)];omega
 ·rw [h0 4 (by omega),h0 5 (by omega)];omega
 ·rw [h0 5 (by omega)];omega
theorem cnt_beyond {b:Bk} {i v:Nat} (hi:i < b.ss.length) (hv:b.ss[i].length+1<=v):cntI (pasts b) i v=0:=by
 unfold cntI;rw [show (0:Int)=((0:Nat):Int) from rfl,Int.ofNat_inj,List.countP_eq_zero];intro x hx;obtain ⟨h1,h2,_⟩:=mem_pasts.1 hx;obtain ⟨_,h3,h4⟩:=h2 i (by omega);have e:(pad x).getD i 0=x[i]'(by omega):=by rw [pad_getD,List.getD_eq_getElem?_getD,List.getElem?_eq_getElem (by omega),Option.getD_some]
 simp only [decide_eq_true_eq];intro e2;have e3:=e.symm.trans e2;omega
theorem leaves_most {b:Bk} (h:bookAl b=0) {i:Nat} (hi:i < b.ss.length):((List.range (b.ss[i].length+1)).map fun v=>cntI (pasts b) i v).foldl max 0=mostI (pasts b) i :=
 most_upto _ _ _ (by have:=(bookAl_ok h).1.pl _ (List.getElem_mem hi);omega) fun v hv=>cnt_beyond hi hv
def moreR (b:Bk) (r:Rec):Bk:={ b with rs:=b.rs ++ [r] }
end
section
open Go.RowKit Go.Maps Sp
def SesV (w:World) (vs:List Value) (l:List (List Prt)):Prop:=vs.length=l.length/\∀ (i:Nat) (v:Value) (s:List Prt),vs[i]? = some v->l[i]? = some s->∃ pa pc,v=.slice pa s.length pc/\s.length<=pc/\s.length<=1000000/\PartsAt w pa s
section
variable {w w':World}
theorem SesV.nil (w:World):SesV w [] []:=⟨rfl,fun i v l h=>by simp at h⟩
theorem SesV.snoc {vs:List Value} {l:List (List Prt)} (h:SesV w vs l) {s:List Prt} {pa:Option Addr} {pc:Nat} (h1:s.length<=pc) (h2:s.length<=1000000) (h3:PartsAt w pa s):SesV w (vs ++ [.slice pa s.length pc]) (l ++ [s]):=by
 refine ⟨by simp [h.1],fun i v t hv ht=>?_⟩;by_cases hi:i < vs.length
 ·rw [List.getElem?_append_left hi] at hv;rw [List.getElem?_append_left (by rw [<- h.1];exact hi)] at ht;exact h.2 i v t hv ht
 ·rw [List.getElem?_append_right (by omega)] at hv;rw [List.getElem?_append_right (by rw [<- h.1];omega),<- h.1] at ht
  cases hk:i - vs.length with
  | zero =>
   rw [hk] at hv ht;simp only [List.getElem?_cons_zero,Option.some.injEq] at hv ht;subst hv ht;exact ⟨pa,pc,rfl,h1,h2,h3⟩
  | succ k=>rw [hk] at hv;simp at hv
end
theorem recs_cells {w:World} {sb:Nat}:∀ (l:List Rec) (so:Nat),(∀ i (h:i < l.length),w.cell? ⟨sb,so+i * 4,none⟩=some (.int .i64 l[i].k)/\w.cell? ⟨sb,so+i * 4+1,none⟩=some (.int .i64 l[i].a)/\w.cell? ⟨sb,so+i * 4+2,none⟩=some (.int .i64 l[i].b)/\w.cell? ⟨sb,so+i * 4+3,none⟩=some (.int .i64 l[i].m)) ->
 ∀ j u,(l.flatMap cellsR)[j]? = some u->w.cell? ⟨sb,so+j,none⟩=some u
 | [],_,_,j,u,hj=>by simp at hj
 | r::l,so,h,j,u,hj=>by
  obtain ⟨h0,h1,h2,h3⟩:=h 0 (by simp);rw [List.flatMap_cons] at hj;by_cases hlt:j < 4
  ·rw [List.getElem?_append_left (by show _ < 4;omega)] at hj
   match j,hlt with
   | 0,_=>obtain rfl:=Option.some.inj hj;exact h0
   | 1,_=>obtain rfl:=Option.some.inj hj;exact h1
   | 2,_=>obtain rfl:=Option.some.inj hj;exact h2
   | 3,_=>obtain rfl:=Option.some.inj hj;exact h3
  ·rw [List.getElem?_append_right (by show 4<=_;omega)] at hj;have ih:=recs_cells l (so+4) (fun i hi=>by
    have:=h (i+1) (by simp;omega)
    simp only [List.getElem_cons_succ] at this
    rw [show so+4+i * 4=so+(i+1) * 4 by omega]
    exact this) (j - 4) u hj
   rwa [show so+4+(j - 4)=so+j by omega] at ih
def SrcK (X:World) (sa:Option Addr) (news:List Value):Prop:=∀ j u,news[j]? = some u->∃ ad,sa=some ad/\X.cell? (ad.add j)=some u
theorem SrcK.below {X Y:World} {sa:Option Addr} {news:List Value} (h:SrcK X sa news) (hb:Below X.heap.size X Y):SrcK Y sa news:=fun j u hj=>by
 obtain ⟨ad,e,hc⟩:=h j u hj;exact ⟨ad,e,(hb.cell (lt_of_cell hc)).trans hc⟩
theorem SrcK.ks {X Y:World} {sa:Option Addr} {news:List Value} (h:SrcK X sa news) {p:Nat->Prop} (hk:KS p X Y) (hp:∀ ad,sa=some ad->p ad.block):SrcK Y sa news:=fun j u hj=>by
 obtain ⟨ad,e,hc⟩:=h j u hj;have hb:(Addr.add ad j).block=ad.block:=by unfold Addr.add;split <;> rfl
 exact ⟨ad,e,(hk.cell (x:=ad.add j) (lt_of_cell hc) (by rw [hb];exact hp ad e)).trans hc⟩
theorem srcK_new (w:World) (cs:List Value) (t:TypeId) {n:Nat} (hn:n=w.heap.size):SrcK (w.alloc (.cells cs.toArray t)) (some ⟨n,0,none⟩) cs:=fun j u hj=>by
 subst hn;exact ⟨_,rfl,cells_new w cs t j u hj⟩
theorem own_litK {w:World} {base k:Nat} {e:TypeId} {n:Nat} (hn:n=w.heap.size) (hb:base<=n):(w.alloc (.cells #[] e)).ownsRow base e k (.slice (some ⟨n,0,none⟩) 0 0) 0 []:=by
 subst hn;exact World.ownsRow_lit w #[] 0 hb (by decide) (by simp)
theorem sesInfo1:(Tryz.prog.info? 32).map (fun i=>(i.zero,i.size,i.bytes))=some (some (.agg #[.slice none 0 0]),1,24):=by kernel_rfl
theorem step_copy {P:Program} {X:World} (W:World) {ops:Array Oper} {o:Oper} {a:Act} {K:Act->World->Prop} {Q:Exit->Act->World->Prop} {E:Prop} (hgd:o.guard=none) (s x:Operand) (t:TypeId)
 (ho:o.op=.call { callee:=.builtin .append,args:=#[s,x],argTypes:=#[t,t] }) (e:TypeId) {z:Value} {k bytes:Nat} (ht:P.underlying t=some (.slice e)) (hi:(P.info? e).map (fun i=>(i.zero,i.size,i.bytes))=some (some z,k,bytes)) (hzs:z.cells.size=k) (hk:0 < k) (hby:bytes<=100)
 (v:Value) (n:Nat) (xs:List Value) (hs:a.eval s=v) (sa:Option Addr) (m c:Nat) (news:List Value) (hx:a.eval x=.slice sa m c) (hl:news.length=m * k) (h1:∀ u∈news,u.oneCell'=true)
 (r:Nat) (hr:n+m=r) (hnm:r<=1000000) (hW:Below W.heap.size W X) (hown:X.ownsRow W.heap.size e k v n xs) (hnews:SrcK X sa news)
 (h:∀ a' c' w',w'.ownsRow W.heap.size e k (.slice a' r c') r (xs ++ news)->KS (fun i=>v.ownBlock≠some i) X w'->Below W.heap.size W w'->K (a.put o.dst (.slice a' r c')) w') :
 if Region.wanted o (yielded ops a.tmps)=true then Oper.wp P o a X K Q else E:=by
 subst hr;obtain ⟨i,hi,hz,hsz,hb⟩:=info_parts hi;by_cases hm:m=0
 ·subst hm;have hn0:news=[]:=List.eq_nil_of_length_eq_zero (by omega);subst hn0;have hw:Region.wanted o (yielded ops a.tmps)=true:=by simp [Region.wanted,hgd]
  rw [if_pos hw];have hshape:∃ a' c',v=.slice a' n c'/\n<=c':=by
   rcases hown.2 with ⟨rfl,rfl⟩ | ⟨g,cap,cur,rfl,_,_,h,_⟩
   ·exact ⟨none,0,rfl,Nat.le_refl _⟩
   ·exact ⟨_,_,rfl,h⟩
  obtain ⟨a',c',rfl,hle⟩:=hshape;have hr:=run_append_nothing X t t o.type e i ht hi a' n c' hle (.slice sa 0 c) (by
   cases sa with
   | none=>exact Src.ofNil X ht c
   | some ad=>exact Src.ofSlice X ht ad 0 c [] (by simp) (fun j u h=>by simp at h) (fun u h=>by cases h))
  unfold Oper.wp execOp;simp only [ho,resolve,invoke,builtin,Sem.run_bind,Sem.run_pure,Result.andThen_ok,List.map_toArray,List.map_cons,List.map_nil,hs,hx,hr];exact h _ _ X (by simpa using hown) (KS.refl _ _) hW
 ·have hm0:0 < m:=by omega
  have hlk:0 < m * k:=Nat.mul_pos hm0 hk;obtain ⟨ad,rfl,-⟩:=hnews 0 news[0] (List.getElem?_eq_getElem (by omega));have hbm:(n+m) * bytes<=140737488355328:=by have:=Nat.mul_le_mul hnm hby;omega
  refine step_append_lies (w:=X) hgd s x t ho W.heap.size e i z k bytes ht hi hz hsz hb hzs hk v n xs hs hown ad m c news hx hl (fun j u hj=>?_) h1 hm0 (by unfold maxLen;omega) hbm hW.size X.heap.size rfl fun g c w' h2 h3 _ _=>h _ _ w' h2 (KS.own h3 fun g hg=>by simp [hg]) (hW.trans (below_own hown h3 hW.size));obtain ⟨ad',e',hc⟩:=hnews j u hj;cases e';exact hc
theorem sess_src {w:World} {a:Option Addr} {l:List (List Prt)} (h:SessAt w a l):∃ vs,SesV w vs l/\SrcK w a vs/\∀ u∈vs,u.oneCell'=true:=by
 cases l with
 | nil=>exact ⟨[],SesV.nil w,fun j u h=>by simp at h,fun u h=>by cases h⟩
 | cons s0 l0 =>
  obtain ⟨B,o,rfl,-⟩:=h 0 (by simp);have hc:∀ i (hi:i < (s0::l0).length),∃ pa pc,w.cell? ⟨B,o+i,none⟩=some (.slice pa ((s0::l0)[i]).length pc)/\((s0::l0)[i]).length<=pc/\((s0::l0)[i]).length<=1000000/\PartsAt w pa ((s0::l0)[i]):=fun i hi=>by
   obtain ⟨b',o',e',_,h2⟩:=h i hi;cases e';exact h2
  have hg:∀ i u,((List.range (s0::l0).length).map fun i=>(w.cell? ⟨B,o+i,none⟩).getD undef)[i]? = some u->∃ hi:i < (s0::l0).length,w.cell? ⟨B,o+i,none⟩=some u:=fun i u hu=>by
   rw [List.getElem?_map] at hu;obtain ⟨j,hj,rfl⟩:=Option.map_eq_some_iff.1 hu;obtain ⟨hj1,hj2⟩:=List.getElem?_eq_some_iff.1 hj;rw [List.length_range] at hj1;rw [List.getElem_range] at hj2;subst hj2;obtain ⟨pa,pc,e,-⟩:=hc i hj1;exact ⟨hj1,by rw [e];rfl⟩
  refine ⟨(List.range (s0::l0).length).map fun i=>(w.cell? ⟨B,o+i,none⟩).getD U,⟨by simp,fun i v s hv hs=>?_⟩,fun j u hj=>?_,fun u hu=>?_⟩
  ·obtain ⟨hi,e⟩:=hg i v hv;obtain ⟨pa,pc,e2,h3⟩:=hc i hi;rw [e] at e2;obtain ⟨hi2,rfl⟩:=List.getElem?_eq_some_iff.1 hs;exact ⟨pa,pc,Option.some.inj e2,h3⟩
  ·obtain ⟨hi,e⟩:=hg j u hj;exact ⟨_,rfl,by rw [add_off];exact e⟩
  ·obtain ⟨i,hi,e9⟩:=List.mem_iff_getElem.1 hu;obtain ⟨hi,e⟩:=hg i u (by rw [<- e9];exact List.getElem?_eq_getElem _);obtain ⟨pa,pc,e2,-⟩:=hc i hi;rw [e] at e2;rw [Option.some.inj e2];rfl
theorem recs_srcK {w:World} {a:Option Addr} {l:List Rec} (h:RecsAt w a l):SrcK w a (l.flatMap cellsR):=by
 cases l with
 | nil=>exact fun j u h=>by simp at h
 | cons r0 l0 =>
  obtain ⟨B,o,rfl,-⟩:=h 0 (by simp);intro j u hj;refine ⟨_,rfl,?_⟩;rw [add_off];refine recs_cells (r0::l0) o (fun i hi=>?_) j u hj;obtain ⟨b',o',e',_,h0,h1,h2,h3⟩:=h i hi;cases e';exact ⟨h0,h1,h2,h3⟩
theorem recs_one (l:List Rec):∀ u∈l.flatMap cellsR,u.oneCell'=true:=fun u hu=>by
 obtain ⟨r,_,hr⟩:=List.mem_flatMap.1 hu;unfold cellsR at hr;simp at hr;rcases hr with rfl | rfl | rfl | rfl <;> rfl
def KI (w w':World):Prop:=w.heap.size<=w'.heap.size/\∀ a k x,w.cell? a=some (.int k x)->w'.cell? a=some (.int k x)
theorem KI.trans {w w1 w2:World} (h:KI w w1) (k:KI w1 w2):KI w w2:=⟨Nat.le_trans h.1 k.1,fun a i x e=>k.2 a i x (h.2 a i x e)⟩
theorem KI.below {w w':World} (h:Below w.heap.size w w'):KI w w':=⟨h.size,fun _ _ _ e=>(h.cell (lt_of_cell e)).trans e⟩
theorem KI.set {w:World} {a:Addr} {b:Option Addr} {n c:Nat} (h:w.cell? a=some (.slice b n c)) (v:Value):KI w (w.setCell a v):=⟨by simp,fun x k i e=>by
 rw [World.cell?_setCell_other (h:=fun hx=>by subst hx;rw [h] at e;cases e)]
 exact e⟩
theorem KI.parts {w w':World} {a:Option Addr} {l:List Prt} (h:KI w w') (hp:PartsAt w a l):PartsAt w' a l:=fun i hi=>by
 obtain ⟨b,o,e,hlt,h1,h2⟩:=hp i hi;exact ⟨b,o,e,Nat.lt_of_lt_of_le hlt h.1,h.2 _ _ _ h1,h.2 _ _ _ h2⟩
theorem sess_row {w w':World} {base e n c:Nat} {a:Option Addr} {vs:List Value} {l:List (List Prt)} (h:w'.ownsRow base e 1 (.slice a n c) n vs) (k:SesV w vs l) (hb:KI w w'):SessAt w' a l:=fun i hi=>by
 have hv:i < vs.length:=by rw [k.1];exact hi
 obtain ⟨g,rfl,_,h2,h3⟩:=row_cell h i hv;obtain ⟨pa,pc,e,h4,h5,h6⟩:=k.2 i vs[i] l[i] (List.getElem?_eq_getElem hv) (List.getElem?_eq_getElem hi);exact ⟨g,0,rfl,h2,pa,pc,by rw [Nat.zero_add,h3,List.getElem?_eq_getElem hv,e],h4,h5,hb.parts h6⟩
theorem SrcK.ki {w w':World} {sa:Option Addr} {news:List Value} (h:SrcK w sa news) (hi:∀ u∈news,∃ k x,u=.int k x) (hk:KI w w'):SrcK w' sa news:=fun j u hj=>by
 obtain ⟨ad,e,hc⟩:=h j u hj;obtain ⟨k,x,rfl⟩:=hi u (List.mem_of_getElem? hj);exact ⟨ad,e,hk.2 _ _ _ hc⟩
theorem recs_len4:∀ l:List Rec,(l.flatMap cellsR).length=l.length * 4
 | []=>rfl
 | r::l=>by
  rw [List.flatMap_cons,List.length_append,recs_len4 l,List.length_cons];show 4+_=_;omega
def cellsM (m:Msg):List Value:=[.string m.name,.int .i64 m.groups,.int .i64 m.due]
theorem msgInfo:(Tryz.prog.info? 48).map (fun i=>(i.zero,i.size,i.bytes))=some (some (.agg #[.string .empty,.int .i64 0,.int .i64 0]),3,32):=by kernel_rfl
theorem msgs_cells {w:World} {sb:Nat}:∀ (l:List Msg) (so:Nat),(∀ i (h:i < l.length),w.cell? ⟨sb,so+i * 3,none⟩=some (.string l[i].name)/\w.cell? ⟨sb,so+i * 3+1,none⟩=some (.int .i64 l[i].groups)/\w.cell? ⟨sb,so+i * 3+2,none⟩=some (.int .i64 l[i].due)) ->
 ∀ j u,(l.flatMap cellsM)[j]? = some u->w.cell? ⟨sb,so+j,none⟩=some u
 | [],_,_,j,u,hj=>by simp at hj
 | r::l,so,h,j,u,hj=>by
  obtain ⟨h0,h1,h2⟩:=h 0 (by simp);rw [List.flatMap_cons] at hj;by_cases hlt:j < 3
  ·rw [List.getElem?_append_left (by show _ < 3;omega)] at hj
   match j,hlt with
   | 0,_=>obtain rfl:=Option.some.inj hj;exact h0
   | 1,_=>obtain rfl:=Option.some.inj hj;exact h1
   | 2,_=>obtain rfl:=Option.some.inj hj;exact h2
  ·rw [List.getElem?_append_right (by show 3<=_;omega)] at hj;have ih:=msgs_cells l (so+3) (fun i hi=>by
    have:=h (i+1) (by simp;omega)
    simp only [List.getElem_cons_succ] at this
    rw [show so+3+i * 3=so+(i+1) * 3 by omega]
    exact this) (j - 3) u hj
   rwa [show so+3+(j - 3)=so+j by omega] at ih
theorem msgs_len3:∀ l:List Msg,(l.flatMap cellsM).length=l.length * 3
 | []=>rfl
 | x::l=>by
  rw [List.flatMap_cons,List.length_append,msgs_len3 l,List.length_cons];show 3+_=_;omega
theorem msgs_srcK {w:World} {a:Option Addr} {l:List Msg} (h:MsgsAt w a l):SrcK w a (l.flatMap cellsM):=by
 cases l with
 | nil=>exact fun j u h=>by simp at h
 | cons r0 l0 =>
  obtain ⟨B,o,rfl,-⟩:=h 0 (by simp);intro j u hj;refine ⟨_,rfl,?_⟩;rw [add_off];refine msgs_cells (r0::l0) o (fun i hi=>?_) j u hj;obtain ⟨b',o',e',_,h0,h1,h2⟩:=h i hi;cases e';exact ⟨h0,h1,h2⟩
theorem msgs_one (l:List Msg):∀ u∈l.flatMap cellsM,u.oneCell'=true:=fun u hu=>by
 obtain ⟨r,_,hr⟩:=List.mem_flatMap.1 hu;unfold cellsM at hr;simp at hr;rcases hr with rfl | rfl | rfl <;> rfl
theorem cell_flat {α:Type} (f:α->List Value) (k:Nat) (hf:∀ x,(f x).length=k):∀ (l:List α) (i:Nat) (h:i < l.length) (j:Nat),j < k->(l.flatMap f)[i * k+j]? = (f l[i])[j]?
 | [],i,h,_,_=>by simp at h
 | x::l,0,_,j,hj=>by
  rw [List.flatMap_cons,Nat.zero_mul,Nat.zero_add,List.getElem?_append_left (by rw [hf];exact hj)];rfl
 | x::l,i+1,h,j,hj=>by
  have e:(i+1) * k+j=i * k+j+k:=by rw [Nat.add_mul];omega
  rw [List.flatMap_cons,e,List.getElem?_append_right (by rw [hf];omega),hf,Nat.add_sub_cancel];exact cell_flat f k hf l i (by simpa using h) j hj
theorem msgs_of_row {w:World} {base e n c:Nat} {a:Option Addr} {l:List Msg} (h:w.ownsRow base e 3 (.slice a n c) n (l.flatMap cellsM)):MsgsAt w a l:=fun i hi=>by
 have hlen:=msgs_len3 l;have hc:=cell_flat cellsM 3 (fun _=>rfl) l i hi;obtain ⟨g,rfl,_,h2,h3⟩:=row_cell h (i * 3) (by omega);obtain ⟨g1,e1,_,_,h4⟩:=row_cell h (i * 3+1) (by omega);obtain ⟨g2,e2,_,_,h5⟩:=row_cell h (i * 3+2) (by omega);cases e1;cases e2;refine ⟨g,0,rfl,h2,?_,?_,?_⟩
 ·rw [Nat.zero_add,h3];exact hc 0 (by decide)
 ·rw [Nat.zero_add,h4];exact hc 1 (by decide)
 ·rw [Nat.zero_add,h5];exact hc 2 (by decide)
theorem parts_srcK {w:World} {a:Option Addr} {l:List Prt} (h:PartsAt w a l):SrcK w a (l.flatMap cellsQ):=by
 cases l with
 | nil=>exact fun j u h=>by simp at h
 | cons r0 l0 =>
  obtain ⟨B,o,rfl,-⟩:=h 0 (by simp);intro j u hj;refine ⟨_,rfl,?_⟩;rw [add_off];have hlen:=flat2_length (r0::l0);have hjl:=(List.getElem?_eq_some_iff.1 hj).1;have hi:j / 2 < (r0::l0).length:=by omega
  have e:j=j / 2 * 2+j % 2:=by omega
  obtain ⟨b',o',e',_,h0,h1⟩:=h (j / 2) hi;cases e';have h2:=flat2 (r0::l0) (j / 2) (j % 2) (by omega) hi;rw [e] at hj ⊢;rw [h2] at hj;rcases (show j % 2=0\/j % 2=1 by omega) with h3 | h3
  ·rw [h3] at hj ⊢;obtain rfl:=Option.some.inj hj;exact h0
  ·rw [h3] at hj ⊢;obtain rfl:=Option.some.inj hj;rw [<- Nat.add_assoc];exact h1
theorem parts_one (l:List Prt):∀ u∈l.flatMap cellsQ,u.oneCell'=true:=fun u hu=>by
 obtain ⟨r,_,hr⟩:=List.mem_flatMap.1 hu;unfold cellsQ at hr;simp at hr;rcases hr with rfl | rfl <;> rfl
end
section
open Go
section
variable {P:Program} {md:Region.Mode} {ops:Array Oper} {Q:Exit->Act->World->Prop} {S T:World->Prop} {d:Nat}
def wpAnyD (P:Program) (md:Region.Mode) (ops:Array Oper) (Q:Exit->Act->World->Prop) (S T:World->Prop) (d:Nat):Nat->Array Bool->Act->World->Prop
 | 0,listed,a,w=>Region.ready md ops listed=[]/\Q .normal a w
 | fuel+1,listed,a,w =>
  (Region.ready md ops listed=[]->Q .normal a w) /\
  ∀ i∈Region.ready md ops listed,wpOp P ops Q i (fun a' w'=>(S w'/\((listed.setIfInBounds i true).getD d true=false->T w'))/\wpAnyD P md ops Q S T d fuel (listed.setIfInBounds i true) a' w') a w
theorem wpAny_of_D:∀ (fuel:Nat) (listed:Array Bool) (a:Act) (w:World),wpAnyD P md ops Q S T d fuel listed a w->wpAny P md ops Q fuel listed a w
 | 0,_,_,_,h=>h
 | fuel+1,_,_,_,h=>⟨h.1,fun i hi=>wpOp_mono (fun a' w' h'=>wpAny_of_D fuel _ a' w' h'.2) (h.2 i hi)⟩
def Down (md:Region.Mode) (ops:Array Oper) (listed:Array Bool):Prop:=∀ (k:Nat) (ok:Oper),ops[k]? = some ok->listed.getD k false=true->∀ e∈ok.after,Region.binds md e=true->listed.getD e.on false=true
def downB (md:Region.Mode) (ops:Array Oper) (listed:Array Bool):Bool:=(List.range ops.size).all fun k=>match ops[k]? with
 | some ok=>!(listed.getD k false) || ok.after.all fun e=>!(Region.binds md e) || listed.getD e.on false
 | none=>true
theorem downB_spec {listed:Array Bool} (h:downB md ops listed=true):Down md ops listed:=fun k ok hk hl e he hb=>by
 unfold downB at h;rw [List.all_eq_true] at h;have hlt:k < ops.size:=(Array.getElem?_eq_some_iff.1 hk).1;have h2:=h k (List.mem_range.2 hlt);rw [hk] at h2;simp only [hl,Bool.not_true,Bool.false_or] at h2;rw [Array.all_eq_true'] at h2;have h3:=h2 e he;rw [hb] at h3;simpa using h3
theorem Down.set {listed:Array Bool} (h:Down md ops listed) {j:Nat} (hj:j∈Region.ready md ops listed):Down md ops (listed.setIfInBounds j true):=fun k ok hk hl e he hb=>by
 by_cases hjk:j=k
 ·subst hjk;obtain ⟨_,oj,hoj,hall⟩:=mem_ready.1 hj;rw [hoj] at hk;cases hk;exact getD_set_true (hall e he hb)
 ·rw [getD_set_ne false hjk] at hl;exact getD_set_true (h k ok hk hl e he hb)
theorem getD_two {listed:Array Bool} {i:Nat} (h:listed.getD i true=false):listed.getD i false=false:=by
 rcases Nat.lt_or_ge i listed.size with h' | h'
 ·simp [h'] at h ⊢;exact h
 ·simp [Array.getElem?_eq_none h'] at h
theorem wpAnyD_first {i:Nat} {oi:Oper} {v:Value} (hi:ops[i]? = some oi) (hsel:∀ (j:Nat) (o:Oper) cs b,ops[j]? = some o->o.op≠.select cs b)
 (hQ:∀ c a w,Q (.panic c) (a.put oi.dst v) w->Q (.panic c) a w) (hid:i≠d) (hdw:∀ L,Down md ops L->d∈Region.ready md ops L->L.getD i false=true) :
 ∀ (fuel:Nat) (listed:Array Bool) (a:Act) (w:World),Down md ops listed ->
  (∀ j oj,ops[j]? = some oj->j≠i->listed.getD j true=false->(∀ e∈oj.after,Region.binds md e=true->e.on≠i)->oi.apart ops oj=true) ->
  i∈Region.ready md ops listed->listed.getD d true=false->YieldsIf P ops (fun w=>S w/\T w) oi v a->S w->T w ->
  wpAnyD P md ops Q S T d fuel (listed.setIfInBounds i true) (a.put oi.dst v) w->wpAnyD P md ops Q S T d (fuel+1) listed a w:=by
 intro fuel
 induction fuel with
 | zero =>
  intro listed a w _ _ hr hld hy hS hT H;refine ⟨fun h=>(by rw [h] at hr;cases hr),fun j hj=>?_⟩;by_cases hji:j=i
  ·subst hji;exact hy.wpOp hi ⟨hS,hT⟩ ⟨⟨hS,fun _=>hT⟩,H⟩
  ·have:=ready_mono hj hji;rw [H.1] at this;cases this
 | succ fuel ih =>
  intro listed a w hdc hfree hr hld hy hS hT H;refine ⟨fun h=>(by rw [h] at hr;cases hr),fun j hj=>?_⟩;by_cases hji:j=i
  ·subst hji;exact hy.wpOp hi ⟨hS,hT⟩ ⟨⟨hS,fun _=>hT⟩,H⟩
  ·have h1:=H.2 j (ready_mono hj hji);obtain ⟨hjun,oj,hoj,hall⟩:=mem_ready.1 hj;have hnot:∀ e∈oj.after,Region.binds md e=true->e.on≠i:=fun e he hb heq=>by
    have h1:=hall e he hb;have h0:=(mem_ready.1 hr).1;rw [heq] at h1;rcases Nat.lt_or_ge i listed.size with h' | h'
    ·simp [h'] at h0 h1;rw [h0] at h1;cases h1
    ·simp [Array.getElem?_eq_none h'] at h1
   have hjd:j≠d:=fun e=>by
    subst e;have h1:=hdw listed hdc hj;rw [getD_two (mem_ready.1 hr).1] at h1;cases h1
   have h2:=wpOp_putIf hoj (hfree j oj hoj hji hjun hnot) (fun cs b=>hsel i oi cs b hi) (fun cs b=>hsel j oj cs b hoj) hQ hy h1;have hfree':∀ k ok,ops[k]? = some ok->k≠i->(listed.setIfInBounds j true).getD k true=false ->
    (∀ e∈ok.after,Region.binds md e=true->e.on≠i)->oi.apart ops ok=true:=fun k ok hk hki hun hno=>by
    refine hfree k ok hk hki ?_ hno;by_cases hjk:j=k
    ·subst hjk;exact hjun
    ·rw [getD_set_ne true hjk] at hun;exact hun
   have hld2:(listed.setIfInBounds j true).getD d true=false:=by rw [getD_set_ne true hjd];exact hld
   refine wpOp_mono (fun a' w' h3=>?_) h2;have hT':=h3.2.1.2 (by rw [getD_set_ne true hjd,getD_set_ne true hid];exact hld);refine ⟨⟨h3.2.1.1,fun _=>hT'⟩,ih (listed.setIfInBounds j true) a' w' (hdc.set hj) hfree' (ready_mono hr (Ne.symm hji)) hld2 h3.1 h3.2.1.1 hT' ?_⟩;rw [Array.setIfInBounds_comm _ _ hji];exact h3.2.2
def waits1 (md:Region.Mode) (ops:Array Oper) (d i:Nat):Bool:=match ops[d]? with
 | some od=>od.after.any fun e=>Region.binds md e && e.on == i
 | none=>true
def waits (md:Region.Mode) (ops:Array Oper) (d i:Nat):Bool:=i != d && (waits1 md ops d i || (List.range ops.size).any fun k=>waits1 md ops d k && waits1 md ops k i)
theorem waits1_ready {L:Array Bool} {d i:Nat} (h:waits1 md ops d i=true) (hr:d∈Region.ready md ops L):L.getD i false=true:=by
 obtain ⟨_,od,hod,hall⟩:=mem_ready.1 hr;unfold waits1 at h;rw [hod] at h;simp only [Array.any_eq_true'] at h;obtain ⟨e,he,h3⟩:=h;simp only [Bool.and_eq_true,beq_iff_eq] at h3;rw [<- h3.2];exact hall e he h3.1
theorem waits_ready {L:Array Bool} {d i:Nat} (h:waits md ops d i=true) (hL:Down md ops L) (hr:d∈Region.ready md ops L):L.getD i false=true:=by
 unfold waits at h;rw [Bool.and_eq_true,Bool.or_eq_true] at h;rcases h.2 with h | h
 ·exact waits1_ready h hr
 ·rw [List.any_eq_true] at h;obtain ⟨k,hk,h⟩:=h;rw [Bool.and_eq_true] at h;have hkl:=waits1_ready h.1 hr;have hlt:=List.mem_range.1 hk;have h2:=h.2;unfold waits1 at h2;rw [Array.getElem?_eq_getElem hlt] at h2;simp only [Array.any_eq_true'] at h2;obtain ⟨e,he,h3⟩:=h2;simp only [Bool.and_eq_true,beq_iff_eq] at h3;rw [<- h3.2];exact hL k _ (Array.getElem?_eq_getElem hlt) hkl e he h3.1
theorem wpAnyD_take {i:Nat} {oi:Oper} {v:Value} {fuel:Nat} {listed:Array Bool} {a:Act} {w:World} (hi:ops[i]? = some oi)
 (hc:(Region.noSelect ops && Region.free md ops listed i && (Region.ready md ops listed).contains i && waits md ops d i && !(listed.getD d true) && downB md ops listed)=true)
 (hQ:∀ c a w,Q (.panic c) (a.put oi.dst v) w->Q (.panic c) a w) (hy:YieldsIf P ops (fun w=>S w/\T w) oi v a) (hS:S w) (hT:T w)
 (h:wpAnyD P md ops Q S T d fuel (listed.setIfInBounds i true) (a.put oi.dst v) w):wpAnyD P md ops Q S T d (fuel+1) listed a w:=by
 simp only [Bool.and_eq_true] at hc;obtain ⟨⟨⟨⟨⟨hs,hf⟩,hr⟩,hw⟩,hld⟩,hdn⟩:=hc;have hid:i≠d:=by
  unfold waits at hw;rw [Bool.and_eq_true,bne_iff_ne] at hw;exact hw.1
 exact wpAnyD_first hi (Region.noSelect_spec hs) hQ hid (fun L hL hr=>waits_ready hw hL hr) fuel listed a w (downB_spec hdn) (Region.free_spec hi hf) (by simpa using hr) (by simpa using hld) hy hS hT h
theorem wpAnyD_done {listed:Array Bool} {a:Act} {w:World} (hr:Region.ready md ops listed=[]) (h:Q .normal a w):∀ fuel,wpAnyD P md ops Q S T d fuel listed a w
 | 0=>⟨hr,h⟩
 | _+1=>⟨fun _=>h,by rw [hr];simp⟩
def AllReadyD (P:Program) (md:Region.Mode) (ops:Array Oper) (Q:Exit->Act->World->Prop) (S T:World->Prop) (d:Nat) (fuel:Nat) (listed:Array Bool) (a:Act) (w:World) (rs:List Nat):Prop :=
 ∀ i∈rs,wpOp P ops Q i (fun a' w'=>(S w'/\((listed.setIfInBounds i true).getD d true=false->T w'))/\wpAnyD P md ops Q S T d fuel (listed.setIfInBounds i true) a' w') a w
theorem AllReadyD.nil {fuel:Nat} {listed:Array Bool} {a:Act} {w:World}:AllReadyD P md ops Q S T d fuel listed a w []:=fun _ h=>by cases h
theorem AllReadyD.pre {fuel:Nat} {listed:Array Bool} {a:Act} {w:World} (i:Nat) {o:Oper} {rs:List Nat} (ho:ops[i]? = some o)
 (h:∀ K':Act->World->Prop,Shut (∀ a w,S w->T w->(S w->T w->wpAnyD P md ops Q S T d fuel (listed.setIfInBounds i true) a w)->K' a w)->if Region.wanted o (yielded ops a.tmps)=true then Oper.wp P o a w K' Q else K' (a.put o.dst undef) w)
 (hs:AllReadyD P md ops Q S T d fuel listed a w rs):AllReadyD P md ops Q S T d fuel listed a w (i::rs):=fun j hj=>by
 rcases List.mem_cons.1 hj with rfl | hj
 ·exact wpOp_step ho (fun K' hK=>h K' (fun a w hS hT hW=>hK a w ⟨⟨hS,fun _=>hT⟩,hW hS hT⟩))
 ·exact hs j hj
theorem AllReadyD.post {fuel:Nat} {listed:Array Bool} {a:Act} {w:World} (i:Nat) {o:Oper} {rs:List Nat} (ho:ops[i]? = some o) (hd:(listed.setIfInBounds i true).getD d true=true)
 (h:∀ K':Act->World->Prop,Shut (∀ a w,S w->(S w->wpAnyD P md ops Q S T d fuel (listed.setIfInBounds i true) a w)->K' a w)->if Region.wanted o (yielded ops a.tmps)=true then Oper.wp P o a w K' Q else K' (a.put o.dst undef) w)
 (hs:AllReadyD P md ops Q S T d fuel listed a w rs):AllReadyD P md ops Q S T d fuel listed a w (i::rs):=fun j hj=>by
 rcases List.mem_cons.1 hj with rfl | hj
 ·exact wpOp_step ho (fun K' hK=>h K' (fun a w hS hW=>hK a w ⟨⟨hS,fun hf=>by rw [hd] at hf;cases hf⟩,hW hS⟩))
 ·exact hs j hj
theorem wpAnyD_ready (rs:List Nat) {fuel:Nat} {listed:Array Bool} {a:Act} {w:World} (hr:Region.ready md ops listed=rs) (hne:rs≠[])
 (h:AllReadyD P md ops Q S T d fuel listed a w rs):wpAnyD P md ops Q S T d (fuel+1) listed a w:=⟨fun h0=>absurd (hr ▸ h0) hne,hr ▸ h⟩
theorem wp_region_D (S T:World->Prop) (d:Nat) {id:Nat} {a:Act} {w:World} (hm:P.follows .mixedOrders=true) (hS:S w.drew) (hT:T w.drew)
 (h:S w.drew->T w.drew->wpAnyD P .any ops Q S T d ops.size (Array.replicate ops.size false) a w.drew):(Code.region id ops true).wp P Q a w :=
 wp_region_any hm (wpAny_of_D _ _ _ _ (h hS hT))
end
section
variable {P:Program} {md:Region.Mode} {ops:Array Oper} {Q:Exit->Act->World->Prop} {l:Nat}
end
end
section
open Go.RowKit Go.Maps Sp
theorem wpl_copy {P:Program} {X:World} (W:World) {ops:Array Oper} {rest:List Oper} {o:Oper} {a:Act} {Q:Exit->Act->World->Prop} (hgd:o.guard=none) (s x:Operand) (t:TypeId)
 (ho:o.op=.call { callee:=.builtin .append,args:=#[s,x],argTypes:=#[t,t] }) (e:TypeId) {z:Value} {k bytes:Nat} (ht:P.underlying t=some (.slice e)) (hi:(P.info? e).map (fun i=>(i.zero,i.size,i.bytes))=some (some z,k,bytes)) (hzs:z.cells.size=k) (hk:0 < k) (hby:bytes<=100)
 (v:Value) (n:Nat) (xs:List Value) (hs:a.eval s=v) (sa:Option Addr) (m c:Nat) (news:List Value) (hx:a.eval x=.slice sa m c) (hl:news.length=m * k) (h1:∀ u∈news,u.oneCell'=true)
 (r:Nat) (hr:n+m=r) (hnm:r<=1000000) (hW:Below W.heap.size W X) (hown:X.ownsRow W.heap.size e k v n xs) (hnews:SrcK X sa news)
 (h:∀ a' c' w',w'.ownsRow W.heap.size e k (.slice a' r c') r (xs ++ news)->KS (fun i=>v.ownBlock≠some i) X w'->Below W.heap.size W w'->wpList P ops Q rest (a.put o.dst (.slice a' r c')) w') :
 wpList P ops Q (o::rest) a X :=
 wpList_plain hgd fun K hK=>by
  have:=step_copy (P:=P) (ops:=ops) (K:=K) (Q:=Q) (E:=False) W hgd s x t ho e ht hi hzs hk hby v n xs hs sa m c news hx hl h1 r hr hnm hW hown hnews fun a' c' w' h2 h3 h4=>hK _ _ (h a' c' w' h2 h3 h4)
  rwa [if_pos (by simp [Region.wanted,hgd])] at this
theorem cloneMsg_at {w:World} {a:Option Addr} {n c:Nat} {news:List Value} (hl:news.length=n * 3) (hn:n<=1000000) (hs:SrcK w a news) (h1:∀ u∈news,u.oneCell'=true) :
 Calls Tryz.prog 81 #[.slice a n c] w fun e w'=>∃ a' c',e=.returned (.slice a' n c')/\w'.ownsRow w.heap.size 48 3 (.slice a' n c') n news/\Below w.heap.size w w':=by
 have q22:∀ (w:World) (a:Option Addr) (n c n' c':Nat),(binOp .eql 22 (.slice a n c) (.slice none n' c')).run Tryz.prog w=.ok (.bool a.isNone) w:=fun w a n c n' c'=>Lib.run_eql_slice_nil w _ _ a n c n' c' Tryz.underlying22;have HS:=Hh hs;have HL:=Hh hl;have H1:=Hh h1;clear hs hl h1
 cases a with
 | none =>
  obtain rfl:n=0:=by
   have hl:=HL.out
   cases news with
   | nil=>simp at hl;omega
   | cons u l=>obtain ⟨ad,e,_⟩:=HS.out 0 u rfl;cases e
  obtain rfl:news=[]:=List.eq_nil_of_length_eq_zero (HL.out.trans (Nat.zero_mul _))
  go_enter Tryz.func81,Tryz.ntmps81
  go_wp2;go_ret;exact ⟨none,0,rfl,World.ownsRow_nil _ _ _ _,Below.refl _ _⟩
 | some ad =>
  go_enter Tryz.func81,Tryz.ntmps81
  go_wp2_with (at_builtin;go_loud (refine wpl_copy w rfl _ _ 22 rfl 48 Tryz.underlying22 msgInfo rfl (by decide) (by decide) (.slice (some ⟨w.heap.size,0,none⟩) 0 0) 0 [] rfl (some ad) n c news rfl HL.out H1.out n (Nat.zero_add n) hn (bal _ _) (own_litK rfl (Nat.le_refl _)) (HS.out.below (bal _ _)) ?_);intro a' c' w' hrow hks hb);go_ret;exact ⟨a',c',rfl,by simpa using hrow,hb⟩
theorem cloneRec_at {w:World} {a:Option Addr} {n c:Nat} {news:List Value} (hl:news.length=n * 4) (hn:n<=1000000) (hs:SrcK w a news) (h1:∀ u∈news,u.oneCell'=true) :
 Calls Tryz.prog 46 #[.slice a n c] w fun e w'=>∃ a' c',e=.returned (.slice a' n c')/\w'.ownsRow w.heap.size 29 4 (.slice a' n c') n news/\Below w.heap.size w w':=by
 have q22:∀ (w:World) (a:Option Addr) (n c n' c':Nat),(binOp .eql 24 (.slice a n c) (.slice none n' c')).run Tryz.prog w=.ok (.bool a.isNone) w:=fun w a n c n' c'=>Lib.run_eql_slice_nil w _ _ a n c n' c' Tryz.underlying24;have HS:=Hh hs;have HL:=Hh hl;have H1:=Hh h1;clear hs hl h1
 cases a with
 | none =>
  obtain rfl:n=0:=by
   have hl:=HL.out
   cases news with
   | nil=>simp at hl;omega
   | cons u l=>obtain ⟨ad,e,_⟩:=HS.out 0 u rfl;cases e
  obtain rfl:news=[]:=List.eq_nil_of_length_eq_zero (HL.out.trans (Nat.zero_mul _))
  go_enter Tryz.func46,Tryz.ntmps46
  go_wp2;go_ret;exact ⟨none,0,rfl,World.ownsRow_nil _ _ _ _,Below.refl _ _⟩
 | some ad =>
  go_enter Tryz.func46,Tryz.ntmps46
  go_wp2_with (at_builtin;go_loud (refine wpl_copy w rfl _ _ 24 rfl 29 Tryz.underlying24 recInfo rfl (by decide) (by decide) (.slice (some ⟨w.heap.size,0,none⟩) 0 0) 0 [] rfl (some ad) n c news rfl HL.out H1.out n (Nat.zero_add n) hn (bal _ _) (own_litK rfl (Nat.le_refl _)) (HS.out.below (bal _ _)) ?_);intro a' c' w' hrow hks hb);go_ret;exact ⟨a',c',rfl,by simpa using hrow,hb⟩
theorem cloneSes_at {w:World} {a:Option Addr} {n c:Nat} {news:List Value} (hl:news.length=n * 1) (hn:n<=1000000) (hs:SrcK w a news) (h1:∀ u∈news,u.oneCell'=true) :
 Calls Tryz.prog 49 #[.slice a n c] w fun e w'=>∃ a' c',e=.returned (.slice a' n c')/\w'.ownsRow w.heap.size 32 1 (.slice a' n c') n news/\Below w.heap.size w w':=by
 have q22:∀ (w:World) (a:Option Addr) (n c n' c':Nat),(binOp .eql 23 (.slice a n c) (.slice none n' c')).run Tryz.prog w=.ok (.bool a.isNone) w:=fun w a n c n' c'=>Lib.run_eql_slice_nil w _ _ a n c n' c' Tryz.underlying23;have HS:=Hh hs;have HL:=Hh hl;have H1:=Hh h1;clear hs hl h1
 cases a with
 | none =>
  obtain rfl:n=0:=by
   have hl:=HL.out
   cases news with
   | nil=>simp at hl;omega
   | cons u l=>obtain ⟨ad,e,_⟩:=HS.out 0 u rfl;cases e
  obtain rfl:news=[]:=List.eq_nil_of_length_eq_zero (HL.out.trans (Nat.zero_mul _))
  go_enter Tryz.func49,Tryz.ntmps49
  go_wp2;go_ret;exact ⟨none,0,rfl,World.ownsRow_nil _ _ _ _,Below.refl _ _⟩
 | some ad =>
  go_enter Tryz.func49,Tryz.ntmps49
  go_wp2_with (at_builtin;go_loud (refine wpl_copy w rfl _ _ 23 rfl 32 Tryz.underlying23 sesInfo1 rfl (by decide) (by decide) (.slice (some ⟨w.heap.size,0,none⟩) 0 0) 0 [] rfl (some ad) n c news rfl HL.out H1.out n (Nat.zero_add n) hn (bal _ _) (own_litK rfl (Nat.le_refl _)) (HS.out.below (bal _ _)) ?_);intro a' c' w' hrow hks hb);go_ret;exact ⟨a',c',rfl,by simpa using hrow,hb⟩
theorem clonePrt_at {w:World} {a:Option Addr} {n c:Nat} {news:List Value} (hl:news.length=n * 2) (hn:n<=1000000) (hs:SrcK w a news) (h1:∀ u∈news,u.oneCell'=true) :
 Calls Tryz.prog 82 #[.slice a n c] w fun e w'=>∃ a' c',e=.returned (.slice a' n c')/\w'.ownsRow w.heap.size 76 2 (.slice a' n c') n news/\Below w.heap.size w w':=by
 have q22:∀ (w:World) (a:Option Addr) (n c n' c':Nat),(binOp .eql 30 (.slice a n c) (.slice none n' c')).run Tryz.prog w=.ok (.bool a.isNone) w:=fun w a n c n' c'=>Lib.run_eql_slice_nil w _ _ a n c n' c' Tryz.underlying30;have HS:=Hh hs;have HL:=Hh hl;have H1:=Hh h1;clear hs hl h1
 cases a with
 | none =>
  obtain rfl:n=0:=by
   have hl:=HL.out
   cases news with
   | nil=>simp at hl;omega
   | cons u l=>obtain ⟨ad,e,_⟩:=HS.out 0 u rfl;cases e
  obtain rfl:news=[]:=List.eq_nil_of_length_eq_zero (HL.out.trans (Nat.zero_mul _))
  go_enter Tryz.func82,Tryz.ntmps82
  go_wp2;go_ret;exact ⟨none,0,rfl,World.ownsRow_nil _ _ _ _,Below.refl _ _⟩
 | some ad =>
  go_enter Tryz.func82,Tryz.ntmps82
  go_wp2_with (at_builtin;go_loud (refine wpl_copy w rfl _ _ 30 rfl 76 Tryz.underlying30 partInfo rfl (by decide) (by decide) (.slice (some ⟨w.heap.size,0,none⟩) 0 0) 0 [] rfl (some ad) n c news rfl HL.out H1.out n (Nat.zero_add n) hn (bal _ _) (own_litK rfl (Nat.le_refl _)) (HS.out.below (bal _ _)) ?_);intro a' c' w' hrow hks hb);go_ret;exact ⟨a',c',rfl,by simpa using hrow,hb⟩
end
end Go.Proofs.YtojkofjcblmnjaaGreatDoor
