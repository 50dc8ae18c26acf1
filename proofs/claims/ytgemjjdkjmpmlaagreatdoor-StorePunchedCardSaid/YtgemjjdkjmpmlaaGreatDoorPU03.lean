/- Leads to StorePunched of chapter 6: PUK W6 PUR. -/
import Derived.Test.YtgemjjdkjmpmlaaGreatDoorPU02
set_option maxHeartbeats 8000000
set_option maxRecDepth 100000
set_option linter.all false
namespace Go.Proofs.YtgemjjdkjmpmlaaGreatDoor
open Go.RowKit Go.Maps Sp
theorem recs_cells {w:World} {sb:Nat}:∀ (l:List Rec) (so:Nat),(∀ i (h:i < l.length),w.cell? ⟨sb,so+i * 4,none⟩=some (.int .i64 l[i].k)∧w.cell? ⟨sb,so+i * 4+1,none⟩=some (.int .i64 l[i].a)∧w.cell? ⟨sb,so+i * 4+2,none⟩=some (.int .i64 l[i].b)∧w.cell? ⟨sb,so+i * 4+3,none⟩=some (.int .i64 l[i].m)) →
 ∀ j u,(l.flatMap cellsR)[j]? = some u→w.cell? ⟨sb,so+j,none⟩=some u
 | [],_,_,j,u,hj=>by simp at hj
 | r::l,so,h,j,u,hj=>by
  obtain ⟨h0,h1,h2,h3⟩:=h 0 (by simp)
  rw [List.flatMap_cons] at hj
  by_cases hlt:j < 4
  ·rw [List.getElem?_append_left (by show _ < 4;omega)] at hj
   match j,hlt with
   | 0,_=>obtain rfl:=Option.some.inj hj;exact h0
   | 1,_=>obtain rfl:=Option.some.inj hj;exact h1
   | 2,_=>obtain rfl:=Option.some.inj hj;exact h2
   | 3,_=>obtain rfl:=Option.some.inj hj;exact h3
  ·rw [List.getElem?_append_right (by show 4≤_;omega)] at hj
   have ih:=recs_cells l (so+4) (fun i hi=>by
    have:=h (i+1) (by simp;omega)
    simp only [List.getElem_cons_succ] at this
    rw [show so+4+i * 4=so+(i+1) * 4 by omega]
    exact this) (j - 4) u hj
   rwa [show so+4+(j - 4)=so+j by omega] at ih
def SrcK (X:World) (sa:Option Addr) (news:List Value):Prop:=∀ j u,news[j]? = some u→∃ ad,sa=some ad∧X.cell? (ad.add j)=some u
theorem SrcK.below {X Y:World} {sa:Option Addr} {news:List Value} (h:SrcK X sa news) (hb:Below X.heap.size X Y):SrcK Y sa news:=fun j u hj=>by
 obtain ⟨ad,e,hc⟩:=h j u hj
 exact ⟨ad,e,(hb.cell (lt_of_cell hc)).trans hc⟩
theorem SrcK.ks {X Y:World} {sa:Option Addr} {news:List Value} (h:SrcK X sa news) {p:Nat→Prop} (hk:KS p X Y) (hp:∀ ad,sa=some ad→p ad.block):SrcK Y sa news:=fun j u hj=>by
 obtain ⟨ad,e,hc⟩:=h j u hj
 have hb:(Addr.add ad j).block=ad.block:=by unfold Addr.add;split <;> rfl
 exact ⟨ad,e,(hk.cell (x:=ad.add j) (lt_of_cell hc) (by rw [hb];exact hp ad e)).trans hc⟩
theorem srcK_new (w:World) (cs:List Value) (t:TypeId) {n:Nat} (hn:n=w.heap.size):SrcK (w.alloc (.cells cs.toArray t)) (some ⟨n,0,none⟩) cs:=fun j u hj=>by
 subst hn
 exact ⟨_,rfl,cells_new w cs t j u hj⟩
theorem own_litK {w:World} {base k:Nat} {e:TypeId} {n:Nat} (hn:n=w.heap.size) (hb:base≤n):(w.alloc (.cells #[] e)).ownsRow base e k (.slice (some ⟨n,0,none⟩) 0 0) 0 []:=by
 subst hn
 exact World.ownsRow_lit w #[] 0 hb (by decide) (by simp)
theorem sesInfo2:(Tryz.prog.info? 64).map (fun i=>(i.zero,i.size,i.bytes))=some (some (.agg #[.slice none 0 0]),1,24):=by kernel_rfl
theorem step_copy {P:Program} {X:World} (W:World) {ops:Array Oper} {o:Oper} {a:Act} {K:Act→World→Prop} {Q:Exit→Act→World→Prop} {E:Prop} (hgd:o.guard=none) (s x:Operand) (t:TypeId)
 (ho:o.op=.call { callee:=.builtin .append,args:=#[s,x],argTypes:=#[t,t] }) (e:TypeId) {z:Value} {k bytes:Nat} (ht:P.underlying t=some (.slice e)) (hi:(P.info? e).map (fun i=>(i.zero,i.size,i.bytes))=some (some z,k,bytes)) (hzs:z.cells.size=k) (hk:0 < k) (hby:bytes≤100)
 (v:Value) (n:Nat) (xs:List Value) (hs:a.eval s=v) (sa:Option Addr) (m c:Nat) (news:List Value) (hx:a.eval x=.slice sa m c) (hl:news.length=m * k) (h1:∀ u∈news,u.oneCell'=true)
 (r:Nat) (hr:n+m=r) (hnm:r≤1000000) (hW:Below W.heap.size W X) (hown:X.ownsRow W.heap.size e k v n xs) (hnews:SrcK X sa news)
 (h:∀ a' c' w',w'.ownsRow W.heap.size e k (.slice a' r c') r (xs ++ news)→KS (fun i=>v.ownBlock≠some i) X w'→Below W.heap.size W w'→K (a.put o.dst (.slice a' r c')) w') :
 if Region.wanted o (yielded ops a.tmps)=true then Oper.wp P o a X K Q else E:=by
 subst hr
 obtain ⟨i,hi,hz,hsz,hb⟩:=info_parts hi
 by_cases hm:m=0
 ·subst hm
  have hn0:news=[]:=List.eq_nil_of_length_eq_zero (by omega)
  subst hn0
  have hw:Region.wanted o (yielded ops a.tmps)=true:=by simp [Region.wanted,hgd]
  rw [if_pos hw]
  have hshape:∃ a' c',v=.slice a' n c'∧n≤c':=by
   rcases hown.2 with ⟨rfl,rfl⟩ | ⟨g,cap,cur,rfl,_,_,h,_⟩
   ·exact ⟨none,0,rfl,Nat.le_refl _⟩
   ·exact ⟨_,_,rfl,h⟩
  obtain ⟨a',c',rfl,hle⟩:=hshape
  have hr:=run_append_nothing X t t o.type e i ht hi a' n c' hle (.slice sa 0 c) (by
   cases sa with
   | none=>exact Src.ofNil X ht c
   | some ad=>exact Src.ofSlice X ht ad 0 c [] (by simp) (fun j u h=>by simp at h) (fun u h=>by cases h))
  unfold Oper.wp execOp
  simp only [ho,resolve,invoke,builtin,Sem.run_bind,Sem.run_pure,Result.andThen_ok,List.map_toArray,List.map_cons,List.map_nil,hs,hx,hr]
  exact h _ _ X (by simpa using hown) (KS.refl _ _) hW
 ·have hm0:0 < m:=by omega
  have hlk:0 < m * k:=Nat.mul_pos hm0 hk
  obtain ⟨ad,rfl,-⟩:=hnews 0 news[0] (List.getElem?_eq_getElem (by omega))
  have hbm:(n+m) * bytes≤140737488355328:=by have:=Nat.mul_le_mul hnm hby;omega
  refine step_append_lies (w:=X) hgd s x t ho W.heap.size e i z k bytes ht hi hz hsz hb hzs hk v n xs hs hown ad m c news hx hl (fun j u hj=>?_) h1 hm0 (by unfold maxLen;omega) hbm hW.size X.heap.size rfl fun g c w' h2 h3 _ _=>h _ _ w' h2 (KS.own h3 fun g hg=>by simp [hg]) (hW.trans (below_own hown h3 hW.size))
  obtain ⟨ad',e',hc⟩:=hnews j u hj
  cases e'
  exact hc
theorem sess_src {w:World} {a:Option Addr} {l:List (List Prt)} (h:SessAt w a l):∃ vs,SesV w vs l∧SrcK w a vs∧∀ u∈vs,u.oneCell'=true:=by
 cases l with
 | nil=>exact ⟨[],SesV.nil w,fun j u h=>by simp at h,fun u h=>by cases h⟩
 | cons s0 l0 =>
  obtain ⟨B,o,rfl,-⟩:=h 0 (by simp)
  have hc:∀ i (hi:i < (s0::l0).length),∃ pa pc,w.cell? ⟨B,o+i,none⟩=some (.slice pa ((s0::l0)[i]).length pc)∧((s0::l0)[i]).length≤pc∧((s0::l0)[i]).length≤1000000∧PartsAt w pa ((s0::l0)[i]):=fun i hi=>by
   obtain ⟨b',o',e',_,h2⟩:=h i hi
   cases e'
   exact h2
  have hg:∀ i u,((List.range (s0::l0).length).map fun i=>(w.cell? ⟨B,o+i,none⟩).getD undef)[i]? = some u→∃ hi:i < (s0::l0).length,w.cell? ⟨B,o+i,none⟩=some u:=fun i u hu=>by
   rw [List.getElem?_map] at hu
   obtain ⟨j,hj,rfl⟩:=Option.map_eq_some_iff.1 hu
   obtain ⟨hj1,hj2⟩:=List.getElem?_eq_some_iff.1 hj
   rw [List.length_range] at hj1
   rw [List.getElem_range] at hj2
   subst hj2
   obtain ⟨pa,pc,e,-⟩:=hc i hj1
   exact ⟨hj1,by rw [e];rfl⟩
  refine ⟨(List.range (s0::l0).length).map fun i=>(w.cell? ⟨B,o+i,none⟩).getD U,⟨by simp,fun i v s hv hs=>?_⟩,fun j u hj=>?_,fun u hu=>?_⟩
  ·obtain ⟨hi,e⟩:=hg i v hv
   obtain ⟨pa,pc,e2,h3⟩:=hc i hi
   rw [e] at e2
   obtain ⟨hi2,rfl⟩:=List.getElem?_eq_some_iff.1 hs
   exact ⟨pa,pc,Option.some.inj e2,h3⟩
  ·obtain ⟨hi,e⟩:=hg j u hj
   exact ⟨_,rfl,by rw [add_off];exact e⟩
  ·obtain ⟨i,hi,e9⟩:=List.mem_iff_getElem.1 hu
   obtain ⟨hi,e⟩:=hg i u (by rw [← e9];exact List.getElem?_eq_getElem _)
   obtain ⟨pa,pc,e2,-⟩:=hc i hi
   rw [e] at e2
   rw [Option.some.inj e2]
   rfl
theorem recs_srcK {w:World} {a:Option Addr} {l:List Rec} (h:RecsAt w a l):SrcK w a (l.flatMap cellsR):=by
 cases l with
 | nil=>exact fun j u h=>by simp at h
 | cons r0 l0 =>
  obtain ⟨B,o,rfl,-⟩:=h 0 (by simp)
  intro j u hj
  refine ⟨_,rfl,?_⟩
  rw [add_off]
  refine recs_cells (r0::l0) o (fun i hi=>?_) j u hj
  obtain ⟨b',o',e',_,h0,h1,h2,h3⟩:=h i hi
  cases e'
  exact ⟨h0,h1,h2,h3⟩
theorem recs_one (l:List Rec):∀ u∈l.flatMap cellsR,u.oneCell'=true:=fun u hu=>by
 obtain ⟨r,_,hr⟩:=List.mem_flatMap.1 hu
 unfold cellsR at hr
 simp at hr
 rcases hr with rfl | rfl | rfl | rfl <;> rfl
def KI (w w':World):Prop:=w.heap.size≤w'.heap.size∧∀ a k x,w.cell? a=some (.int k x)→w'.cell? a=some (.int k x)
theorem KI.trans {w w1 w2:World} (h:KI w w1) (k:KI w1 w2):KI w w2:=⟨Nat.le_trans h.1 k.1,fun a i x e=>k.2 a i x (h.2 a i x e)⟩
theorem KI.below {w w':World} (h:Below w.heap.size w w'):KI w w':=⟨h.size,fun _ _ _ e=>(h.cell (lt_of_cell e)).trans e⟩
theorem KI.set {w:World} {a:Addr} {b:Option Addr} {n c:Nat} (h:w.cell? a=some (.slice b n c)) (v:Value):KI w (w.setCell a v):=⟨by simp,fun x k i e=>by
 rw [World.cell?_setCell_other (h:=fun hx=>by subst hx;rw [h] at e;cases e)]
 exact e⟩
theorem KI.parts {w w':World} {a:Option Addr} {l:List Prt} (h:KI w w') (hp:PartsAt w a l):PartsAt w' a l:=fun i hi=>by
 obtain ⟨b,o,e,hlt,h1,h2⟩:=hp i hi
 exact ⟨b,o,e,Nat.lt_of_lt_of_le hlt h.1,h.2 _ _ _ h1,h.2 _ _ _ h2⟩
theorem sess_row {w w':World} {base e n c:Nat} {a:Option Addr} {vs:List Value} {l:List (List Prt)} (h:w'.ownsRow base e 1 (.slice a n c) n vs) (k:SesV w vs l) (hb:KI w w'):SessAt w' a l:=fun i hi=>by
 have hv:i < vs.length:=by rw [k.1];exact hi
 obtain ⟨g,rfl,_,h2,h3⟩:=row_cell h i hv
 obtain ⟨pa,pc,e,h4,h5,h6⟩:=k.2 i vs[i] l[i] (List.getElem?_eq_getElem hv) (List.getElem?_eq_getElem hi)
 exact ⟨g,0,rfl,h2,pa,pc,by rw [Nat.zero_add,h3,List.getElem?_eq_getElem hv,e],h4,h5,hb.parts h6⟩
theorem SrcK.ki {w w':World} {sa:Option Addr} {news:List Value} (h:SrcK w sa news) (hi:∀ u∈news,∃ k x,u=.int k x) (hk:KI w w'):SrcK w' sa news:=fun j u hj=>by
 obtain ⟨ad,e,hc⟩:=h j u hj
 obtain ⟨k,x,rfl⟩:=hi u (List.mem_of_getElem? hj)
 exact ⟨ad,e,hk.2 _ _ _ hc⟩
theorem recs_int (l:List Rec):∀ u∈l.flatMap cellsR,∃ k x,u=.int k x:=fun u hu=>by
 obtain ⟨r,_,hr⟩:=List.mem_flatMap.1 hu
 unfold cellsR at hr
 simp at hr
 rcases hr with rfl | rfl | rfl | rfl <;> exact ⟨_,_,rfl⟩
theorem recs_len4:∀ l:List Rec,(l.flatMap cellsR).length=l.length * 4
 | []=>rfl
 | r::l=>by
  rw [List.flatMap_cons,List.length_append,recs_len4 l,List.length_cons]
  show 4+_=_
  omega
theorem tape_more {w wr w4 w5:World} {b:Bk} {ps:List (List Prt)} {p:List Prt} {O n m sc rc xc c4 c5:Nat} {sa ra xa a4 a5:Option Addr} {vr vg vm vs vc:Value} {vals:List Value}
 (hE:BookAt w b vr vg vm vs vc) (how:Old w wr) (hwO:w.heap.size≤O) (hf:Five wr O vr vg vm (.slice sa n sc) (.slice ra m rc)) (hz:∀ i,wr.frozen? ⟨O,i,none⟩=false) (hn:n=(punB b ps).ss.length) (hm:m=(punB b ps).rs.length) (hnb:n≤10) (hmb:m≤10)
 (hsv:SesV wr vals (punB b ps).ss) (hP:PartsAt wr xa p) (hpc:p.length≤xc) (hp5:p.length≤5)
 (hb4:Below wr.heap.size wr w4) (hr4:w4.ownsRow wr.heap.size 64 1 (.slice a4 (n+1) c4) (n+1) (vals ++ [.slice xa p.length xc]))
 (hb5:Below (w4.setCell ⟨O,3,none⟩ (.slice a4 (n+1) c4)).heap.size (w4.setCell ⟨O,3,none⟩ (.slice a4 (n+1) c4)) w5)
 (hr5:w5.ownsRow (w4.setCell ⟨O,3,none⟩ (.slice a4 (n+1) c4)).heap.size 70 4 (.slice a5 (m+1) c5) (m+1) ((punB b ps).rs.flatMap cellsR ++ [.int .i64 0,.int .i64 n,.int .i64 0,.int .i64 0])) :
 Five (w5.setCell ⟨O,4,none⟩ (.slice a5 (m+1) c5)) O vr vg vm (.slice a4 (n+1) c4) (.slice a5 (m+1) c5)∧(∀ i,(w5.setCell ⟨O,4,none⟩ (.slice a5 (m+1) c5)).frozen? ⟨O,i,none⟩=false)∧Old w (w5.setCell ⟨O,4,none⟩ (.slice a5 (m+1) c5))∧BookAt (w5.setCell ⟨O,4,none⟩ (.slice a5 (m+1) c5)) (punB b (ps ++ [p])) vr vg vm (.slice a4 (n+1) c4) (.slice a5 (m+1) c5):=by
 have hOl:=hf.lt
 have s4:=hb4.size
 have e3:w4.cell? ⟨O,3,none⟩=some (.slice sa n sc):=(hb4.cell (p:=⟨O,3,none⟩) hOl).trans hf.c3
 have e4:w4.cell? ⟨O,4,none⟩=some (.slice ra m rc):=(hb4.cell (p:=⟨O,4,none⟩) hOl).trans hf.c4
 obtain ⟨W5,hW5⟩:∃ W5,W5=w4.setCell ⟨O,3,none⟩ (.slice a4 (n+1) c4):=⟨_,rfl⟩
 rw [← hW5] at hb5 hr5
 have z5:W5.heap.size=w4.heap.size:=by rw [hW5];simp
 have hO5:O < W5.heap.size:=by omega
 have g3:W5.cell? ⟨O,3,none⟩=some (.slice a4 (n+1) c4):=by rw [hW5];exact World.cell?_setCell_same' _ _ _ (by rw [e3];rfl)
 have gk:∀ i,i≠3→W5.cell? ⟨O,i,none⟩=wr.cell? ⟨O,i,none⟩:=fun i hi=>by
  rw [hW5,World.cell?_setCell_other (h:=fun e=>by injection e with _ e _;exact hi e.symm)]
  exact hb4.cell (p:=⟨O,i,none⟩) hOl
 have k4:KI wr W5:=(KI.below hb4).trans (by rw [hW5];exact KI.set e3 _)
 have h3:w5.cell? ⟨O,3,none⟩=some (.slice a4 (n+1) c4):=(hb5.cell (p:=⟨O,3,none⟩) hO5).trans g3
 have h4:w5.cell? ⟨O,4,none⟩=some (.slice ra m rc):=(hb5.cell (p:=⟨O,4,none⟩) hO5).trans ((gk 4 (by omega)).trans hf.c4)
 have s5:=hb5.size
 obtain ⟨W9,hW9⟩:∃ W9,W9=w5.setCell ⟨O,4,none⟩ (.slice a5 (m+1) c5):=⟨_,rfl⟩
 rw [← hW9]
 have z9:W9.heap.size=w5.heap.size:=by rw [hW9];simp
 have jk:∀ i,i≠4→W9.cell? ⟨O,i,none⟩=w5.cell? ⟨O,i,none⟩:=fun i hi=>by
  rw [hW9,World.cell?_setCell_other (h:=fun e=>by injection e with _ e _;exact hi e.symm)]
 have lk:∀ i,i≠3→i≠4→W9.cell? ⟨O,i,none⟩=wr.cell? ⟨O,i,none⟩:=fun i h3 h4=>(jk i h4).trans ((hb5.cell (p:=⟨O,i,none⟩) hO5).trans (gk i h3))
 have k9:KI wr W9:=(k4.trans (KI.below hb5)).trans (by rw [hW9];exact KI.set h4 _)
 have hold:Old w W9:=by
  have q4:KS (fun i=>i < wr.heap.size∧i≠O) wr W5:=(KS.all hb4 _).trans (by rw [hW5];exact KS.setCell (p:=fun i=>i < wr.heap.size∧i≠O) (by simp) _ _)
  have q9:KS (fun i=>i < wr.heap.size∧i≠O) W5 W9:=(KS.all hb5 _).trans (by rw [hW9];exact KS.setCell (p:=fun i=>i < wr.heap.size∧i≠O) (by simp) _ _)
  exact how.ks hwO (q4.trans q9)
 have r4:W9.ownsRow wr.heap.size 64 1 (.slice a4 (n+1) c4) (n+1) (vals ++ [.slice xa p.length xc]):=by
  have a1:W5.ownsRow wr.heap.size 64 1 (.slice a4 (n+1) c4) (n+1) (vals ++ [.slice xa p.length xc]):=by
   rw [hW5];exact ownsRow_ks hr4 (KS.setCell (p:=fun k=>k≠O) (by simp) _ _) (fun k hk=>by show k≠O;omega)
  have a2:=ownsRow_below a1 hb5
  rw [hW9];exact ownsRow_ks a2 (KS.setCell (p:=fun k=>k≠O) (by simp) _ _) (fun k hk=>by show k≠O;omega)
 have r5:W9.ownsRow W5.heap.size 70 4 (.slice a5 (m+1) c5) (m+1) ((punB b ps).rs.flatMap cellsR ++ [.int .i64 0,.int .i64 n,.int .i64 0,.int .i64 0]):=by
  rw [hW9];exact ownsRow_ks hr5 (KS.setCell (p:=fun k=>k≠O) (by simp) _ _) (fun k hk=>by show k≠O;omega)
 have hB9:=hold.book hE
 refine ⟨⟨(lk 0 (by omega) (by omega)).trans hf.c0,(lk 1 (by omega) (by omega)).trans hf.c1,(lk 2 (by omega) (by omega)).trans hf.c2,(jk 3 (by omega)).trans h3,by rw [hW9];exact World.cell?_setCell_same' _ _ _ (by rw [h4];rfl),by omega⟩,fun i=>?_,hold,?_⟩
 ·rw [hW9,World.frozen?_setCell]
  refine (hb5.frozen (p:=⟨O,i,none⟩) hO5).trans ?_
  rw [hW5,World.frozen?_setCell]
  exact (hb4.frozen (p:=⟨O,i,none⟩) hOl).trans (hz i)
 ·have e1:(punB b (ps ++ [p])).ss.length=n+1:=by rw [punB_snoc];simp [hn]
  have e2:(punB b (ps ++ [p])).rs.length=m+1:=by rw [punB_snoc];simp [hm]
  refine ⟨hB9.room,hB9.gap,hB9.ms,⟨a4,c4,by rw [e1],?_,by rw [e1];omega⟩,a5,c5,by rw [e2],?_,by rw [e2];omega⟩
  ·rw [punB_snoc]
   exact sess_row r4 (hsv.snoc hpc (by omega) hP) k9
  ·rw [punB_snoc]
   refine recs_of_row (base:=W5.heap.size) (n:=m+1) (c:=c5) ?_
   rw [List.flatMap_append]
   simp only [List.flatMap_cons,List.flatMap_nil,List.append_nil,cellsR]
   rw [← hn]
   exact r5
theorem tape_mid {wr w4:World} {O n m sc rc c4:Nat} {sa ra a4:Option Addr} {vr vg vm:Value} {rs:List Rec} (hf:Five wr O vr vg vm (.slice sa n sc) (.slice ra m rc)) (hz:∀ i,wr.frozen? ⟨O,i,none⟩=false) (hrs:RecsAt wr ra rs) (hb4:Below wr.heap.size wr w4) :
 (w4.setCell ⟨O,3,none⟩ (.slice a4 (n+1) c4)).cell? ⟨O,3,none⟩=some (.slice a4 (n+1) c4)∧(w4.setCell ⟨O,3,none⟩ (.slice a4 (n+1) c4)).cell? ⟨O,4,none⟩=some (.slice ra m rc)∧(w4.setCell ⟨O,3,none⟩ (.slice a4 (n+1) c4)).frozen? ⟨O,4,none⟩=false∧SrcK (w4.setCell ⟨O,3,none⟩ (.slice a4 (n+1) c4)) ra (rs.flatMap cellsR):=by
 have e3:w4.cell? ⟨O,3,none⟩=some (.slice sa n sc):=(hb4.cell (p:=⟨O,3,none⟩) hf.lt).trans hf.c3
 refine ⟨World.cell?_setCell_same' _ _ _ (by rw [e3];rfl),?_,?_,((recs_srcK hrs).below hb4).ki (recs_int rs) (KI.set e3 _)⟩
 ·rw [World.cell?_setCell_other (h:=fun e=>by injection e with _ e _;omega)]
  exact (hb4.cell (p:=⟨O,4,none⟩) hf.lt).trans hf.c4
 ·rw [World.frozen?_setCell]
  exact (hb4.frozen (p:=⟨O,4,none⟩) hf.lt).trans (hz 4)
attribute [local go_sem] Oper.semAt_some
section
variable {b:Bk} {vr vg vm vs vc:Value} {w:World}
theorem row_room {w:World} {base e size n c:Nat} {a:Option Addr} {xs:List Value} (h:w.ownsRow base e size (.slice a n c) n xs):n≤c:=by
 rcases h.2 with ⟨h1,h2⟩ | ⟨g,cap,cur,h1,_,_,h4,_⟩
 ·omega
 ·cases h1;exact h4
def PunchRow3 (w:World) (l:List Prt) (e:Ending) (w':World):Prop:=∃ a c,e=.returned (.tuple #[.agg #[.slice a l.length c],.int .i64 0])∧PartsAt w' a l∧l.length≤c∧Below w.heap.size w w'
theorem punch_row (hB:BookAt w b vr vg vm vs vc) (hN:∀ m∈b.ms,m.name.size≤1000000) (hK:KindsAt w) {pa:Option Addr} {pc:Nat} {plan:List Int} {pn:Nat} (hpl:pn=plan.length) (hP:IntsAt w pa plan) (tape:Int) (ht:openAl b (planAsk b.ms.length plan.length 0)=0) {o:List Int} (ho:planOk (loadsI b) plan=some o)
 (hin:inB tape 0 ((o.length:Int) - 1)=true) (hfew:(punchI plan tape (missI b)).length≤5) :
 Calls Tryz.prog 36 #[.agg #[vr,vg,vm,vs,vc],.slice pa pn pc,.int .i64 tape] w (PunchRow3 w (punchI plan tape (missI b))):=by
 have HB:=Hh hB
 have HN:=Hh hN
 have HK:=Hh hK
 have HP:=Hh hP
 have HT:=Hh ht
 have HOO:=Hh ho
 have HPL:=Hh hpl
 have HIN:=Hh hin
 obtain ⟨hk,hpt,hps⟩:=openAl_ok ht
 have hbo:=(bookAl_ok hk).1
 have HO:=Hh hbo
 obtain ⟨_,hpm⟩:=planAsk_ok hpt
 have hml5:=hbo.ml
 have HPM:=Hh hpm
 have HBD:=Hh (planOk_bd ho (by omega) (loadsI_bd hk))
 have hol:=(planOk_bd ho (by omega) (loadsI_bd hk)).2
 have HPC:=Hh (fun x (hx:x∈pasts b)=>pasts_came hbo hx)
 have hple:=pasts_le hbo
 have hmi:=missI_bd hk
 have hwo:IntKind.i64.wrap ((o.length:Int) - 1)=(o.length:Int) - 1:=wrapI (by omega) (by omega)
 have HWO:=Hh hwo
 obtain ⟨rfl,rfl,⟨ma,mc,rfl,_,_⟩,⟨sa,sc,rfl,_,_⟩,ra,rc,rfl,_,_⟩:=id hB
 clear hB hN hK hP ht hpl ho hk hpt hps hbo hpm hin
 go_enter Tryz.func36,Tryz.ntmps36
 go_wp2_with (first
  | (go_at_call 77;(with_reducible refine (planned_yes (HB.out.below (bel)) HN.out (HK.out.below (bel)) HPL.out (HP.out.below (bel)) 0 HT.out HOO.out).mono ?_);rintro e w3 ⟨RB,lc,tc,lc2,ta,la,rfl,hl3,ht3,hc3,hb3⟩;have HC3:=Hh hc3;clear hl3 ht3 hc3;have hz3:=hb3.size;(try simp at hz3))
  | (go_at_call 79;(with_reducible refine (inside_at HIN.out).mono ?_);rintro e w' ⟨rfl,rfl⟩)
  | (go_at_call 68;(with_reducible refine (missing_at (HB.out.below (bel)) HO.out (HC3.out.below (bel)) HPC.out (by omega)).mono ?_);rintro e w4 ⟨v4,rfl,hr4,hb4⟩;obtain ⟨a4,c4,rfl⟩:=ownsRow_slice hr4;have HP4:=Hh (show PartsAt w4 a4 (missI b) from parts_of_row hr4);have HG4:=Hh (row_ge hr4);rw [show (missL b (pasts b) (partsL b)).length=(missI b).length from rfl];clear hr4;have hz4:=hb4.size;(try simp at hz4)))
 have x1:w4.cell? ⟨w3.heap.size+1,0,none⟩=some (.slice none 0 0):=by
  refine (hb4.cell (p:=⟨w3.heap.size+1,0,none⟩) (by simp)).trans ?_
  rw [World.cell?_alloc_at _ _ _ _ (by simp)];rfl
 have x2:w4.frozen? ⟨w3.heap.size+1,0,none⟩=false:=by
  refine (hb4.frozen (p:=⟨w3.heap.size+1,0,none⟩) (by simp)).trans ?_
  rw [World.frozen?_alloc_at _ _ _ _ (by simp)]
 have y1:w4.cell? ⟨w.heap.size+1,0,none⟩=some (.slice none 0 0):=by
  refine (hb4.cell (p:=⟨w.heap.size+1,0,none⟩) (by simp;omega)).trans ?_
  rw [World.cell?_alloc_past _ _ _ (by first | omega | (simp;done) | (simp;omega)),World.cell?_alloc_past _ _ _ (by first | omega | (simp;done) | (simp;omega))]
  refine (hb3.cell (p:=⟨w.heap.size+1,0,none⟩) (by simp)).trans ?_
  rw [World.cell?_alloc_at _ _ _ _ (by simp)];rfl
 have y2:w4.frozen? ⟨w.heap.size+1,0,none⟩=false:=by
  refine (hb4.frozen (p:=⟨w.heap.size+1,0,none⟩) (by simp;omega)).trans ?_
  rw [World.frozen?_alloc_past _ _ _ (by first | omega | (simp;done) | (simp;omega)),World.frozen?_alloc_past _ _ _ (by first | omega | (simp;done) | (simp;omega))]
  refine (hb3.frozen (p:=⟨w.heap.size+1,0,none⟩) (by simp)).trans ?_
  rw [World.frozen?_alloc_at _ _ _ _ (by simp)]
 have hbw:Below w.heap.size w w4:=bel
 have hP4:IntsAt w4 pa plan:=HP.out.below hbw
 have HPP:=Hh hP4
 have HPL2:=Hh (fun i (hi:i < plan.length)=>HP.out i hi)
 have HX:=Hh (⟨x1,x2⟩:_∧_)
 have HY:=Hh (⟨y1,y2⟩:_∧_)
 have hz9:w3.heap.size+1 < w4.heap.size:=by omega
 have hz10:w.heap.size+1 < w3.heap.size:=by omega
 obtain ⟨i0,hi,hz0,hz1,hz2⟩:=info_parts partInfo
 clear hb4 hb3 hP4 x1 x2 y1 y2 hz4 hz3
 go_loopw [39] (fun i wr=>∃ (k:Nat) (a:Option Addr) (c:Nat) (l:List Prt),k≤(missI b).length∧i=.int .i64 k∧Hid (l=punchI plan tape ((missI b).take k))∧wr.cell? ⟨w3.heap.size+1,0,none⟩=some (.slice a l.length c)∧wr.frozen? ⟨w3.heap.size+1,0,none⟩=false∧wr.ownsRow w4.heap.size 41 2 (.slice a l.length c) l.length (l.flatMap cellsQ)∧KS (fun k=>k < w4.heap.size∧k≠w3.heap.size+1) w4 wr) (fun i _=>(missI b).length - (intOf i).toNat)
 case atStart=>exact ⟨0,none,0,[],Nat.zero_le _,rfl,rfl,HX.out.1,HX.out.2,by simpa using World.ownsRow_nil _ _ _ _,KS.refl _ _⟩
 case round =>
  obtain ⟨k,a,c,l,hk,rfl,hl,hs1,hs2,hrow,hW⟩:=hrel
  have hWs:=hW.size
  have hl5:l.length≤20:=by rw [hl.out];exact Nat.le_trans (List.length_filter_le _ _) (by simp;omega)
  by_cases hlt:k < (missI b).length
  ·obtain ⟨lb,lo,rfl,hlb,e0,e1⟩:=HP4.out k hlt
   have hge:=HG4.out _ rfl
   simp at hge
   have d0:=(hW.cell (x:=⟨lb,lo+k * 2,none⟩) hlb (by simp;omega)).trans e0
   have d1:=(hW.cell (x:=⟨lb,lo+k * 2+1,none⟩) hlb (by simp;omega)).trans e1
   obtain ⟨hp0,hp1,_⟩:=missI_part (List.getElem_mem hlt)
   have hts:=List.take_succ_eq_append_getElem hlt
   have hsn:=punchI_snoc plan tape ((missI b).take k) (missI b)[k]
   rw [← hts,← hl.out] at hsn
   generalize (missI b)[k]=p at d0 d1 hp0 hp1 hsn
   obtain ⟨p1,p2⟩:=p
   simp only at d0 d1 hp0 hp1
   obtain ⟨q,rfl⟩:∃ q:Nat,p1=q:=⟨p1.toNat,by omega⟩
   have hqn:q < plan.length:=by have:=HPM.out;omega
   have hqn2:(q:Int) < (pn:Int):=by have:=HPL.out;omega
   have hq0:(0:Int)≤(q:Int):=by omega
   obtain ⟨pb,po,rfl,hpb,p0⟩:=HPL2.out q hqn
   have d2:wr.cell? ⟨pb,po+q,none⟩=some (.int .i64 plan[q]):=by
    refine (hW.cell (x:=⟨pb,po+q,none⟩) (by simp;omega) (by simp;omega)).trans ((hbw.cell (p:=⟨pb,po+q,none⟩) hpb).trans p0)
   have hon:onTape plan tape ((q:Int),p2)=decide (plan[q]=tape):=by
    unfold onTape
    simp only [Int.toNat_natCast,List.getD_eq_getElem?_getD,List.getElem?_eq_getElem hqn,Option.getD_some]
   rw [hon] at hsn
   generalize plan[q]=pq at d2 hsn
   have hlb2:lb < wr.heap.size:=by omega
   have hpb2:pb < wr.heap.size:=by omega
   have hs9:w3.heap.size+1 < wr.heap.size:=by omega
   have HROW:=Hh hrow
   have HW:=Hh hW
   have HL:=Hh hl
   clear e0 e1 hp0 hp1 hts hon hrow hW hl hge p0
   by_cases hon2:pq=tape
   ·have hd:(pq == tape)=true:=by simpa using hon2
    rw [if_pos (by simpa using hon2)] at hsn
    have HSN:=Hh hsn
    subst hon2
    clear hsn
    go_wp2_with (at_builtin;go_loud (refine wpList_append_own _ rfl _ _ 33 rfl w4.heap.size 41 i0 (.agg #[.int .i64 0,.int .i64 0]) 2 16 Tryz.underlying33 hi hz0 hz1 hz2 rfl (by decide) _ _ _ rfl ((HROW.out.alloc _).alloc _) ⟨wr.heap.size+1,0,none⟩ 1 1 [.int .i64 q,.int .i64 p2] rfl rfl (cells_new' _ _ _ (by simp)) (by simp [Value.oneCell']) (by unfold maxLen;omega) (by omega) (by simp;omega) ?_;intro v' w5 hown' hgrow _;obtain ⟨g',cap',rfl⟩:=ownsRow_succ hown';have hks:=grow_ks ((HROW.out.alloc _).alloc _) hgrow;have q1:=(hks.cell (x:=⟨w3.heap.size+1,0,none⟩) (by simp;omega) (by simp;omega));have q2:=(hks.frozen (x:=⟨w3.heap.size+1,0,none⟩) (by simp;omega) (by simp;omega));rw [World.cell?_alloc_past _ _ _ (by simp;omega),World.cell?_alloc_past _ _ _ (by omega),hs1] at q1;rw [World.frozen?_alloc_past _ _ _ (by simp;omega),World.frozen?_alloc_past _ _ _ (by omega),hs2] at q2))
    have h8:KS (fun k=>k < w4.heap.size) wr w5:=((KS.alloc (fun k=>k < w4.heap.size) wr _).trans (KS.alloc _ _ _)).trans hks
    have h9:KS (fun k=>k≠w3.heap.size+1) w5 (w5.setCell ⟨w3.heap.size+1,0,none⟩ (.slice (some ⟨g',0,none⟩) (l.length+1) cap')):=KS.setCell (by simp) _ _
    have hl8:(l ++ [((q:Int),p2)]).length=l.length+1:=by simp
    have hf8:(l ++ [((q:Int),p2)]).flatMap cellsQ=l.flatMap cellsQ ++ [.int .i64 q,.int .i64 p2]:=by rw [List.flatMap_append];rfl
    go_roundw
    case rel =>
     refine ⟨k+1,some ⟨g',0,none⟩,cap',l ++ [((q:Int),p2)],by omega,by go_num,HSN.out.symm,?_,?_,?_,?_⟩
     ·rw [hl8];exact World.cell?_setCell_same' _ _ _ (by rw [q1];rfl)
     ·rw [World.frozen?_setCell];exact q2
     ·rw [hl8,hf8];exact ownsRow_ks hown' h9 (fun k hk=>by show k≠_;omega)
     ·exact HW.out.trans ((h8.mono fun k _ h=>h.1).trans (h9.mono fun k _ h=>h.2))
    case measure=>simp [intOf];omega
   ·have hd:(pq == tape)=false:=by simpa using hon2
    rw [if_neg (by simpa using hon2),List.append_nil] at hsn
    have HSN:=Hh hsn
    clear hsn
    go_wp2
    go_roundw
    case rel =>
     have h8:=KS.alloc (fun _=>True) wr (.cells #[.int .i64 q,.int .i64 p2] 41)
     exact ⟨k+1,a,c,l,by omega,by go_num,HSN.out.symm,(h8.cell (x:=⟨w3.heap.size+1,0,none⟩) (by simp;omega) trivial).trans hs1,(h8.frozen (x:=⟨w3.heap.size+1,0,none⟩) (by simp;omega) trivial).trans hs2,ownsRow_ks HROW.out h8 (fun _ _=>trivial),HW.out.trans (h8.mono fun _ _ _=>trivial)⟩
    case measure=>simp [intOf];omega
  ·obtain rfl:k=(missI b).length:=by omega
   have hl2:=hl.out
   rw [List.take_length] at hl2
   have hlen5:l.length≤5:=by rw [hl2];exact hfew
   have hs9:w3.heap.size+1 < wr.heap.size:=by omega
   have hs10:w.heap.size+1 < wr.heap.size:=by omega
   have y1:=(hW.cell (x:=⟨w.heap.size+1,0,none⟩) (by simp;omega) (by simp;omega)).trans HY.out.1
   have y2:=(hW.frozen (x:=⟨w.heap.size+1,0,none⟩) (by simp;omega) (by simp;omega)).trans HY.out.2
   have HROW:=Hh hrow
   have HW:=Hh hW
   have HL2:=Hh hl2
   clear hrow hW hl hl2
   go_wp2
   have hB9:Below w.heap.size w (wr.setCell ⟨w.heap.size+1,0,none⟩ (.slice a l.length c)):=by
    have h1:=HW.out.toBelow (n:=w.heap.size) (by omega) (fun k hk=>by omega)
    exact Below.wr (hbw.trans h1) (by simp) _
   have hr9:(wr.setCell ⟨w.heap.size+1,0,none⟩ (.slice a l.length c)).ownsRow w4.heap.size 41 2 (.slice a l.length c) l.length (l.flatMap cellsQ):=ownsRow_ks HROW.out (KS.setCell (p:=fun k=>k≠w.heap.size+1) (by simp) _ _) (fun k hk=>by show k≠_;omega)
   have hc9:(wr.setCell ⟨w.heap.size+1,0,none⟩ (.slice a l.length c)).cell? ⟨w.heap.size+1,0,none⟩=some (.slice a l.length c):=World.cell?_setCell_same' _ _ _ (by rw [y1];rfl)
   refine bodyPost_ret (v:=.tuple #[.agg #[.slice a l.length c],.int .i64 0]) (by simp [results,Tryz.results36,go_sem, *]) rfl ⟨a,c,by rw [← HL2.out],?_,by rw [← HL2.out];exact row_room hr9,hB9⟩
   rw [← HL2.out]
   exact parts_of_row hr9
end
end Go.Proofs.YtgemjjdkjmpmlaaGreatDoor
namespace Go.Proofs.YtgemjjdkjmpmlaaGreatDoor
open Go.RowKit Go.Maps Sp Mt Go.Conc
variable {B O lc nc oc kc ec:Nat} {b:Bk} {u K hd:Int} {fd:Bool} {vr vg vm vs vc x:Value} {w w0:World} {la na oa ka ea:Option Addr} {ks ot o ee:List Int} {l:List Prt} {d:Nat→Value}
variable {X ln mn en:Nat} {hd ee kk pl:Int}
def uS (B:Nat) (la:Option Addr) (ln lc:Nat) (na oa ea:Option Addr) (mn nc oc en ec:Nat) (K:Int) (O X:Nat) (hd ee kk pl:Int) (d e:Nat→Value):Act:={ tmps:=#[d 0,d 1,.pointer (some ⟨B,0,none⟩),d 3,e 4,.slice la ln lc,d 6,.slice na mn nc,.slice oa mn oc,.int .i64 K,.slice ea en ec,.pointer (some ⟨O,0,none⟩),.int .i64 hd,.bool true,.int .i64 ee,.int .i64 kk,.pointer (some ⟨X,0,none⟩),.int .i64 0,.int .i64 pl,d 19,d 20,d 21,d 22,d 23,d 24,d 25,d 26,d 27,d 28,d 29,d 30,d 31,d 32,d 33,d 34,d 35,d 36,d 37,d 38,d 39,d 40,d 41,d 42,d 43,d 44,d 45,d 46,d 47,d 48,d 49,d 50,d 51,d 52,d 53,d 54,d 55,d 56,d 57,d 58,d 59,d 60,d 61,d 62,d 63,d 64,d 65,d 66,d 67,d 68,d 69,d 70,d 71,d 72,d 73,d 74,d 75,d 76,d 77,d 78,e 79,e 80,e 81,e 82,e 83,e 84,e 85,e 86,e 87,e 88,e 89,e 90,e 91,e 92,e 93,e 94,e 95,e 96,e 97,e 98,e 99,e 100,e 101,e 102,e 103,e 104,e 105,e 106,e 107,e 108,e 109,e 110,e 111,e 112,e 113,e 114,e 115,e 116,e 117,e 118,e 119,e 120,e 121,e 122,e 123,e 124,e 125,e 126,e 127,e 128,e 129,e 130,e 131,e 132,e 133,e 134,e 135,e 136,e 137,e 138,e 139,e 140,e 141,e 142,e 143,e 144,e 145,e 146,e 147,e 148,e 149,e 150,e 151,e 152,e 153,e 154,e 155,e 156,e 157,e 158,e 159,e 160,e 161,e 162,e 163,e 164,e 165,e 166,e 167,e 168,e 169,e 170,e 171,e 172,e 173,e 174,e 175,e 176,e 177,e 178,e 179,e 180,e 181,e 182,e 183,e 184,e 185,e 186,e 187,e 188,e 189,d 190,d 191,d 192,d 193,d 194,d 195,d 196,d 197,d 198,d 199,d 200,d 201,d 202,d 203,d 204,d 205,d 206,d 207,d 208,d 209,d 210,d 211,d 212,d 213,d 214,d 215,d 216,d 217,d 218,d 219,d 220,d 221,d 222,d 223,d 224,d 225,d 226,d 227,d 228,d 229],defers:=[] }
theorem pu_34 {A:World} {sa xa:Option Addr} {n sc xc m:Nat} {vals:List Value} {e:Nat→Value} (c3:A.cell? ⟨O,3,none⟩=some (.slice sa n sc)) (hz:A.frozen? ⟨O,3,none⟩=false) (hx:A.cell? ⟨X,0,none⟩=some (.slice xa m xc)) (hOX:O < X) (hl:vals.length=n) (hn:n≤10) (hsrc:SrcK A sa vals) (h1:∀ u∈vals,u.oneCell'=true) :
 (sql (cnd (sqr (sqN 6 (blk (sql (sqr (lpc (blk (sqr (pu 12))))))))))).wp Tryz.prog (NQ fun a' w2=>(∃ e2,a'=uS B la ln lc na oa ea mn nc oc en ec K O X hd ee kk pl d e2)∧∃ a4 c4 w4,w2=w4.setCell ⟨O,3,none⟩ (.slice a4 (n+1) c4)∧Below A.heap.size A w4∧w4.ownsRow A.heap.size 64 1 (.slice a4 (n+1) c4) (n+1) (vals ++ [.slice xa m xc])) (uS B la ln lc na oa ea mn nc oc en ec K O X hd ee kk pl d e) A:=by
 simp only [pu,sqN,sql,sqr,cnd,blk,lpc,Tryz.f6,Option.getD_some,uS]
 have hO0:=lt_of_cell c3
 have hX0:=lt_of_cell hx
 simp only at hO0 hX0
 have HSRC:=Hh hsrc
 have HLEN:=Hh (show vals.length=n * 1 by omega)
 have HONE:=Hh h1
 have hne:O≠X:=by omega
 clear hsrc hl h1
 have hO1:O < A.heap.size+1:=by omega
 have HT:=Hh (fun (w':World) (h:Below A.heap.size A w')=>(⟨(h.cell (p:=⟨O,3,none⟩) hO0).trans c3,(h.cell (p:=⟨X,0,none⟩) hX0).trans hx⟩:w'.cell? ⟨O,3,none⟩=some (.slice sa n sc)∧w'.cell? ⟨X,0,none⟩=some (.slice xa m xc)))
 have HZ:=Hh (fun (w':World) (h:Below A.heap.size A w')=>(h.frozen (p:=⟨O,3,none⟩) hO0).trans hz)
 clear c3 hx hz
 refine wp_region_D (S:=fun _=>True) (T:=fun w'=>w'.cell? ⟨O,3,none⟩=some (.slice sa n sc)∧w'.cell? ⟨X,0,none⟩=some (.slice xa m xc)) (d:=8) (by kernel_rfl) trivial (HT.out _ (bel)) (fun _ hTd=>?_)
 refine wpAnyD_take (i:=1) (v:=.pointer (some ⟨O,3,none⟩)) rfl (by decide +kernel) (fun _ _ _ h=>h) (Or.inl ⟨by rfl,?_⟩) trivial hTd ?_
 ·rintro w5 ⟨_,s1,s2⟩;go_simp;all_goals exact wrapI (by omega) (by omega)
 simp only [Act.put,List.setIfInBounds_toArray,List.set_cons_zero,List.set_cons_succ]
 refine wpAnyD_take (i:=2) (v:=.slice sa n sc) rfl (by decide +kernel) (fun _ _ _ h=>h) (Or.inl ⟨by rfl,?_⟩) trivial hTd ?_
 ·rintro w5 ⟨_,s1,s2⟩;go_simp;all_goals exact wrapI (by omega) (by omega)
 simp only [Act.put,List.setIfInBounds_toArray,List.set_cons_zero,List.set_cons_succ]
 refine wpAnyD_take (i:=4) (v:=.agg #[.slice xa m xc]) rfl (by decide +kernel) (fun _ _ _ h=>h) (Or.inl ⟨by rfl,?_⟩) trivial hTd ?_
 ·rintro w5 ⟨_,s1,s2⟩;go_simp;all_goals exact wrapI (by omega) (by omega)
 simp only [Act.put,List.setIfInBounds_toArray,List.set_cons_zero,List.set_cons_succ]
 refine wpAnyD_ready [0,5] (by decide +kernel) (by simp) ?_
 refine AllReadyD.pre 0 rfl (fun K9 hK=>?_) ?_
 ·go_simp
  refine hK.out _ _ trivial (HT.out _ (bel)) (fun _ _=>?_)
  try simp only [Act.put,List.setIfInBounds_toArray,List.set_cons_zero,List.set_cons_succ]
  refine wpAnyD_ready [3,5] (by decide +kernel) (by simp) ?_
  refine AllReadyD.pre 3 rfl (fun K9 hK=>?_) ?_
  ·refine step_copy A rfl _ _ 23 rfl 64 Tryz.underlying23 sesInfo2 rfl (by decide) (by decide) (.slice (some ⟨A.heap.size,0,none⟩) 0 0) 0 [] rfl sa n sc vals rfl HLEN.out HONE.out n (by omega) (by omega) (bel) (own_litK rfl (Nat.le_refl _)) (HSRC.out.below (bel)) (fun a2 c2 w2 hown2 hks2 hbw2=>?_)
   refine hK.out _ _ trivial (HT.out _ hbw2) (fun _ _=>?_)
   try simp only [Act.put,List.setIfInBounds_toArray,List.set_cons_zero,List.set_cons_succ]
   refine wpAnyD_ready [5] (by decide +kernel) (by simp) ?_
   refine AllReadyD.pre 5 rfl (fun K9 hK=>?_) AllReadyD.nil
   go_simp
   refine hK.out _ _ trivial (HT.out _ (bel)) (fun _ _=>?_)
   try simp only [Act.put,List.setIfInBounds_toArray,List.set_cons_zero,List.set_cons_succ]
   refine wpAnyD_ready [6] (by decide +kernel) (by simp) ?_
   refine AllReadyD.pre 6 rfl (fun K9 hK=>?_) AllReadyD.nil
   refine step_copy A rfl _ _ 23 rfl 64 Tryz.underlying23 sesInfo2 rfl (by decide) (by decide) (.slice a2 n c2) n ([] ++ vals) rfl (some ⟨w2.heap.size,0,none⟩) 1 1 [.slice xa m xc] rfl rfl (by simp [Value.oneCell']) (n+1) rfl (by omega) (bel) (hown2.alloc _) (srcK_new w2 [.slice xa m xc] 64 rfl) (fun a4 c4 w4 hown4 hks4 hbw4=>?_)
   refine hK.out _ _ trivial (HT.out _ hbw4) (fun _ _=>?_)
   try simp only [Act.put,List.setIfInBounds_toArray,List.set_cons_zero,List.set_cons_succ]
   refine wpAnyD_ready [7] (by decide +kernel) (by simp) ?_
   refine AllReadyD.pre 7 rfl (fun K9 hK=>?_) AllReadyD.nil
   go_simp
   refine hK.out _ _ trivial (HT.out _ hbw4) (fun _ _=>?_)
   try simp only [Act.put,List.setIfInBounds_toArray,List.set_cons_zero,List.set_cons_succ]
   have q1:=(HT.out _ hbw4).1
   have q2:=HZ.out _ hbw4
   refine wpAnyD_ready [8] (by decide +kernel) (by simp) ?_
   refine AllReadyD.post 8 rfl (by rfl) (fun K9 hK=>?_) AllReadyD.nil
   go_simp
   refine hK.out _ _ trivial (fun _=>?_)
   exact wpAnyD_done (by decide +kernel) ⟨fr_of (F:=uS B la ln lc na oa ea mn nc oc en ec K O X hd ee kk pl d) (by kernel_rfl),a4,c4,w4,rfl,hbw4,hown4⟩ _
  refine AllReadyD.pre 5 rfl (fun K9 hK=>?_) ?_
  ·go_simp
   refine hK.out _ _ trivial (HT.out _ (bel)) (fun _ _=>?_)
   try simp only [Act.put,List.setIfInBounds_toArray,List.set_cons_zero,List.set_cons_succ]
   refine wpAnyD_ready [3] (by decide +kernel) (by simp) ?_
   refine AllReadyD.pre 3 rfl (fun K9 hK=>?_) AllReadyD.nil
   refine step_copy A rfl _ _ 23 rfl 64 Tryz.underlying23 sesInfo2 rfl (by decide) (by decide) (.slice (some ⟨A.heap.size,0,none⟩) 0 0) 0 [] rfl sa n sc vals rfl HLEN.out HONE.out n (by omega) (by omega) (bel) ((own_litK (w:=A.drew) rfl (Nat.le_refl _)).alloc _) (HSRC.out.below (bel)) (fun a2 c2 w2 hown2 hks2 hbw2=>?_)
   refine hK.out _ _ trivial (HT.out _ hbw2) (fun _ _=>?_)
   try simp only [Act.put,List.setIfInBounds_toArray,List.set_cons_zero,List.set_cons_succ]
   refine wpAnyD_ready [6] (by decide +kernel) (by simp) ?_
   refine AllReadyD.pre 6 rfl (fun K9 hK=>?_) AllReadyD.nil
   refine step_copy A rfl _ _ 23 rfl 64 Tryz.underlying23 sesInfo2 rfl (by decide) (by decide) (.slice a2 n c2) n ([] ++ vals) rfl (some ⟨A.heap.size+1,0,none⟩) 1 1 [.slice xa m xc] rfl rfl (by simp [Value.oneCell']) (n+1) rfl (by omega) (bel) hown2 ((srcK_new (A.drew.alloc (.cells #[] 64)) [.slice xa m xc] 64 (n:=A.heap.size+1) (by simp)).ks hks2 (fun ad e=>by cases e;simp [Value.ownBlock])) (fun a4 c4 w4 hown4 hks4 hbw4=>?_)
   refine hK.out _ _ trivial (HT.out _ hbw4) (fun _ _=>?_)
   try simp only [Act.put,List.setIfInBounds_toArray,List.set_cons_zero,List.set_cons_succ]
   refine wpAnyD_ready [7] (by decide +kernel) (by simp) ?_
   refine AllReadyD.pre 7 rfl (fun K9 hK=>?_) AllReadyD.nil
   go_simp
   refine hK.out _ _ trivial (HT.out _ hbw4) (fun _ _=>?_)
   try simp only [Act.put,List.setIfInBounds_toArray,List.set_cons_zero,List.set_cons_succ]
   have q1:=(HT.out _ hbw4).1
   have q2:=HZ.out _ hbw4
   refine wpAnyD_ready [8] (by decide +kernel) (by simp) ?_
   refine AllReadyD.post 8 rfl (by rfl) (fun K9 hK=>?_) AllReadyD.nil
   go_simp
   refine hK.out _ _ trivial (fun _=>?_)
   exact wpAnyD_done (by decide +kernel) ⟨fr_of (F:=uS B la ln lc na oa ea mn nc oc en ec K O X hd ee kk pl d) (by kernel_rfl),a4,c4,w4,rfl,hbw4,hown4⟩ _
  exact AllReadyD.nil
 refine AllReadyD.pre 5 rfl (fun K9 hK=>?_) ?_
 ·go_simp
  refine hK.out _ _ trivial (HT.out _ (bel)) (fun _ _=>?_)
  try simp only [Act.put,List.setIfInBounds_toArray,List.set_cons_zero,List.set_cons_succ]
  refine wpAnyD_ready [0] (by decide +kernel) (by simp) ?_
  refine AllReadyD.pre 0 rfl (fun K9 hK=>?_) AllReadyD.nil
  go_simp
  refine hK.out _ _ trivial (HT.out _ (bel)) (fun _ _=>?_)
  try simp only [Act.put,List.setIfInBounds_toArray,List.set_cons_zero,List.set_cons_succ]
  refine wpAnyD_ready [3] (by decide +kernel) (by simp) ?_
  refine AllReadyD.pre 3 rfl (fun K9 hK=>?_) AllReadyD.nil
  refine step_copy A rfl _ _ 23 rfl 64 Tryz.underlying23 sesInfo2 rfl (by decide) (by decide) (.slice (some ⟨A.heap.size+1,0,none⟩) 0 0) 0 [] rfl sa n sc vals rfl HLEN.out HONE.out n (by omega) (by omega) (bel) (own_litK (by simp) (by omega)) (HSRC.out.below (bel)) (fun a2 c2 w2 hown2 hks2 hbw2=>?_)
  refine hK.out _ _ trivial (HT.out _ hbw2) (fun _ _=>?_)
  try simp only [Act.put,List.setIfInBounds_toArray,List.set_cons_zero,List.set_cons_succ]
  refine wpAnyD_ready [6] (by decide +kernel) (by simp) ?_
  refine AllReadyD.pre 6 rfl (fun K9 hK=>?_) AllReadyD.nil
  refine step_copy A rfl _ _ 23 rfl 64 Tryz.underlying23 sesInfo2 rfl (by decide) (by decide) (.slice a2 n c2) n ([] ++ vals) rfl (some ⟨A.heap.size,0,none⟩) 1 1 [.slice xa m xc] rfl rfl (by simp [Value.oneCell']) (n+1) rfl (by omega) (bel) hown2 (((srcK_new A.drew [.slice xa m xc] 64 (n:=A.heap.size) rfl).ks (KS.alloc (fun _=>True) _ (.cells #[] 64)) (fun ad e=>trivial)).ks hks2 (fun ad e=>by cases e;simp [Value.ownBlock])) (fun a4 c4 w4 hown4 hks4 hbw4=>?_)
  refine hK.out _ _ trivial (HT.out _ hbw4) (fun _ _=>?_)
  try simp only [Act.put,List.setIfInBounds_toArray,List.set_cons_zero,List.set_cons_succ]
  refine wpAnyD_ready [7] (by decide +kernel) (by simp) ?_
  refine AllReadyD.pre 7 rfl (fun K9 hK=>?_) AllReadyD.nil
  go_simp
  refine hK.out _ _ trivial (HT.out _ hbw4) (fun _ _=>?_)
  try simp only [Act.put,List.setIfInBounds_toArray,List.set_cons_zero,List.set_cons_succ]
  have q1:=(HT.out _ hbw4).1
  have q2:=HZ.out _ hbw4
  refine wpAnyD_ready [8] (by decide +kernel) (by simp) ?_
  refine AllReadyD.post 8 rfl (by rfl) (fun K9 hK=>?_) AllReadyD.nil
  go_simp
  refine hK.out _ _ trivial (fun _=>?_)
  exact wpAnyD_done (by decide +kernel) ⟨fr_of (F:=uS B la ln lc na oa ea mn nc oc en ec K O X hd ee kk pl d) (by kernel_rfl),a4,c4,w4,rfl,hbw4,hown4⟩ _
 exact AllReadyD.nil
theorem pu_35 {A:World} {sa ra:Option Addr} {n sc rc m:Nat} {vals:List Value} {e:Nat→Value} (c3:A.cell? ⟨O,3,none⟩=some (.slice sa (n+1) sc)) (c4:A.cell? ⟨O,4,none⟩=some (.slice ra m rc)) (hz:A.frozen? ⟨O,4,none⟩=false) (hl:vals.length=m * 4) (hm:m≤10) (hn:n≤10) (hsrc:SrcK A ra vals) (h1:∀ u∈vals,u.oneCell'=true) :
 (sqr (cnd (sqr (sqN 6 (blk (sql (sqr (lpc (blk (sqr (pu 12))))))))))).wp Tryz.prog (NQ fun a' w2=>(∃ e2,a'=uS B la ln lc na oa ea mn nc oc en ec K O X hd ee kk pl d e2)∧∃ a4 c4 w4,w2=w4.setCell ⟨O,4,none⟩ (.slice a4 (m+1) c4)∧Below A.heap.size A w4∧w4.ownsRow A.heap.size 70 4 (.slice a4 (m+1) c4) (m+1) (vals ++ [.int .i64 0,.int .i64 n,.int .i64 0,.int .i64 0])) (uS B la ln lc na oa ea mn nc oc en ec K O X hd ee kk pl d e) A:=by
 simp only [pu,sqN,sql,sqr,cnd,blk,lpc,Tryz.f6,Option.getD_some,uS]
 have hO0:=lt_of_cell c3
 simp only at hO0
 have HSRC:=Hh hsrc
 have HLEN:=Hh hl
 have HONE:=Hh h1
 have hws:IntKind.i64.wrap (((n+1:Nat):Int) - 1)=(n:Int):=by rw [wrapI (by omega) (by omega)];omega
 have hws2:IntKind.i64.wrap ((n:Int)+1 - 1)=(n:Int):=by rw [wrapI (by omega) (by omega)];omega
 clear hsrc hl h1
 have HT:=Hh (fun (w':World) (h:Below A.heap.size A w')=>(⟨(h.cell (p:=⟨O,4,none⟩) hO0).trans c4,(h.cell (p:=⟨O,3,none⟩) hO0).trans c3⟩:w'.cell? ⟨O,4,none⟩=some (.slice ra m rc)∧w'.cell? ⟨O,3,none⟩=some (.slice sa (n+1) sc)))
 have HZ:=Hh (fun (w':World) (h:Below A.heap.size A w')=>(h.frozen (p:=⟨O,4,none⟩) hO0).trans hz)
 clear c3 c4 hz
 refine wp_region_D (S:=fun _=>True) (T:=fun w'=>w'.cell? ⟨O,4,none⟩=some (.slice ra m rc)∧w'.cell? ⟨O,3,none⟩=some (.slice sa (n+1) sc)) (d:=12) (by kernel_rfl) trivial (HT.out _ (bel)) (fun _ hTd=>?_)
 refine wpAnyD_take (i:=1) (v:=.pointer (some ⟨O,4,none⟩)) rfl (by decide +kernel) (fun _ _ _ h=>h) (Or.inl ⟨by rfl,?_⟩) trivial hTd ?_
 ·rintro w5 ⟨_,s1,s2⟩;go_simp;all_goals exact wrapI (by omega) (by omega)
 simp only [Act.put,List.setIfInBounds_toArray,List.set_cons_zero,List.set_cons_succ]
 refine wpAnyD_take (i:=2) (v:=.slice ra m rc) rfl (by decide +kernel) (fun _ _ _ h=>h) (Or.inl ⟨by rfl,?_⟩) trivial hTd ?_
 ·rintro w5 ⟨_,s1,s2⟩;go_simp;all_goals exact wrapI (by omega) (by omega)
 simp only [Act.put,List.setIfInBounds_toArray,List.set_cons_zero,List.set_cons_succ]
 refine wpAnyD_take (i:=4) (v:=.pointer (some ⟨O,3,none⟩)) rfl (by decide +kernel) (fun _ _ _ h=>h) (Or.inl ⟨by rfl,?_⟩) trivial hTd ?_
 ·rintro w5 ⟨_,s1,s2⟩;go_simp;all_goals exact wrapI (by omega) (by omega)
 simp only [Act.put,List.setIfInBounds_toArray,List.set_cons_zero,List.set_cons_succ]
 refine wpAnyD_take (i:=5) (v:=.slice sa (n+1) sc) rfl (by decide +kernel) (fun _ _ _ h=>h) (Or.inl ⟨by rfl,?_⟩) trivial hTd ?_
 ·rintro w5 ⟨_,s1,s2⟩;go_simp;all_goals exact wrapI (by omega) (by omega)
 simp only [Act.put,List.setIfInBounds_toArray,List.set_cons_zero,List.set_cons_succ]
 refine wpAnyD_take (i:=6) (v:=.int .i64 ((n+1:Nat):Int)) rfl (by decide +kernel) (fun _ _ _ h=>h) (Or.inl ⟨by rfl,?_⟩) trivial hTd ?_
 ·rintro w5 ⟨_,s1,s2⟩;go_simp;all_goals exact wrapI (by omega) (by omega)
 simp only [Act.put,List.setIfInBounds_toArray,List.set_cons_zero,List.set_cons_succ]
 refine wpAnyD_take (i:=7) (v:=.int .i64 n) rfl (by decide +kernel) (fun _ _ _ h=>h) (Or.inl ⟨by rfl,?_⟩) trivial hTd ?_
 ·rintro w5 ⟨_,s1,s2⟩;go_simp;all_goals exact wrapI (by omega) (by omega)
 simp only [Act.put,List.setIfInBounds_toArray,List.set_cons_zero,List.set_cons_succ]
 refine wpAnyD_take (i:=8) (v:=.agg #[.int .i64 0,.int .i64 n,.int .i64 0,.int .i64 0]) rfl (by decide +kernel) (fun _ _ _ h=>h) (Or.inl ⟨by rfl,?_⟩) trivial hTd ?_
 ·rintro w5 ⟨_,s1,s2⟩;go_simp;all_goals exact wrapI (by omega) (by omega)
 simp only [Act.put,List.setIfInBounds_toArray,List.set_cons_zero,List.set_cons_succ]
 refine wpAnyD_ready [0,9] (by decide +kernel) (by simp) ?_
 refine AllReadyD.pre 0 rfl (fun K9 hK=>?_) ?_
 ·go_simp
  refine hK.out _ _ trivial (HT.out _ (bel)) (fun _ _=>?_)
  try simp only [Act.put,List.setIfInBounds_toArray,List.set_cons_zero,List.set_cons_succ]
  refine wpAnyD_ready [3,9] (by decide +kernel) (by simp) ?_
  refine AllReadyD.pre 3 rfl (fun K9 hK=>?_) ?_
  ·refine step_copy A rfl _ _ 24 rfl 70 Tryz.underlying24 recInfo rfl (by decide) (by decide) (.slice (some ⟨A.heap.size,0,none⟩) 0 0) 0 [] rfl ra m rc vals rfl HLEN.out HONE.out m (by omega) (by omega) (bel) (own_litK rfl (Nat.le_refl _)) (HSRC.out.below (bel)) (fun a2 c2 w2 hown2 hks2 hbw2=>?_)
   refine hK.out _ _ trivial (HT.out _ hbw2) (fun _ _=>?_)
   try simp only [Act.put,List.setIfInBounds_toArray,List.set_cons_zero,List.set_cons_succ]
   refine wpAnyD_ready [9] (by decide +kernel) (by simp) ?_
   refine AllReadyD.pre 9 rfl (fun K9 hK=>?_) AllReadyD.nil
   go_simp
   refine hK.out _ _ trivial (HT.out _ (bel)) (fun _ _=>?_)
   try simp only [Act.put,List.setIfInBounds_toArray,List.set_cons_zero,List.set_cons_succ]
   refine wpAnyD_ready [10] (by decide +kernel) (by simp) ?_
   refine AllReadyD.pre 10 rfl (fun K9 hK=>?_) AllReadyD.nil
   refine step_copy A rfl _ _ 24 rfl 70 Tryz.underlying24 recInfo rfl (by decide) (by decide) (.slice a2 m c2) m ([] ++ vals) rfl (some ⟨w2.heap.size,0,none⟩) 1 1 [.int .i64 0,.int .i64 n,.int .i64 0,.int .i64 0] rfl rfl (by simp [Value.oneCell']) (m+1) rfl (by omega) (bel) (hown2.alloc _) (srcK_new w2 [.int .i64 0,.int .i64 n,.int .i64 0,.int .i64 0] 70 rfl) (fun a4 c4 w4 hown4 hks4 hbw4=>?_)
   refine hK.out _ _ trivial (HT.out _ hbw4) (fun _ _=>?_)
   try simp only [Act.put,List.setIfInBounds_toArray,List.set_cons_zero,List.set_cons_succ]
   refine wpAnyD_ready [11] (by decide +kernel) (by simp) ?_
   refine AllReadyD.pre 11 rfl (fun K9 hK=>?_) AllReadyD.nil
   go_simp
   refine hK.out _ _ trivial (HT.out _ hbw4) (fun _ _=>?_)
   try simp only [Act.put,List.setIfInBounds_toArray,List.set_cons_zero,List.set_cons_succ]
   have q1:=(HT.out _ hbw4).1
   have q2:=HZ.out _ hbw4
   refine wpAnyD_ready [12] (by decide +kernel) (by simp) ?_
   refine AllReadyD.post 12 rfl (by rfl) (fun K9 hK=>?_) AllReadyD.nil
   go_simp
   refine hK.out _ _ trivial (fun _=>?_)
   exact wpAnyD_done (by decide +kernel) ⟨fr_of (F:=uS B la ln lc na oa ea mn nc oc en ec K O X hd ee kk pl d) (by kernel_rfl),a4,c4,w4,rfl,hbw4,hown4⟩ _
  refine AllReadyD.pre 9 rfl (fun K9 hK=>?_) ?_
  ·go_simp
   refine hK.out _ _ trivial (HT.out _ (bel)) (fun _ _=>?_)
   try simp only [Act.put,List.setIfInBounds_toArray,List.set_cons_zero,List.set_cons_succ]
   refine wpAnyD_ready [3] (by decide +kernel) (by simp) ?_
   refine AllReadyD.pre 3 rfl (fun K9 hK=>?_) AllReadyD.nil
   refine step_copy A rfl _ _ 24 rfl 70 Tryz.underlying24 recInfo rfl (by decide) (by decide) (.slice (some ⟨A.heap.size,0,none⟩) 0 0) 0 [] rfl ra m rc vals rfl HLEN.out HONE.out m (by omega) (by omega) (bel) ((own_litK (w:=A.drew) rfl (Nat.le_refl _)).alloc _) (HSRC.out.below (bel)) (fun a2 c2 w2 hown2 hks2 hbw2=>?_)
   refine hK.out _ _ trivial (HT.out _ hbw2) (fun _ _=>?_)
   try simp only [Act.put,List.setIfInBounds_toArray,List.set_cons_zero,List.set_cons_succ]
   refine wpAnyD_ready [10] (by decide +kernel) (by simp) ?_
   refine AllReadyD.pre 10 rfl (fun K9 hK=>?_) AllReadyD.nil
   refine step_copy A rfl _ _ 24 rfl 70 Tryz.underlying24 recInfo rfl (by decide) (by decide) (.slice a2 m c2) m ([] ++ vals) rfl (some ⟨A.heap.size+1,0,none⟩) 1 1 [.int .i64 0,.int .i64 n,.int .i64 0,.int .i64 0] rfl rfl (by simp [Value.oneCell']) (m+1) rfl (by omega) (bel) hown2 ((srcK_new (A.drew.alloc (.cells #[] 70)) [.int .i64 0,.int .i64 n,.int .i64 0,.int .i64 0] 70 (n:=A.heap.size+1) (by simp)).ks hks2 (fun ad e=>by cases e;simp [Value.ownBlock])) (fun a4 c4 w4 hown4 hks4 hbw4=>?_)
   refine hK.out _ _ trivial (HT.out _ hbw4) (fun _ _=>?_)
   try simp only [Act.put,List.setIfInBounds_toArray,List.set_cons_zero,List.set_cons_succ]
   refine wpAnyD_ready [11] (by decide +kernel) (by simp) ?_
   refine AllReadyD.pre 11 rfl (fun K9 hK=>?_) AllReadyD.nil
   go_simp
   refine hK.out _ _ trivial (HT.out _ hbw4) (fun _ _=>?_)
   try simp only [Act.put,List.setIfInBounds_toArray,List.set_cons_zero,List.set_cons_succ]
   have q1:=(HT.out _ hbw4).1
   have q2:=HZ.out _ hbw4
   refine wpAnyD_ready [12] (by decide +kernel) (by simp) ?_
   refine AllReadyD.post 12 rfl (by rfl) (fun K9 hK=>?_) AllReadyD.nil
   go_simp
   refine hK.out _ _ trivial (fun _=>?_)
   exact wpAnyD_done (by decide +kernel) ⟨fr_of (F:=uS B la ln lc na oa ea mn nc oc en ec K O X hd ee kk pl d) (by kernel_rfl),a4,c4,w4,rfl,hbw4,hown4⟩ _
  exact AllReadyD.nil
 refine AllReadyD.pre 9 rfl (fun K9 hK=>?_) ?_
 ·go_simp
  refine hK.out _ _ trivial (HT.out _ (bel)) (fun _ _=>?_)
  try simp only [Act.put,List.setIfInBounds_toArray,List.set_cons_zero,List.set_cons_succ]
  refine wpAnyD_ready [0] (by decide +kernel) (by simp) ?_
  refine AllReadyD.pre 0 rfl (fun K9 hK=>?_) AllReadyD.nil
  go_simp
  refine hK.out _ _ trivial (HT.out _ (bel)) (fun _ _=>?_)
  try simp only [Act.put,List.setIfInBounds_toArray,List.set_cons_zero,List.set_cons_succ]
  refine wpAnyD_ready [3] (by decide +kernel) (by simp) ?_
  refine AllReadyD.pre 3 rfl (fun K9 hK=>?_) AllReadyD.nil
  refine step_copy A rfl _ _ 24 rfl 70 Tryz.underlying24 recInfo rfl (by decide) (by decide) (.slice (some ⟨A.heap.size+1,0,none⟩) 0 0) 0 [] rfl ra m rc vals rfl HLEN.out HONE.out m (by omega) (by omega) (bel) (own_litK (by simp) (by omega)) (HSRC.out.below (bel)) (fun a2 c2 w2 hown2 hks2 hbw2=>?_)
  refine hK.out _ _ trivial (HT.out _ hbw2) (fun _ _=>?_)
  try simp only [Act.put,List.setIfInBounds_toArray,List.set_cons_zero,List.set_cons_succ]
  refine wpAnyD_ready [10] (by decide +kernel) (by simp) ?_
  refine AllReadyD.pre 10 rfl (fun K9 hK=>?_) AllReadyD.nil
  refine step_copy A rfl _ _ 24 rfl 70 Tryz.underlying24 recInfo rfl (by decide) (by decide) (.slice a2 m c2) m ([] ++ vals) rfl (some ⟨A.heap.size,0,none⟩) 1 1 [.int .i64 0,.int .i64 n,.int .i64 0,.int .i64 0] rfl rfl (by simp [Value.oneCell']) (m+1) rfl (by omega) (bel) hown2 (((srcK_new A.drew [.int .i64 0,.int .i64 n,.int .i64 0,.int .i64 0] 70 (n:=A.heap.size) rfl).ks (KS.alloc (fun _=>True) _ (.cells #[] 70)) (fun ad e=>trivial)).ks hks2 (fun ad e=>by cases e;simp [Value.ownBlock])) (fun a4 c4 w4 hown4 hks4 hbw4=>?_)
  refine hK.out _ _ trivial (HT.out _ hbw4) (fun _ _=>?_)
  try simp only [Act.put,List.setIfInBounds_toArray,List.set_cons_zero,List.set_cons_succ]
  refine wpAnyD_ready [11] (by decide +kernel) (by simp) ?_
  refine AllReadyD.pre 11 rfl (fun K9 hK=>?_) AllReadyD.nil
  go_simp
  refine hK.out _ _ trivial (HT.out _ hbw4) (fun _ _=>?_)
  try simp only [Act.put,List.setIfInBounds_toArray,List.set_cons_zero,List.set_cons_succ]
  have q1:=(HT.out _ hbw4).1
  have q2:=HZ.out _ hbw4
  refine wpAnyD_ready [12] (by decide +kernel) (by simp) ?_
  refine AllReadyD.post 12 rfl (by rfl) (fun K9 hK=>?_) AllReadyD.nil
  go_simp
  refine hK.out _ _ trivial (fun _=>?_)
  exact wpAnyD_done (by decide +kernel) ⟨fr_of (F:=uS B la ln lc na oa ea mn nc oc en ec K O X hd ee kk pl d) (by kernel_rfl),a4,c4,w4,rfl,hbw4,hown4⟩ _
 exact AllReadyD.nil
end Go.Proofs.YtgemjjdkjmpmlaaGreatDoor
