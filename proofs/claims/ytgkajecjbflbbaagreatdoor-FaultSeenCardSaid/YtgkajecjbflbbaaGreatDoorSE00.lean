/- FaultSeen -/
import Derived.Test.YtgkajecjbflbbaaGreatDoorGBase
set_option maxHeartbeats 4000000
set_option maxRecDepth 100000
set_option linter.all false
namespace Go.Proofs.YtgkajecjbflbbaaGreatDoor
namespace Mt
open Go Go.RowKit
@[go_sem] theorem cJ (args:Array Value) (w:World):Sem.run Mz.prog (callFunc 46 args) w=.ok (.enter 46 args) w:=mz_calls (by kernel_rfl) Tryz.func46 (by kernel_rfl) (by kernel_rfl) args w
end Mt
namespace Mt
open Go Go.Conc Go.RowKit
section
variable {P:Program} {K:Frame->List Frame->World->Prop} {b:Frame} {a:Act} {w0 w:World} {I:World->Prop} {k:List Item} {cs:List Frame} {n:Nat} {l:List (Nat × Value)} {D:List Deferred}
end
section
variable {K:Frame->List Frame->World->Prop} {b:Frame} {a:Act} {w0 w:World} {I:World->Prop} {k:List Item} {cs:List Frame} {n:Nat} {l:List (Nat × Value)} {D:List Deferred}
theorem bq (hi:Ivt w0 I w) {ops:Array Oper} {i:Nat} {rest:List Nat} (f:FuncId) (args:List Value) (j:Nat) {v:Value} (q:Kn a n l)
 (hc:∀ W,I W->Calls Mz.prog f args.toArray W fun e w2=>e=.returned v/\Below W.heap.size W w2)
 (h:∀ w1,Ivt w0 I w1->Leads Tryz.prog K (b.at (a.put (some j) v) (.inRegion ops rest::k)) cs w1)
 (hb:b.kind=.normal:=by rfl) (hg:badF f=false:=by rfl) (e:∀ d,callR Tryz.prog n d l ops i=some (f,args,j):=by intro d;kernel_rfl):Leads Tryz.prog K (b.at a (.inRegion ops (i::rest)::k)) cs w:=by
 refine co_callP (α:=Unit) (V:=fun _=>v) (Z:=fun _ _=>True) hi f args j q (fun _ _ _ _ _=>trivial) (lone_co hi.cl (fun _ _ _ _ _=>trivial) (fun W hW=>(hc W hW).mono ?_) hg) (fun _ _ w1 h1=>h w1 (h1.less hi.cl fun _ x=>x.1)) hb e;rintro e w2 ⟨h1,h2⟩;exact ⟨(),h1,trivial,h2⟩
end
section
variable {P:Program} {K:Frame->List Frame->World->Prop} {b:Frame} {a:Act} {w0 w:World} {I:World->Prop} {k:List Item} {cs:List Frame} {n:Nat} {l:List (Nat × Value)} {D:List Deferred}
end
section
variable {P:Program} {K:Frame->List Frame->World->Prop} {b:Frame} {k:List Item} {cs:List Frame} {ops:Array Oper}
def nds (base:List (Nat × Value)) (ds:Nat->Nat) (V:Nat->Value) (ops:Array Oper) (i:Nat):List (Nat × Value):=base ++ ((List.range ops.size).filter fun d=>needs ops i d).map fun d=>(ds d,V d)
theorem aW {base:List (Nat × Value)} {ds:Nat->Nat} {V:Nat->Value} {i n:Nat} {L:Array Bool} {a:Act} (q:Kn a n (lst base ds V ops.size L)) (h:∀ d,needs ops i d=true->L.getD d false=true):Kn a n (nds base ds V ops i):=by
 refine ⟨q.sz,knl_mem.2 fun x hx=>?_⟩;rcases List.mem_append.1 hx with hx | hx
 ·exact knl_mem.1 q.kn x (List.mem_append_left _ hx)
 ·obtain ⟨d,hd,rfl⟩:=List.mem_map.1 hx;obtain ⟨hd1,hd2⟩:=List.mem_filter.1 hd;exact lst_get q (List.mem_range.1 hd1) (h d hd2)
theorem aH {base:List (Nat × Value)} {ds:Nat->Nat} {V:Nat->Value} {i n N:Nat} {L:Array Bool} {a:Act} (h1:∀ k,k < N->ds k=ds i->k=i) (h2:∀ x∈base,x.1≠ds i) (hj:ds i < n) (q:Kn a n (lst base ds V N L)):Kn (a.put (some (ds i)) (V i)) n (lst base ds V N (L.setIfInBounds i true)):=lst_step h1 h2 (q.cons hj _)
theorem ab {w0 w:World} {I:World->Prop} {a:Act} {n i j:Nat} {rest:List Nat} {l:List (Nat × Value)} {v v0:Value} (hi:Ivt w0 I w) (q:Kn a n l) (hv:v0=v)
 (h:∀ w1,Ivt w0 I w1->Leads P K (b.at (a.put (some j) v) (.inRegion ops rest::k)) cs w1) (hb:b.kind=.normal:=by rfl) (e:∀ d,st1 P d [] n l [.inRegion ops [i]]=some ((j,v0)::l,[.inRegion ops []],[]):=by intro d;kernel_rfl):Leads P K (b.at a (.inRegion ops (i::rest)::k)) cs w:=by
 subst hv;have e:=e fun t=>a.tmps.getD t undef;have hne:b.kind≠.early:=by rw [hb];decide
 unfold st1 at e;simp only at e;split at e
 ·cases e
 ·rename_i o ho
  split at e
  ·rename_i j' hg hd
   split at e
   ·rename_i v' hp
    split at e
    ·rename_i hj
     simp only [List.lookup_nil] at e;cases e;have hx:=fun w=>pureV_run hp w;rw [<- q.sil.ev] at hx;refine leads_op v0 hb ho (gd_true q.sil hg) (fun W D hv d=>(hx _).1) (fun W D hv d e he=>?_) fun d=>?_
     ·rw [(hx _).2] at he;simp at he
     ·rw [hd];exact h _ (hi.to (Stays.at w d))
    ·cases e
   ·cases e
  ·rename_i j' hg hd
   split at e
   ·rename_i hj
    cases e;refine leads_go (fun W=>stepG_unwanted ho (gd_true q.sil hg)) fun d=>?_;rw [hd];exact h _ (hi.to (Stays.at w d))
   ·cases e
  ·cases e
  ·cases e
end
end Mt
namespace Mt
open Go Go.RowKit
def a9 (b:Fbk) (i:Nat) (r:Bool):Fbk:={ b with tests:=b.tests.set i ⟨(b.tests[i]?).elim [] Tst.path,if r then 1 else 2⟩ }
theorem br (s:Nat->Nat) (r:Bool):∀ (l:List Tst) (i:Nat) (h:i < l.length),l[i].seen=0->goR s (l.set i ⟨l[i].path,if r then 1 else 2⟩)=(goR s l && decide ((playI s l[i].path).1=r))
 | [],i,h,_=>absurd h (Nat.not_lt_zero _)
 | t::l,0,h,hs=>by
  have hs:t.seen=0:=hs;show goR s (⟨t.path,if r then 1 else 2⟩::l)=(goR s (t::l) && decide ((playI s t.path).1=r));unfold goR;rw [if_pos hs];cases r <;> cases hp:(playI s t.path).1 <;> simp
 | t::l,i+1,h,hs=>by
  have hi:i < l.length:=by simpa using h
  have ih:=br s r l i hi hs;show goR s (t::l.set i ⟨(l[i]'hi).path,if r then 1 else 2⟩)=(goR s (t::l) && decide ((playI s (l[i]'hi).path).1=r));unfold goR;rw [ih];split
  ·rfl
  ·split <;> simp
theorem ap {b:Fbk} {i:Nat} (h:i < b.tests.length) (hs:b.tests[i].seen=0) (r:Bool):histsI (a9 b i r)=(histsI b).filter fun s=>decide ((playI s b.tests[i].path).1=r):=by
 unfold histsI a9;simp only [List.getElem?_eq_getElem h,Option.elim];rw [List.filter_filter];congr 1;funext s;rw [br s r b.tests i h hs,Bool.and_comm]
theorem bs (n:Nat):∀ (l:List Tst),(∀ t∈l,pathAl n t.path=0/\0<=t.seen/\t.seen<=2)->goT n l=0
 | [],_=>rfl
 | t::l,h=>by
  have h1:=h t (by simp);have ih:=bs n l fun x hx=>h x (by simp [hx]);unfold goT;rw [if_neg (by simp [h1.1]),if_neg (by omega),if_neg (by omega),ih]
end Mt
namespace Mt
open Go Go.RowKit Go.Maps
attribute [local go_sem] Oper.semAt_some
theorem cx:(Mz.prog.info? 61).map (fun i=>(i.zero,i.size,i.bytes))=some (some (.agg #[.slice none 0 0,.int .i64 0]),2,32):=by kernel_rfl
def ag (M:Nat->Option Addr × Nat):List Tst->Nat->List Value
 | [],_=>[]
 | t::l,k=>.slice (M k).1 t.path.length (M k).2::.int .i64 t.seen::ag M l (k+1)
theorem ah (M:Nat->Option Addr × Nat):∀ (l:List Tst) (k:Nat),(ag M l k).length=l.length * 2
 | [],_=>rfl
 | t::l,k=>by simp [ag,ah M l (k+1)];omega
theorem am (M:Nat->Option Addr × Nat):∀ (l:List Tst) (k i:Nat) (h:i < l.length),(ag M l k)[i * 2]? = some (.slice (M (k+i)).1 l[i].path.length (M (k+i)).2)/\(ag M l k)[i * 2+1]? = some (.int .i64 l[i].seen)
 | t::l,k,0,_=>⟨rfl,rfl⟩
 | t::l,k,i+1,h=>by
  have:=am M l (k+1) i (by simpa using h);rw [show (i+1) * 2=i * 2+1+1 by omega,show k+(i+1)=k+1+i by omega];exact this
theorem az (M:Nat->Option Addr × Nat):∀ (l:List Tst) (k:Nat),∀ u∈ag M l k,u.oneCell'=true
 | [],_,u,h=>by cases h
 | t::l,k,u,h=>by
  simp only [ag,List.mem_cons] at h;rcases h with rfl | rfl | h
  ·rfl
  ·rfl
  ·exact az M l (k+1) u h
theorem aB {w:World} {base:Nat} {e:TypeId} {n size:Nat} (hn:n=w.heap.size) (hb:base<=n):(w.alloc (.cells #[] e)).ownsRow base e size (.slice (some ⟨n,0,none⟩) 0 0) 0 []:=by
 subst hn;refine ⟨by simp,.inr ⟨_,0,#[],rfl,hb,?_,Nat.le_refl _,Nat.zero_le _,by simp,by simp⟩⟩;show (w.heap.push _)[w.heap.size]? = _;simp
def aJ (W:World) (B C:Nat) (x y z:Value):Prop :=
 W.cell? ⟨B,0,none⟩=some x/\W.cell? ⟨B,1,none⟩=some y/\W.cell? ⟨B,2,none⟩=some z/\W.cell? ⟨C,0,none⟩=some (.int .i64 0)/\W.cell? ⟨C,1,none⟩=some (.slice none 0 0)/\W.cell? ⟨C,2,none⟩=some (.slice none 0 0)/\(∀ k,W.frozen? ⟨B,k,none⟩=false)/\∀ k,W.frozen? ⟨C,k,none⟩=false
theorem aJ.set {W:World} {B C:Nat} {x y z:Value} (h:aJ W B C x y z) {g:Nat} (h1:g≠B) (h2:g≠C) (o:Nat) (n:Value):aJ (W.setCell ⟨g,o,none⟩ n) B C x y z:=by
 obtain ⟨a1,a2,a3,a4,a5,a6,a7,a8⟩:=h;refine ⟨?_,?_,?_,?_,?_,?_,fun k=>?_,fun k=>?_⟩
 all_goals first | rw [World.frozen?_setCell] | rw [World.cell?_setCell_other (h:=fun e=>by injection e with e;exact absurd e (by assumption))]
 all_goals first | assumption | exact a7 k | exact a8 k
theorem aJ.fst {W:World} {B C:Nat} {x y z:Value} (h:aJ W B C x y z) (h1:B≠C) (n:Value):aJ (W.setCell ⟨B,2,none⟩ n) B C x y n:=by
 obtain ⟨a1,a2,a3,a4,a5,a6,a7,a8⟩:=h;refine ⟨?_,?_,World.cell?_setCell_same' _ _ _ (by rw [a3];rfl),?_,?_,?_,fun k=>?_,fun k=>?_⟩
 all_goals first | rw [World.frozen?_setCell] | rw [World.cell?_setCell_other (h:=fun e=>by injection e with e e';first | exact absurd e h1 | exact absurd e' (by decide))]
 all_goals first | assumption | exact a7 k | exact a8 k
section
variable {b:Fbk} {vm vd vt:Value} {w:World} {tb to:Nat}
theorem aR {X:World} {g cap i:Nat} {r:Bool} {M:Nat->Option Addr × Nat} {da:Option Addr} {dc:Nat} (hB:FBookAt w b (.int .i64 b.most) (.slice da b.devs.length dc) vt) (hb:Below w.heap.size w X) (hg:g < X.heap.size) (hi:i < b.tests.length)
 (hM:∀ k,k < b.tests.length->∀ h:k < b.tests.length,w.cell? ⟨tb,to+k * 2,none⟩=some (.slice (M k).1 b.tests[k].path.length (M k).2)/\b.tests[k].path.length<=(M k).2/\b.tests[k].path.length<=1000000/\IntsAt w (M k).1 b.tests[k].path/\w.cell? ⟨tb,to+k * 2+1,none⟩=some (.int .i64 b.tests[k].seen))
 (h0:∀ q (h:q < b.tests.length),X.cell? ⟨g,q * 2,none⟩=some (.slice (M q).1 b.tests[q].path.length (M q).2)) (h1:∀ q (h:q < b.tests.length),q≠i->X.cell? ⟨g,q * 2+1,none⟩=some (.int .i64 b.tests[q].seen)) (h2:X.cell? ⟨g,i * 2+1,none⟩=some (.int .i64 (if r then 1 else 2))) :
 FBookAt X (a9 b i r) (.int .i64 b.most) (.slice da b.devs.length dc) (.slice (some ⟨g,0,none⟩) b.tests.length cap):=by
 obtain ⟨_,⟨da',dc',e,hD,hdl⟩,ta,tc,rfl,hT,htl⟩:=hB.below hb;cases e;refine ⟨rfl,⟨da,dc,rfl,hD,hdl⟩,some ⟨g,0,none⟩,cap,by simp [a9],fun q hq=>?_,by simpa [a9] using htl⟩;have hq':q < b.tests.length:=by simpa [a9] using hq
 obtain ⟨_,a2,a3,a4,_⟩:=hM q hq' hq';refine ⟨g,0,rfl,hg,(M q).1,(M q).2,?_⟩;by_cases e:q=i
 ·subst e;simp only [a9,List.getElem_set_self,List.getElem?_eq_getElem hq',Option.elim,Nat.zero_add];exact ⟨h0 q hq',a2,a3,a4.below hb,h2⟩
 ·simp only [a9,List.getElem_set_ne (Ne.symm e),Nat.zero_add];exact ⟨h0 q hq',a2,a3,a4.below hb,h1 q hq' e⟩
theorem aX (hB:FBookAt w b vm vd vt) {i:Nat} (hi:i < b.tests.length) (h20:b.tests.length<=20) (r:Bool) :
 Calls Mz.prog 62 #[.agg #[vm,vd,vt],.int .i64 (i:Int),.bool r] w fun e w'=>∃ x:Value,e=.returned (.agg #[vm,vd,x])/\FBookAt w' (a9 b i r) vm vd x/\Below w.heap.size w w':=by
 have HB:=Hh hB;obtain ⟨rfl,⟨da,dc,rfl,hD,hdl⟩,ta,tc,rfl,hT,htl⟩:=hB;obtain ⟨tb,to,rfl,htb,_⟩:=hT i hi;obtain ⟨M,hM⟩:=Deep.choose_lt (α:=Option Addr × Nat) (n:=b.tests.length) (p:=fun k m=>∀ h:k < b.tests.length,w.cell? ⟨tb,to+k * 2,none⟩=some (.slice m.1 b.tests[k].path.length m.2)/\b.tests[k].path.length<=m.2/\b.tests[k].path.length<=1000000/\IntsAt w m.1 b.tests[k].path/\w.cell? ⟨tb,to+k * 2+1,none⟩=some (.int .i64 b.tests[k].seen)) (fun k hk=>by
  obtain ⟨b',o',e,_,pa,pc,h1,h2,h3,h4,h5⟩:=hT k hk
  cases e
  exact ⟨(pa,pc),fun _=>⟨h1,h2,h3,h4,h5⟩⟩)
 have HM:=Hh hM;have hsrc:∀ j u,(ag M b.tests 0)[j]? = some u->w.cell? ⟨tb,to+j,none⟩=some u:=fun j u h=>by
  have hj:j < b.tests.length * 2:=by
   have:=(List.getElem?_eq_some_iff.1 h).1
   rwa [ah] at this
  obtain ⟨q,hq⟩:∃ q,j=q * 2\/j=q * 2+1:=⟨j / 2,by omega⟩;have hql:q < b.tests.length:=by omega
  obtain ⟨h1,_,_,_,h5⟩:=hM q hql hql;have hg:=am M b.tests 0 q hql;rw [Nat.zero_add] at hg;rcases hq with rfl | rfl
  ·rw [hg.1] at h;cases h;exact h1
  ·rw [hg.2] at h;cases h;exact h5
 have HS:=Hh hsrc;obtain ⟨i0,hi0,hz0,hz1,hz2⟩:=info_parts cx;have hlt20:=h20;have hiI:(i:Int) < (b.tests.length:Int):=by omega
 clear hsrc hM hT hD;have HRES:=Hh (show ∀ (W4 w5:World) (v':Value),(Below w.heap.size w W4/\W4.heap.size=w.heap.size+4/\W4.ownsRow (w.heap.size+3) 61 2 (.slice (some ⟨w.heap.size+1+1+1,0,none⟩) 0 0) 0 []/\aJ W4 (w.heap.size+1+1) (w.heap.size+1) (.int .i64 b.most) (.slice da b.devs.length dc) (.slice (some ⟨tb,to,none⟩) b.tests.length tc))->w5.ownsRow (w.heap.size+3) 61 2 v' (0+b.tests.length) ([] ++ ag M b.tests 0)->KS (fun k=>k < w.heap.size+3) W4 w5 ->
  ∃ g cap,v'=(.slice (some ⟨g,0,none⟩) b.tests.length cap)/\(w.heap.size+3<=g/\g < w5.heap.size/\(∀ q (h:q < b.tests.length),w5.cell? ⟨g,q * 2,none⟩=some (.slice (M q).1 b.tests[q].path.length (M q).2)/\w5.cell? ⟨g,q * 2+1,none⟩=some (.int .i64 b.tests[q].seen))/\Below w.heap.size w w5) /\
   (w5.cell? ⟨w.heap.size+1+1,2,none⟩=some (.slice (some ⟨tb,to,none⟩) b.tests.length tc)/\w5.frozen? ⟨w.heap.size+1+1,2,none⟩=false/\(w5.setCell ⟨w.heap.size+1+1,2,none⟩ (.slice (some ⟨g,0,none⟩) b.tests.length cap)).cell? ⟨g,i * 2+1,none⟩=some (.int .i64 b.tests[i].seen)/\w5.frozen? ⟨g,i * 2+1,none⟩=false/\((w5.setCell ⟨w.heap.size+1+1,2,none⟩ (.slice (some ⟨g,0,none⟩) b.tests.length cap)).setCell ⟨g,i * 2+1,none⟩ (.int .i64 2)).cell? ⟨g,i * 2+1,none⟩=some (.int .i64 2)) /\
   aJ ((w5.setCell ⟨w.heap.size+1+1,2,none⟩ (.slice (some ⟨g,0,none⟩) b.tests.length cap)).setCell ⟨g,i * 2+1,none⟩ (.int .i64 2)) (w.heap.size+1+1) (w.heap.size+1) (.int .i64 b.most) (.slice da b.devs.length dc) (.slice (some ⟨g,0,none⟩) b.tests.length cap)/\aJ (((w5.setCell ⟨w.heap.size+1+1,2,none⟩ (.slice (some ⟨g,0,none⟩) b.tests.length cap)).setCell ⟨g,i * 2+1,none⟩ (.int .i64 2)).setCell ⟨g,i * 2+1,none⟩ (.int .i64 1)) (w.heap.size+1+1) (w.heap.size+1) (.int .i64 b.most) (.slice da b.devs.length dc) (.slice (some ⟨g,0,none⟩) b.tests.length cap) from fun W4 w5 v' ⟨hb,hs,_,hx⟩ hown hks=>by
  rw [Nat.zero_add,List.nil_append] at hown
  obtain ⟨h1,⟨_,h2⟩ | ⟨g,cap,cur,rfl,e2,e3,e4,e5,e6,e7⟩⟩:=hown
  ·omega
  ·have hglt:=(Array.getElem?_eq_some_iff.1 e3).1
   have hcell:∀ j u,(ag M b.tests 0)[j]? = some u->w5.cell? ⟨g,j,none⟩=some u:=fun j u hj=>by
    rw [<- e7,List.getElem?_take] at hj
    split at hj
    ·unfold World.cell?;rw [e3];simpa using hj
    ·cases hj
   have hgc:∀ q (h:q < b.tests.length),w5.cell? ⟨g,q * 2,none⟩=some (.slice (M q).1 b.tests[q].path.length (M q).2)/\w5.cell? ⟨g,q * 2+1,none⟩=some (.int .i64 b.tests[q].seen):=fun q hq=>by
    have hg:=am M b.tests 0 q hq
    rw [Nat.zero_add] at hg
    exact ⟨hcell _ _ hg.1,hcell _ _ hg.2⟩
   have hx5:aJ w5 (w.heap.size+1+1) (w.heap.size+1) (.int .i64 b.most) (.slice da b.devs.length dc) (.slice (some ⟨tb,to,none⟩) b.tests.length tc):=by
    obtain ⟨a1,a2,a3,a4,a5,a6,a7,a8⟩:=hx
    refine ⟨?_,?_,?_,?_,?_,?_,fun k=>?_,fun k=>?_⟩
    all_goals first | rw [hks.cell (by simp;omega) (by simp)] | rw [hks.cell (by simp;omega) (by simp;omega)] | rw [hks.frozen (by simp;omega) (by simp)] | rw [hks.frozen (by simp;omega) (by simp;omega)]
    all_goals first | assumption | exact a7 k | exact a8 k
   have y21:(w5.setCell ⟨w.heap.size+1+1,2,none⟩ (.slice (some ⟨g,0,none⟩) b.tests.length cap)).cell? ⟨g,i * 2+1,none⟩=some (.int .i64 b.tests[i].seen):=by rw [World.cell?_setCell_other (h:=fun e=>by injection e with e;omega)];exact (hgc i hi).2
   exact ⟨g,cap,rfl,⟨e2,hglt,hgc,⟨hks.os.trans hb.os,hks.tape.trans hb.tape,hks.output.trans hb.output,Nat.le_trans hb.size hks.size,fun k hk=>(hks.block k (by omega) (by show k < w.heap.size+3;omega)).trans (hb.block k hk)⟩⟩,
    ⟨hx5.2.2.1,hx5.2.2.2.2.2.2.1 2,y21,by unfold World.frozen?;rw [e3];simp,World.cell?_setCell_same' _ _ _ (by rw [y21];rfl)⟩,(hx5.fst (by omega) _).set (by omega) (by omega) _ _,((hx5.fst (by omega) _).set (by omega) (by omega) _ _).set (by omega) (by omega) _ _⟩)
 obtain ⟨W4,hW4⟩:∃ W4,W4=(((w.alloc (.cells #[.int .i64 b.most,.slice da b.devs.length dc,.slice (some ⟨tb,to,none⟩) b.tests.length tc] 25)).alloc (.cells #[.int .i64 0,.slice none 0 0,.slice none 0 0] 25)).alloc (.cells #[.int .i64 b.most,.slice da b.devs.length dc,.slice (some ⟨tb,to,none⟩) b.tests.length tc] 25)).alloc (.cells #[] 61):=⟨_,rfl⟩;have hb4:Below w.heap.size w W4:=by rw [hW4];(exact bel)
 have hs4:W4.heap.size=w.heap.size+4:=by rw [hW4];simp
 have row4:W4.ownsRow (w.heap.size+3) 61 2 (.slice (some ⟨w.heap.size+1+1+1,0,none⟩) 0 0) 0 []:=by rw [hW4];exact aB (by simp) (by omega)
 have x2:∀ k u,(#[.int .i64 b.most,.slice da b.devs.length dc,.slice (some ⟨tb,to,none⟩) b.tests.length tc]:Array Value)[k]? = some u->W4.cell? ⟨w.heap.size+1+1,k,none⟩=some u:=fun k u hk=>by
  rw [hW4,World.cell?_alloc_past _ _ _ (by simp),World.cell?_alloc_at _ _ _ _ (by simp)];exact hk
 have x1:∀ k u,(#[.int .i64 0,.slice none 0 0,.slice none 0 0]:Array Value)[k]? = some u->W4.cell? ⟨w.heap.size+1,k,none⟩=some u:=fun k u hk=>by
  rw [hW4,World.cell?_alloc_past _ _ _ (by simp),World.cell?_alloc_past _ _ _ (by simp),World.cell?_alloc_at _ _ _ _ (by simp)];exact hk
 have f2:∀ k,W4.frozen? ⟨w.heap.size+1+1,k,none⟩=false:=fun k=>by
  rw [hW4,World.frozen?_alloc_past _ _ _ (by simp),World.frozen?_alloc_at _ _ _ _ (by simp)]
 have f1:∀ k,W4.frozen? ⟨w.heap.size+1,k,none⟩=false:=fun k=>by
  rw [hW4,World.frozen?_alloc_past _ _ _ (by simp),World.frozen?_alloc_past _ _ _ (by simp),World.frozen?_alloc_at _ _ _ _ (by simp)]
 have HF:=Hh (⟨hb4,hs4,row4,x2 0 _ rfl,x2 1 _ rfl,x2 2 _ rfl,x1 0 _ rfl,x1 1 _ rfl,x1 2 _ rfl,f2,f1⟩:(Below w.heap.size w W4/\W4.heap.size=w.heap.size+4/\W4.ownsRow (w.heap.size+3) 61 2 (.slice (some ⟨w.heap.size+1+1+1,0,none⟩) 0 0) 0 []/\aJ W4 (w.heap.size+1+1) (w.heap.size+1) (.int .i64 b.most) (.slice da b.devs.length dc) (.slice (some ⟨tb,to,none⟩) b.tests.length tc)));clear hb4 hs4 row4 x2 x1 f2 f1;have HSS:=Hh (show ∀ j u,(ag M b.tests 0)[j]? = some u->W4.cell? (Addr.add ⟨tb,to,none⟩ j)=some u from fun j u h=>by
  rw [add_off]
  exact (HF.out.1.cell (p:=⟨tb,to+j,none⟩) htb).trans (HS.out j u h))
 rw [hW4] at HF HSS;clear hW4
 go_enter (mz_func (i:=62) rfl Tryz.func62),Tryz.ntmps62
 go_wp2_with (at_builtin;go_loud (refine wpList_append_own _ rfl _ _ 23 rfl (w.heap.size+3) 61 i0 (.agg #[.slice none 0 0,.int .i64 0]) 2 32 (mzu Tryz.underlying23) hi0 hz0 hz1 hz2 rfl (by decide) (.slice (some ⟨w.heap.size+1+1+1,0,none⟩) 0 0) 0 [] rfl HF.out.2.2.1 ⟨tb,to,none⟩ b.tests.length tc (ag M b.tests 0) rfl (ah M b.tests 0) HSS.out (az M b.tests 0) (by unfold maxLen;omega) (by omega) (by simp) ?_;intro v' w5 hown' hgrow _;obtain ⟨g,cap,rfl,hw5,⟨y20,e20,y21,e21,y22⟩,hy7,hy8⟩:=HRES.out _ w5 v' HF.out hown' (grow_ks HF.out.2.2.1 hgrow);obtain ⟨p0,p1,p2,p3,p4,p5,p6,p7⟩:=hy7;have f0:=p7 0;have f1:=p7 1;have f2:=p7 2;clear p6 p7;obtain ⟨r0,r1,r2,r3,r4,r5,r6,r7⟩:=hy8;have k0:=r7 0;have k1:=r7 1;have k2:=r7 2;have HW:=Hh hw5;clear HF HSS HRES HS hgrow hown' hw5 r6 r7))
 ·refine bodyPost_ret (v:=.agg #[.int .i64 b.most,.slice da b.devs.length dc,.slice (some ⟨g,0,none⟩) b.tests.length cap]) (by simp [results,Tryz.results62,go_sem, *]) rfl ?_;clear p0 p1 p2 p3 p4 p5 f0 f1 f2 r0 r1 r2 r3 r4 r5 k0 k1 k2 y20 e20 e21;obtain rfl:r=true:=by assumption
  obtain ⟨hg1,hg2,hg3,hg4⟩:=HW.out;refine ⟨_,rfl,aR (tb:=tb) (to:=to) (M:=M) HB.out (Below.setCell (p:=⟨w.heap.size+1,2,none⟩) (Below.setCell (p:=⟨w.heap.size+1,1,none⟩) (Below.setCell (p:=⟨w.heap.size+1,0,none⟩) (Below.setCell (p:=⟨g,i * 2+1,none⟩) (Below.setCell (p:=⟨g,i * 2+1,none⟩) (Below.setCell (p:=⟨w.heap.size+1+1,2,none⟩) hg4 (by simp;omega) (.slice (some ⟨g,0,none⟩) b.tests.length cap)) (by simp;omega) (.int .i64 2)) (by simp;omega) (.int .i64 1)) (by simp) (.int .i64 b.most)) (by simp) (.slice da b.devs.length dc)) (by simp) (.slice (some ⟨g,0,none⟩) b.tests.length cap)) (by simp [World.setCell];omega) hi HM.out (fun q hq=>?_) (fun q hq hne=>?_) ?_,Below.setCell (p:=⟨w.heap.size+1,2,none⟩) (Below.setCell (p:=⟨w.heap.size+1,1,none⟩) (Below.setCell (p:=⟨w.heap.size+1,0,none⟩) (Below.setCell (p:=⟨g,i * 2+1,none⟩) (Below.setCell (p:=⟨g,i * 2+1,none⟩) (Below.setCell (p:=⟨w.heap.size+1+1,2,none⟩) hg4 (by simp;omega) (.slice (some ⟨g,0,none⟩) b.tests.length cap)) (by simp;omega) (.int .i64 2)) (by simp;omega) (.int .i64 1)) (by simp) (.int .i64 b.most)) (by simp) (.slice da b.devs.length dc)) (by simp) (.slice (some ⟨g,0,none⟩) b.tests.length cap)⟩
  ·iterate 6 rw [World.cell?_setCell_other (h:=fun e=>by injection e with e e';omega)]
   exact (hg3 q hq).1
  ·iterate 6 rw [World.cell?_setCell_other (h:=fun e=>by injection e with e e';omega)]
   exact (hg3 q hq).2
  ·iterate 3 rw [World.cell?_setCell_other (h:=fun e=>by injection e with e e';omega)]
   exact World.cell?_setCell_same' _ _ _ (by rw [y22];rfl)
 ·refine bodyPost_ret (v:=.agg #[.int .i64 b.most,.slice da b.devs.length dc,.slice (some ⟨g,0,none⟩) b.tests.length cap]) (by simp [results,Tryz.results62,go_sem, *]) rfl ?_;clear p0 p1 p2 p3 p4 p5 f0 f1 f2 r0 r1 r2 r3 r4 r5 k0 k1 k2 y20 e20 e21;obtain rfl:r=false:=by assumption
  obtain ⟨hg1,hg2,hg3,hg4⟩:=HW.out;refine ⟨_,rfl,aR (tb:=tb) (to:=to) (M:=M) HB.out (Below.setCell (p:=⟨w.heap.size+1,2,none⟩) (Below.setCell (p:=⟨w.heap.size+1,1,none⟩) (Below.setCell (p:=⟨w.heap.size+1,0,none⟩) (Below.setCell (p:=⟨g,i * 2+1,none⟩) (Below.setCell (p:=⟨w.heap.size+1+1,2,none⟩) hg4 (by simp;omega) (.slice (some ⟨g,0,none⟩) b.tests.length cap)) (by simp;omega) (.int .i64 2)) (by simp) (.int .i64 b.most)) (by simp) (.slice da b.devs.length dc)) (by simp) (.slice (some ⟨g,0,none⟩) b.tests.length cap)) (by simp [World.setCell];omega) hi HM.out (fun q hq=>?_) (fun q hq hne=>?_) ?_,Below.setCell (p:=⟨w.heap.size+1,2,none⟩) (Below.setCell (p:=⟨w.heap.size+1,1,none⟩) (Below.setCell (p:=⟨w.heap.size+1,0,none⟩) (Below.setCell (p:=⟨g,i * 2+1,none⟩) (Below.setCell (p:=⟨w.heap.size+1+1,2,none⟩) hg4 (by simp;omega) (.slice (some ⟨g,0,none⟩) b.tests.length cap)) (by simp;omega) (.int .i64 2)) (by simp) (.int .i64 b.most)) (by simp) (.slice da b.devs.length dc)) (by simp) (.slice (some ⟨g,0,none⟩) b.tests.length cap)⟩
  ·iterate 5 rw [World.cell?_setCell_other (h:=fun e=>by injection e with e e';omega)]
   exact (hg3 q hq).1
  ·iterate 5 rw [World.cell?_setCell_other (h:=fun e=>by injection e with e e';omega)]
   exact (hg3 q hq).2
  ·iterate 3 rw [World.cell?_setCell_other (h:=fun e=>by injection e with e e';omega)]
   exact y22
end
attribute [local go_sem] Oper.semAt_some
theorem ax {b:Fbk} (h:bookAl b=0) {i:Nat} (hi:i < b.tests.length) (r:Bool):bookAl (a9 b i r)=0:=by
 obtain ⟨h1,h2⟩:=bookAl_ok h;obtain ⟨h6,ht⟩:=testsAl_ok h2;have e1:devsAl (a9 b i r)=0:=h1;have e2:testsAl (a9 b i r)=0:=by
  unfold testsAl;rw [if_neg (by simp [a9];omega)];refine bs _ _ fun t hm=>?_;rcases List.mem_or_eq_of_mem_set hm with hm | rfl
  ·exact ht t hm
  ·have:=ht b.tests[i] (List.getElem_mem hi);simp only [List.getElem?_eq_getElem hi,Option.elim];exact ⟨this.1,by cases r <;> decide,by cases r <;> decide⟩
 unfold bookAl;rw [if_neg (by simp [e1]),e2]
section
variable {b:Fbk} {vm vd vt:Value} {w:World}
end
end Mt
namespace Mt
open Go Go.RowKit Go.Maps Go.Conc
attribute [local go_sem] Oper.semAt_some
section
variable {P:Program} {K:Frame->List Frame->World->Prop} {b:Frame} {a:Act} {w0 w:World} {I:World->Prop} {k:List Item} {cs:List Frame} {n:Nat} {l:List (Nat × Value)} {D:List Deferred}
end
section
variable {a:Act} {o:Oper} {w:World} {ad:Addr} {v:Value} {x:Operand}
theorem av (ho:o.op=.load 23 x) (hx:a.eval x=.pointer (some ad)):∀ w:World,w.cell? ad=some v->(execOp a.eval o).run Tryz.prog w=.ok (.value v) w/\∀ e∈(execOp a.eval o).events Tryz.prog w #[],e.loc=.cell ad:=fun w hc=>by
 have e:execOp a.eval o=execOp (fun _=>.pointer (some ad)) { o with op:=.load 23 x }:=by unfold execOp;rw [ho];simp only [hx]
 rw [e];exact ⟨by simp [go_sem,hc],by simp [go_sem,hc]⟩
theorem b6 (ho:o.op=.load 29 x) (hx:a.eval x=.pointer (some ad)):∀ w:World,w.cell? ad=some v->(execOp a.eval o).run Tryz.prog w=.ok (.value v) w/\∀ e∈(execOp a.eval o).events Tryz.prog w #[],e.loc=.cell ad:=fun w hc=>by
 have e:execOp a.eval o=execOp (fun _=>.pointer (some ad)) { o with op:=.load 29 x }:=by unfold execOp;rw [ho];simp only [hx]
 rw [e];exact ⟨by simp [go_sem,hc],by simp [go_sem,hc]⟩
end
attribute [local go_sem] Oper.semAt_some
section
variable {a:Act} {o:Oper} {p q:Nat} {n:Nat}
theorem aK {tb to c i:Nat} (ho:o.op=.indexAddr 23 (.tmp p) (.tmp q)) (hx:a.tmps[p]? = some (.slice (some ⟨tb,to,none⟩) n c)) (hy:a.tmps[q]? = some (.int .i64 (i:Int))) (hi:i < n) :
 ∀ W:World,(execOp a.eval o).run Tryz.prog W=.ok (.value (.pointer (some ⟨tb,to+i * 2,none⟩))) W/\(execOp a.eval o).events Tryz.prog W #[]=#[]:=fun W=>by
 have hiI:(i:Int) < (n:Int):=by omega
 have e:execOp a.eval o=execOp a.eval { o with op:=.indexAddr 23 (.tmp p) (.tmp q) }:=by unfold execOp;rw [ho]
 rw [e];exact ⟨by simp [go_sem,hx,hy,hiI],by simp [go_sem,hx,hy,hiI]⟩
end
theorem aS {w:World} {b:Fbk} {vm vd:Value} {ta:Option Addr} {tb to tc i:Nat} (h:FRaw w b vm vd (.slice ta b.tests.length tc)) (hto:ta=some ⟨tb,to,none⟩) (hi:i < b.tests.length):w.cell? ⟨tb,to+i * 2+1,none⟩=some (.int .i64 b.tests[i].seen):=by
 subst hto;obtain ⟨_,_,ta,c,e,hT⟩:=h;cases e;obtain ⟨b',o,e,_,pa,pc,_,_,_,h5⟩:=hT i hi;cases e;exact h5
end Mt
namespace Mt
open Go Go.RowKit Go.Maps
attribute [local go_sem] Oper.semAt_some
section
variable {w:World} {a c:Option Addr} {l m:List Int} {ac cc:Nat}
theorem bi (hL:IntsAt w a l) (hM:IntsAt w c m) (hl:l.length<=1000000) (hm:m.length<=1000000) {t:Bool} (h:(l.all fun x=>decide (x∈m))=t) :
 Calls Mz.prog 54 #[.slice a l.length ac,.slice c m.length cc] w fun e w'=>e=.returned (.bool t)/\w'=w:=by
 have HL:=Hh hL;have HM:=Hh hM;have H:=Hh h;clear hL hM h
 go_enter (mz_func (i:=54) rfl Tryz.func54),Tryz.ntmps54
 go_wp2;go_loopw [5] (fun i wr=>∃ j:Nat,j<=l.length/\i=.int .i64 (j:Int)/\Hid (∀ x∈l.take j,x∈m)/\wr=w) (fun i _=>l.length - (intOf i).toNat)
 case atStart=>exact ⟨0,Nat.zero_le _,rfl,by simp [Hid],rfl⟩
 case round =>
  obtain ⟨j,hj,rfl,hin,rfl⟩:=hrel;by_cases hlt:j < l.length
  ·obtain ⟨pb,po,rfl,hpb,e0⟩:=HL.out j hlt;obtain ⟨x,hx⟩:∃ x,l[j]=x:=⟨_,rfl⟩;have htk:=List.take_succ_eq_append_getElem hlt;have hmem:l[j]∈l:=List.getElem_mem hlt;rw [hx] at e0 htk hmem;have HTK:=Hh htk;have HMEM:=Hh hmem;clear hx htk hmem;have hltI:(j:Int) < (l.length:Int):=by omega
   by_cases hxm:x∈m
   ·have HX:=Hh hxm;have HD:=Hh (show decide (x∈m)=true by simp [hxm]);clear hxm;go_wp2_with (go_at_call 41;(with_reducible refine (hasNum_at (lc:=cc) HM.out rfl hm HD.out).mono ?_);rintro e w' ⟨rfl,rfl⟩);go_roundw
    case rel =>
     refine ⟨j+1,hlt,by go_num,fun y hy=>?_,by first | rfl | trivial⟩;rw [HTK.out] at hy;rcases List.mem_append.1 hy with hy | hy
     ·exact hin y hy
     ·rw [List.mem_singleton.1 hy];exact HX.out
    case measure=>simp [intOf];omega
   ·have HD:=Hh (show decide (x∈m)=false by simp [hxm]);have ht:t=false:=by
     rw [<- H.out,Bool.eq_false_iff];intro ha;rw [List.all_eq_true] at ha;have:=ha x HMEM.out;simp [hxm] at this
    subst ht;clear hxm;go_wp2_with (go_at_call 41;(with_reducible refine (hasNum_at (lc:=cc) HM.out rfl hm HD.out).mono ?_);rintro e w' ⟨rfl,rfl⟩);go_ret;exact ⟨rfl,by first | rfl | trivial⟩
  ·obtain rfl:j=l.length:=by omega
   have ht:t=true:=by
    rw [<- H.out,List.all_eq_true];intro x hx;have:=hin x (by rw [List.take_length];exact hx);simpa using this
   subst ht;go_wp2;go_ret;exact ⟨rfl,by first | rfl | trivial⟩
end
end Mt
namespace Mt
open Go Go.RowKit Go.Maps Go.Conc
attribute [local go_sem] Oper.semAt_some
def ai (w:World) (a:Option Addr) (l:List Int):Prop:=∀ i (h:i < l.length),(∃ b o,a=some ⟨b,o,none⟩/\b < w.heap.size/\w.cell? ⟨b,o+i,none⟩=some (.int .u16 l[i]))/\0<=l[i]/\l[i]<=65535
theorem ai.alike {w w1:World} {a:Option Addr} {l:List Int} (h:ai w a l) (ha:Alike w w1):ai w1 a l:=fun i hi=>by
 obtain ⟨⟨b,o,e,hlt,c⟩,h2⟩:=h i hi;exact ⟨⟨b,o,e,Nat.lt_of_lt_of_le hlt ha.size,(ha.cell _ _ hlt).trans c⟩,h2⟩
def an (l:List Int) (k:Nat):Int:=l.getD k 0
theorem bB {w:World} {a:Option Addr} {l:List Int} (h:ai w a l) (k:Nat):0<=an l k/\an l k<=65535:=by
 unfold an;by_cases hk:k < l.length
 ·have:=(h k hk).2;simpa [List.getD,hk] using this
 ·simp [List.getD,hk]
section
variable {w:World} {a:Option Addr} {l:List Int} {ac:Nat}
theorem bF (hL:ai w a l) {k:Nat} {t:Int} (h:an l k=t) :
 Calls Mz.prog 46 #[.slice a l.length ac,.int .i64 (k:Int)] w fun e w'=>e=.returned (.int .i64 t)/\w'=w:=by
 unfold an at h;by_cases hk:k < l.length
 ·obtain ⟨⟨pb,po,rfl,hpb,e0⟩,h1,h2⟩:=hL k hk;have hkI:(k:Int) < (l.length:Int):=by omega
  have ht:l[k]=t:=by rw [<- h];simp [List.getD,hk]
  rw [ht] at e0 h1 h2;have hw:IntKind.i64.wrap t=t:=IntWalk.i64_in _ (by omega);clear hL h ht
  go_enter (mz_func (i:=46) rfl Tryz.func46),Tryz.ntmps46
  go_wp2;go_ret;exact ⟨rfl,rfl⟩
 ·have hkI:¬ (k:Int) < (l.length:Int):=by omega
  have ht:t=0:=by rw [<- h];simp [List.getD,hk]
  subst ht
  go_enter (mz_func (i:=46) rfl Tryz.func46),Tryz.ntmps46
  go_wp2;go_ret;exact ⟨rfl,rfl⟩
end
end Mt
namespace Mt
open Go Go.RowKit
theorem b7 {n:Nat}:∀ (l seen:List Int),(∀ x∈l,0<=x/\x < (n:Int))->l.Nodup->(∀ x∈l,x ∉ seen)->goP n seen l=0
 | [],_,_,_,_=>rfl
 | k::l,seen,h1,h2,h3=>by
  have hk:=h1 k (by simp);rw [List.nodup_cons] at h2;unfold goP;rw [if_neg (by unfold inB;simp;omega),if_neg (h3 k (by simp))];refine b7 l _ (fun x hx=>h1 x (by simp [hx])) h2.2 fun x hx=>?_;rw [List.mem_append,List.mem_singleton];rintro (h | rfl)
  ·exact h3 x (by simp [hx]) h
  ·exact h2.1 hx
theorem bG {n:Nat} {l:List Int} (h1:1<=l.length) (h6:l.length<=6) (hr:∀ x∈l,0<=x/\x < (n:Int)) (hn:l.Nodup):pathAl n l=0:=by
 unfold pathAl;rw [if_neg (by unfold inB;simp;omega)];exact b7 l [] hr hn fun x _ h=>by cases h
theorem b9:∀ (l m:List Int),l.Nodup->(∀ x∈l,x∈m)->l.length<=m.length
 | [],_,_,_=>Nat.zero_le _
 | x::l,m,h1,h2=>by
  rw [List.nodup_cons] at h1;have hx:=h2 x (by simp);have ih:=b9 l (m.erase x) h1.2 fun y hy=>by
   have hne:y≠x:=fun e=>h1.1 (e ▸ hy);exact (List.mem_erase_of_ne hne).2 (h2 y (by simp [hy]))
  have hp:=List.length_pos_of_mem hx;rw [List.length_erase_of_mem hx] at ih;simp only [List.length_cons];omega
theorem bj {n k:Nat} {L:List Int} (hn:L.length < n) (hk:k < n):∃ t,t < n/\(((k+t) % n:Nat):Int) ∉ L:=by
 apply Classical.byContradiction;intro h;have h2:∀ t,t < n->(((k+t) % n:Nat):Int)∈L:=fun t ht=>Classical.byContradiction fun hh=>h ⟨t,ht,hh⟩;have h3:∀ x∈(List.range n).map (fun y:Nat=>(y:Int)),x∈L:=fun x hx=>by
  obtain ⟨y,hy,rfl⟩:=List.mem_map.1 hx;have hy:=List.mem_range.1 hy;have:=h2 ((y+n - k) % n) (Nat.mod_lt _ (by omega));have e:(k+(y+n - k) % n) % n=y:=by
   rw [Nat.add_mod_mod,show k+(y+n - k)=y+n by omega,Nat.add_mod_right,Nat.mod_eq_of_lt hy]
  rwa [e] at this
 have h4:=b9 _ L (List.Pairwise.map (fun y:Nat=>(y:Int)) (fun a b hab h=>hab (Int.ofNat.inj h)) List.nodup_range) h3;simp at h4;omega
end Mt
namespace Mt
open Go Go.RowKit Go.Maps
attribute [local go_sem] Oper.semAt_some
def bt (w:World) (n:Nat) (e:Ending) (w':World):Prop:=∃ (l:List Int) (a:Option Addr) (c:Nat),e=.returned (.slice a l.length c)/\IntsAt w' a l/\l.length<=c/\pathAl n l=0/\Below w.heap.size w w'
theorem cy {w:World} {base n c:Nat} {a:Option Addr} {t:TypeId} {xs:List Value} (h:w.ownsRow base t 1 (.slice a n c) n xs):n<=c:=by
 obtain ⟨_,⟨_,h2⟩ | ⟨g,cap,cur,e,_,_,h4,_⟩⟩:=h
 ·omega
 ·cases e;exact h4
def bu (n:Nat) (L:List Int):Prop:=L.Nodup/\(∀ x∈L,0<=x/\x < (n:Int))/\L.length<=6
theorem bu.snoc {n:Nat} {L:List Int} (h:bu n L) (h6:L.length < 6) {x:Nat} (hx:x < n) (hn:(x:Int) ∉ L):bu n (L ++ [(x:Int)]):=by
 obtain ⟨h1,h2,h3⟩:=h;refine ⟨List.nodup_append.2 ⟨h1,by simp,fun a ha b hb e=>?_⟩,fun y hy=>?_,by simp;omega⟩
 ·simp at hb;subst hb;exact hn (e ▸ ha)
 ·simp at hy;rcases hy with hy | rfl
  ·exact h2 y hy
  ·omega
def bv (y n x:Nat):Nat:=if x<=y then y - x else y+n - x
theorem cA {y n x:Nat} (hx:x < n) (hy:y < n) (h:x≠y):bv y n ((x+1) % n) < bv y n x:=by
 unfold bv;by_cases h1:x+1 < n
 ·rw [Nat.mod_eq_of_lt h1];split <;> split <;> omega
 ·rw [show x+1=n by omega,Nat.mod_self];split <;> split <;> omega
section
variable {b:Fbk} {vm vd vt:Value} {w:World} {pa:Option Addr} {pc:Nat} {ps:List Int}
theorem aL {w:World} {l:List Int} {a:Option Addr} (hL:ai w a l) (k:Nat):∃ q:Nat,q<=65535/\an l k=(q:Int):=by
 obtain ⟨h1,h2⟩:=bB hL k;exact ⟨(an l k).toNat,by omega,by omega⟩
theorem aM (hP:ai w pa ps) (k:Nat) {z:Int} (hz:z=(k:Int)) {W:World} (hW:Below w.heap.size w W) {q:Nat} (hq:an ps k=(q:Int)) :
 Calls Mz.prog 46 #[.slice pa ps.length pc,.int .i64 z] W fun e w'=>e=.returned (.int .i64 (q:Int))/\w'=W:=by
 subst hz;exact bF (hP.alike (Mt.Below.alike hW)) hq
theorem bk (hB:FBookAt w b vm vd vt) (hP:ai w pa ps) (hn1:1<=b.devs.length) (hn6:b.devs.length<=6) :
 Calls Mz.prog 34 #[.agg #[vm,vd,vt],.slice pa ps.length pc] w (bt w b.devs.length):=by
 obtain ⟨rfl,⟨da,dc,rfl,_,_⟩,ta,tc,rfl,_,_⟩:=hB;have HP:=Hh hP;have HCN:=Hh fun k=>aL hP k;obtain ⟨n,hn⟩:∃ n,b.devs.length=n:=⟨_,rfl⟩;rw [hn] at hn1 hn6 ⊢;clear hn;obtain ⟨q,hq1,hq2⟩:=aL hP 5;have H5:=Hh fun W (hW:Below w.heap.size w W)=>aM (pc:=pc) hP 5 (z:=5) rfl hW hq2;have hnz:¬ ((n:Int)=0):=by omega
 clear hP hq2
 go_enter (mz_func (i:=34) rfl Tryz.func34),Tryz.ntmps34
 go_wp2;obtain ⟨W0,hW0⟩:∃ W0,W0=w.alloc (.cells #[.int .i64 b.most,.slice da n dc,.slice ta b.tests.length tc] 25):=⟨_,rfl⟩;rw [<- hW0];have hb0:Below w.heap.size w W0:=by rw [hW0];(exact bel)
 have hs0:w.heap.size < W0.heap.size:=by rw [hW0];simp
 clear hW0;go_loopw [6,7] (fun v i wr=>∃ (a:Option Addr) (c:Nat) (L:List Int),i=.int .i64 (L.length:Int)/\v=.slice a L.length c/\wr.ownsRow W0.heap.size 3 1 (.slice a L.length c) L.length (L.map (Value.int .i64))/\Below W0.heap.size W0 wr/\Hid (bu n L)) (fun _ i _=>6 - (intOf i).toNat)
 case atStart=>exact ⟨none,0,[],rfl,rfl,by simpa using World.ownsRow_nil _ _ _ _,Below.refl _ _,⟨by simp,by simp,by simp⟩⟩
 case round =>
  obtain ⟨a,c,L,rfl,rfl,hrow,hW,HO⟩:=hrel;have hWs:=hW.size;obtain ⟨wo,rfl⟩:∃ x,x=wr:=⟨_,rfl⟩;have hL6:=HO.out.2.2;have HROW:=Hh hrow;have HBW:=Hh (Below.next hb0 hW);have HW:=Hh hW;clear hrow hW;have hqn:∃ m:Nat,m < n/\((q:Int) % (n:Int))=(m:Int):=⟨q % n,Nat.mod_lt _ (by omega),by omega⟩;obtain ⟨m,hmn,hm⟩:=hqn;have HM:=Hh hm;clear hm;have done:(0 < L.length)->bodyPost Mz.prog Tryz.f34 (bt w n) Exit.ret { tmps:=#[],defers:=[] } wo->True:=fun _ _=>trivial;clear done;by_cases hle:(L.length:Int)<=(q:Int) % (n:Int)
  ·have hLn:L.length < n:=by have:=HM.out;omega
   by_cases h6:(L.length:Int) < 6
   ·obtain ⟨q6,hq61,hq62⟩:=HCN.out (6+L.length);have H6:=Hh fun W (hW:Below w.heap.size w W)=>aM (pc:=pc) HP.out (6+L.length) (z:=6+(L.length:Int)) (by omega) hW hq62;clear hq62;obtain ⟨x0,hx0,hx0'⟩:∃ m:Nat,m < n/\((q6:Int) % (n:Int))=(m:Int):=⟨q6 % n,Nat.mod_lt _ (by omega),by omega⟩;have HX0:=Hh hx0';clear hx0';obtain ⟨y,hyn,hy⟩:∃ y:Nat,y < n/\(y:Int) ∉ L:=by
     obtain ⟨t,_,h⟩:=bj (n:=n) (k:=0) hLn (by omega);exact ⟨(0+t) % n,Nat.mod_lt _ (by omega),h⟩
    have HY:=Hh hy;clear hy;go_wp2_with (first
     | (go_at_call 46;(with_reducible refine (H5.out _ HBW.out).mono ?_);rintro e w1 ⟨rfl,hw1⟩;subst hw1)
     | (go_at_call 46;(with_reducible refine (H6.out _ HBW.out).mono ?_);rintro e w1 ⟨rfl,hw1⟩;subst hw1))
    go_loopw [8] (fun i wr=>∃ x:Nat,i=.int .i64 (x:Int)/\x < n/\wr=w1) (fun i _=>bv y n (intOf i).toNat)
    case atStart=>exact ⟨x0,by rw [HX0.out],hx0,rfl⟩
    case round =>
     obtain ⟨x,rfl,hx,hwr⟩:=hrel;subst hwr;have hxw:IntKind.i64.wrap ((x:Int)+1)=(x:Int)+1:=IntWalk.i64_in _ (by omega);by_cases hin:(x:Int)∈L
     ·have HD:=Hh (decide_eq_true hin);have hne:x≠y:=fun e=>HY.out (e ▸ hin);have hnx:(((x:Int)+1) % (n:Int))=(((x+1) % n:Nat):Int):=by rw [Int.natCast_emod];rfl
      have HNX:=Hh hnx;clear hin hnx;go_wp2_with (go_at_call 41;(with_reducible refine (hasNum_at (lc:=c) (ints_row HROW.out) rfl (by omega) HD.out).mono ?_);rintro e w2 ⟨rfl,hw2⟩;subst hw2);go_roundw
      case rel=>exact ⟨(x+1) % n,by rw [HNX.out],Nat.mod_lt _ (by omega),trivial⟩
      case measure =>
       simp only [intOf,HNX.out,Int.toNat_natCast];exact cA hx hyn hne
     ·have HD:=Hh (decide_eq_false hin);have HN:=Hh hin;clear hin;have hln:(L ++ [(x:Int)]).length=L.length+1:=by simp
      have HLN:=Hh hln;clear hln;go_wp2_with (first
       | (go_at_call 41;(with_reducible refine (hasNum_at (lc:=c) (ints_row HROW.out) rfl (by omega) HD.out).mono ?_);rintro e w2 ⟨rfl,hw2⟩;subst hw2)
       | (at_builtin;go_loud (refine wpl_append1 rfl _ _ 26 rfl W0.heap.size 3 (mzu Tryz.underlying26) mz_intInfo rfl (by omega) (.slice a L.length c) L.length _ rfl HROW.out (by omega) (by omega) _ (n:=w2.heap.size) rfl rfl (by simp [Value.oneCell']) ?_;intro g cap w6 hown6 hb6)))
      have HB6:=Hh hb6;have HR6:=Hh hown6;clear hb6 hown6;go_roundw
      case rel=>exact ⟨_,cap,L ++ [(x:Int)],by rw [HLN.out];rfl,by rw [HLN.out],by rw [HLN.out,List.map_append];exact HR6.out,Below.trans HW.out HB6.out,HO.out.snoc (by omega) hx HN.out⟩
      case measure=>simp [intOf];omega
   ·exfalso;omega
  ·have HL0:=Hh (show 1<=L.length by
    have:=HM.out
    omega)
   have hnz2:¬ n=0:=by omega
   have hle2:(q:Int) % (n:Int) < (L.length:Int):=by omega
   go_wp2_with (go_at_call 46;(with_reducible refine (H5.out _ HBW.out).mono ?_);rintro e w1 ⟨rfl,hw1⟩;subst hw1);exact bodyPost_ret (v:=.slice a L.length c) (by simp [results,Tryz.results34,go_sem, *]) rfl ⟨L,a,c,rfl,ints_row HROW.out,cy HROW.out,bG HL0.out hL6 HO.out.2.1 HO.out.1,HBW.out⟩
end
attribute [local go_sem] Oper.semAt_some
def ae (w w':World) (g:Option Addr) (n:Nat) (news:List Value):Prop:=0 < n->∃ r,g=some ⟨r,0,none⟩/\w.heap.size<=r/\r < w'.heap.size/\(∀ k,w'.frozen? ⟨r,k,none⟩=false)/\∀ j u,news[j]? = some u->w'.cell? ⟨r,j,none⟩=some u
theorem aY {w w':World} {e:TypeId} {k n c:Nat} {a:Option Addr} {news:List Value} (h:w'.ownsRow w.heap.size e k (.slice a n c) n news):ae w w' a n news:=fun hn=>by
 obtain ⟨_,⟨_,h2⟩ | ⟨g,cap,cur,e1,e2,e3,e4,e5,e6,e7⟩⟩:=h
 ·omega
 ·cases e1;refine ⟨g,rfl,e2,(Array.getElem?_eq_some_iff.1 e3).1,fun k=>by unfold World.frozen?;rw [e3];simp,fun j u hj=>?_⟩;rw [<- e7,List.getElem?_take] at hj;split at hj
  ·unfold World.cell?;rw [e3];simpa using hj
  ·cases hj
theorem bm {w w':World} {e:TypeId} {k n c:Nat} {a:Option Addr} {news:List Value} (h:w'.ownsRow w.heap.size e k (.slice a n c) n news):n<=c:=by
 obtain ⟨_,⟨e1,h2⟩ | ⟨g,cap,cur,e1,_,_,h1,_⟩⟩:=h
 ·omega
 ·cases e1;exact h1
theorem cC:(Mz.prog.info? 74).map (fun i=>(i.zero,i.size,i.bytes))=some (some (.agg #[.string ByteArray.empty,.bool false,.bool false,.int .i64 0]),4,32):=by kernel_rfl
theorem bI {w:World} {a:Option Addr} {n c:Nat} {news:List Value} (hl:news.length=n * 4) (hn:n<=20) (h0:a=none->n=0) (hs:∀ ad,a=some ad->∀ j u,news[j]? = some u->w.cell? (ad.add j)=some u) (hblk:∀ ad,a=some ad->0 < n->ad.block < w.heap.size) (h1:∀ u∈news,u.oneCell'=true) :
 Calls Mz.prog 156 #[.slice a n c] w fun e w'=>∃ g c',e=.returned (.slice g n c')/\n<=c'/\ae w w' g n news/\Below w.heap.size w w':=by
 cases a with
 | none =>
  obtain rfl:=h0 rfl;obtain rfl:news=[]:=List.eq_nil_of_length_eq_zero (hl.trans (Nat.zero_mul _));have hnil:=fun W=>Lib.run_eql_slice_nil (P:=Mz.prog) W 22 74 none 0 c 0 0 (mzu Tryz.underlying22);simp only [Option.isNone_none] at hnil;clear hs hl hblk h1
  go_enter (mz_func (i:=156) rfl Tryz.func156),Tryz.ntmps156
  go_wp2;exact bodyPost_ret (v:=.slice none 0 0) (by simp [results,Tryz.results156,go_sem, *]) rfl ⟨none,⟨0,rfl⟩,fun h=>absurd h (Nat.lt_irrefl _),Below.refl _ _⟩
 | some ad =>
  have hb0:=hblk ad rfl;have HS:=Hh (show ∀ W,Below w.heap.size w W->∀ j u,news[j]? = some u->W.cell? (ad.add j)=some u from fun W hb j u hj=>by
   have hp:0 < n:=by
    have:=(List.getElem?_eq_some_iff.1 hj).1
    rcases Nat.eq_zero_or_pos n with e | e
    ·subst e;omega
    ·exact e
   exact (hb.cell (p:=ad.add j) (by unfold Addr.add;split <;> exact hb0 hp)).trans (hs ad rfl j u hj))
  have H1:=Hh h1;have HL:=Hh hl;have hnil:=fun W=>Lib.run_eql_slice_nil (P:=Mz.prog) W 22 74 (some ad) n c 0 0 (mzu Tryz.underlying22);simp only [Option.isNone_some] at hnil;obtain ⟨i0,hi,hz0,hz1,hz2⟩:=info_parts cC;clear hs h1 hl hblk h0
  go_enter (mz_func (i:=156) rfl Tryz.func156),Tryz.ntmps156
  go_wp2_with (at_builtin;go_loud (refine wpList_append_own _ rfl _ _ 22 rfl w.heap.size 74 i0 _ 4 32 (mzu Tryz.underlying22) hi hz0 hz1 hz2 rfl (by decide) (.slice (some ⟨w.heap.size,0,none⟩) 0 0) 0 [] rfl (aB rfl (Nat.le_refl _)) ad n c news rfl HL.out (HS.out _ (Below.al (Below.refl _ _) _)) H1.out (by unfold maxLen;omega) (by omega) (by simp) ?_;intro v' w1 hown hgrow _;obtain ⟨a',c',rfl⟩:=ownsRow_slice hown));simp only [Nat.zero_add,List.nil_append] at hown;have hb:Below w.heap.size w w1:=KS.to_below ((KS.alloc (fun k=>k < w.heap.size) w _).trans (KS.grown (r:=w.heap.size) hgrow (by simp))) (Nat.le_refl _);exact bodyPost_ret (v:=.slice a' n c') (by simp [results,Tryz.results156,go_sem, *]) rfl ⟨a',c',rfl,bm hown,aY hown,hb⟩
theorem c7:(Mz.prog.info? 61).map (fun i=>(i.zero,i.size,i.bytes))=some (some (.agg #[.slice none 0 0,.int .i64 0]),2,32):=by kernel_rfl
theorem bJ {w:World} {a:Option Addr} {n c:Nat} {news:List Value} (hl:news.length=n * 2) (hn:n<=20) (h0:a=none->n=0) (hs:∀ ad,a=some ad->∀ j u,news[j]? = some u->w.cell? (ad.add j)=some u) (hblk:∀ ad,a=some ad->0 < n->ad.block < w.heap.size) (h1:∀ u∈news,u.oneCell'=true) :
 Calls Mz.prog 157 #[.slice a n c] w fun e w'=>∃ g c',e=.returned (.slice g n c')/\n<=c'/\ae w w' g n news/\Below w.heap.size w w':=by
 cases a with
 | none =>
  obtain rfl:=h0 rfl;obtain rfl:news=[]:=List.eq_nil_of_length_eq_zero (hl.trans (Nat.zero_mul _));have hnil:=fun W=>Lib.run_eql_slice_nil (P:=Mz.prog) W 23 61 none 0 c 0 0 (mzu Tryz.underlying23);simp only [Option.isNone_none] at hnil;clear hs hl hblk h1
  go_enter (mz_func (i:=157) rfl Tryz.func157),Tryz.ntmps157
  go_wp2;exact bodyPost_ret (v:=.slice none 0 0) (by simp [results,Tryz.results157,go_sem, *]) rfl ⟨none,⟨0,rfl⟩,fun h=>absurd h (Nat.lt_irrefl _),Below.refl _ _⟩
 | some ad =>
  have hb0:=hblk ad rfl;have HS:=Hh (show ∀ W,Below w.heap.size w W->∀ j u,news[j]? = some u->W.cell? (ad.add j)=some u from fun W hb j u hj=>by
   have hp:0 < n:=by
    have:=(List.getElem?_eq_some_iff.1 hj).1
    rcases Nat.eq_zero_or_pos n with e | e
    ·subst e;omega
    ·exact e
   exact (hb.cell (p:=ad.add j) (by unfold Addr.add;split <;> exact hb0 hp)).trans (hs ad rfl j u hj))
  have H1:=Hh h1;have HL:=Hh hl;have hnil:=fun W=>Lib.run_eql_slice_nil (P:=Mz.prog) W 23 61 (some ad) n c 0 0 (mzu Tryz.underlying23);simp only [Option.isNone_some] at hnil;obtain ⟨i0,hi,hz0,hz1,hz2⟩:=info_parts c7;clear hs h1 hl hblk h0
  go_enter (mz_func (i:=157) rfl Tryz.func157),Tryz.ntmps157
  go_wp2_with (at_builtin;go_loud (refine wpList_append_own _ rfl _ _ 23 rfl w.heap.size 61 i0 _ 2 32 (mzu Tryz.underlying23) hi hz0 hz1 hz2 rfl (by decide) (.slice (some ⟨w.heap.size,0,none⟩) 0 0) 0 [] rfl (aB rfl (Nat.le_refl _)) ad n c news rfl HL.out (HS.out _ (Below.al (Below.refl _ _) _)) H1.out (by unfold maxLen;omega) (by omega) (by simp) ?_;intro v' w1 hown hgrow _;obtain ⟨a',c',rfl⟩:=ownsRow_slice hown));simp only [Nat.zero_add,List.nil_append] at hown;have hb:Below w.heap.size w w1:=KS.to_below ((KS.alloc (fun k=>k < w.heap.size) w _).trans (KS.grown (r:=w.heap.size) hgrow (by simp))) (Nat.le_refl _);exact bodyPost_ret (v:=.slice a' n c') (by simp [results,Tryz.results157,go_sem, *]) rfl ⟨a',c',rfl,bm hown,aY hown,hb⟩
theorem bM {w:World} {a:Option Addr} {n c:Nat} {news:List Value} (hl:news.length=n * 1) (hn:n<=20) (h0:a=none->n=0) (hs:∀ ad,a=some ad->∀ j u,news[j]? = some u->w.cell? (ad.add j)=some u) (hblk:∀ ad,a=some ad->0 < n->ad.block < w.heap.size) (h1:∀ u∈news,u.oneCell'=true) :
 Calls Mz.prog 115 #[.slice a n c] w fun e w'=>∃ g c',e=.returned (.slice g n c')/\n<=c'/\ae w w' g n news/\Below w.heap.size w w':=by
 cases a with
 | none =>
  obtain rfl:=h0 rfl;obtain rfl:news=[]:=List.eq_nil_of_length_eq_zero (hl.trans (Nat.zero_mul _));have hnil:=fun W=>Lib.run_eql_slice_nil (P:=Mz.prog) W 26 3 none 0 c 0 0 (mzu Tryz.underlying26);simp only [Option.isNone_none] at hnil;clear hs hl hblk h1
  go_enter (mz_func (i:=115) rfl Tryz.func115),Tryz.ntmps115
  go_wp2;exact bodyPost_ret (v:=.slice none 0 0) (by simp [results,Tryz.results115,go_sem, *]) rfl ⟨none,⟨0,rfl⟩,fun h=>absurd h (Nat.lt_irrefl _),Below.refl _ _⟩
 | some ad =>
  have hb0:=hblk ad rfl;have HS:=Hh (show ∀ W,Below w.heap.size w W->∀ j u,news[j]? = some u->W.cell? (ad.add j)=some u from fun W hb j u hj=>by
   have hp:0 < n:=by
    have:=(List.getElem?_eq_some_iff.1 hj).1
    rcases Nat.eq_zero_or_pos n with e | e
    ·subst e;omega
    ·exact e
   exact (hb.cell (p:=ad.add j) (by unfold Addr.add;split <;> exact hb0 hp)).trans (hs ad rfl j u hj))
  have H1:=Hh h1;have HL:=Hh hl;have hnil:=fun W=>Lib.run_eql_slice_nil (P:=Mz.prog) W 26 3 (some ad) n c 0 0 (mzu Tryz.underlying26);simp only [Option.isNone_some] at hnil;obtain ⟨i0,hi,hz0,hz1,hz2⟩:=info_parts mz_intInfo;clear hs h1 hl hblk h0
  go_enter (mz_func (i:=115) rfl Tryz.func115),Tryz.ntmps115
  go_wp2_with (at_builtin;go_loud (refine wpList_append_own _ rfl _ _ 26 rfl w.heap.size 3 i0 _ 1 8 (mzu Tryz.underlying26) hi hz0 hz1 hz2 rfl (by decide) (.slice (some ⟨w.heap.size,0,none⟩) 0 0) 0 [] rfl (aB rfl (Nat.le_refl _)) ad n c news rfl HL.out (HS.out _ (Below.al (Below.refl _ _) _)) H1.out (by unfold maxLen;omega) (by omega) (by simp) ?_;intro v' w1 hown hgrow _;obtain ⟨a',c',rfl⟩:=ownsRow_slice hown));simp only [Nat.zero_add,List.nil_append] at hown;have hb:Below w.heap.size w w1:=KS.to_below ((KS.alloc (fun k=>k < w.heap.size) w _).trans (KS.grown (r:=w.heap.size) hgrow (by simp))) (Nat.le_refl _);exact bodyPost_ret (v:=.slice a' n c') (by simp [results,Tryz.results115,go_sem, *]) rfl ⟨a',c',rfl,bm hown,aY hown,hb⟩
end Mt
end Go.Proofs.YtgkajecjbflbbaaGreatDoor
