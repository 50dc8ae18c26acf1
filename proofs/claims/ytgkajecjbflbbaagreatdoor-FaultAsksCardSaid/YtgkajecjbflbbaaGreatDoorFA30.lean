/- FaultAsks -/
import Derived.Test.YtgkajecjbflbbaaGreatDoorFA29
import Derived.Deep.Slices
set_option maxHeartbeats 2000000
set_option maxRecDepth 100000
set_option linter.all false
namespace Go.Proofs.YtgkajecjbflbbaaGreatDoor
namespace Mt
open Go Go.RowKit
def madeI (b:Fbk) (i:Nat) (r:Bool):Fbk:={ b with tests:=b.tests.set i ⟨(b.tests[i]?).elim [] Tst.path,if r then 1 else 2⟩ }
theorem goR_set (s:Nat->Nat) (r:Bool):∀ (l:List Tst) (i:Nat) (h:i < l.length),l[i].seen=0->goR s (l.set i ⟨l[i].path,if r then 1 else 2⟩)=(goR s l && decide ((playI s l[i].path).1=r))
 | [],i,h,_=>absurd h (Nat.not_lt_zero _)
 | t::l,0,h,hs=>by
  have hs:t.seen=0:=hs;show goR s (⟨t.path,if r then 1 else 2⟩::l)=(goR s (t::l) && decide ((playI s t.path).1=r));unfold goR;rw [if_pos hs];cases r <;> cases hp:(playI s t.path).1 <;> simp
 | t::l,i+1,h,hs=>by
  have hi:i < l.length:=by simpa using h
  have ih:=goR_set s r l i hi hs;show goR s (t::l.set i ⟨(l[i]'hi).path,if r then 1 else 2⟩)=(goR s (t::l) && decide ((playI s (l[i]'hi).path).1=r));unfold goR;rw [ih];split
  ·rfl
  ·split <;> simp
theorem hists_made {b:Fbk} {i:Nat} (h:i < b.tests.length) (hs:b.tests[i].seen=0) (r:Bool):histsI (madeI b i r)=(histsI b).filter fun s=>decide ((playI s b.tests[i].path).1=r):=by
 unfold histsI madeI;simp only [List.getElem?_eq_getElem h,Option.elim];rw [List.filter_filter];congr 1;funext s;rw [goR_set s r b.tests i h hs,Bool.and_comm]
theorem filt_two {α:Type} (p:α->Bool):∀ l:List α,(l.filter fun x=>decide (p x=false)).length+l.countP p=l.length
 | []=>rfl
 | x::l=>by
  have ih:=filt_two p l;cases hp:p x
  ·rw [List.filter_cons_of_pos (by simp [hp]),List.countP_cons_of_neg (by simp [hp])];simp only [List.length_cons];omega
  ·rw [List.filter_cons_of_neg (by simp [hp]),List.countP_cons_of_pos (by simp [hp])];simp only [List.length_cons];omega
theorem made_left {b:Fbk} {i:Nat} (h:i < b.tests.length) (hs:b.tests[i].seen=0):max ((histsI (madeI b i false)).length:Int) ((histsI (madeI b i true)).length:Int)=leftI b i:=by
 rw [hists_made h hs,hists_made h hs];unfold leftI passN;have hp:pathOf b i=b.tests[i].path:=by unfold pathOf;simp [h]
 rw [hp];have e1:((histsI b).filter fun s=>decide ((playI s b.tests[i].path).1=true)).length=(histsI b).countP fun s=>(playI s b.tests[i].path).1:=by
  rw [List.countP_eq_length_filter];simp
 have e2:=filt_two (fun s=>(playI s b.tests[i].path).1) (histsI b);rw [e1];omega
theorem goT_iff (n:Nat):∀ (l:List Tst),(∀ t∈l,pathAl n t.path=0/\0<=t.seen/\t.seen<=2)->goT n l=0
 | [],_=>rfl
 | t::l,h=>by
  have h1:=h t (by simp);have ih:=goT_iff n l fun x hx=>h x (by simp [hx]);unfold goT;rw [if_neg (by simp [h1.1]),if_neg (by omega),if_neg (by omega),ih]
theorem fold_best {f:Int->Int}:∀ (l:List Int) (acc:Bst),acc.f=true->l.Pairwise (· < ·) ->
 (l.foldl (fun out t=>betterI out ⟨t,f t,true⟩) acc=acc/\∀ t∈l,acc.c<=f t) \/
   ∃ t0∈l,l.foldl (fun out t=>betterI out ⟨t,f t,true⟩) acc=⟨t0,f t0,true⟩/\f t0 < acc.c/\∀ t∈l,f t0<=f t/\(f t=f t0->t0<=t)
 | [],acc,_,_=>.inl ⟨rfl,fun t h=>by cases h⟩
 | x::l,acc,ha,hp=>by
  rw [List.pairwise_cons] at hp;rw [List.foldl_cons];have hb:betterI acc ⟨x,f x,true⟩=if f x < acc.c then ⟨x,f x,true⟩ else acc:=by
   unfold betterI;simp [ha]
  rw [hb];by_cases hx:f x < acc.c
  ·rw [if_pos hx];rcases fold_best l ⟨x,f x,true⟩ rfl hp.2 with ⟨h1,h2⟩ | ⟨t0,h0,h1,h2,h3⟩
   ·refine .inr ⟨x,by simp,h1,hx,fun t ht=>?_⟩;rcases List.mem_cons.1 ht with rfl | ht
    ·exact ⟨Int.le_refl _,fun _=>Int.le_refl _⟩
    ·exact ⟨h2 t ht,fun _=>Int.le_of_lt (hp.1 t ht)⟩
   ·have h2:f t0 < f x:=h2;refine .inr ⟨t0,by simp [h0],h1,by omega,fun t ht=>?_⟩;rcases List.mem_cons.1 ht with rfl | ht
    ·exact ⟨by omega,fun e=>by omega⟩
    ·exact h3 t ht
  ·rw [if_neg hx];rcases fold_best l acc ha hp.2 with ⟨h1,h2⟩ | ⟨t0,h0,h1,h2,h3⟩
   ·refine .inl ⟨h1,fun t ht=>?_⟩;rcases List.mem_cons.1 ht with rfl | ht
    ·omega
    ·exact h2 t ht
   ·refine .inr ⟨t0,by simp [h0],h1,h2,fun t ht=>?_⟩;rcases List.mem_cons.1 ht with rfl | ht
    ·exact ⟨by omega,fun e=>by omega⟩
    ·exact h3 t ht
theorem unmade_asc (l:List Tst):(unmadeI l).Pairwise (· < ·):=by
 unfold unmadeI unmadeTo;exact List.pairwise_map.2 ((List.pairwise_lt_range.filter _).imp fun h=>Int.ofNat_lt.2 h)
theorem mem_unmade {l:List Tst} {x:Int}:x∈unmadeI l↔∃ i,∃ h:i < l.length,x=(i:Int)/\l[i].seen=0:=by
 unfold unmadeI unmadeTo;simp only [List.mem_map,List.mem_filter,List.mem_range,decide_eq_true_eq];constructor
 ·rintro ⟨i,⟨h1,h2⟩,rfl⟩;rw [List.getElem?_eq_getElem h1] at h2;exact ⟨i,h1,rfl,h2⟩
 ·rintro ⟨i,h1,rfl,h2⟩;exact ⟨i,⟨h1,by rw [List.getElem?_eq_getElem h1];exact h2⟩,rfl⟩
theorem ask_law (b:Fbk):((askI b).v=-1/\(askI b).c=((histsI b).length:Int)/\∀ i (h:i < b.tests.length),b.tests[i].seen=0->((histsI b).length:Int)<=leftI b i) \/
 ∃ k,∃ h:k < b.tests.length,(askI b).v=(k:Int)/\b.tests[k].seen=0/\(askI b).c=leftI b k/\leftI b k < ((histsI b).length:Int)/\∀ i (h:i < b.tests.length),b.tests[i].seen=0->leftI b k<=leftI b i/\(leftI b i=leftI b k->k<=i):=by
 have h:=fold_best (f:=fun t=>leftI b t.toNat) (unmadeI b.tests) ⟨-1,((histsI b).length:Int),true⟩ rfl (unmade_asc _);have e:(unmadeI b.tests).foldl (fun out t=>betterI out ⟨t,leftI b t.toNat,true⟩) ⟨-1,((histsI b).length:Int),true⟩=askI b:=rfl;simp only [e] at h;rcases h with ⟨h1,h2⟩ | ⟨t0,h0,h1,h2,h3⟩
 ·left;rw [h1];exact ⟨rfl,rfl,fun i hi hs=>by have:=h2 (i:Int) (mem_unmade.2 ⟨i,hi,rfl,hs⟩);simpa using this⟩
 ·right;obtain ⟨k,hk,rfl,hs⟩:=mem_unmade.1 h0;simp only [Int.toNat_natCast] at h1 h2 h3;rw [h1];refine ⟨k,hk,rfl,hs,rfl,h2,fun i hi hs=>?_⟩;have:=h3 (i:Int) (mem_unmade.2 ⟨i,hi,rfl,hs⟩);simp only [Int.toNat_natCast] at this;exact ⟨this.1,fun e=>by have:=this.2 e;omega⟩
end Mt
namespace Mt
open Go Go.RowKit Go.Maps
attribute [local go_sem] Oper.semAt_some
theorem tstInfo:(Mz.prog.info? 61).map (fun i=>(i.zero,i.size,i.bytes))=some (some (.agg #[.slice none 0 0,.int .i64 0]),2,32):=by kernel_rfl
def cellsT (M:Nat->Option Addr × Nat):List Tst->Nat->List Value
 | [],_=>[]
 | t::l,k=>.slice (M k).1 t.path.length (M k).2::.int .i64 t.seen::cellsT M l (k+1)
theorem cellsT_len (M:Nat->Option Addr × Nat):∀ (l:List Tst) (k:Nat),(cellsT M l k).length=l.length * 2
 | [],_=>rfl
 | t::l,k=>by simp [cellsT,cellsT_len M l (k+1)];omega
theorem cellsT_get (M:Nat->Option Addr × Nat):∀ (l:List Tst) (k i:Nat) (h:i < l.length),(cellsT M l k)[i * 2]? = some (.slice (M (k+i)).1 l[i].path.length (M (k+i)).2)/\(cellsT M l k)[i * 2+1]? = some (.int .i64 l[i].seen)
 | t::l,k,0,_=>⟨rfl,rfl⟩
 | t::l,k,i+1,h=>by
  have:=cellsT_get M l (k+1) i (by simpa using h);rw [show (i+1) * 2=i * 2+1+1 by omega,show k+(i+1)=k+1+i by omega];exact this
theorem cellsT_one (M:Nat->Option Addr × Nat):∀ (l:List Tst) (k:Nat),∀ u∈cellsT M l k,u.oneCell'=true
 | [],_,u,h=>by cases h
 | t::l,k,u,h=>by
  simp only [cellsT,List.mem_cons] at h;rcases h with rfl | rfl | h
  ·rfl
  ·rfl
  ·exact cellsT_one M l (k+1) u h
theorem own_lit2 {w:World} {base:Nat} {e:TypeId} {n size:Nat} (hn:n=w.heap.size) (hb:base<=n):(w.alloc (.cells #[] e)).ownsRow base e size (.slice (some ⟨n,0,none⟩) 0 0) 0 []:=by
 subst hn;refine ⟨by simp,.inr ⟨_,0,#[],rfl,hb,?_,Nat.le_refl _,Nat.zero_le _,by simp,by simp⟩⟩;show (w.heap.push _)[w.heap.size]? = _;simp
def Boxes (W:World) (B C:Nat) (x y z:Value):Prop :=
 W.cell? ⟨B,0,none⟩=some x/\W.cell? ⟨B,1,none⟩=some y/\W.cell? ⟨B,2,none⟩=some z/\W.cell? ⟨C,0,none⟩=some (.int .i64 0)/\W.cell? ⟨C,1,none⟩=some (.slice none 0 0)/\W.cell? ⟨C,2,none⟩=some (.slice none 0 0)/\(∀ k,W.frozen? ⟨B,k,none⟩=false)/\∀ k,W.frozen? ⟨C,k,none⟩=false
theorem Boxes.set {W:World} {B C:Nat} {x y z:Value} (h:Boxes W B C x y z) {g:Nat} (h1:g≠B) (h2:g≠C) (o:Nat) (n:Value):Boxes (W.setCell ⟨g,o,none⟩ n) B C x y z:=by
 obtain ⟨a1,a2,a3,a4,a5,a6,a7,a8⟩:=h;refine ⟨?_,?_,?_,?_,?_,?_,fun k=>?_,fun k=>?_⟩
 all_goals first | rw [World.frozen?_setCell] | rw [World.cell?_setCell_other (h:=fun e=>by injection e with e;exact absurd e (by assumption))]
 all_goals first | assumption | exact a7 k | exact a8 k
theorem Boxes.fst {W:World} {B C:Nat} {x y z:Value} (h:Boxes W B C x y z) (h1:B≠C) (n:Value):Boxes (W.setCell ⟨B,2,none⟩ n) B C x y n:=by
 obtain ⟨a1,a2,a3,a4,a5,a6,a7,a8⟩:=h;refine ⟨?_,?_,World.cell?_setCell_same' _ _ _ (by rw [a3];rfl),?_,?_,?_,fun k=>?_,fun k=>?_⟩
 all_goals first | rw [World.frozen?_setCell] | rw [World.cell?_setCell_other (h:=fun e=>by injection e with e e';first | exact absurd e h1 | exact absurd e' (by decide))]
 all_goals first | assumption | exact a7 k | exact a8 k
section
variable {b:Fbk} {vm vd vt:Value} {w:World} {tb to:Nat}
theorem made_done {X:World} {g cap i:Nat} {r:Bool} {M:Nat->Option Addr × Nat} {da:Option Addr} {dc:Nat} (hB:FBookAt w b (.int .i64 b.most) (.slice da b.devs.length dc) vt) (hb:Below w.heap.size w X) (hg:g < X.heap.size) (hi:i < b.tests.length)
 (hM:∀ k,k < b.tests.length->∀ h:k < b.tests.length,w.cell? ⟨tb,to+k * 2,none⟩=some (.slice (M k).1 b.tests[k].path.length (M k).2)/\b.tests[k].path.length<=(M k).2/\b.tests[k].path.length<=1000000/\IntsAt w (M k).1 b.tests[k].path/\w.cell? ⟨tb,to+k * 2+1,none⟩=some (.int .i64 b.tests[k].seen))
 (h0:∀ q (h:q < b.tests.length),X.cell? ⟨g,q * 2,none⟩=some (.slice (M q).1 b.tests[q].path.length (M q).2)) (h1:∀ q (h:q < b.tests.length),q≠i->X.cell? ⟨g,q * 2+1,none⟩=some (.int .i64 b.tests[q].seen)) (h2:X.cell? ⟨g,i * 2+1,none⟩=some (.int .i64 (if r then 1 else 2))) :
 FBookAt X (madeI b i r) (.int .i64 b.most) (.slice da b.devs.length dc) (.slice (some ⟨g,0,none⟩) b.tests.length cap):=by
 obtain ⟨_,⟨da',dc',e,hD,hdl⟩,ta,tc,rfl,hT,htl⟩:=hB.below hb;cases e;refine ⟨rfl,⟨da,dc,rfl,hD,hdl⟩,some ⟨g,0,none⟩,cap,by simp [madeI],fun q hq=>?_,by simpa [madeI] using htl⟩;have hq':q < b.tests.length:=by simpa [madeI] using hq
 obtain ⟨_,a2,a3,a4,_⟩:=hM q hq' hq';refine ⟨g,0,rfl,hg,(M q).1,(M q).2,?_⟩;by_cases e:q=i
 ·subst e;simp only [madeI,List.getElem_set_self,List.getElem?_eq_getElem hq',Option.elim,Nat.zero_add];exact ⟨h0 q hq',a2,a3,a4.below hb,h2⟩
 ·simp only [madeI,List.getElem_set_ne (Ne.symm e),Nat.zero_add];exact ⟨h0 q hq',a2,a3,a4.below hb,h1 q hq' e⟩
theorem made_at (hB:FBookAt w b vm vd vt) {i:Nat} (hi:i < b.tests.length) (h20:b.tests.length<=20) (r:Bool) :
 Calls Mz.prog 62 #[.agg #[vm,vd,vt],.int .i64 (i:Int),.bool r] w fun e w'=>∃ x:Value,e=.returned (.agg #[vm,vd,x])/\FBookAt w' (madeI b i r) vm vd x/\Below w.heap.size w w':=by
 have HB:=Hh hB;obtain ⟨rfl,⟨da,dc,rfl,hD,hdl⟩,ta,tc,rfl,hT,htl⟩:=hB;obtain ⟨tb,to,rfl,htb,_⟩:=hT i hi;obtain ⟨M,hM⟩:=Deep.choose_lt (α:=Option Addr × Nat) (n:=b.tests.length) (p:=fun k m=>∀ h:k < b.tests.length,w.cell? ⟨tb,to+k * 2,none⟩=some (.slice m.1 b.tests[k].path.length m.2)/\b.tests[k].path.length<=m.2/\b.tests[k].path.length<=1000000/\IntsAt w m.1 b.tests[k].path/\w.cell? ⟨tb,to+k * 2+1,none⟩=some (.int .i64 b.tests[k].seen)) (fun k hk=>by
  obtain ⟨b',o',e,_,pa,pc,h1,h2,h3,h4,h5⟩:=hT k hk
  cases e
  exact ⟨(pa,pc),fun _=>⟨h1,h2,h3,h4,h5⟩⟩)
 have HM:=Hh hM;have hsrc:∀ j u,(cellsT M b.tests 0)[j]? = some u->w.cell? ⟨tb,to+j,none⟩=some u:=fun j u h=>by
  have hj:j < b.tests.length * 2:=by
   have:=(List.getElem?_eq_some_iff.1 h).1
   rwa [cellsT_len] at this
  obtain ⟨q,hq⟩:∃ q,j=q * 2\/j=q * 2+1:=⟨j / 2,by omega⟩;have hql:q < b.tests.length:=by omega
  obtain ⟨h1,_,_,_,h5⟩:=hM q hql hql;have hg:=cellsT_get M b.tests 0 q hql;rw [Nat.zero_add] at hg;rcases hq with rfl | rfl
  ·rw [hg.1] at h;cases h;exact h1
  ·rw [hg.2] at h;cases h;exact h5
 have HS:=Hh hsrc;obtain ⟨i0,hi0,hz0,hz1,hz2⟩:=info_parts tstInfo;have hlt20:=h20;have hiI:(i:Int) < (b.tests.length:Int):=by omega
 clear hsrc hM hT hD;have HRES:=Hh (show ∀ (W4 w5:World) (v':Value),(Below w.heap.size w W4/\W4.heap.size=w.heap.size+4/\W4.ownsRow (w.heap.size+3) 61 2 (.slice (some ⟨w.heap.size+1+1+1,0,none⟩) 0 0) 0 []/\Boxes W4 (w.heap.size+1+1) (w.heap.size+1) (.int .i64 b.most) (.slice da b.devs.length dc) (.slice (some ⟨tb,to,none⟩) b.tests.length tc))->w5.ownsRow (w.heap.size+3) 61 2 v' (0+b.tests.length) ([] ++ cellsT M b.tests 0)->KS (fun k=>k < w.heap.size+3) W4 w5 ->
  ∃ g cap,v'=(.slice (some ⟨g,0,none⟩) b.tests.length cap)/\(w.heap.size+3<=g/\g < w5.heap.size/\(∀ q (h:q < b.tests.length),w5.cell? ⟨g,q * 2,none⟩=some (.slice (M q).1 b.tests[q].path.length (M q).2)/\w5.cell? ⟨g,q * 2+1,none⟩=some (.int .i64 b.tests[q].seen))/\Below w.heap.size w w5) /\
   (w5.cell? ⟨w.heap.size+1+1,2,none⟩=some (.slice (some ⟨tb,to,none⟩) b.tests.length tc)/\w5.frozen? ⟨w.heap.size+1+1,2,none⟩=false/\(w5.setCell ⟨w.heap.size+1+1,2,none⟩ (.slice (some ⟨g,0,none⟩) b.tests.length cap)).cell? ⟨g,i * 2+1,none⟩=some (.int .i64 b.tests[i].seen)/\w5.frozen? ⟨g,i * 2+1,none⟩=false/\((w5.setCell ⟨w.heap.size+1+1,2,none⟩ (.slice (some ⟨g,0,none⟩) b.tests.length cap)).setCell ⟨g,i * 2+1,none⟩ (.int .i64 2)).cell? ⟨g,i * 2+1,none⟩=some (.int .i64 2)) /\
   Boxes ((w5.setCell ⟨w.heap.size+1+1,2,none⟩ (.slice (some ⟨g,0,none⟩) b.tests.length cap)).setCell ⟨g,i * 2+1,none⟩ (.int .i64 2)) (w.heap.size+1+1) (w.heap.size+1) (.int .i64 b.most) (.slice da b.devs.length dc) (.slice (some ⟨g,0,none⟩) b.tests.length cap)/\Boxes (((w5.setCell ⟨w.heap.size+1+1,2,none⟩ (.slice (some ⟨g,0,none⟩) b.tests.length cap)).setCell ⟨g,i * 2+1,none⟩ (.int .i64 2)).setCell ⟨g,i * 2+1,none⟩ (.int .i64 1)) (w.heap.size+1+1) (w.heap.size+1) (.int .i64 b.most) (.slice da b.devs.length dc) (.slice (some ⟨g,0,none⟩) b.tests.length cap) from fun W4 w5 v' ⟨hb,hs,_,hx⟩ hown hks=>by
  rw [Nat.zero_add,List.nil_append] at hown
  obtain ⟨h1,⟨_,h2⟩ | ⟨g,cap,cur,rfl,e2,e3,e4,e5,e6,e7⟩⟩:=hown
  ·omega
  ·have hglt:=(Array.getElem?_eq_some_iff.1 e3).1
   have hcell:∀ j u,(cellsT M b.tests 0)[j]? = some u->w5.cell? ⟨g,j,none⟩=some u:=fun j u hj=>by
    rw [<- e7,List.getElem?_take] at hj
    split at hj
    ·unfold World.cell?;rw [e3];simpa using hj
    ·cases hj
   have hgc:∀ q (h:q < b.tests.length),w5.cell? ⟨g,q * 2,none⟩=some (.slice (M q).1 b.tests[q].path.length (M q).2)/\w5.cell? ⟨g,q * 2+1,none⟩=some (.int .i64 b.tests[q].seen):=fun q hq=>by
    have hg:=cellsT_get M b.tests 0 q hq
    rw [Nat.zero_add] at hg
    exact ⟨hcell _ _ hg.1,hcell _ _ hg.2⟩
   have hx5:Boxes w5 (w.heap.size+1+1) (w.heap.size+1) (.int .i64 b.most) (.slice da b.devs.length dc) (.slice (some ⟨tb,to,none⟩) b.tests.length tc):=by
    obtain ⟨a1,a2,a3,a4,a5,a6,a7,a8⟩:=hx
    refine ⟨?_,?_,?_,?_,?_,?_,fun k=>?_,fun k=>?_⟩
    all_goals first | rw [hks.cell (by simp;omega) (by simp)] | rw [hks.cell (by simp;omega) (by simp;omega)] | rw [hks.frozen (by simp;omega) (by simp)] | rw [hks.frozen (by simp;omega) (by simp;omega)]
    all_goals first | assumption | exact a7 k | exact a8 k
   have y21:(w5.setCell ⟨w.heap.size+1+1,2,none⟩ (.slice (some ⟨g,0,none⟩) b.tests.length cap)).cell? ⟨g,i * 2+1,none⟩=some (.int .i64 b.tests[i].seen):=by rw [World.cell?_setCell_other (h:=fun e=>by injection e with e;omega)];exact (hgc i hi).2
   exact ⟨g,cap,rfl,⟨e2,hglt,hgc,⟨hks.os.trans hb.os,hks.tape.trans hb.tape,hks.output.trans hb.output,Nat.le_trans hb.size hks.size,fun k hk=>(hks.block k (by omega) (by show k < w.heap.size+3;omega)).trans (hb.block k hk)⟩⟩,
    ⟨hx5.2.2.1,hx5.2.2.2.2.2.2.1 2,y21,by unfold World.frozen?;rw [e3];simp,World.cell?_setCell_same' _ _ _ (by rw [y21];rfl)⟩,(hx5.fst (by omega) _).set (by omega) (by omega) _ _,((hx5.fst (by omega) _).set (by omega) (by omega) _ _).set (by omega) (by omega) _ _⟩)
 obtain ⟨W4,hW4⟩:∃ W4,W4=(((w.alloc (.cells #[.int .i64 b.most,.slice da b.devs.length dc,.slice (some ⟨tb,to,none⟩) b.tests.length tc] 25)).alloc (.cells #[.int .i64 0,.slice none 0 0,.slice none 0 0] 25)).alloc (.cells #[.int .i64 b.most,.slice da b.devs.length dc,.slice (some ⟨tb,to,none⟩) b.tests.length tc] 25)).alloc (.cells #[] 61):=⟨_,rfl⟩;have hb4:Below w.heap.size w W4:=by rw [hW4];(exact bel)
 have hs4:W4.heap.size=w.heap.size+4:=by rw [hW4];simp
 have row4:W4.ownsRow (w.heap.size+3) 61 2 (.slice (some ⟨w.heap.size+1+1+1,0,none⟩) 0 0) 0 []:=by rw [hW4];exact own_lit2 (by simp) (by omega)
 have x2:∀ k u,(#[.int .i64 b.most,.slice da b.devs.length dc,.slice (some ⟨tb,to,none⟩) b.tests.length tc]:Array Value)[k]? = some u->W4.cell? ⟨w.heap.size+1+1,k,none⟩=some u:=fun k u hk=>by
  rw [hW4,World.cell?_alloc_past _ _ _ (by simp),World.cell?_alloc_at _ _ _ _ (by simp)];exact hk
 have x1:∀ k u,(#[.int .i64 0,.slice none 0 0,.slice none 0 0]:Array Value)[k]? = some u->W4.cell? ⟨w.heap.size+1,k,none⟩=some u:=fun k u hk=>by
  rw [hW4,World.cell?_alloc_past _ _ _ (by simp),World.cell?_alloc_past _ _ _ (by simp),World.cell?_alloc_at _ _ _ _ (by simp)];exact hk
 have f2:∀ k,W4.frozen? ⟨w.heap.size+1+1,k,none⟩=false:=fun k=>by
  rw [hW4,World.frozen?_alloc_past _ _ _ (by simp),World.frozen?_alloc_at _ _ _ _ (by simp)]
 have f1:∀ k,W4.frozen? ⟨w.heap.size+1,k,none⟩=false:=fun k=>by
  rw [hW4,World.frozen?_alloc_past _ _ _ (by simp),World.frozen?_alloc_past _ _ _ (by simp),World.frozen?_alloc_at _ _ _ _ (by simp)]
 have HF:=Hh (⟨hb4,hs4,row4,x2 0 _ rfl,x2 1 _ rfl,x2 2 _ rfl,x1 0 _ rfl,x1 1 _ rfl,x1 2 _ rfl,f2,f1⟩:(Below w.heap.size w W4/\W4.heap.size=w.heap.size+4/\W4.ownsRow (w.heap.size+3) 61 2 (.slice (some ⟨w.heap.size+1+1+1,0,none⟩) 0 0) 0 []/\Boxes W4 (w.heap.size+1+1) (w.heap.size+1) (.int .i64 b.most) (.slice da b.devs.length dc) (.slice (some ⟨tb,to,none⟩) b.tests.length tc)));clear hb4 hs4 row4 x2 x1 f2 f1;have HSS:=Hh (show ∀ j u,(cellsT M b.tests 0)[j]? = some u->W4.cell? (Addr.add ⟨tb,to,none⟩ j)=some u from fun j u h=>by
  rw [add_off]
  exact (HF.out.1.cell (p:=⟨tb,to+j,none⟩) htb).trans (HS.out j u h))
 rw [hW4] at HF HSS;clear hW4
 go_enter (mz_func (i:=62) rfl Tryz.func62),Tryz.ntmps62
 go_wp2_with (at_builtin;go_loud (refine wpList_append_own _ rfl _ _ 23 rfl (w.heap.size+3) 61 i0 (.agg #[.slice none 0 0,.int .i64 0]) 2 32 (mzu Tryz.underlying23) hi0 hz0 hz1 hz2 rfl (by decide) (.slice (some ⟨w.heap.size+1+1+1,0,none⟩) 0 0) 0 [] rfl HF.out.2.2.1 ⟨tb,to,none⟩ b.tests.length tc (cellsT M b.tests 0) rfl (cellsT_len M b.tests 0) HSS.out (cellsT_one M b.tests 0) (by unfold maxLen;omega) (by omega) (by simp) ?_;intro v' w5 hown' hgrow _;obtain ⟨g,cap,rfl,hw5,⟨y20,e20,y21,e21,y22⟩,hy7,hy8⟩:=HRES.out _ w5 v' HF.out hown' (grow_ks HF.out.2.2.1 hgrow);obtain ⟨p0,p1,p2,p3,p4,p5,p6,p7⟩:=hy7;have f0:=p7 0;have f1:=p7 1;have f2:=p7 2;clear p6 p7;obtain ⟨r0,r1,r2,r3,r4,r5,r6,r7⟩:=hy8;have k0:=r7 0;have k1:=r7 1;have k2:=r7 2;have HW:=Hh hw5;clear HF HSS HRES HS hgrow hown' hw5 r6 r7))
 ·refine bodyPost_ret (v:=.agg #[.int .i64 b.most,.slice da b.devs.length dc,.slice (some ⟨g,0,none⟩) b.tests.length cap]) (by simp [results,Tryz.results62,go_sem, *]) rfl ?_;clear p0 p1 p2 p3 p4 p5 f0 f1 f2 r0 r1 r2 r3 r4 r5 k0 k1 k2 y20 e20 e21;obtain rfl:r=true:=by assumption
  obtain ⟨hg1,hg2,hg3,hg4⟩:=HW.out;refine ⟨_,rfl,made_done (tb:=tb) (to:=to) (M:=M) HB.out (Below.setCell (p:=⟨w.heap.size+1,2,none⟩) (Below.setCell (p:=⟨w.heap.size+1,1,none⟩) (Below.setCell (p:=⟨w.heap.size+1,0,none⟩) (Below.setCell (p:=⟨g,i * 2+1,none⟩) (Below.setCell (p:=⟨g,i * 2+1,none⟩) (Below.setCell (p:=⟨w.heap.size+1+1,2,none⟩) hg4 (by simp;omega) (.slice (some ⟨g,0,none⟩) b.tests.length cap)) (by simp;omega) (.int .i64 2)) (by simp;omega) (.int .i64 1)) (by simp) (.int .i64 b.most)) (by simp) (.slice da b.devs.length dc)) (by simp) (.slice (some ⟨g,0,none⟩) b.tests.length cap)) (by simp [World.setCell];omega) hi HM.out (fun q hq=>?_) (fun q hq hne=>?_) ?_,Below.setCell (p:=⟨w.heap.size+1,2,none⟩) (Below.setCell (p:=⟨w.heap.size+1,1,none⟩) (Below.setCell (p:=⟨w.heap.size+1,0,none⟩) (Below.setCell (p:=⟨g,i * 2+1,none⟩) (Below.setCell (p:=⟨g,i * 2+1,none⟩) (Below.setCell (p:=⟨w.heap.size+1+1,2,none⟩) hg4 (by simp;omega) (.slice (some ⟨g,0,none⟩) b.tests.length cap)) (by simp;omega) (.int .i64 2)) (by simp;omega) (.int .i64 1)) (by simp) (.int .i64 b.most)) (by simp) (.slice da b.devs.length dc)) (by simp) (.slice (some ⟨g,0,none⟩) b.tests.length cap)⟩
  ·iterate 6 rw [World.cell?_setCell_other (h:=fun e=>by injection e with e e';omega)]
   exact (hg3 q hq).1
  ·iterate 6 rw [World.cell?_setCell_other (h:=fun e=>by injection e with e e';omega)]
   exact (hg3 q hq).2
  ·iterate 3 rw [World.cell?_setCell_other (h:=fun e=>by injection e with e e';omega)]
   exact World.cell?_setCell_same' _ _ _ (by rw [y22];rfl)
 ·refine bodyPost_ret (v:=.agg #[.int .i64 b.most,.slice da b.devs.length dc,.slice (some ⟨g,0,none⟩) b.tests.length cap]) (by simp [results,Tryz.results62,go_sem, *]) rfl ?_;clear p0 p1 p2 p3 p4 p5 f0 f1 f2 r0 r1 r2 r3 r4 r5 k0 k1 k2 y20 e20 e21;obtain rfl:r=false:=by assumption
  obtain ⟨hg1,hg2,hg3,hg4⟩:=HW.out;refine ⟨_,rfl,made_done (tb:=tb) (to:=to) (M:=M) HB.out (Below.setCell (p:=⟨w.heap.size+1,2,none⟩) (Below.setCell (p:=⟨w.heap.size+1,1,none⟩) (Below.setCell (p:=⟨w.heap.size+1,0,none⟩) (Below.setCell (p:=⟨g,i * 2+1,none⟩) (Below.setCell (p:=⟨w.heap.size+1+1,2,none⟩) hg4 (by simp;omega) (.slice (some ⟨g,0,none⟩) b.tests.length cap)) (by simp;omega) (.int .i64 2)) (by simp) (.int .i64 b.most)) (by simp) (.slice da b.devs.length dc)) (by simp) (.slice (some ⟨g,0,none⟩) b.tests.length cap)) (by simp [World.setCell];omega) hi HM.out (fun q hq=>?_) (fun q hq hne=>?_) ?_,Below.setCell (p:=⟨w.heap.size+1,2,none⟩) (Below.setCell (p:=⟨w.heap.size+1,1,none⟩) (Below.setCell (p:=⟨w.heap.size+1,0,none⟩) (Below.setCell (p:=⟨g,i * 2+1,none⟩) (Below.setCell (p:=⟨w.heap.size+1+1,2,none⟩) hg4 (by simp;omega) (.slice (some ⟨g,0,none⟩) b.tests.length cap)) (by simp;omega) (.int .i64 2)) (by simp) (.int .i64 b.most)) (by simp) (.slice da b.devs.length dc)) (by simp) (.slice (some ⟨g,0,none⟩) b.tests.length cap)⟩
  ·iterate 5 rw [World.cell?_setCell_other (h:=fun e=>by injection e with e e';omega)]
   exact (hg3 q hq).1
  ·iterate 5 rw [World.cell?_setCell_other (h:=fun e=>by injection e with e e';omega)]
   exact (hg3 q hq).2
  ·iterate 3 rw [World.cell?_setCell_other (h:=fun e=>by injection e with e e';omega)]
   exact y22
end
attribute [local go_sem] Oper.semAt_some
theorem book_made {b:Fbk} (h:bookAl b=0) {i:Nat} (hi:i < b.tests.length) (r:Bool):bookAl (madeI b i r)=0:=by
 obtain ⟨h1,h2⟩:=bookAl_ok h;obtain ⟨h6,ht⟩:=testsAl_ok h2;have e1:devsAl (madeI b i r)=0:=h1;have e2:testsAl (madeI b i r)=0:=by
  unfold testsAl;rw [if_neg (by simp [madeI];omega)];refine goT_iff _ _ fun t hm=>?_;rcases List.mem_or_eq_of_mem_set hm with hm | rfl
  ·exact ht t hm
  ·have:=ht b.tests[i] (List.getElem_mem hi);simp only [List.getElem?_eq_getElem hi,Option.elim];exact ⟨this.1,by cases r <;> decide,by cases r <;> decide⟩
 unfold bookAl;rw [if_neg (by simp [e1]),e2]
section
variable {b:Fbk} {vm vd vt:Value} {w:World}
theorem leaves_at (hB:FBookAt w b vm vd vt) (hN:∀ m∈b.devs,m.name.size<=1000000) (hA:ActsAt w) (hb:bookAl b=0) {i:Nat} (hi:i < b.tests.length) (hs:b.tests[i].seen=0) :
 Calls Mz.prog 44 #[.agg #[vm,vd,vt],.int .i64 (i:Int)] w fun e w'=>e=.returned (.tuple #[.int .i64 (leftI b i),.bool true])/\Below w.heap.size w w':=by
 have HB:=Hh hB;have HA:=Hh hA;have HL:=Hh (made_left hi hs);have hM:=Hh (show ∀ r,(∀ m∈(madeI b i r).devs,m.name.size<=1000000)/\bookAl (madeI b i r)=0 from fun r=>⟨hN,book_made hb hi r⟩);have h20:b.tests.length<=20:=by have:=(testsAl_ok (bookAl_ok hb).2).1;omega
 obtain ⟨rfl,⟨da,dc,rfl,_,_⟩,ta,tc,rfl,_,_⟩:=hB;clear hN hA
 go_enter (mz_func (i:=44) rfl Tryz.func44),Tryz.ntmps44
 go_wp2;refine wp_loop_rounds 3 ?_;rw [rounds_succ];go_wp2_with (first
  | (go_at_call 62;(with_reducible refine (made_at (HB.out.below (bel)) hi h20 _).mono ?_);rintro e w1 ⟨x1,rfl,hB1,hb1⟩;have HB1:=Hh hB1;clear hB1)
  | (go_at_call 35;go_loud ((with_reducible refine (histApi_ok HB1.out (hM.out _).1 (HA.out.below (bel)) (hM.out _).2).mono ?_);rintro e w2 ⟨rfl,hb2⟩;have y0:w2.cell? ⟨w.heap.size,0,none⟩=some (.int .i64 b.most):=(hb2.cell (p:=⟨w.heap.size,0,none⟩) (by have:=hb1.size;simp at this ⊢;omega)).trans ((hb1.cell (p:=⟨w.heap.size,0,none⟩) (by simp)).trans (by rw [World.cell?_alloc_at _ _ _ _ rfl];rfl));have y1:w2.cell? ⟨w.heap.size,1,none⟩=some (.slice da b.devs.length dc):=(hb2.cell (p:=⟨w.heap.size,1,none⟩) (by have:=hb1.size;simp at this ⊢;omega)).trans ((hb1.cell (p:=⟨w.heap.size,1,none⟩) (by simp)).trans (by rw [World.cell?_alloc_at _ _ _ _ rfl];rfl));have y2:w2.cell? ⟨w.heap.size,2,none⟩=some (.slice ta b.tests.length tc):=(hb2.cell (p:=⟨w.heap.size,2,none⟩) (by have:=hb1.size;simp at this ⊢;omega)).trans ((hb1.cell (p:=⟨w.heap.size,2,none⟩) (by simp)).trans (by rw [World.cell?_alloc_at _ _ _ _ rfl];rfl)))))
 all_goals
  have hb3:Below w.heap.size w w2:=bel;clear hb1 hb2 HB1;rw [rounds_succ];go_wp2_with (first
   | (go_at_call 62;(with_reducible refine (made_at (HB.out.below (bel)) hi h20 _).mono ?_);rintro e w1 ⟨x1,rfl,hB1,hb1⟩;have HB1:=Hh hB1;clear hB1)
   | (go_at_call 35;(with_reducible refine (histApi_ok HB1.out (hM.out _).1 (HA.out.below (bel)) (hM.out _).2).mono ?_);rintro e w2 ⟨rfl,hb2⟩))
 all_goals
  rw [rounds_succ];go_wp2
 all_goals
  have hl:=HL.out;rw [<- hl];by_cases z:(histsI (madeI b i true)).length=0/\(histsI (madeI b i false)).length=0
  ·rw [z.1,z.2];exact bodyPost_ret (v:=.tuple #[.int .i64 0,.bool true]) (by simp [results,Tryz.results44,go_sem,z.1,z.2]) rfl ⟨rfl,bel⟩
  first
   | (exfalso;omega)
   | exact bodyPost_ret (v:=.tuple #[.int .i64 ((histsI (madeI b i true)).length:Int),.bool true]) (by simp [results,Tryz.results44,go_sem]) rfl ⟨by rw [Int.max_eq_right (by omega)],bel⟩
   | exact bodyPost_ret (v:=.tuple #[.int .i64 ((histsI (madeI b i false)).length:Int),.bool true]) (by simp [results,Tryz.results44,go_sem]) rfl ⟨by rw [Int.max_eq_left (by omega)],bel⟩
end
end Mt
end Go.Proofs.YtgkajecjbflbbaaGreatDoor
