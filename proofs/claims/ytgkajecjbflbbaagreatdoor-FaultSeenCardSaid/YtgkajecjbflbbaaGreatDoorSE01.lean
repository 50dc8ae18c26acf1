/- FaultSeen -/
import Derived.Test.YtgkajecjbflbbaaGreatDoorSE00
set_option maxHeartbeats 4000000
set_option maxRecDepth 100000
set_option linter.all false
namespace Go.Proofs.YtgkajecjbflbbaaGreatDoor
namespace Mt
open Go Go.RowKit Go.Maps
attribute [local go_sem] Oper.semAt_some
def aj:List Dev->List Value
 | []=>[]
 | d::l=>.string d.name::.bool d.held::.bool d.blind::.int .i64 d.time::aj l
theorem au:∀ l:List Dev,(aj l).length=l.length * 4
 | []=>rfl
 | d::l=>by simp [aj,au l];omega
theorem aA:∀ (l:List Dev) (i:Nat) (h:i < l.length),(aj l)[i * 4]? = some (.string l[i].name)/\(aj l)[i * 4+1]? = some (.bool l[i].held)/\(aj l)[i * 4+2]? = some (.bool l[i].blind)/\(aj l)[i * 4+3]? = some (.int .i64 l[i].time)
 | d::l,0,_=>⟨rfl,rfl,rfl,rfl⟩
 | d::l,i+1,h=>by
  have:=aA l i (by simpa using h);rw [show (i+1) * 4=i * 4+1+1+1+1 by omega];exact this
theorem aN:∀ (l:List Dev),∀ u∈aj l,u.oneCell'=true
 | [],u,h=>by cases h
 | d::l,u,h=>by
  simp only [aj,List.mem_cons] at h;rcases h with rfl | rfl | rfl | rfl | h
  ·rfl
  ·rfl
  ·rfl
  ·rfl
  ·exact aN l u h
theorem ae.below {w w1 w2:World} {g:Option Addr} {n:Nat} {l:List Value} (h:ae w w1 g n l) (hb:Below w1.heap.size w1 w2):ae w w2 g n l:=fun hn=>by
 obtain ⟨r,h1,h2,h3,h4,h5⟩:=h hn;exact ⟨r,h1,h2,Nat.lt_of_lt_of_le h3 hb.size,fun k=>(hb.frozen (p:=⟨r,k,none⟩) h3).trans (h4 k),fun j u hj=>(hb.cell (p:=⟨r,j,none⟩) h3).trans (h5 j u hj)⟩
theorem ae.low {w w1 w2:World} {g:Option Addr} {n:Nat} {l:List Value} (h:ae w1 w2 g n l) (hs:w.heap.size<=w1.heap.size):ae w w2 g n l:=fun hn=>by
 obtain ⟨r,h1,h2,h3⟩:=h hn;exact ⟨r,h1,Nat.le_trans hs h2,h3⟩
section
variable {b:Fbk} {vm vd vt:Value} {w:World}
theorem cD {a:Option Addr} (h:DevsAt w a b.devs):(a=none->b.devs.length=0)/\(∀ ad,a=some ad->∀ j u,(aj b.devs)[j]? = some u->w.cell? (ad.add j)=some u)/\∀ ad,a=some ad->0 < b.devs.length->ad.block < w.heap.size:=by
 refine ⟨fun e=>?_,fun ad e j u hj=>?_,fun ad e h0=>?_⟩
 ·rcases Nat.eq_zero_or_pos b.devs.length with h0 | h0
  ·exact h0
  ·obtain ⟨_,_,e',_⟩:=h 0 h0;rw [e] at e';cases e'
 ·have hl:j < b.devs.length * 4:=by
   have:=(List.getElem?_eq_some_iff.1 hj).1
   rwa [au] at this
  obtain ⟨q,hq⟩:∃ q,j=q * 4\/j=q * 4+1\/j=q * 4+2\/j=q * 4+3:=⟨j / 4,by omega⟩;have hql:q < b.devs.length:=by omega
  obtain ⟨r,o,e',hr,k0,k1,k2,k3⟩:=h q hql;rw [e] at e';cases e';rw [add_off];have hg:=aA b.devs q hql;rcases hq with rfl | rfl | rfl | rfl
  ·rw [hg.1] at hj;cases hj;exact k0
  ·rw [hg.2.1] at hj;cases hj;exact k1
  ·rw [hg.2.2.1] at hj;cases hj;exact k2
  ·rw [hg.2.2.2] at hj;cases hj;exact k3
 ·obtain ⟨r,o,e',hr,_⟩:=h 0 h0;rw [e] at e';cases e';exact hr
theorem cE {a:Option Addr} (h:TestsAt w a b.tests):∃ M:Nat->Option Addr × Nat,(∀ k (h:k < b.tests.length),b.tests[k].path.length<=(M k).2/\b.tests[k].path.length<=1000000/\IntsAt w (M k).1 b.tests[k].path) /\
 (a=none->b.tests.length=0)/\(∀ ad,a=some ad->∀ j u,(ag M b.tests 0)[j]? = some u->w.cell? (ad.add j)=some u)/\∀ ad,a=some ad->0 < b.tests.length->ad.block < w.heap.size:=by
 rcases Nat.eq_zero_or_pos b.tests.length with h0 | h0
 ·refine ⟨fun _=>(none,0),fun k hk=>by omega,fun _=>h0,fun ad _ j u hj=>?_,fun ad _ hp=>by omega⟩;have:=(List.getElem?_eq_some_iff.1 hj).1;rw [ah] at this;omega
 ·obtain ⟨tb,to,rfl,htb,_⟩:=h 0 h0;obtain ⟨M,hM⟩:=Deep.choose_lt (α:=Option Addr × Nat) (n:=b.tests.length) (p:=fun k m=>∀ h:k < b.tests.length,w.cell? ⟨tb,to+k * 2,none⟩=some (.slice m.1 b.tests[k].path.length m.2)/\b.tests[k].path.length<=m.2/\b.tests[k].path.length<=1000000/\IntsAt w m.1 b.tests[k].path/\w.cell? ⟨tb,to+k * 2+1,none⟩=some (.int .i64 b.tests[k].seen)) (fun k hk=>by
   obtain ⟨b',o',e,_,pa,pc,h1,h2,h3,h4,h5⟩:=h k hk
   cases e
   exact ⟨(pa,pc),fun _=>⟨h1,h2,h3,h4,h5⟩⟩)
  refine ⟨M,fun k hk=>⟨(hM k hk hk).2.1,(hM k hk hk).2.2.1,(hM k hk hk).2.2.2.1⟩,fun e=>(by cases e),fun ad e j u hj=>?_,fun ad e _=>(by cases e;exact htb)⟩;cases e;rw [add_off];have hl:=(List.getElem?_eq_some_iff.1 hj).1;rw [ah] at hl;obtain ⟨q,hq⟩:∃ q,j=q * 2\/j=q * 2+1:=⟨j / 2,by omega⟩;have hql:q < b.tests.length:=by omega
  obtain ⟨h1,_,_,_,h5⟩:=hM q hql hql;have hg:=am M b.tests 0 q hql;rw [Nat.zero_add] at hg;rcases hq with rfl | rfl
  ·rw [hg.1] at hj;cases hj;exact h1
  ·rw [hg.2] at hj;cases hj;exact h5
theorem ae.ks {w w1 w2:World} {p:Nat->Prop} {g:Option Addr} {n:Nat} {l:List Value} (h:ae w w1 g n l) (hk:KS p w1 w2) (hp:∀ r,w.heap.size<=r->p r):ae w w2 g n l:=fun hn=>by
 obtain ⟨r,h1,h2,h3,h4,h5⟩:=h hn;exact ⟨r,h1,h2,Nat.lt_of_lt_of_le h3 hk.size,fun k=>(hk.frozen (x:=⟨r,k,none⟩) h3 (hp r h2)).trans (h4 k),fun j u hj=>(hk.cell (x:=⟨r,j,none⟩) h3 (hp r h2)).trans (h5 j u hj)⟩
structure aC (w A:World) (b:Fbk) (M:Nat->Option Addr × Nat) (g1 g2:Option Addr) (c1 c2 k:Nat) (W:World):Prop where
 bel:Below w.heap.size w W
 size:A.heap.size<=W.heap.size
 b0:W.cell? ⟨w.heap.size,0,none⟩=some (.int .i64 b.most)
 b1:W.cell? ⟨w.heap.size,1,none⟩=some (.slice g1 b.devs.length c1)
 b2:W.cell? ⟨w.heap.size,2,none⟩=some (.slice g2 b.tests.length c2)
 r0:W.cell? ⟨w.heap.size+1,0,none⟩=some (.int .i64 0)
 r1:W.cell? ⟨w.heap.size+1,1,none⟩=some (.slice none 0 0)
 r2:W.cell? ⟨w.heap.size+1,2,none⟩=some (.slice none 0 0)
 rf:∀ x,W.frozen? ⟨w.heap.size+1,x,none⟩=false
 dev:ae A W g1 b.devs.length (aj b.devs)
 ne:0 < b.devs.length->0 < b.tests.length->g1≠g2
 tst:0 < b.tests.length->∃ r,g2=some ⟨r,0,none⟩/\A.heap.size<=r/\r < W.heap.size/\(∀ x,W.frozen? ⟨r,x,none⟩=false)/\∀ q (h:q < b.tests.length),W.cell? ⟨r,q * 2+1,none⟩=some (.int .i64 b.tests[q].seen)/\(q < k->∃ pa pc,W.cell? ⟨r,q * 2,none⟩=some (.slice pa b.tests[q].path.length pc)/\b.tests[q].path.length<=pc/\ae A W pa b.tests[q].path.length (b.tests[q].path.map (Value.int .i64))/\(0 < b.tests[q].path.length->pa≠some ⟨r,0,none⟩/\(0 < b.devs.length->pa≠g1)))/\(k<=q->W.cell? ⟨r,q * 2,none⟩=some (.slice (M q).1 b.tests[q].path.length (M q).2))
theorem bn {w A w4:World} {b:Fbk} {M:Nat->Option Addr × Nat} {g1 g2 da ta:Option Addr} {c1 c2 dc tc:Nat} (hbA:Below w.heap.size w A) (hsA:A.heap.size=w.heap.size+2) (x1:∀ k u,(#[.int .i64 b.most,.slice da b.devs.length dc,.slice ta b.tests.length tc]:Array Value)[k]? = some u->A.cell? ⟨w.heap.size,k,none⟩=some u) (x2:∀ k u,(#[.int .i64 0,.slice none 0 0,.slice none 0 0]:Array Value)[k]? = some u->A.cell? ⟨w.heap.size+1,k,none⟩=some u)
 (f2:∀ k,A.frozen? ⟨w.heap.size+1,k,none⟩=false) (hb4:Below A.heap.size A w4) (hr1:ae A w4 g1 b.devs.length (aj b.devs)) (hr2:ae A w4 g2 b.tests.length (ag M b.tests 0)) (hne:0 < b.devs.length->0 < b.tests.length->g1≠g2) :
 aC w A b M g1 g2 c1 c2 0 ((w4.setCell ⟨w.heap.size,1,none⟩ (.slice g1 b.devs.length c1)).setCell ⟨w.heap.size,2,none⟩ (.slice g2 b.tests.length c2)):=by
 have hk:KS (fun r=>r≠w.heap.size) w4 ((w4.setCell ⟨w.heap.size,1,none⟩ (.slice g1 b.devs.length c1)).setCell ⟨w.heap.size,2,none⟩ (.slice g2 b.tests.length c2)):=(KS.setCell (by simp) _ _).trans (KS.setCell (by simp) _ _);have hc:∀ k u,A.cell? ⟨w.heap.size,k,none⟩=some u->w4.cell? ⟨w.heap.size,k,none⟩=some u:=fun k u e=>(hb4.cell (p:=⟨w.heap.size,k,none⟩) (by simp;omega)).trans e;have hr:∀ k u,A.cell? ⟨w.heap.size+1,k,none⟩=some u->((w4.setCell ⟨w.heap.size,1,none⟩ (.slice g1 b.devs.length c1)).setCell ⟨w.heap.size,2,none⟩ (.slice g2 b.tests.length c2)).cell? ⟨w.heap.size+1,k,none⟩=some u:=fun k u e=>(hk.cell (x:=⟨w.heap.size+1,k,none⟩) (by have:=hb4.size;simp;omega) (by simp)).trans ((hb4.cell (p:=⟨w.heap.size+1,k,none⟩) (by simp;omega)).trans e);refine ⟨Below.setCell (Below.setCell (Below.next hbA hb4) (by simp) _) (by simp) _,Nat.le_trans hb4.size hk.size,?_,?_,?_,hr 0 _ (x2 0 _ rfl),hr 1 _ (x2 1 _ rfl),hr 2 _ (x2 2 _ rfl),fun x=>?_,hr1.ks hk (fun r h=>by omega),hne,fun h0=>?_⟩
 ·rw [World.cell?_setCell_other (h:=by simp),World.cell?_setCell_other (h:=by simp)];exact hc 0 _ (x1 0 _ rfl)
 ·rw [World.cell?_setCell_other (h:=by simp)];exact World.cell?_setCell_same' _ _ _ (by rw [hc 1 _ (x1 1 _ rfl)];rfl)
 ·exact World.cell?_setCell_same' _ _ _ (by rw [World.cell?_setCell_other (h:=by simp),hc 2 _ (x1 2 _ rfl)];rfl)
 ·exact (hk.frozen (x:=⟨w.heap.size+1,x,none⟩) (by have:=hb4.size;simp;omega) (by simp)).trans ((hb4.frozen (p:=⟨w.heap.size+1,x,none⟩) (by simp;omega)).trans (f2 x))
 ·obtain ⟨r,h1,h2,h3,h4,h5⟩:=hr2.ks hk (fun r h=>by omega) h0;refine ⟨r,h1,h2,h3,h4,fun q hq=>?_⟩;have hg:=am M b.tests 0 q hq;rw [Nat.zero_add] at hg;exact ⟨h5 _ _ hg.2,fun h=>absurd h (Nat.not_lt_zero _),fun _=>h5 _ _ hg.1⟩
theorem c8 {w w':World} {g:Option Addr} {l:List Int} (h:ae w w' g l.length (l.map (Value.int .i64))):IntsAt w' g l:=fun i hi=>by
 obtain ⟨r,h1,_,h3,_,h5⟩:=h (by omega);exact ⟨r,0,h1,h3,by rw [Nat.zero_add];exact h5 i _ (by simp [hi])⟩
theorem bN {w A W w5:World} {b:Fbk} {M:Nat->Option Addr × Nat} {g1 p1:Option Addr} {r c1 c2 k x:Nat} (h:aC w A b M g1 (some ⟨r,0,none⟩) c1 c2 k W) (hsA:A.heap.size=w.heap.size+2) (hrA:A.heap.size<=r) (hk:k < b.tests.length) (hb:Below W.heap.size W w5) (hx:b.tests[k].path.length<=x) (hp:ae W w5 p1 b.tests[k].path.length (b.tests[k].path.map (Value.int .i64))) :
 aC w A b M g1 (some ⟨r,0,none⟩) c1 c2 (k+1) (w5.setCell ⟨r,k * 2,none⟩ (.slice p1 b.tests[k].path.length x)):=by
 obtain ⟨r',e,h2,h3,h4,h5⟩:=h.tst (by omega);cases e;have hs:=h.size;have hK:KS (fun y=>y≠r) w5 (w5.setCell ⟨r,k * 2,none⟩ (.slice p1 b.tests[k].path.length x)):=KS.setCell (by simp) _ _;have hc:∀ B o u,B < A.heap.size->W.cell? ⟨B,o,none⟩=some u->(w5.setCell ⟨r,k * 2,none⟩ (.slice p1 b.tests[k].path.length x)).cell? ⟨B,o,none⟩=some u:=fun B o u hB e=>(hK.cell (x:=⟨B,o,none⟩) (by have:=hb.size;simp;omega) (by simp;omega)).trans ((hb.cell (p:=⟨B,o,none⟩) (by simp;omega)).trans e);have hw5:∀ o,w5.cell? ⟨r,o,none⟩=W.cell? ⟨r,o,none⟩:=fun o=>hb.cell (p:=⟨r,o,none⟩) h3;have ho:∀ o,o≠k * 2->(w5.setCell ⟨r,k * 2,none⟩ (.slice p1 b.tests[k].path.length x)).cell? ⟨r,o,none⟩=W.cell? ⟨r,o,none⟩:=fun o hne=>by
  rw [World.cell?_setCell_other (h:=fun e=>by injection e with _ e;exact hne e.symm)];exact hw5 o
 have hbel:=Below.setCell (p:=⟨r,k * 2,none⟩) (Below.next h.bel hb) (by simp;omega) (.slice p1 b.tests[k].path.length x);have hp':ae W (w5.setCell ⟨r,k * 2,none⟩ (.slice p1 b.tests[k].path.length x)) p1 b.tests[k].path.length (b.tests[k].path.map (Value.int .i64)):=hp.ks hK (fun y hy=>by omega);refine ⟨hbel,Nat.le_trans hs (Nat.le_trans hb.size hK.size),hc _ _ _ (by omega) h.b0,hc _ _ _ (by omega) h.b1,hc _ _ _ (by omega) h.b2,hc _ _ _ (by omega) h.r0,hc _ _ _ (by omega) h.r1,hc _ _ _ (by omega) h.r2,fun y=>?_,fun h0=>?_,h.ne,fun _=>⟨r,rfl,h2,Nat.lt_of_lt_of_le h3 (Nat.le_trans hb.size hK.size),fun y=>?_,fun q hq=>⟨?_,fun hqk=>?_,fun hqk=>?_⟩⟩⟩
 ·exact (hK.frozen (x:=⟨w.heap.size+1,y,none⟩) (by have:=hb.size;simp;omega) (by simp;omega)).trans ((hb.frozen (p:=⟨w.heap.size+1,y,none⟩) (by simp;omega)).trans (h.rf y))
 ·obtain ⟨r1,e1,k2,k3,k4,k5⟩:=h.dev h0;have hne:r1≠r:=fun e=>h.ne h0 (by omega) (by rw [e1,e]);exact ⟨r1,e1,k2,Nat.lt_of_lt_of_le k3 (Nat.le_trans hb.size hK.size),fun y=>(hK.frozen (x:=⟨r1,y,none⟩) (Nat.lt_of_lt_of_le k3 hb.size) hne).trans ((hb.frozen (p:=⟨r1,y,none⟩) k3).trans (k4 y)),fun j u hj=>(hK.cell (x:=⟨r1,j,none⟩) (Nat.lt_of_lt_of_le k3 hb.size) hne).trans ((hb.cell (p:=⟨r1,j,none⟩) k3).trans (k5 j u hj))⟩
 ·rw [World.frozen?_setCell];exact (hb.frozen (p:=⟨r,y,none⟩) h3).trans (h4 y)
 ·rw [ho _ (by omega)];exact (h5 q hq).1
 ·by_cases e:q=k
  ·subst e;refine ⟨p1,x,World.cell?_setCell_same' _ _ _ (by rw [hw5,(h5 q hq).2.2 (Nat.le_refl _)];rfl),hx,hp'.low hs,fun h0=>⟨fun e=>?_,fun hd e=>?_⟩⟩
   ·obtain ⟨y,e1,e2,_⟩:=hp h0;rw [e1] at e;injection e with e;injection e with e;omega
   ·obtain ⟨y,e1,e2,_⟩:=hp h0;obtain ⟨y',e3,_,e4,_⟩:=h.dev hd;rw [e1,e3] at e;injection e with e;injection e with e;omega
  ·obtain ⟨pa,pc,k1,k2,k3,k4⟩:=(h5 q hq).2.1 (by omega);refine ⟨pa,pc,by rw [ho _ (by omega)];exact k1,k2,fun hi=>?_,k4⟩;obtain ⟨pb,e1,e2,e3,e4,e5⟩:=k3 hi;refine ⟨pb,e1,e2,Nat.lt_of_lt_of_le e3 (Nat.le_trans hb.size hK.size),fun y=>?_,fun j u hj=>?_⟩
   ·rw [World.frozen?_setCell];exact (hb.frozen (p:=⟨pb,y,none⟩) e3).trans (e4 y)
   ·have hpr:pb≠r\/j≠k * 2:=by
     by_cases hh:pb=r/\j=k * 2
     ·obtain ⟨rfl,rfl⟩:=hh;have e6:=e5 _ _ hj;rw [(h5 k hk).2.2 (Nat.le_refl _)] at e6;cases e6;rw [List.getElem?_map] at hj
      cases hx:(b.tests[q].path)[k * 2]? with
      | none=>rw [hx] at hj;cases hj
      | some v=>rw [hx] at hj;cases hj
     ·omega
    rw [World.cell?_setCell_other (h:=fun e=>by injection e with x1 x2;rcases hpr with hh | hh;exact hh x1.symm;exact hh x2.symm)];exact (hb.cell (p:=⟨pb,j,none⟩) e3).trans (e5 j u hj)
 ·rw [ho _ (by omega)];exact (h5 q hq).2.2 (by omega)
theorem bO {w:World} {a:Option Addr} {l:List Int} (h:IntsAt w a l):(a=none->l.length=0)/\(∀ ad,a=some ad->∀ j u,(l.map (Value.int .i64))[j]? = some u->w.cell? (ad.add j)=some u)/\∀ ad,a=some ad->0 < l.length->ad.block < w.heap.size:=by
 refine ⟨fun e=>?_,fun ad e j u hj=>?_,fun ad e h0=>?_⟩
 ·rcases Nat.eq_zero_or_pos l.length with h0 | h0
  ·exact h0
  ·obtain ⟨_,_,e',_⟩:=h 0 h0;rw [e] at e';cases e'
 ·have hl:=(List.getElem?_eq_some_iff.1 hj).1;rw [List.length_map] at hl;obtain ⟨pb,po,e',_,k3⟩:=h j hl;rw [e] at e';cases e';rw [add_off,k3,<- hj];simp [hl]
 ·obtain ⟨pb,po,e',k2,_⟩:=h 0 h0;rw [e] at e';cases e';exact k2
structure af (w W:World) (b:Fbk) (g1:Option Addr) (c1:Nat) (g2:Option Addr) (c2:Nat):Prop where
 bel:Below w.heap.size w W
 dev:ae w W g1 b.devs.length (aj b.devs)
 ne:0 < b.devs.length->0 < b.tests.length->g1≠g2
 tst:0 < b.tests.length->∃ r,g2=some ⟨r,0,none⟩/\w.heap.size<=r/\r < W.heap.size/\(∀ x,W.frozen? ⟨r,x,none⟩=false)/\∀ q (h:q < b.tests.length),W.cell? ⟨r,q * 2+1,none⟩=some (.int .i64 b.tests[q].seen)/\∃ pa pc,W.cell? ⟨r,q * 2,none⟩=some (.slice pa b.tests[q].path.length pc)/\b.tests[q].path.length<=pc/\ae w W pa b.tests[q].path.length (b.tests[q].path.map (Value.int .i64))/\(0 < b.tests[q].path.length->pa≠some ⟨r,0,none⟩/\(0 < b.devs.length->pa≠g1))
theorem bR {w A W:World} {b:Fbk} {M:Nat->Option Addr × Nat} {g1 g2:Option Addr} {c1 c2:Nat} (h:aC w A b M g1 g2 c1 c2 b.tests.length W) (hsA:A.heap.size=w.heap.size+2) (x y z:Value) :
 af w (((W.setCell ⟨w.heap.size+1,0,none⟩ x).setCell ⟨w.heap.size+1,1,none⟩ y).setCell ⟨w.heap.size+1,2,none⟩ z) b g1 c1 g2 c2:=by
 have hK:KS (fun r=>r≠w.heap.size+1) W (((W.setCell ⟨w.heap.size+1,0,none⟩ x).setCell ⟨w.heap.size+1,1,none⟩ y).setCell ⟨w.heap.size+1,2,none⟩ z):=((KS.setCell (by simp) _ _).trans (KS.setCell (by simp) _ _)).trans (KS.setCell (by simp) _ _);have hwA:w.heap.size<=A.heap.size:=by omega
 refine ⟨Below.setCell (Below.setCell (Below.setCell h.bel (by simp) _) (by simp) _) (by simp) _,(h.dev.ks hK (fun r hr=>by omega)).low hwA,h.ne,fun h0=>?_⟩;obtain ⟨r,e,k2,k3,k4,k5⟩:=h.tst h0;have hc:∀ o u,W.cell? ⟨r,o,none⟩=some u->(((W.setCell ⟨w.heap.size+1,0,none⟩ x).setCell ⟨w.heap.size+1,1,none⟩ y).setCell ⟨w.heap.size+1,2,none⟩ z).cell? ⟨r,o,none⟩=some u:=fun o u e=>(hK.cell (x:=⟨r,o,none⟩) k3 (by simp;omega)).trans e;refine ⟨r,e,by omega,Nat.lt_of_lt_of_le k3 hK.size,fun x=>(hK.frozen (x:=⟨r,x,none⟩) k3 (by simp;omega)).trans (k4 x),fun q hq=>?_⟩;obtain ⟨q1,q2,_⟩:=k5 q hq;obtain ⟨pa,pc,q3,q4,q5,q6⟩:=q2 hq;exact ⟨hc _ _ q1,pa,pc,hc _ _ q3,q4,(q5.ks hK (fun r hr=>by omega)).low hwA,q6⟩
theorem af.seen {w W:World} {b:Fbk} {g1 g2:Option Addr} {c1 c2:Nat} (h:af w W b g1 c1 g2 c2) {r i:Nat} (hg:g2=some ⟨r,0,none⟩) (hi:i < b.tests.length) (v:Int) :
 af w (W.setCell ⟨r,i * 2+1,none⟩ (.int .i64 v)) { b with tests:=b.tests.set i ⟨(b.tests[i]?).elim [] Tst.path,v⟩ } g1 c1 g2 c2:=by
 obtain ⟨r',e,k2,k3,k4,k5⟩:=h.tst (by omega);rw [hg] at e;cases e;have hK:KS (fun y=>y≠r) W (W.setCell ⟨r,i * 2+1,none⟩ (.int .i64 v)):=KS.setCell (by simp) _ _;have away:∀ {g:Option Addr} {n:Nat} {l:List Value},ae w W g n l->(0 < n->g≠some ⟨r,0,none⟩)->ae w (W.setCell ⟨r,i * 2+1,none⟩ (.int .i64 v)) g n l:=fun hn hne h0=>by
  obtain ⟨y,e1,e2,e3,e4,e5⟩:=hn h0;have hy:y≠r:=fun e=>hne h0 (by rw [e1,e]);exact ⟨y,e1,e2,Nat.lt_of_lt_of_le e3 hK.size,fun x=>(hK.frozen (x:=⟨y,x,none⟩) e3 hy).trans (e4 x),fun j u hj=>(hK.cell (x:=⟨y,j,none⟩) e3 hy).trans (e5 j u hj)⟩
 refine ⟨Below.setCell h.bel (by simpa using k2) _,away h.dev (fun h0 e=>h.ne h0 (by omega) (by rw [e,hg])),fun h1 h2=>h.ne h1 (by omega),fun _=>⟨r,hg,k2,Nat.lt_of_lt_of_le k3 hK.size,fun x=>by rw [World.frozen?_setCell];exact k4 x,fun q hq=>?_⟩⟩;have hq':q < b.tests.length:=by simpa using hq
 obtain ⟨q1,pa,pc,q3,q4,q5,q6⟩:=k5 q hq';have he:(W.setCell ⟨r,i * 2+1,none⟩ (.int .i64 v)).cell? ⟨r,q * 2,none⟩=some (.slice pa b.tests[q].path.length pc):=by
  rw [World.cell?_setCell_other (h:=fun e=>by injection e with _ e;omega)];exact q3
 by_cases e:q=i
 ·subst e;simp only [List.getElem_set_self,List.getElem?_eq_getElem hq',Option.elim];exact ⟨World.cell?_setCell_same' _ _ _ (by rw [q1];rfl),pa,pc,he,q4,away q5 (fun h0=>(q6 h0).1),q6⟩
 ·simp only [List.getElem_set_ne (Ne.symm e)];refine ⟨?_,pa,pc,he,q4,away q5 (fun h0=>(q6 h0).1),q6⟩;rw [World.cell?_setCell_other (h:=fun e'=>by injection e' with _ e';omega)];exact q1
theorem aT (hB:FBookAt w b vm vd vt) (hd20:b.devs.length<=20) (h20:b.tests.length<=20) (hp20:∀ t∈b.tests,t.path.length<=20) :
 Calls Mz.prog 114 #[.agg #[vm,vd,vt]] w fun e w'=>∃ g1 c1 g2 c2,e=.returned (.agg #[.int .i64 b.most,.slice g1 b.devs.length c1,.slice g2 b.tests.length c2])/\af w w' b g1 c1 g2 c2:=by
 have HB:=Hh hB;obtain ⟨rfl,⟨da,dc,rfl,hD,hdl⟩,ta,tc,rfl,hT,htl⟩:=hB;obtain ⟨d1,d2,d3⟩:=cD hD;obtain ⟨M,hM,t1,t2,t3⟩:=cE hT;have HM:=Hh hM
 go_enter (mz_func (i:=114) rfl Tryz.func114),Tryz.ntmps114
 go_wp2
 rename_i Q0 K0 hK0
 obtain ⟨A,hA⟩:∃ A,A=((w.alloc (.cells #[.int .i64 b.most,.slice da b.devs.length dc,.slice ta b.tests.length tc] 25)).alloc (.cells #[.int .i64 0,.slice none 0 0,.slice none 0 0] 25)):=⟨_,rfl⟩;rw [<- hA];have hbA:Below w.heap.size w A:=by rw [hA];(exact bel)
 have hsA:A.heap.size=w.heap.size+2:=by rw [hA];simp
 have x1:∀ k u,(#[.int .i64 b.most,.slice da b.devs.length dc,.slice ta b.tests.length tc]:Array Value)[k]? = some u->A.cell? ⟨w.heap.size,k,none⟩=some u:=fun k u hk=>by
  rw [hA,World.cell?_alloc_past _ _ _ (by simp),World.cell?_alloc_at _ _ _ _ (by simp)];exact hk
 have x2:∀ k u,(#[.int .i64 0,.slice none 0 0,.slice none 0 0]:Array Value)[k]? = some u->A.cell? ⟨w.heap.size+1,k,none⟩=some u:=fun k u hk=>by
  rw [hA,World.cell?_alloc_at _ _ _ _ (by simp)];exact hk
 have f1:∀ k,A.frozen? ⟨w.heap.size,k,none⟩=false:=fun k=>by
  rw [hA,World.frozen?_alloc_past _ _ _ (by simp),World.frozen?_alloc_at _ _ _ _ (by simp)]
 have f2:∀ k,A.frozen? ⟨w.heap.size+1,k,none⟩=false:=fun k=>by
  rw [hA,World.frozen?_alloc_at _ _ _ _ (by simp)]
 clear hA;have HT:=Hh (fun (w':World) (h:Below A.heap.size A w')=>(⟨(h.cell (p:=⟨w.heap.size,1,none⟩) (by simp;omega)).trans (x1 1 _ rfl),(h.cell (p:=⟨w.heap.size,2,none⟩) (by simp;omega)).trans (x1 2 _ rfl)⟩:w'.cell? ⟨w.heap.size,1,none⟩=some (.slice da b.devs.length dc)/\w'.cell? ⟨w.heap.size,2,none⟩=some (.slice ta b.tests.length tc)));have HZ:=Hh (fun (w':World) (h:Below A.heap.size A w') x=>(h.frozen (p:=⟨w.heap.size,x,none⟩) (by simp;omega)).trans (f1 x));have HBW:=Hh (fun (W:World) (h:Below A.heap.size A W)=>(Below.next hbA h:Below w.heap.size w W));have HCD:=Hh (fun (W:World) (h:Below A.heap.size A W)=>bI (w:=W) (a:=da) (c:=dc) (au b.devs) hd20 d1 (fun ad e j u hj=>((HBW.out W h).cell (p:=ad.add j) (by have:=(List.getElem?_eq_some_iff.1 hj).1;rw [au] at this;unfold Addr.add;split <;> exact d3 ad e (by omega))).trans (d2 ad e j u hj)) (fun ad e h0=>Nat.lt_of_lt_of_le (d3 ad e h0) (HBW.out W h).size) (aN b.devs));have HCT:=Hh (fun (W:World) (h:Below A.heap.size A W)=>bJ (w:=W) (a:=ta) (c:=tc) (ah M b.tests 0) h20 t1 (fun ad e j u hj=>((HBW.out W h).cell (p:=ad.add j) (by have:=(List.getElem?_eq_some_iff.1 hj).1;rw [ah] at this;unfold Addr.add;split <;> exact t3 ad e (by omega))).trans (t2 ad e j u hj)) (fun ad e h0=>Nat.lt_of_lt_of_le (t3 ad e h0) (HBW.out W h).size) (az M b.tests 0));clear d1 d2 d3 t1 t2 t3 hD hT;refine Code.wp_mono (Q:=fun e a w2=>e=.normal/\∃ g1 c1 g2 c2 w4,a=({ tmps:=#[.agg #[.int .i64 b.most,.slice da b.devs.length dc,.slice ta b.tests.length tc],.pointer (some ⟨w.heap.size,0,none⟩),.pointer (some ⟨w.heap.size+1,0,none⟩),U,U,.pointer (some ⟨w.heap.size,1,none⟩),.slice da b.devs.length dc,.slice g1 b.devs.length c1,.pointer (some ⟨w.heap.size,2,none⟩),.slice ta b.tests.length tc,.slice g2 b.tests.length c2,.pointer (some ⟨w.heap.size,1,none⟩),.pointer (some ⟨w.heap.size,2,none⟩),U,U,U,U,U,U,U,U,U,U,U,U,U,U,U,U,U,U],defers:=[] }:Act)/\w2=(w4.setCell ⟨w.heap.size,1,none⟩ (.slice g1 b.devs.length c1)).setCell ⟨w.heap.size,2,none⟩ (.slice g2 b.tests.length c2)/\Below A.heap.size A w4/\ae A w4 g1 b.devs.length (aj b.devs)/\ae A w4 g2 b.tests.length (ag M b.tests 0)/\(0 < b.devs.length->0 < b.tests.length->g1≠g2)) (fun e a w2 h=>?_) ?_
 ·obtain ⟨rfl,g1,c1,g2,c2,w4,rfl,rfl,hb4,hr1,hr2,hne⟩:=h;have HI:=bn (c1:=c1) (c2:=c2) hbA hsA x1 x2 f2 hb4 hr1 hr2 hne;generalize hV:(w4.setCell ⟨w.heap.size,1,none⟩ (.slice g1 b.devs.length c1)).setCell ⟨w.heap.size,2,none⟩ (.slice g2 b.tests.length c2)=V at HI ⊢;clear hV hb4 hr1 hr2 hne HT HZ HCD HCT x1 x2 f1 f2 HBW;have HI:=Hh HI;have y2:=HI.out.b2;refine hK0 _ _ ?_;clear hK0;go_wp2;go_loopw [16] (fun i wr=>∃ k:Nat,k<=b.tests.length/\i=.int .i64 (k:Int)/\Hid (aC w A b M g1 g2 c1 c2 k wr)) (fun i _=>b.tests.length - (intOf i).toNat)
  case atStart=>exact ⟨0,Nat.zero_le _,rfl,HI⟩
  case round =>
   obtain ⟨k,hk,rfl,hI⟩:=hrel;by_cases hlt:k < b.tests.length
   ·have hltI:(k:Int) < (b.tests.length:Int):=by omega
    obtain ⟨r,rfl,hr1,hr2,hr3,hr4⟩:=hI.out.tst (by omega);obtain ⟨s1,_,s2⟩:=hr4 k hlt;have s2:=s2 (Nat.le_refl _);have y2:=hI.out.b2;go_wp2
    rename_i Q1 K1 hK1
    obtain ⟨hd1,hd2,hd3⟩:=bO ((hM k hlt).2.2.below (w':=wr) hI.out.bel);obtain ⟨AW,hAW⟩:∃ AW,AW=wr.alloc (.cells #[.slice (M k).1 b.tests[k].path.length (M k).2,.int .i64 b.tests[k].seen] 61):=⟨_,rfl⟩;rw [<- hAW];have hbW:Below wr.heap.size wr AW:=by rw [hAW];(exact bel)
    have hsW:AW.heap.size=wr.heap.size+1:=by rw [hAW];simp
    have cX:AW.cell? ⟨wr.heap.size,0,none⟩=some (.slice (M k).1 b.tests[k].path.length (M k).2):=by rw [hAW,World.cell?_alloc_at _ _ _ _ rfl];rfl
    have hsz:=hI.out.size;have cB:AW.cell? ⟨w.heap.size,2,none⟩=some (.slice (some ⟨r,0,none⟩) b.tests.length c2):=(hbW.cell (p:=⟨w.heap.size,2,none⟩) (by simp;omega)).trans y2;have ck:AW.cell? ⟨r,k * 2,none⟩=some (.slice (M k).1 b.tests[k].path.length (M k).2):=(hbW.cell (p:=⟨r,k * 2,none⟩) hr2).trans s2;have cz:AW.frozen? ⟨r,k * 2,none⟩=false:=(hbW.frozen (p:=⟨r,k * 2,none⟩) hr2).trans (hr3 _);clear hAW;have HT:=Hh (fun (w':World) (h:Below AW.heap.size AW w')=>(⟨(h.cell (p:=⟨w.heap.size,2,none⟩) (by simp;omega)).trans cB,(h.cell (p:=⟨wr.heap.size,0,none⟩) (by simp;omega)).trans cX⟩:w'.cell? ⟨w.heap.size,2,none⟩=some (.slice (some ⟨r,0,none⟩) b.tests.length c2)/\w'.cell? ⟨wr.heap.size,0,none⟩=some (.slice (M k).1 b.tests[k].path.length (M k).2)));have HG:=Hh (fun (w':World) (h:Below AW.heap.size AW w')=>(h.cell (p:=⟨r,k * 2,none⟩) (by simp;omega)).trans ck);have HZ:=Hh (fun (w':World) (h:Below AW.heap.size AW w')=>(h.frozen (p:=⟨r,k * 2,none⟩) (by simp;omega)).trans cz);have HCI:=Hh (fun (W:World) (h:Below AW.heap.size AW W)=>bM (w:=W) (a:=(M k).1) (c:=(M k).2) (news:=b.tests[k].path.map (Value.int .i64)) (n:=b.tests[k].path.length) (by simp) (hp20 _ (List.getElem_mem hlt)) hd1 (fun ad e j u hj=>((Below.next hbW h).cell (p:=ad.add j) (by have hl:=(List.getElem?_eq_some_iff.1 hj).1;rw [List.length_map] at hl;unfold Addr.add;split <;> exact hd3 ad e (by omega))).trans (hd2 ad e j u hj)) (fun ad e h0=>Nat.lt_of_lt_of_le (hd3 ad e h0) (Below.next hbW h).size) (fun u hu=>by obtain ⟨z,_,rfl⟩:=List.mem_map.1 hu;rfl));clear hd1 hd2 hd3 cB cX ck cz;refine Code.wp_mono (Q:=fun e a w2=>e=.normal/\∃ p1 x1 w5,a=({ tmps:=#[.agg #[.int .i64 b.most,.slice da b.devs.length dc,.slice ta b.tests.length tc],.pointer (some ⟨w.heap.size,0,none⟩),.pointer (some ⟨w.heap.size+1,0,none⟩),.int .i64 (k:Int),.pointer (some ⟨wr.heap.size,0,none⟩),.pointer (some ⟨w.heap.size,1,none⟩),.slice da b.devs.length dc,.slice g1 b.devs.length c1,.pointer (some ⟨w.heap.size,2,none⟩),.slice ta b.tests.length tc,.slice (some ⟨r,0,none⟩) b.tests.length c2,.pointer (some ⟨w.heap.size,1,none⟩),.pointer (some ⟨w.heap.size,2,none⟩),.pointer (some ⟨w.heap.size,2,none⟩),.slice (some ⟨r,0,none⟩) b.tests.length c2,.int .i64 (b.tests.length:Int),.int .i64 (k:Int),.bool true,.int .i64 (k:Int),.pointer (some ⟨r,k * 2,none⟩),.agg #[.slice (M k).1 b.tests[k].path.length (M k).2,.int .i64 b.tests[k].seen],.pointer (some ⟨w.heap.size,2,none⟩),.slice (some ⟨r,0,none⟩) b.tests.length c2,.int .i64 (k:Int),.pointer (some ⟨wr.heap.size,0,none⟩),.slice (M k).1 b.tests[k].path.length (M k).2,.slice p1 b.tests[k].path.length x1,.pointer (some ⟨r,k * 2,none⟩),.pointer (some ⟨r,k * 2,none⟩),u29,U],defers:=[] }:Act)/\w2=w5.setCell ⟨r,k * 2,none⟩ (.slice p1 b.tests[k].path.length x1)/\Below AW.heap.size AW w5/\b.tests[k].path.length<=x1/\ae AW w5 p1 b.tests[k].path.length (b.tests[k].path.map (Value.int .i64))) (fun e a w2 h=>?_) ?_
    ·obtain ⟨rfl,p1,x1,w5,rfl,rfl,hb5,hx5,hn5⟩:=h;have hnext:=Hh (bN hI.out hsA hr1 hlt (Below.next hbW hb5) hx5 (hn5.low hbW.size));refine hK1 _ _ ?_;clear hK1 HT HG HZ HCI;go_wp2;go_roundw
     case rel=>exact ⟨k+1,hlt,by go_num,hnext⟩
     case measure=>simp [intOf];omega
    refine wp_region_D (S:=fun _=>True) (T:=fun w'=>w'.cell? ⟨w.heap.size,2,none⟩=some (.slice (some ⟨r,0,none⟩) b.tests.length c2)/\w'.cell? ⟨wr.heap.size,0,none⟩=some (.slice (M k).1 b.tests[k].path.length (M k).2)) (d:=8) (by kernel_rfl) trivial (HT.out _ (bel)) (fun _ hTd=>?_);refine wpAnyD_take (i:=0) (v:=.pointer (some ⟨w.heap.size,2,none⟩)) rfl (by decide +kernel) (fun _ _ _ h=>by cases h.1) (Or.inl ⟨by rfl,?_⟩) trivial hTd ?_
    ·rintro w5 ⟨_,s1,s2⟩;go_simp
    refine wpAnyD_take (i:=1) (v:=.slice (some ⟨r,0,none⟩) b.tests.length c2) rfl (by decide +kernel) (fun _ _ _ h=>by cases h.1) (Or.inl ⟨by rfl,?_⟩) trivial hTd ?_
    ·rintro w5 ⟨_,s1,s2⟩;go_simp
    refine wpAnyD_take (i:=2) (v:=.int .i64 (k:Int)) rfl (by decide +kernel) (fun _ _ _ h=>by cases h.1) (Or.inl ⟨by rfl,?_⟩) trivial hTd ?_
    ·rintro w5 ⟨_,s1,s2⟩;go_simp
    refine wpAnyD_take (i:=3) (v:=.pointer (some ⟨wr.heap.size,0,none⟩)) rfl (by decide +kernel) (fun _ _ _ h=>by cases h.1) (Or.inl ⟨by rfl,?_⟩) trivial hTd ?_
    ·rintro w5 ⟨_,s1,s2⟩;go_simp
    refine wpAnyD_take (i:=4) (v:=.slice (M k).1 b.tests[k].path.length (M k).2) rfl (by decide +kernel) (fun _ _ _ h=>by cases h.1) (Or.inl ⟨by rfl,?_⟩) trivial hTd ?_
    ·rintro w5 ⟨_,s1,s2⟩;go_simp
    refine wpAnyD_ready [5] (by decide +kernel) (by simp) ?_;refine AllReadyD.pre 5 rfl (fun K9 hK=>?_) AllReadyD.nil;go_simp;refine (HCI.out _ (bel)).mono ?_;rintro e w5 ⟨p1,x1,rfl,hx1,hn1,hb5⟩;have hn1:=hn1.low (w:=AW) (by simp);have hb5:Below AW.heap.size AW w5:=bel;have u1:=HG.out _ hb5;have f1:=HZ.out _ hb5
    try go_simp
    refine hK.out _ _ trivial (HT.out _ (bel)) (fun _ _=>?_);refine wpAnyD_ready [6] (by decide +kernel) (by simp) ?_;refine AllReadyD.pre 6 rfl (fun K9 hK=>?_) AllReadyD.nil;go_simp;refine hK.out _ _ trivial (HT.out _ (bel)) (fun _ _=>?_);refine wpAnyD_ready [7] (by decide +kernel) (by simp) ?_;refine AllReadyD.pre 7 rfl (fun K9 hK=>?_) AllReadyD.nil;go_simp;refine hK.out _ _ trivial (HT.out _ (bel)) (fun _ _=>?_);refine wpAnyD_ready [8] (by decide +kernel) (by simp) ?_;refine AllReadyD.post 8 rfl (by rfl) (fun K9 hK=>?_) AllReadyD.nil;go_simp;refine hK.out _ _ trivial (fun _=>?_);exact wpAnyD_done (by decide +kernel) ⟨rfl,p1,x1,w5,by simp,rfl,hb5,hx1,hn1⟩ _
   ·obtain rfl:k=b.tests.length:=by omega
    have y0:=hI.out.b0;have y1:=hI.out.b1;have y2:=hI.out.b2;have z0:=hI.out.r0;have z1:=hI.out.r1;have z2:=hI.out.r2;have zf0:=hI.out.rf 0;have zf1:=hI.out.rf 1;have zf2:=hI.out.rf 2;go_wp2;have hown:=bR hI.out hsA (.int .i64 b.most) (.slice g1 b.devs.length c1) (.slice g2 b.tests.length c2);exact bodyPost_ret (v:=.agg #[.int .i64 b.most,.slice g1 b.devs.length c1,.slice g2 b.tests.length c2]) (by simp [results,Tryz.results114,go_sem, *]) rfl ⟨_,_,_,_,rfl,hown⟩
 refine wp_region_D (S:=fun _=>True) (T:=fun w'=>w'.cell? ⟨w.heap.size,1,none⟩=some (.slice da b.devs.length dc)/\w'.cell? ⟨w.heap.size,2,none⟩=some (.slice ta b.tests.length tc)) (d:=7) (by kernel_rfl) trivial (HT.out _ (bel)) (fun _ hTd=>?_);refine wpAnyD_take (i:=0) (v:=.pointer (some ⟨w.heap.size,1,none⟩)) rfl (by decide +kernel) (fun _ _ _ h=>by cases h.1) (Or.inl ⟨by rfl,?_⟩) trivial hTd ?_
 ·rintro w5 ⟨_,s1,s2⟩;go_simp
 refine wpAnyD_take (i:=1) (v:=.slice da b.devs.length dc) rfl (by decide +kernel) (fun _ _ _ h=>by cases h.1) (Or.inl ⟨by rfl,?_⟩) trivial hTd ?_
 ·rintro w5 ⟨_,s1,s2⟩;go_simp
 refine wpAnyD_take (i:=3) (v:=.pointer (some ⟨w.heap.size,2,none⟩)) rfl (by decide +kernel) (fun _ _ _ h=>by cases h.1) (Or.inl ⟨by rfl,?_⟩) trivial hTd ?_
 ·rintro w5 ⟨_,s1,s2⟩;go_simp
 refine wpAnyD_take (i:=4) (v:=.slice ta b.tests.length tc) rfl (by decide +kernel) (fun _ _ _ h=>by cases h.1) (Or.inl ⟨by rfl,?_⟩) trivial hTd ?_
 ·rintro w5 ⟨_,s1,s2⟩;go_simp
 refine wpAnyD_ready [2] (by decide +kernel) (by simp) ?_;refine AllReadyD.pre 2 rfl (fun K9 hK=>?_) AllReadyD.nil;go_simp;refine (HCD.out _ (bel)).mono ?_;rintro e w1 ⟨g1,c1,rfl,hl1,hr1,hb1⟩;have hr1:=hr1.low (w:=A) (by simp);have hb1:Below A.heap.size A w1:=bel
 try go_simp
 refine hK.out _ _ trivial (HT.out _ (bel)) (fun _ hTe=>?_);refine wpAnyD_take (i:=6) (v:=.pointer (some ⟨w.heap.size,1,none⟩)) rfl (by decide +kernel) (fun _ _ _ h=>by cases h.1) (Or.inl ⟨by rfl,?_⟩) trivial hTe ?_
 ·rintro w5 ⟨_,s1,s2⟩;go_simp
 refine wpAnyD_ready [5] (by decide +kernel) (by simp) ?_;refine AllReadyD.pre 5 rfl (fun K9 hK=>?_) AllReadyD.nil;go_simp;refine (HCT.out _ hb1).mono ?_;rintro e w2 ⟨g2,c2,rfl,hl2,hr2,hb2⟩;have hne:0 < b.devs.length->0 < b.tests.length->g1≠g2:=fun h1 h2 e=>by
  obtain ⟨q1,k1,_,k2,_⟩:=hr1 h1;obtain ⟨q2,k3,k4,_⟩:=hr2 h2;rw [k1,k3] at e;injection e with e;injection e with e;omega
 have hr1:=hr1.below hb2;have hr2:=hr2.low (w:=A) hb1.size;have hb2:Below A.heap.size A w2:=bel;obtain ⟨u1,u2⟩:=HT.out _ hb2;have z1:=HZ.out _ hb2 1;have z2:=HZ.out _ hb2 2
 try go_simp
 refine hK.out _ _ trivial (HT.out _ (bel)) (fun _ _=>?_);refine wpAnyD_ready [7] (by decide +kernel) (by simp) ?_;refine AllReadyD.post 7 rfl (by rfl) (fun K9 hK=>?_) AllReadyD.nil;go_simp;refine hK.out _ _ trivial (fun _=>?_);refine wpAnyD_ready [8] (by decide +kernel) (by simp) ?_;refine AllReadyD.post 8 rfl (by rfl) (fun K9 hK=>?_) AllReadyD.nil;go_simp;refine hK.out _ _ trivial (fun _=>?_);refine wpAnyD_ready [9] (by decide +kernel) (by simp) ?_;refine AllReadyD.post 9 rfl (by rfl) (fun K9 hK=>?_) AllReadyD.nil;go_simp;refine hK.out _ _ trivial (fun _=>?_);exact wpAnyD_done (by decide +kernel) ⟨rfl,g1,c1,g2,c2,w2,by simp,rfl,hb2,hr1,hr2,hne⟩ _
end
attribute [local go_sem] Oper.semAt_some
theorem aD {w w1:World} {o1:Obj} {T:TypeId} (hb:Below ((w.alloc o1).alloc (.cells #[.int .i64 0,.slice none 0 0,.slice none 0 0] T)).heap.size ((w.alloc o1).alloc (.cells #[.int .i64 0,.slice none 0 0,.slice none 0 0] T)) w1) :
 w.heap.size+1 < w1.heap.size/\(∀ o,(w1.alloc o).cell? ⟨w.heap.size+1,0,none⟩=some (.int .i64 0))/\(∀ o,(w1.alloc o).cell? ⟨w.heap.size+1,1,none⟩=some (.slice none 0 0))/\(∀ o,(w1.alloc o).cell? ⟨w.heap.size+1,2,none⟩=some (.slice none 0 0))/\(∀ o k,(w1.alloc o).frozen? ⟨w.heap.size+1,k,none⟩=false)/\w1.cell? ⟨w.heap.size+1,0,none⟩=some (.int .i64 0)/\w1.cell? ⟨w.heap.size+1,1,none⟩=some (.slice none 0 0)/\w1.cell? ⟨w.heap.size+1,2,none⟩=some (.slice none 0 0)/\∀ k,w1.frozen? ⟨w.heap.size+1,k,none⟩=false:=by
 have hs1:w.heap.size+1 < w1.heap.size:=by have:=hb.size;simp at this;omega
 have hw:∀ k u,(#[.int .i64 0,.slice none 0 0,.slice none 0 0]:Array Value)[k]? = some u->w1.cell? ⟨w.heap.size+1,k,none⟩=some u:=fun k u hk=>by
  rw [hb.cell (p:=⟨w.heap.size+1,k,none⟩) (by simp),World.cell?_alloc_at _ _ _ _ (by simp)];exact hk
 have hc:∀ k u,(#[.int .i64 0,.slice none 0 0,.slice none 0 0]:Array Value)[k]? = some u->∀ o,(w1.alloc o).cell? ⟨w.heap.size+1,k,none⟩=some u:=fun k u hk o=>by
  rw [World.cell?_alloc_past _ _ _ (by simpa using hs1),hb.cell (p:=⟨w.heap.size+1,k,none⟩) (by simp),World.cell?_alloc_at _ _ _ _ (by simp)];exact hk
 exact ⟨hs1,hc 0 _ rfl,hc 1 _ rfl,hc 2 _ rfl,fun o k=>by rw [World.frozen?_alloc_past _ _ _ (by simpa using hs1),hb.frozen (p:=⟨w.heap.size+1,k,none⟩) (by simp),World.frozen?_alloc_at _ _ _ _ (by simp)],hw 0 _ rfl,hw 1 _ rfl,hw 2 _ rfl,fun k=>by rw [hb.frozen (p:=⟨w.heap.size+1,k,none⟩) (by simp),World.frozen?_alloc_at _ _ _ _ (by simp)]⟩
theorem aI {w w1:World} {x y z:Value} {o:Obj} {T:TypeId} (hb:Below ((w.alloc (.cells #[x,y,z] T)).alloc o).heap.size ((w.alloc (.cells #[x,y,z] T)).alloc o) w1) :
 w1.cell? ⟨w.heap.size,0,none⟩=some x/\w1.cell? ⟨w.heap.size,1,none⟩=some y/\w1.cell? ⟨w.heap.size,2,none⟩=some z/\(∀ o',(w1.alloc o').cell? ⟨w.heap.size,0,none⟩=some x)/\(∀ o',(w1.alloc o').cell? ⟨w.heap.size,1,none⟩=some y)/\∀ o',(w1.alloc o').cell? ⟨w.heap.size,2,none⟩=some z:=by
 have hs:w.heap.size < w1.heap.size:=by have:=hb.size;simp at this;omega
 have hw:∀ k u,(#[x,y,z]:Array Value)[k]? = some u->w1.cell? ⟨w.heap.size,k,none⟩=some u:=fun k u hk=>by
  rw [hb.cell (p:=⟨w.heap.size,k,none⟩) (by simp;omega),World.cell?_alloc_past _ _ _ (by simp),World.cell?_alloc_at _ _ _ _ rfl];exact hk
 exact ⟨hw 0 _ rfl,hw 1 _ rfl,hw 2 _ rfl,fun o'=>(World.cell?_alloc_past _ _ _ (by simpa using hs)).trans (hw 0 _ rfl),fun o'=>(World.cell?_alloc_past _ _ _ (by simpa using hs)).trans (hw 1 _ rfl),fun o'=>(World.cell?_alloc_past _ _ _ (by simpa using hs)).trans (hw 2 _ rfl)⟩
section
variable {b:Fbk} {vm vd vt:Value} {w:World}
theorem bS (hB:FBookAt w b vm vd vt) (hN:∀ m∈b.devs,m.name.size<=1000000) (hA:ActsAt w) {t:Int} (h:openAl b 0=t) (h0:t≠0) :
 Calls Mz.prog 116 #[.agg #[vm,vd,vt]] w fun e w'=>e=.returned (.tuple #[.agg #[.int .i64 0,.slice none 0 0,.slice none 0 0],.int .i64 t])/\Below w.heap.size w w':=by
 have HB:=Hh hB;have HN:=Hh hN;have HA:=Hh hA;have H:=Hh h;have hz3:(t != 0)=true:=by simpa using h0
 obtain ⟨rfl,⟨da,dc,rfl,_,_⟩,ta,tc,rfl,_,_⟩:=hB;clear hN h hA
 go_enter (mz_func (i:=116) rfl Tryz.func116),Tryz.ntmps116
 go_wp2_with (go_at_call 64;(with_reducible refine (open_no (HB.out.below (bel)) HN.out (HA.out.below (bel)) (fun _ _=>mz_call84 _ _) nothingC H.out h0).mono ?_);rintro e w1 ⟨rfl,hb1⟩;obtain ⟨hs1,z0,z1,z2,f0,y0,y1,y2,f1⟩:=aD hb1);exact bodyPost_ret (v:=.tuple #[.agg #[.int .i64 0,.slice none 0 0,.slice none 0 0],.int .i64 t]) (by simp [results,Tryz.results116,go_sem, *]) rfl ⟨rfl,bel⟩
theorem bT (hB:FBookAt w b vm vd vt) (hN:∀ m∈b.devs,m.name.size<=1000000) (hA:ActsAt w) (h:openAl b 0=0) :
 Calls Mz.prog 116 #[.agg #[vm,vd,vt]] w fun e w'=>e=.returned (.tuple #[.agg #[vm,vd,vt],.int .i64 0])/\Below w.heap.size w w':=by
 have HB:=Hh hB;have HN:=Hh hN;have HA:=Hh hA;have H:=Hh h;obtain ⟨rfl,⟨da,dc,rfl,_,_⟩,ta,tc,rfl,_,_⟩:=hB;clear hN h hA
 go_enter (mz_func (i:=116) rfl Tryz.func116),Tryz.ntmps116
 go_wp2_with (go_at_call 64;(with_reducible refine (open_ok (HB.out.below (bel)) HN.out (HA.out.below (bel)) (fun _ _=>mz_call84 _ _) nothingC H.out).mono ?_);rintro e w1 ⟨la,lc,rfl,hst,hb1⟩;clear hst;obtain ⟨hs1,z0,z1,z2,f0,y0,y1,y2,f1⟩:=aD hb1;obtain ⟨u0,u1,u2,u3,u4,u5⟩:=aI hb1);exact bodyPost_ret (v:=.tuple #[.agg #[.int .i64 b.most,.slice da b.devs.length dc,.slice ta b.tests.length tc],.int .i64 0]) (by simp [results,Tryz.results116,go_sem, *]) rfl ⟨rfl,bel⟩
end
attribute [local go_sem] Oper.semAt_some
section
variable {b:Fbk} {vm vd vt:Value} {w:World}
theorem bV (hB:FBookAt w b vm vd vt) (hN:∀ m∈b.devs,m.name.size<=1000000) (hb:bookAl b=0) {i:Nat} (hi:i < b.tests.length) (hs:b.tests[i].seen≠0) (r:Bool) :
 Calls Mz.prog 61 #[.agg #[vm,vd,vt],.int .i64 (i:Int),.bool r] w fun e w'=>e=.returned (.tuple #[.agg #[.int .i64 0,.slice none 0 0,.slice none 0 0],.int .i64 5])/\Below w.heap.size w w':=by
 have HB:=Hh hB;have HN:=Hh hN;have H0:=Hh hb;have h20:=(testsAl_ok (bookAl_ok hb).2).1;have hiI:(i:Int) < (b.tests.length:Int):=by omega
 obtain ⟨rfl,⟨da,dc,rfl,_,_⟩,ta,tc,rfl,hT,_⟩:=hB;obtain ⟨tb,to,rfl,htb,pa,pc,_,_,_,_,hseen⟩:=hT i hi;have hwr:IntKind.i64.wrap ((b.tests.length:Int) - 1)=(b.tests.length:Int) - 1:=IntWalk.i64_in _ (by omega);have hin:inB (i:Int) 0 ((b.tests.length:Int) - 1)=true:=by unfold inB;simp;omega
 have hne:(b.tests[i].seen != 0)=true:=by simpa using hs
 have HIN:=Hh (fun W=>inside_any (i:Int) 0 ((b.tests.length:Int) - 1) W);rw [hin] at HIN;clear hN hb hT hs hin
 go_enter (mz_func (i:=61) rfl Tryz.func61),Tryz.ntmps61
 go_wp2_with (first
  | (go_at_call 78;(with_reducible refine (checkBook_at (HB.out.below (bel)) HN.out H0.out).mono ?_);rintro e w1 ⟨rfl,hb1⟩;obtain ⟨hs1,z0,z1,z2,f0,y0,y1,y2,f1⟩:=aD hb1;obtain ⟨u0,u1,u2,u3,u4,u5⟩:=aI hb1;have hc1:w1.cell? ⟨tb,to+i * 2+1,none⟩=some (.int .i64 b.tests[i].seen):=(hb1.cell (p:=⟨tb,to+i * 2+1,none⟩) (by simp;omega)).trans (by rw [World.cell?_alloc_past _ _ _ (by simp;omega),World.cell?_alloc_past _ _ _ htb];exact hseen))
  | (go_at_call 119;(with_reducible refine (HIN.out _).mono ?_);rintro e w2 ⟨rfl,rfl⟩))
 exact bodyPost_ret (v:=.tuple #[.agg #[.int .i64 0,.slice none 0 0,.slice none 0 0],.int .i64 5]) (by simp [results,Tryz.results61,go_sem, *]) rfl ⟨rfl,bel⟩
end
end Mt
end Go.Proofs.YtgkajecjbflbbaaGreatDoor
