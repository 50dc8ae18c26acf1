/- Leads to StoreReal of chapter 6: D3 U1 G5 U2 U3 U4 RF0 RL0. -/
import Derived.Test.YtjdmplhdebgbjaaGreatDoorJ41
import Derived.Maps.OwnIn
set_option maxHeartbeats 6000000
set_option maxRecDepth 100000
set_option linter.all false
namespace Go.Proofs.YtjdmplhdebgbjaaGreatDoor
open Go.RowKit Go.Maps Sp
attribute [local go_sem] Oper.semAt_some
def sureL (b:Bk) (l:List (List Int)) (pre:List Prt):List Prt:=pre.filter fun p=>decide (sayD b l p=1)
def canL (b:Bk) (l:List (List Int)) (pre:List Prt):List Prt:=pre.filter fun p=>decide (sayD b l p≠2)
theorem sayD_three (b:Bk) (l:List (List Int)) (p:Prt):sayD b l p=0∨sayD b l p=1∨sayD b l p=2:=by
 unfold sayD sayI;split
 ·exact .inr (.inr rfl)
 ·split
  ·exact .inr (.inl rfl)
  ·exact .inl rfl
section
variable {b:Bk} {vr vg vm vs vc:Value}
structure DblJ (w W1:World) (X5:Nat) (b:Bk) (vr vg vm vs vc:Value) (la:Option Addr) (lc:Nat) (l:List (List Int)) (pre:List Prt) (A:World):Prop where
 five:Five A X5 vr vg vm vs vc
 c:A.cell? ⟨X5+1,0,none⟩=some (.slice la l.length lc)
 out:∃ a2 c2 a3 c3,A.cell? ⟨w.heap.size+1,0,none⟩=some (.slice a2 (sureL b l pre).length c2)/\A.frozen? ⟨w.heap.size+1,0,none⟩=false/\A.cell? ⟨w.heap.size+2,0,none⟩=some (.slice a3 (canL b l pre).length c3)/\A.frozen? ⟨w.heap.size+2,0,none⟩=false /\
  A.ownsRow (W1.heap.size+2) 34 2 (.slice a2 (sureL b l pre).length c2) (sureL b l pre).length ((sureL b l pre).flatMap cellsQ)/\A.ownsRow (W1.heap.size+2) 34 2 (.slice a3 (canL b l pre).length c3) (canL b l pre).length ((canL b l pre).flatMap cellsQ) /\
  ∀ g,(Value.slice a2 (sureL b l pre).length c2).ownBlock=some g->(Value.slice a3 (canL b l pre).length c3).ownBlock≠some g
 ks:KS (fun k=>k < W1.heap.size/\k≠w.heap.size+1/\k≠w.heap.size+2) W1 A
 lt:W1.heap.size+2<=A.heap.size
theorem DblJ.keep {w W1 A B:World} {X5:Nat} {la:Option Addr} {lc:Nat} {l:List (List Int)} {pre:List Prt} (h:DblJ w W1 X5 b vr vg vm vs vc la lc l pre A) (hX:X5+2=W1.heap.size) (hw:w.heap.size+3<=X5) {p:Nat->Prop} (hk:KS p A B) (hp:∀ k,k < W1.heap.size∨W1.heap.size+2<=k->p k):DblJ w W1 X5 b vr vg vm vs vc la lc l pre B:=by
 obtain ⟨h1,h2,⟨a2,c2,a3,c3,h3,h4,h5,h6,h7,h8,h9⟩,h10,h11⟩:=h;have e:∀ o,B.cell? ⟨X5,o,none⟩=A.cell? ⟨X5,o,none⟩:=fun o=>hk.cell (x:=⟨X5,o,none⟩) (by simp;omega) (hp _ (.inl (by simp;omega)));refine ⟨⟨(e 0).trans h1.c0,(e 1).trans h1.c1,(e 2).trans h1.c2,(e 3).trans h1.c3,(e 4).trans h1.c4,Nat.lt_of_lt_of_le h1.lt hk.size⟩,(hk.cell (x:=⟨X5+1,0,none⟩) (by simp;omega) (hp _ (.inl (by simp;omega)))).trans h2,
  ⟨a2,c2,a3,c3,(hk.cell (x:=⟨w.heap.size+1,0,none⟩) (by simp;omega) (hp _ (.inl (by simp;omega)))).trans h3,(hk.frozen (x:=⟨w.heap.size+1,0,none⟩) (by simp;omega) (hp _ (.inl (by simp;omega)))).trans h4,
    (hk.cell (x:=⟨w.heap.size+2,0,none⟩) (by simp;omega) (hp _ (.inl (by simp;omega)))).trans h5,(hk.frozen (x:=⟨w.heap.size+2,0,none⟩) (by simp;omega) (hp _ (.inl (by simp;omega)))).trans h6,
    ownsRow_ks h7 hk fun k hk=>hp k (.inr hk),ownsRow_ks h8 hk fun k hk=>hp k (.inr hk),h9⟩,
  h10.trans (hk.mono fun k _ hk=>hp k (.inl hk.1)),Nat.le_trans h11 hk.size⟩
def DblMid (w W1:World) (X5:Nat) (b:Bk) (vr vg vm vs vc:Value) (la:Option Addr) (lc:Nat) (l:List (List Int)) (pre:List Prt) (x:Prt) (a:Act) (A:World):Prop :=
 ∃ B,W1.heap.size+2<=B/\B < A.heap.size/\A.cell? ⟨B,0,none⟩=some (.int .i64 x.1)/\A.cell? ⟨B,1,none⟩=some (.int .i64 x.2)/\(∀ a2 c2,A.cell? ⟨w.heap.size+1,0,none⟩=some (.slice a2 (sureL b l pre).length c2)->∀ g,(Value.slice a2 (sureL b l pre).length c2).ownBlock=some g->g≠B)/\(∀ a3 c3,A.cell? ⟨w.heap.size+2,0,none⟩=some (.slice a3 (canL b l pre).length c3)->∀ g,(Value.slice a3 (canL b l pre).length c3).ownBlock=some g->g≠B) /\
  a={ tmps:=#[.agg #[vr,vg,vm,vs,vc],.pointer (some ⟨w.heap.size,0,none⟩),.pointer (some ⟨(w.heap.size+1),0,none⟩),.pointer (some ⟨(w.heap.size+2),0,none⟩),.int .i64 0,.pointer (some ⟨X5,0,none⟩),.pointer (some ⟨(X5+1),0,none⟩),.pointer (some ⟨B,0,none⟩),.tuple #[.agg #[vr,vg,vm,vs,vc],.slice la l.length lc,.int .i64 0],.agg #[vr,vg,vm,vs,vc],.tuple #[.agg #[vr,vg,vm,vs,vc],.slice la l.length lc,.int .i64 0],.agg #[vr,vg,vm,vs,vc],.slice la l.length lc,.int .i64 0,.int .i64 0,.bool false,U,.agg #[vr,vg,vm,vs,vc],.func (.func 53) #[.agg #[vr,vg,vm,vs,vc]] #[],.agg #[.int .i64 x.1,.int .i64 x.2],U,U,U,U,U,U,U,U,U,U,U,U,U,U,U,U,U,U,U,U,U,U,U,U,U,U],defers:=[] }/\DblJ w W1 X5 b vr vg vm vs vc la lc l pre A
def DblOut (w:World) (b:Bk) (l:List (List Int)) (e:Ending) (w':World):Prop:=∃ a2 c2 a3 c3,e=.returned (.tuple #[.slice a2 (sureL b l (partsL b)).length c2,.slice a3 (canL b l (partsL b)).length c3,.int .i64 0])/\PartsAt w' a2 (sureL b l (partsL b))/\PartsAt w' a3 (canL b l (partsL b))/\Below w.heap.size w w'
theorem doubles_ok {w:World} (hB:BookAt w b vr vg vm vs vc) (hN:∀ m∈b.ms,m.name.size<=1000000) (hK:KindsAt w) (ht:openAl b 0=0) :
 Calls Tryz.prog 15 #[.agg #[vr,vg,vm,vs,vc]] w (DblOut w b (pasts b)):=by
 obtain ⟨r0,r1,r2,r3,r4,r5,r6,r7,r8,r9,r10,r11,hcode⟩:=dBody_eq;refine (callsIn_wide (n:=0)).1 (callsIn_of_wp_marks Tryz.func15 rfl trivial (wpIn_wide.2 ?_) rfl);have HB:=Hh hB;have HN:=Hh hN;have HK:=Hh hK;obtain ⟨hk,hpt,hps⟩:=openAl_ok ht;have hbo:=(bookAl_ok hk).1;have HO:=Hh hbo;have HBA:=Hh hk;have HPS:=Hh hps;have hpl:=pasts_le hbo;have HPC:=Hh (fun x (hx:x∈pasts b)=>pasts_came hbo hx);obtain ⟨rfl,rfl,⟨ma,mc,rfl,_,_⟩,⟨sa,sc,rfl,_,_⟩,ra,rc,rfl,_,_⟩:=id hB;clear hB hN hK ht hk hpt hps hbo;simp only [Tryz.ntmps15,List.size_toArray,List.length_cons,List.length_nil,Nat.reduceAdd,Nat.reduceSub,Array.replicate_succ,Array.replicate_zero,List.push_toArray,List.append_toArray,List.nil_append,List.cons_append];go_wp2_with (go_at_call 39;(with_reducible refine (open_nothing_ok (HB.out.below (bel)) HN.out (HK.out.below (bel)) (al:=0) (fun hk W hW=>nothing_any _ _ _ _ _ _) HBA.out rfl HPS.out).mono ?_);rintro e w3 ⟨la,rfl,hrow,hb3⟩;obtain ⟨la,lc,rfl⟩:=ownsRow_slice hrow;have HCM:=Hh (cames_of_row hrow);have HGE:=Hh (row_ge hrow);clear hrow;obtain ⟨hc3,hf3⟩:=bcell hb3;have hz3:=hb3.size;(try simp at hz3));obtain ⟨W1,hW1⟩:∃ W1,W1=(w3.alloc (.cells #[.int .i64 b.room,.int .i64 b.gap,.slice ma b.ms.length mc,.slice sa b.ss.length sc,.slice ra b.rs.length rc] 93)).alloc (.cells #[.slice la (pasts b).length lc] 94):=⟨_,rfl⟩;rw [← hW1];have hb31:Below w3.heap.size w3 W1:=by rw [hW1];(exact bel)
 have hs1:W1.heap.size=w3.heap.size+1+1:=by rw [hW1];simp
 have hb1:Below w.heap.size w W1:=by rw [hW1];(exact bel)
 have y2:W1.cell? ⟨w.heap.size+1,0,none⟩=some (.slice none 0 0):=by
  refine (hb31.cell (p:=⟨w.heap.size+1,0,none⟩) (by simp;omega)).trans ((hb3.cell (p:=⟨w.heap.size+1,0,none⟩) (by simp)).trans ?_);rw [World.cell?_alloc_past _ _ _ (by simp),alloc1_cell (by simp)]
 have y3:W1.frozen? ⟨w.heap.size+1,0,none⟩=false:=by
  refine (hb31.frozen (p:=⟨w.heap.size+1,0,none⟩) (by simp;omega)).trans ((hb3.frozen (p:=⟨w.heap.size+1,0,none⟩) (by simp)).trans ?_);rw [World.frozen?_alloc_past _ _ _ (by simp),World.frozen?_alloc_at _ _ _ _ (by simp)]
 have y4:W1.cell? ⟨w.heap.size+2,0,none⟩=some (.slice none 0 0):=by
  refine (hb31.cell (p:=⟨w.heap.size+2,0,none⟩) (by simp;omega)).trans ((hb3.cell (p:=⟨w.heap.size+2,0,none⟩) (by simp)).trans ?_);rw [alloc1_cell (by simp)]
 have y5:W1.frozen? ⟨w.heap.size+2,0,none⟩=false:=by
  refine (hb31.frozen (p:=⟨w.heap.size+2,0,none⟩) (by simp;omega)).trans ((hb3.frozen (p:=⟨w.heap.size+2,0,none⟩) (by simp)).trans ?_);rw [World.frozen?_alloc_at _ _ _ _ (by simp)]
 have hX:w3.heap.size+2=W1.heap.size:=by omega
 have hw3:w.heap.size+3<=w3.heap.size:=by omega
 have HCW:=Hh (HCM.out.below hb31);have hge3:∀ y,la=some y->w.heap.size+3<=y.block:=fun y e=>by have:=HGE.out y e;simp at this;omega
 have HG3:=Hh hge3;have hj1:∀ W,Below W1.heap.size W1 W->W.heap.size=W1.heap.size+1+1->DblJ w W1 w3.heap.size b (.int .i64 b.room) (.int .i64 b.gap) (.slice ma b.ms.length mc) (.slice sa b.ss.length sc) (.slice ra b.rs.length rc) la lc (pasts b) [] W:=by
  intro W hW hsz;have five:=(Five.new w3 (.int .i64 b.room) (.int .i64 b.gap) (.slice ma b.ms.length mc) (.slice sa b.ss.length sc) (.slice ra b.rs.length rc) 93).below (bal _ (.cells #[.slice la (pasts b).length lc] 94)) (by simp);rw [← hW1] at five;refine ⟨five.below hW (by omega),?_,⟨none,0,none,0,(hW.cell (p:=⟨w.heap.size+1,0,none⟩) (by simp;omega)).trans y2,(hW.frozen (p:=⟨w.heap.size+1,0,none⟩) (by simp;omega)).trans y3,(hW.cell (p:=⟨w.heap.size+2,0,none⟩) (by simp;omega)).trans y4,(hW.frozen (p:=⟨w.heap.size+2,0,none⟩) (by simp;omega)).trans y5,by simpa [sureL] using World.ownsRow_nil _ _ _ _,by simpa [canL] using World.ownsRow_nil _ _ _ _,fun g hg=>by cases hg⟩,KS.all hW _,by omega⟩;refine (hW.cell (p:=⟨w3.heap.size+1,0,none⟩) (by simp;omega)).trans ?_;rw [hW1,alloc1_cell (by simp)]
 have HJ1:=Hh hj1;have HB1:=Hh hb1;have HX:=Hh hX;have hle1:w3.heap.size+2<=W1.heap.size:=by omega
 have hle2:W1.heap.size<=w3.heap.size+2:=by omega
 clear hX hs1 hj1 hW1 hc3 hf3 hb3 hb31 y2 y3 y4 y5 hge3 hb1 hz3;refine wpIn_wide.1 (wpIn_range (gf:=53) (recv:=.agg #[.int .i64 b.room,.int .i64 b.gap,.slice ma b.ms.length mc,.slice sa b.ss.length sc,.slice ra b.rs.length rc]) rfl (enters_of Tryz.func53 (by kernel_rfl) rfl)
  encP (fun x args W h=>by rw [h];rfl) (partsL b) (fun _=>False) (fun k=>k < w.heap.size) ⟨fun h=>h,fun h=>h⟩ (by omega)
  (fun W hW hsz=>?seq) (DblJ w W1 w3.heap.size b (.int .i64 b.room) (.int .i64 b.gap) (.slice ma b.ms.length mc) (.slice sa b.ss.length sc) (.slice ra b.rs.length rc) la lc (pasts b)) (fun _ _=>False) ?hJ ?hJx ?h0 (DblMid w W1 w3.heap.size b (.int .i64 b.room) (.int .i64 b.gap) (.slice ma b.ms.length mc) (.slice sa b.ss.length sc) (.slice ra b.rs.length rc) la lc (pasts b)) ?hMid ?assign ?body ?done ?stop)
 case seq=>exact parts_iter HB.out HO.out.groups (Below.next HB1.out hW) (fun k hk=>hk)
 case hJ=>exact fun pre A B h hk=>h.keep HX.out hw3 hk fun k hk h=>h.elim id fun h=>by omega
 case hJx=>exact fun _ _ _ h _=>h
 case h0=>exact fun W hW hsz=>HJ1.out W hW hsz
 case hMid =>
  rintro pre x a₁ A B ⟨Bx,h1,h2,c0,c1,q2,q3,ha,hj⟩ hk hsz;refine ⟨Bx,h1,by omega,(hk.cell h2 (by simp;omega)).trans c0,(hk.cell h2 (by simp;omega)).trans c1,fun a2 c2 hc=>q2 a2 c2 ?_,fun a3 c3 hc=>q3 a3 c3 ?_,ha,hj.keep HX.out hw3 hk (by omega)⟩
  ·exact (hk.cell (x:=⟨w.heap.size+1,0,none⟩) (by have:=hj.lt;simp;omega) (by simp;omega)).symm.trans hc
  ·exact (hk.cell (x:=⟨w.heap.size+2,0,none⟩) (by have:=hj.lt;simp;omega) (by simp;omega)).symm.trans hc
 case assign =>
  rintro pre x args A hx rfl hj hlt;have HJ:=Hh hj;clear hj hx;rw [one_param];show Code.wpIn _ _ _ _ _ { tmps:=#[.agg #[.int .i64 b.room,.int .i64 b.gap,.slice ma b.ms.length mc,.slice sa b.ss.length sc,.slice ra b.rs.length rc],.pointer (some ⟨w.heap.size,0,none⟩),.pointer (some ⟨(w.heap.size+1),0,none⟩),.pointer (some ⟨(w.heap.size+2),0,none⟩),.int .i64 0,.pointer (some ⟨w3.heap.size,0,none⟩),.pointer (some ⟨(w3.heap.size+1),0,none⟩),U,.tuple #[.agg #[.int .i64 b.room,.int .i64 b.gap,.slice ma b.ms.length mc,.slice sa b.ss.length sc,.slice ra b.rs.length rc],.slice la (pasts b).length lc,.int .i64 0],.agg #[.int .i64 b.room,.int .i64 b.gap,.slice ma b.ms.length mc,.slice sa b.ss.length sc,.slice ra b.rs.length rc],.tuple #[.agg #[.int .i64 b.room,.int .i64 b.gap,.slice ma b.ms.length mc,.slice sa b.ss.length sc,.slice ra b.rs.length rc],.slice la (pasts b).length lc,.int .i64 0],.agg #[.int .i64 b.room,.int .i64 b.gap,.slice ma b.ms.length mc,.slice sa b.ss.length sc,.slice ra b.rs.length rc],.slice la (pasts b).length lc,.int .i64 0,.int .i64 0,.bool false,U,.agg #[.int .i64 b.room,.int .i64 b.gap,.slice ma b.ms.length mc,.slice sa b.ss.length sc,.slice ra b.rs.length rc],.func (.func 53) #[.agg #[.int .i64 b.room,.int .i64 b.gap,.slice ma b.ms.length mc,.slice sa b.ss.length sc,.slice ra b.rs.length rc]] #[],.agg #[.int .i64 x.1,.int .i64 x.2],U,U,U,U,U,U,U,U,U,U,U,U,U,U,U,U,U,U,U,U,U,U,U,U,U,U],defers:=[] } _
  gi_wp2
  refine ⟨(KS.alloc _ _ _),A.heap.size,HJ.out.lt,by simp,?_,?_,fun a2 c2 hc g hg=>?_,fun a3 c3 hc g hg=>?_,rfl,HJ.out.keep HX.out hw3 (KS.alloc (fun _=>True) _ _) (fun _ _=>trivial)⟩
  ·rw [World.cell?_alloc_at _ _ _ _ rfl];rfl
  ·rw [World.cell?_alloc_at _ _ _ _ rfl];rfl
  ·obtain ⟨a2',c2',_,_,h3,_,_,_,h7,_⟩:=HJ.out.out;have hlt:=HJ.out.lt;rw [World.cell?_alloc_past _ _ _ (by omega),h3] at hc;cases hc;have:=(ownBlock_row h7 g hg).2;omega
  ·obtain ⟨_,_,a3',c3',_,_,h5,_,_,h8,_⟩:=HJ.out.out;have hlt:=HJ.out.lt;rw [World.cell?_alloc_past _ _ _ (by omega),h5] at hc;cases hc;have:=(ownBlock_row h8 g hg).2;omega
 case body =>
  rintro pre x a₁ A hx ⟨Bx,h1,h2,c0,c1,q2,q3,rfl,hj⟩ hlt;have hlen:pre.length < 5000:=by
   obtain ⟨suf,hx⟩:=hx;have:=parts_bd HO.out;rw [hx] at this;simp at this;omega
  have hpx:isPart b x=true:=parts_isPart (by obtain ⟨suf,hx⟩:=hx;rw [hx];simp);have hfive:=hj.five;have hjc:=hj.c;have hlt2:=hj.lt;have hbA:Below w.heap.size w A:=by
   have k:=hj.ks;exact ⟨k.os.trans HB1.out.os,k.tape.trans HB1.out.tape,k.output.trans HB1.out.output,Nat.le_trans HB1.out.size k.size,fun i hi=>(k.block i (by have:=HB1.out.size;omega) ⟨by have:=HB1.out.size;omega,by omega,by omega⟩).trans (HB1.out.block i hi)⟩
  have hcA:CamesAt A la (pasts b):=cames_kept (n:=w.heap.size+3) (p:=fun k=>w.heap.size+3<=k) HCW.out HG3.out (hj.ks.mono fun k hk hq=>⟨hk,by omega,by omega⟩) (fun _ h=>h);have HBA2:=Hh (HB.out.below hbA);obtain ⟨x1,x2⟩:=x
  gi_wp2
  refine wpIn_mono (dbl_6 rfl (w0:=A) HBA2.out HO.out hcA HPC.out (by omega) (Below.refl _ _) hpx hfive hjc (by omega) c0 c1 h2) ?_;rintro e a' w4 ⟨rfl,hb4,v20,v21,v22,v23,v24,v25,v26,rfl⟩;have hJ4:=hj.keep HX.out hw3 (KS.all hb4 (fun _=>True)) (fun _ _=>trivial);have d0:=(hb4.cell (p:=⟨Bx,0,none⟩) h2).trans c0;have d1:=(hb4.cell (p:=⟨Bx,1,none⟩) h2).trans c1;have hs4:=hb4.size;have hB2:Bx < w4.heap.size:=Nat.lt_of_lt_of_le h2 hs4;obtain ⟨a2,c2,a3,c3,o2,f2,o3,f3,r2,r3,hap⟩:=hJ4.out;have b2:=q2 a2 c2 ((hb4.cell (p:=⟨w.heap.size+1,0,none⟩) (by simp;omega)).symm.trans o2);have b3:=q3 a3 c3 ((hb4.cell (p:=⟨w.heap.size+2,0,none⟩) (by simp;omega)).symm.trans o3);have hm2:(sureL b (pasts b) pre).length < 5000:=Nat.lt_of_le_of_lt (List.length_filter_le _ _) hlen;have hm3:(canL b (pasts b) pre).length < 5000:=Nat.lt_of_le_of_lt (List.length_filter_le _ _) hlen;have HJ4:=Hh hJ4;have HB4:=Hh hb4;have hlt4:=hJ4.lt;clear hfive hjc hJ4 hj hb4 hbA hcA c0 c1 q2 q3;rcases sayD_three b (pasts b) (x1,x2) with hs | hs | hs
  ·have e2:sureL b (pasts b) (pre ++ [(x1,x2)])=sureL b (pasts b) pre:=by
    unfold sureL;rw [List.filter_append,List.filter_cons,if_neg (by rw [hs];simp),List.filter_nil,List.append_nil]
   have e3:canL b (pasts b) (pre ++ [(x1,x2)])=canL b (pasts b) pre ++ [(x1,x2)]:=by
    unfold canL;rw [List.filter_append,List.filter_cons,if_pos (by rw [hs];simp),List.filter_nil]
   have E2:=Hh e2;have E3:=Hh e3;rw [hs];obtain ⟨i0,hi,hz0,hz1,hz2⟩:=info_parts partInfo;generalize sureL b (pasts b) pre=l2 at o2 r2 hap b2 hm2 E2;generalize canL b (pasts b) pre=l3 at o3 r3 hap b3 hm3 E3;have R2:=Hh r2;have R3:=Hh r3;have HAP:=Hh hap;clear e2 e3 hs r2 r3 hap
   gi_wp2_with (gi_at_builtin;go_loud (refine wpListIn_append_own_at _ rfl _ _ 53 rfl (W1.heap.size+2) 34 i0 (.agg #[.int .i64 0,.int .i64 0]) 2 16 Tryz.underlying53 hi hz0 hz1 hz2 rfl (by decide) _ _ _ rfl (ownsRow_ks R3.out (KS.alloc (fun _=>True) _ _) (fun _ _=>trivial)) ⟨w4.heap.size,0,none⟩ 1 1 [.int .i64 x1,.int .i64 x2] rfl rfl (cells_new _ _ _) (by simp [Value.oneCell']) (by unfold maxLen;omega) (by omega) (by simp;omega) ?_;intro v' w5 hown' hgrow _ hat;obtain ⟨g',cap',rfl⟩:=ownsRow_succ hown';have hks:=grow_ks (ownsRow_ks R3.out (KS.alloc (fun _=>True) w4 _) (fun _ _=>trivial)) hgrow;have p2:=(hks.cell (x:=⟨w.heap.size+2,0,none⟩) (by simp;omega) (by simp;omega));have p3:=(hks.frozen (x:=⟨w.heap.size+2,0,none⟩) (by simp;omega) (by simp;omega));rw [World.cell?_alloc_past _ _ _ (by omega),o3] at p2;rw [World.frozen?_alloc_past _ _ _ (by omega),f3] at p3))
   have hks3:KS (fun k=>k≠w.heap.size+2) w5 (w5.setCell ⟨w.heap.size+2,0,none⟩ (.slice (some ⟨g',0,none⟩) (l3.length+1) cap')):=KS.setCell (by simp) _ _;have hksA:=KS.alloc (fun _=>True) w4 (.cells #[.int .i64 x1,.int .i64 x2] 34);have hks4:KS (fun k=>k < W1.heap.size+2/\k≠w.heap.size+2) w4 (w5.setCell ⟨w.heap.size+2,0,none⟩ (.slice (some ⟨g',0,none⟩) (l3.length+1) cap')):=(hksA.mono fun _ _ _=>trivial).trans ((hks.mono fun k _ h=>h.1).trans (hks3.mono fun k _ h=>h.2));have hks6:KS (fun k=>(Value.slice a3 l3.length c3).ownBlock≠some k/\k≠w.heap.size+2) w4 (w5.setCell ⟨w.heap.size+2,0,none⟩ (.slice (some ⟨g',0,none⟩) (l3.length+1) cap')):=(hksA.mono fun _ _ _=>trivial).trans (((KS.own (p:=fun k=>(Value.slice a3 l3.length c3).ownBlock≠some k) hgrow fun g hg h=>h hg).mono fun k _ h=>h.1).trans (hks3.mono fun k _ h=>h.2));have hks5:=(KS.all HB4.out (fun k=>k < W1.heap.size+2/\k≠w.heap.size+2)).trans hks4;have h:=HJ4.out;have hsz:=hks4.size;refine ⟨hks5.mono fun k _ h=>⟨by omega,by omega⟩,⟨?_,?_,⟨a2,c2,some ⟨g',0,none⟩,cap',?_,?_,?_,?_,?_,?_,?_⟩,h.ks.trans (hks4.mono fun k _ h=>⟨by omega,h.2.2⟩),by omega⟩⟩
   ·have e:∀ o,(w5.setCell ⟨w.heap.size+2,0,none⟩ (.slice (some ⟨g',0,none⟩) (l3.length+1) cap')).cell? ⟨w3.heap.size,o,none⟩=w4.cell? ⟨w3.heap.size,o,none⟩:=fun o=>hks4.cell (x:=⟨w3.heap.size,o,none⟩) (by simp;omega) (by simp;omega);exact ⟨(e 0).trans h.five.c0,(e 1).trans h.five.c1,(e 2).trans h.five.c2,(e 3).trans h.five.c3,(e 4).trans h.five.c4,by omega⟩
   ·exact (hks4.cell (x:=⟨w3.heap.size+1,0,none⟩) (by simp;omega) (by simp;omega)).trans h.c
   ·rw [E2.out];exact (hks4.cell (x:=⟨w.heap.size+1,0,none⟩) (by simp;omega) (by simp;omega)).trans o2
   ·exact (hks4.frozen (x:=⟨w.heap.size+1,0,none⟩) (by simp;omega) (by simp;omega)).trans f2
   ·rw [E3.out,List.length_append];exact World.cell?_setCell_same' _ _ _ (by rw [p2];rfl)
   ·rw [World.frozen?_setCell];exact p3
   ·rw [E2.out];exact row_keep' R2.out hks6 fun g hg=>⟨HAP.out g hg,by have:=(ownBlock_row R2.out g hg).1;omega⟩
   ·rw [E3.out,List.flatMap_append,List.length_append,List.flatMap_cons,List.flatMap_nil,List.append_nil];exact ownsRow_ks hown' hks3 (fun k hk=>by omega)
   ·rw [E2.out,E3.out,List.length_append];intro g hg hg2;have:=(ownBlock_row R2.out g hg).2;rcases hat with e | e
    ·exact HAP.out g hg (e.symm.trans hg2)
    ·cases e.symm.trans hg2;rw [World.size_alloc] at this;omega
  ·have e2:sureL b (pasts b) (pre ++ [(x1,x2)])=sureL b (pasts b) pre ++ [(x1,x2)]:=by
    unfold sureL;rw [List.filter_append,List.filter_cons,if_pos (by rw [hs];simp),List.filter_nil]
   have e3:canL b (pasts b) (pre ++ [(x1,x2)])=canL b (pasts b) pre ++ [(x1,x2)]:=by
    unfold canL;rw [List.filter_append,List.filter_cons,if_pos (by rw [hs];simp),List.filter_nil]
   have E2:=Hh e2;have E3:=Hh e3;rw [hs];generalize sureL b (pasts b) pre=l2 at o2 r2 hap b2 hm2 E2;generalize canL b (pasts b) pre=l3 at o3 r3 hap b3 hm3 E3;have hT8:∀ {z:World},KS (fun k=>k < W1.heap.size+2∨k=Bx) w4 z->D8T (w.heap.size+1) (w.heap.size+2) Bx a2 l2.length c2 a3 l3.length c3 x1 x2 z:=fun {z} hz =>
    ⟨(hz.cell (x:=⟨w.heap.size+1,0,none⟩) (by simp;omega) (.inl (by simp;omega))).trans o2,(hz.frozen (x:=⟨w.heap.size+1,0,none⟩) (by simp;omega) (.inl (by simp;omega))).trans f2,(hz.cell (x:=⟨w.heap.size+2,0,none⟩) (by simp;omega) (.inl (by simp;omega))).trans o3,(hz.frozen (x:=⟨w.heap.size+2,0,none⟩) (by simp;omega) (.inl (by simp;omega))).trans f3,(hz.cell (x:=⟨Bx,0,none⟩) hB2 (.inr rfl)).trans d0,(hz.cell (x:=⟨Bx,1,none⟩) hB2 (.inr rfl)).trans d1⟩
   have hD:D8 w4 (W1.heap.size+2) (w.heap.size+1) (w.heap.size+2) Bx a2 l2.length c2 a3 l3.length c3 x1 x2:=⟨by omega,by omega,by omega,hm2,hm3,hT8⟩;have hTw:Two w4 (W1.heap.size+2) Bx 34 (.slice a2 l2.length c2) l2.length (l2.flatMap cellsQ) (.slice a3 l3.length c3) l3.length (l3.flatMap cellsQ) w4:=⟨KS.refl _ _,hlt4,r2,r3,hap,b2,b3,hB2⟩;have HD:=Hh hD;have HTw:=Hh hTw;clear e2 e3 hs r2 r3 hap hT8 hD hTw b2 b3 o2 o3 f2 f3 d0 d1
   gi_wp2
   refine wpIn_mono (dbl_8 rfl HD.out HTw.out) ?_;rintro e a' w5 ⟨rfl,hks,g2,k2,g3,k3,p2,p3,p4,p5,s2,s3,hne⟩;have hks5:=(KS.all HB4.out (fun k=>k < W1.heap.size+2/\k≠w.heap.size+1/\k≠w.heap.size+2)).trans hks;have h:=HJ4.out;have hsz:=hks.size;refine ⟨hks5.mono fun k _ h=>⟨by omega,by omega,by omega⟩,⟨?_,?_,⟨some ⟨g2,0,none⟩,k2,some ⟨g3,0,none⟩,k3,?_,p3,?_,p5,?_,?_,?_⟩,h.ks.trans (hks.mono fun k _ h=>⟨by omega,h.2.1,h.2.2⟩),by omega⟩⟩
   ·have e:∀ o,w5.cell? ⟨w3.heap.size,o,none⟩=w4.cell? ⟨w3.heap.size,o,none⟩:=fun o=>hks.cell (x:=⟨w3.heap.size,o,none⟩) (by simp;omega) (by simp;omega);exact ⟨(e 0).trans h.five.c0,(e 1).trans h.five.c1,(e 2).trans h.five.c2,(e 3).trans h.five.c3,(e 4).trans h.five.c4,by omega⟩
   ·exact (hks.cell (x:=⟨w3.heap.size+1,0,none⟩) (by simp;omega) (by simp;omega)).trans h.c
   ·rw [E2.out,List.length_append];exact p2
   ·rw [E3.out,List.length_append];exact p4
   ·rw [E2.out,List.flatMap_append,List.length_append,List.flatMap_cons,List.flatMap_nil,List.append_nil];exact s2
   ·rw [E3.out,List.flatMap_append,List.length_append,List.flatMap_cons,List.flatMap_nil,List.append_nil];exact s3
   ·rintro g hg hg2;cases hg;cases hg2;exact hne rfl
  ·have e2:sureL b (pasts b) (pre ++ [(x1,x2)])=sureL b (pasts b) pre:=by
    unfold sureL;rw [List.filter_append,List.filter_cons,if_neg (by rw [hs];simp),List.filter_nil,List.append_nil]
   have e3:canL b (pasts b) (pre ++ [(x1,x2)])=canL b (pasts b) pre:=by
    unfold canL;rw [List.filter_append,List.filter_cons,if_neg (by rw [hs];simp),List.filter_nil,List.append_nil]
   have E2:=Hh e2;have E3:=Hh e3;rw [hs];clear e2 e3 hs
   gi_wp2
   refine ⟨(KS.all HB4.out _),?_⟩;have h:=HJ4.out;exact ⟨h.five,h.c,by rw [E2.out,E3.out];exact h.out,h.ks,h.lt⟩
 case done =>
  rintro W hj hd;obtain ⟨a2,c2,a3,c3,o2,f2,o3,f3,r2,r3,hap⟩:=hj.out;have hlt2:=hj.lt;have hk:=hj.ks;have HK2:=Hh hk;have R2:=Hh r2;have R3:=Hh r3;have hD:W1.heap.size < W.heap.size:=(Array.getElem?_eq_some_iff.1 hd).1;generalize hl2:sureL b (pasts b) (partsL b)=l2 at o2 R2;generalize hl3:canL b (pasts b) (partsL b)=l3 at o3 R3;have HL2:=Hh hl2;have HL3:=Hh hl3;clear hj hap r2 r3 hk hl2 hl3;go_wp2
  go_region
  go_wp2;obtain ⟨W9,hW9⟩:∃ W9,W9=((W.setCell ⟨w.heap.size+1,0,none⟩ (.slice a2 l2.length c2)).setCell ⟨w.heap.size+1+1,0,none⟩ (.slice a3 l3.length c3)).drew:=⟨_,rfl⟩;rw [← hW9];have k9:KS (fun k=>k≠w.heap.size+1/\k≠w.heap.size+1+1) W W9:=by rw [hW9];exact ((KS.setCell (by simp) _ _).trans (KS.setCell (by simp) _ _)).trans (KS.drew _ _)
  have hd9:W9.heap[W1.heap.size]? = some (.deferred (some [])):=(k9.block _ hD (by omega)).trans hd;have k10:KS (fun k=>k≠W1.heap.size) W9 (W9.putObj W1.heap.size (.deferred none)):=KS.putObj (by simp) _ _;have hs9:=k9.size;have q1:(W9.putObj W1.heap.size (.deferred none)).cell? ⟨w.heap.size+1,0,none⟩=some (.slice a2 l2.length c2):=by
   rw [k10.cell (x:=⟨w.heap.size+1,0,none⟩) (by simp;omega) (by simp;omega),hW9,World.cell?_drew,World.cell?_setCell_other (h:=fun e=>by injection e with e _ _;omega),World.cell?_setCell_same' _ _ _ (by rw [o2];rfl)]
  have q2:(W9.putObj W1.heap.size (.deferred none)).cell? ⟨w.heap.size+1+1,0,none⟩=some (.slice a3 l3.length c3):=by
   rw [k10.cell (x:=⟨w.heap.size+1+1,0,none⟩) (by simp;omega) (by simp;omega),hW9,World.cell?_drew,World.cell?_setCell_same' _ _ _ (by rw [World.cell?_setCell_other (h:=fun e=>by injection e with e _ _;omega),show w.heap.size+1+1=w.heap.size+2 from rfl,o3];rfl)]
  have hbw:Below w.heap.size w (W9.putObj W1.heap.size (.deferred none)):=by
   have h2:=(HK2.out.toBelow (n:=w.heap.size) (by omega) (fun k hk=>by omega));have h3:=(k9.toBelow (n:=w.heap.size) (by omega) (fun k hk=>by omega));have h4:=(k10.toBelow (n:=w.heap.size) (by omega) (fun k hk=>by omega));exact ((HB1.out.trans h2).trans h3).trans h4
  have s2:(W9.putObj W1.heap.size (.deferred none)).ownsRow (W1.heap.size+2) 34 2 (.slice a2 l2.length c2) l2.length (l2.flatMap cellsQ):=ownsRow_ks (ownsRow_ks R2.out k9 (fun k hk=>by omega)) k10 (fun k hk=>by omega);have s3:(W9.putObj W1.heap.size (.deferred none)).ownsRow (W1.heap.size+2) 34 2 (.slice a3 l3.length c3) l3.length (l3.flatMap cellsQ):=ownsRow_ks (ownsRow_ks R3.out k9 (fun k hk=>by omega)) k10 (fun k hk=>by omega);have S2:=Hh s2;have S3:=Hh s3;clear hW9 o2 o3 f2 f3 s2 s3;refine ⟨by simp,.inl ⟨_,_,rfl,run_takeDeferred hd9,?_⟩⟩;refine ⟨.tuple #[.slice a2 l2.length c2,.slice a3 l3.length c3,.int .i64 0],by simp [results,Tryz.results15,go_sem,q1,q2],?_⟩;exact ⟨a2,c2,a3,c3,by rw [HL2.out,HL3.out],by rw [HL2.out];exact parts_of_row S2.out,by rw [HL3.out];exact parts_of_row S3.out,hbw⟩
 case stop=>exact fun _ _ h _=>h.elim
end
theorem hasNum_at {la:Option Addr} {lc n:Nat} {l:List Int} {x:Int} {w:World} {t:Bool} (hL:IntsAt w la l) (hn:n=l.length) (hl:l.length<=1000000) (h:decide (x∈l)=t) :
 Calls Tryz.prog 18 #[.slice la n lc,.int .i64 x] w fun e w'=>e=.returned (.bool t)/\w'=w:=by
 subst hn;have H:=Hh h;clear h;have HP:=Hh hL;clear hL
 go_enter Tryz.func18,Tryz.ntmps18
 go_wp2;go_loop [5] (fun i=>∃ k:Nat,k<=l.length/\i=.int .i64 k/\Hid (x ∉ l.take k)) (fun i=>l.length - (intOf i).toNat)
 case atStart=>exact ⟨0,Nat.zero_le _,rfl,by simp [Hid]⟩
 case round =>
  obtain ⟨k,hk,rfl,hno⟩:=hrel;by_cases hlt:k < l.length
  ·obtain ⟨lb,lo,rfl,hlb,e0⟩:=HP.out k hlt;have htk:=List.take_succ_eq_append_getElem hlt;have hin:l[k]∈l:=List.getElem_mem hlt;generalize l[k]=q at e0 htk hin;have HTK:=Hh htk;have HIN:=Hh hin;clear htk hin;by_cases hq:q=x
   ·subst hq;have ht:t=true:=by rw [← H.out];simpa using HIN.out
    subst ht;go_wp2;go_ret;exact ⟨rfl,rfl⟩
   ·have hd:(q == x)=false:=by simpa using hq
    have hn2:x ∉ l.take (k+1):=by
     rw [HTK.out];simp only [List.mem_append,List.mem_singleton,not_or];exact ⟨hno.out,fun h=>hq h.symm⟩
    have HN:=Hh hn2;clear hq hn2;go_wp2;go_round
    case rel=>exact ⟨k+1,by omega,by go_num,HN.out⟩
    case measure=>simp [intOf];omega
  ·have ht:t=false:=by
    have:=hno.out;rw [List.take_of_length_le (by omega)] at this;rw [← H.out];simpa using this
   subst ht;go_wp2;go_ret;exact ⟨rfl,rfl⟩
end Go.Proofs.YtjdmplhdebgbjaaGreatDoor
namespace Go.Proofs.YtjdmplhdebgbjaaGreatDoor
open Go.RowKit Sp
end Go.Proofs.YtjdmplhdebgbjaaGreatDoor
namespace Go.Proofs.YtjdmplhdebgbjaaGreatDoor
open Go.RowKit Go.Maps Sp
section
variable {w:World} {la:Option Addr} {lc n:Nat} {l:List Int}
end
section
variable {w:World} {la:Option Addr} {lc n:Nat} {l:List Int}
end
section
variable {b:Bk} {vr vg vm vs vc:Value} {w:World} {la:Option Addr} {lc n:Nat} {l:List Int}
end
section
variable {b:Bk} {vr vg vm vs vc:Value} {w:World}
theorem clash_none (hB:BookAt w b vr vg vm vs vc) (hN:∀ m∈b.ms,m.name.size<=1000000) (hK:KindsAt w) (hk:bookAl b=0) (hp:pasts b≠[]) :
 Calls Tryz.prog 16 #[.agg #[vr,vg,vm,vs,vc]] w fun e w'=>e=.returned (.tuple #[.slice none 0 0,.int .i64 0])/\Below w.heap.size w w':=by
 have HB:=Hh hB;have HN:=Hh hN;have HK:=Hh hK;have hbo:=(bookAl_ok hk).1;have HO:=Hh hbo;have HRR:=Hh (bookAl_ok hk).2;have HBA:=Hh hk;have hpos:0 < (pasts b).length:=List.length_pos_iff.2 hp;have hple:=pasts_le hbo;obtain ⟨rfl,rfl,⟨ma,mc,rfl,_,_⟩,⟨sa,sc,rfl,_,_⟩,ra,rc,rfl,_,_⟩:=id hB;clear hB hN hK hk hp hbo
 go_enter Tryz.func16,Tryz.ntmps16
 go_wp2
 go_step3
 go_wp2_with (first
  | (go_at_call 37;(with_reducible refine (checkBook_at (HB.out.below (bel)) HN.out (HK.out.below (bel)) HBA.out).mono ?_);rintro e w3 ⟨rfl,hb3⟩;obtain ⟨hc3,hf3⟩:=bcell hb3;have hz3:=hb3.size;(try simp at hz3))
  | (go_at_call 54;(with_reducible refine (all_at (HB.out.below (bel)) (HK.out.below (bel)) HO.out HRR.out).mono ?_);rintro e w4 ⟨v4,rfl,hr4,hb4⟩;obtain ⟨a4,c4,rfl⟩:=ownsRow_slice hr4;clear hr4;obtain ⟨hc4,hf4⟩:=bcell hb4;have hz4:=hb4.size;(try simp at hz4)))
 try rw [Exit.noGoto_ret]
 exact bodyPost_ret (v:=.tuple #[.slice none 0 0,.int .i64 0]) (by simp [results,Tryz.results16,go_sem, *]) rfl ⟨rfl,bel⟩
def clashQ (b:Bk):List Int:=if pasts b=[] then clashI b else []
theorem clash2_at (hB:BookAt w b vr vg vm vs vc) (hN:∀ m∈b.ms,m.name.size<=1000000) (hK:KindsAt w) (hk:bookAl b=0) (hR:b.rs.length<=5) {q:List Int} (hq:clashQ b=q) :
 Calls Tryz.prog 16 #[.agg #[vr,vg,vm,vs,vc]] w fun e w'=>∃ a c,e=.returned (.tuple #[.slice a q.length c,.int .i64 0])/\IntsAt w' a q/\Below w.heap.size w w':=by
 subst hq;unfold clashQ;by_cases hp:pasts b=[]
 ·rw [if_pos hp];exact clash_ok hB hN hK hk hp hR
 ·rw [if_neg hp];refine (clash_none hB hN hK hk hp).mono ?_;rintro e w' ⟨rfl,hb⟩;exact ⟨none,0,rfl,ints_nil,hb⟩
end
end Go.Proofs.YtjdmplhdebgbjaaGreatDoor
namespace Go.Proofs.YtjdmplhdebgbjaaGreatDoor
open Go.RowKit Go.Maps Sp Mt Go.Conc
variable {B pl iN mN pc xc dc P Q C ec wn:Nat} {b:Bk} {s s2 s3 g u c lo hi gr:Int} {vr vg vm vs vc x:Value} {w w0:World} {pa xa da ea:Option Addr} {q dq sn:List Int} {d:Nat->Value}
section
variable {b:Bk} {vr vg vm vs vc:Value} {w:World}
def cameQ (b:Bk) (p:Prt):Int:=if groupAl b p=0 then sayI (countI (oftenI b (pasts b) p) 1) (pasts b).length else 0
def loQ (b:Bk) (p:Prt):Int:=if groupAl b p=0 then loI b p else 0
def hiQ (b:Bk) (p:Prt):Int:=if groupAl b p=0 then hiI b p else 0
def delQ (b:Bk):List Int:=if openAl b 0=0 then deliveredI b else []
theorem came2_at (hB:BookAt w b vr vg vm vs vc) (hN:∀ m∈b.ms,m.name.size<=1000000) (hK:KindsAt w) (m g:Int) {c u:Int} (hc:cameQ b (m,g)=c) (hu:groupAl b (m,g)=u) :
 Calls Tryz.prog 11 #[.agg #[vr,vg,vm,vs,vc],.int .i64 m,.int .i64 g] w fun e w'=>e=.returned (.tuple #[.int .i64 c,.int .i64 u])/\Below w.heap.size w w':=by
 subst hc hu;unfold cameQ;by_cases h:groupAl b (m,g)=0
 ·rw [if_pos h,h];exact came_ok hB hN hK m g h
 ·rw [if_neg h];exact came_no hB hN hK m g rfl h
theorem copies2_at (hB:BookAt w b vr vg vm vs vc) (hN:∀ m∈b.ms,m.name.size<=1000000) (hK:KindsAt w) (m g:Int) {lo hi u:Int} (hl:loQ b (m,g)=lo) (hh:hiQ b (m,g)=hi) (hu:groupAl b (m,g)=u) :
 Calls Tryz.prog 12 #[.agg #[vr,vg,vm,vs,vc],.int .i64 m,.int .i64 g] w fun e w'=>e=.returned (.tuple #[.agg #[.int .i64 lo,.int .i64 hi],.int .i64 u])/\Below w.heap.size w w':=by
 subst hl hh hu;unfold loQ hiQ;by_cases h:groupAl b (m,g)=0
 ·rw [if_pos h,if_pos h,h];exact copies_api_ok hB hN hK m g h
 ·rw [if_neg h,if_neg h];exact copies_api_no hB hN hK m g rfl h
theorem delivered2_at (hB:BookAt w b vr vg vm vs vc) (hN:∀ m∈b.ms,m.name.size<=1000000) (hK:KindsAt w) {q:List Int} {u:Int} (hq:delQ b=q) (hu:openAl b 0=u) :
 Calls Tryz.prog 13 #[.agg #[vr,vg,vm,vs,vc]] w fun e w'=>∃ a c,e=.returned (.tuple #[.slice a q.length c,.int .i64 u])/\IntsAt w' a q/\Below w.heap.size w w':=by
 subst hq hu;unfold delQ;by_cases h:openAl b 0=0
 ·rw [if_pos h,h];exact delivered_ok hB hN hK h
 ·rw [if_neg h];refine (delivered_no hB hN hK rfl h).mono ?_;rintro e w' ⟨rfl,hb⟩;exact ⟨none,0,rfl,ints_nil,hb⟩
end
end Go.Proofs.YtjdmplhdebgbjaaGreatDoor
namespace Go.Proofs.YtjdmplhdebgbjaaGreatDoor
open Go.RowKit Sp
theorem leastI_le:∀ (l:List Int) (x:Int),leastI x l<=x/\∀ y∈l,leastI x l<=y
 | [],x=>⟨Int.le_refl _,fun y hy=>by cases hy⟩
 | z::l,x=>by
  obtain ⟨h1,h2⟩:=leastI_le l (min x z);have e:leastI x (z::l)=leastI (min x z) l:=rfl;rw [e];refine ⟨by omega,fun y hy=>?_⟩;rcases List.mem_cons.1 hy with rfl | hy
  ·omega
  ·exact h2 y hy
theorem mostJ_ge:∀ (l:List Int) (x:Int),x<=mostJ x l/\∀ y∈l,y<=mostJ x l
 | [],x=>⟨Int.le_refl _,fun y hy=>by cases hy⟩
 | z::l,x=>by
  obtain ⟨h1,h2⟩:=mostJ_ge l (max x z);have e:mostJ x (z::l)=mostJ (max x z) l:=rfl;rw [e];refine ⟨by omega,fun y hy=>?_⟩;rcases List.mem_cons.1 hy with rfl | hy
  ·omega
  ·exact h2 y hy
theorem countD_all (l:List Int) (m:Int):countI l m=(l.length:Int)↔∀ y∈l,m<=y:=by
 unfold countI;rw [show (((l.filter fun k=>decide (m<=k)).length:Nat):Int)=(l.length:Int)↔(l.filter fun k=>decide (m<=k)).length=l.length by omega,List.length_filter_eq_length_iff];simp
theorem countD_none (l:List Int) (m:Int):countI l m=0↔∀ y∈l,y < m:=by
 unfold countI;rw [show (((l.filter fun k=>decide (m<=k)).length:Nat):Int)=0↔(l.filter fun k=>decide (m<=k)).length=0 by omega,List.length_eq_zero_iff,List.filter_eq_nil_iff];simp
section
variable {b:Bk} {x:List Int} {p:Prt}
theorem often_mem (hx:x∈pasts b) (p:Prt):copies b x p∈oftenI b (pasts b) p:=List.mem_map.2 ⟨x,hx,rfl⟩
theorem pasts_pos (hx:x∈pasts b):(0:Int) < ((pasts b).length:Int):=by
 have:=List.length_pos_of_mem hx;omega
theorem real_came (hx:x∈pasts b) (hg:groupAl b p=0):(cameQ b p=1->0 < copies b x p)/\(cameQ b p=2->¬ 0 < copies b x p):=by
 unfold cameQ;rw [if_pos hg];have hl:=count_all (oftenI b (pasts b) p);rw [often_len] at hl;refine ⟨fun h=>hl.1 ((say_one (pasts_pos hx)).1 h) _ (often_mem hx p),fun h=>?_⟩;have:=(count_none _ fun y hy=>by obtain ⟨z,_,rfl⟩:=List.mem_map.1 hy;exact copies_nn b z p).1 (say_two.1 h) _ (often_mem hx p);omega
theorem real_miss (hx:x∈pasts b) (hg:groupAl b p=0) (hp:p∈partsL b):cameQ b p≠1↔p∈missI b:=by
 unfold cameQ;rw [if_pos hg,mem_miss,Ne,say_one (pasts_pos hx)];have hl:=count_all (oftenI b (pasts b) p);rw [often_len] at hl;rw [hl];constructor
 ·intro h;refine ⟨hp,Classical.byContradiction fun hc=>h fun y hy=>?_⟩;obtain ⟨z,hz,rfl⟩:=List.mem_map.1 hy;have h0:=copies_nn b z p;have h1:copies b z p≠0:=fun e=>hc ⟨z,hz,e⟩;omega
 ·rintro ⟨_,z,hz,e⟩ h;have:=h _ (often_mem hz p);omega
theorem real_band (hx:x∈pasts b) (hg:groupAl b p=0):loQ b p<=copies b x p/\copies b x p<=hiQ b p:=by
 unfold loQ hiQ;rw [if_pos hg,if_pos hg,loI_all,hiI_all];exact ⟨(leastI_le _ _).2 _ (often_mem hx p),(mostJ_ge _ _).2 _ (often_mem hx p)⟩
theorem real_sure (hx:x∈pasts b) {l:List Prt} (h:p∈sureL b (pasts b) l):¬ copies b x p < 2:=by
 unfold sureL at h;have h2:=(List.mem_filter.1 h).2;rw [decide_eq_true_iff] at h2;unfold sayD at h2;have h3:=(say_one (pasts_pos hx)).1 h2;have hl:=countD_all (oftenI b (pasts b) p) 2;rw [often_len] at hl;have:=hl.1 h3 _ (often_mem hx p);omega
theorem real_can (hx:x∈pasts b) (hp:p∈partsL b) (h:1 < copies b x p):p∈canL b (pasts b) (partsL b):=by
 unfold canL;refine List.mem_filter.2 ⟨hp,?_⟩;rw [decide_eq_true_iff];unfold sayD;intro h2;have:=(countD_none _ _).1 (say_two.1 h2) _ (often_mem hx p);omega
theorem real_deliv (hx:x∈pasts b) {m:Nat} (h:m < (deliveredI b).length) (hm:m < b.ms.length):((deliveredI b)[m]=1->haveOf b x m=b.ms[m].groups)/\((deliveredI b)[m]=2->¬ haveOf b x m=b.ms[m].groups):=by
 rw [delivered_at2 h];have e:(b.ms[m]?).elim 0 Msg.groups=b.ms[m].groups:=by rw [List.getElem?_eq_getElem hm];rfl
 have hw:wholeI b (pasts b) m=(((pasts b).countP fun y=>decide (haveOf b y m=b.ms[m].groups):Nat):Int):=by
  rw [← wholeK_all];unfold wholeK;rw [List.take_length,e]
 rw [hw];constructor
 ·intro h1;have h2:=(say_one (pasts_pos hx)).1 h1;have h3:(pasts b).countP (fun y=>decide (haveOf b y m=b.ms[m].groups))=(pasts b).length:=by omega
  have:=List.countP_eq_length.1 h3 x hx;exact of_decide_eq_true this
 ·intro h1;have h2:=say_two.1 h1;have h3:(pasts b).countP (fun y=>decide (haveOf b y m=b.ms[m].groups))=0:=by omega
  have:=List.countP_eq_zero.1 h3 x hx;simpa using this
theorem real_thr (hx:x∈pasts b) {i:Nat} (ht:throughAl b (i:Int)=0):x.getD i 0∈thr b (i:Int):=(thr_mem ht _).2 (List.mem_map.2 ⟨x,hx,rfl⟩)
theorem real_clash (hx:x∈pasts b):clashQ b=[]:=by
 unfold clashQ;rw [if_neg fun e=>by rw [e] at hx;cases hx]
theorem part_mem {mN:Nat} {g gr:Int} (hm:mN < b.ms.length) (hgr:b.ms[mN].groups=gr) (h0:0<=g) (h1:g < gr):((mN:Int),g)∈partsL b:=by
 obtain ⟨gN,rfl⟩:∃ n:Nat,g=n:=⟨g.toNat,by omega⟩;unfold partsL partsTo partsOf;refine List.mem_flatMap.2 ⟨mN,List.mem_range.2 hm,List.mem_map.2 ⟨gN,List.mem_range.2 ?_,rfl⟩⟩;rw [List.getElem?_eq_getElem hm];show gN < (b.ms[mN].groups).toNat;rw [hgr];omega
end
theorem fits_at (c:Int) (x:Bool) (w:World) (h1:c=1->x=true) (h2:c=2->x=false) :
 Calls Tryz.prog 19 #[.int .i64 c,.bool x] w fun e w'=>e=.returned (.bool true)/\w'=w:=by
 by_cases e1:c=1
 ·subst e1;obtain rfl:=h1 rfl
  go_enter Tryz.func19,Tryz.ntmps19
  go_wp2;go_ret;exact ⟨rfl,rfl⟩
 ·have b1:(c == 1)=false:=by rw [beq_eq_false_iff_ne];exact e1
  by_cases e2:c=2
  ·subst e2;obtain rfl:=h2 rfl
   go_enter Tryz.func19,Tryz.ntmps19
   go_wp2;go_ret;exact ⟨rfl,rfl⟩
  ·have b2:(c == 2)=false:=by rw [beq_eq_false_iff_ne];exact e2
   clear h1 h2
   go_enter Tryz.func19,Tryz.ntmps19
   go_wp2
   all_goals first
    | contradiction
    | (go_ret;exact ⟨rfl,rfl⟩)
end Go.Proofs.YtjdmplhdebgbjaaGreatDoor

