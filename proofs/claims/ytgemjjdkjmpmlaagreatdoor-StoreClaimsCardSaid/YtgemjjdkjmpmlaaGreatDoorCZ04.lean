/- Leads to StoreClaims of chapter 6: D3 D4 CM4 CZ1. -/
import Derived.Test.YtgemjjdkjmpmlaaGreatDoorCZ03
import Derived.Maps.OwnIn
import Derived.Test.YtgemjjdkjmpmlaaGreatDoorCZ02
set_option maxHeartbeats 16000000
set_option maxRecDepth 100000
set_option linter.all false
namespace Go.Proofs.YtgemjjdkjmpmlaaGreatDoor
open Go.RowKit Go.Maps Sp
attribute [local go_sem] Oper.semAt_some
def sureL (b:Bk) (l:List (List Int)) (pre:List Prt):List Prt:=pre.filter fun p=>decide (sayD b l p=1)
def canL (b:Bk) (l:List (List Int)) (pre:List Prt):List Prt:=pre.filter fun p=>decide (sayD b l p≠2)
theorem sayD_three (b:Bk) (l:List (List Int)) (p:Prt):sayD b l p=0∨sayD b l p=1∨sayD b l p=2:=by
 unfold sayD sayI;split
 ·exact .inr (.inr rfl)
 ·split
  ·exact .inr (.inl rfl)
  ·exact .inl rfl
section
variable {b:Bk} {vr vg vm vs vc:Value}
structure DblJ (w W1:World) (X5:Nat) (b:Bk) (vr vg vm vs vc:Value) (la:Option Addr) (lc:Nat) (l:List (List Int)) (pre:List Prt) (A:World):Prop where
 five:Five A X5 vr vg vm vs vc
 c:A.cell? ⟨X5+1,0,none⟩=some (.slice la l.length lc)
 out:∃ a2 c2 a3 c3,A.cell? ⟨w.heap.size+1,0,none⟩=some (.slice a2 (sureL b l pre).length c2)/\A.frozen? ⟨w.heap.size+1,0,none⟩=false/\A.cell? ⟨w.heap.size+2,0,none⟩=some (.slice a3 (canL b l pre).length c3)/\A.frozen? ⟨w.heap.size+2,0,none⟩=false /\
  A.ownsRow (W1.heap.size+2) 41 2 (.slice a2 (sureL b l pre).length c2) (sureL b l pre).length ((sureL b l pre).flatMap cellsQ)/\A.ownsRow (W1.heap.size+2) 41 2 (.slice a3 (canL b l pre).length c3) (canL b l pre).length ((canL b l pre).flatMap cellsQ) /\
  ∀ g,(Value.slice a2 (sureL b l pre).length c2).ownBlock=some g->(Value.slice a3 (canL b l pre).length c3).ownBlock≠some g
 ks:KS (fun k=>k < W1.heap.size/\k≠w.heap.size+1/\k≠w.heap.size+2) W1 A
 lt:W1.heap.size+2<=A.heap.size
theorem DblJ.keep {w W1 A B:World} {X5:Nat} {la:Option Addr} {lc:Nat} {l:List (List Int)} {pre:List Prt} (h:DblJ w W1 X5 b vr vg vm vs vc la lc l pre A) (hX:X5+2=W1.heap.size) (hw:w.heap.size+3<=X5) {p:Nat->Prop} (hk:KS p A B) (hp:∀ k,k < W1.heap.size∨W1.heap.size+2<=k->p k):DblJ w W1 X5 b vr vg vm vs vc la lc l pre B:=by
 obtain ⟨h1,h2,⟨a2,c2,a3,c3,h3,h4,h5,h6,h7,h8,h9⟩,h10,h11⟩:=h;have e:∀ o,B.cell? ⟨X5,o,none⟩=A.cell? ⟨X5,o,none⟩:=fun o=>hk.cell (x:=⟨X5,o,none⟩) (by simp;omega) (hp _ (.inl (by simp;omega)));refine ⟨⟨(e 0).trans h1.c0,(e 1).trans h1.c1,(e 2).trans h1.c2,(e 3).trans h1.c3,(e 4).trans h1.c4,Nat.lt_of_lt_of_le h1.lt hk.size⟩,(hk.cell (x:=⟨X5+1,0,none⟩) (by simp;omega) (hp _ (.inl (by simp;omega)))).trans h2,
  ⟨a2,c2,a3,c3,(hk.cell (x:=⟨w.heap.size+1,0,none⟩) (by simp;omega) (hp _ (.inl (by simp;omega)))).trans h3,(hk.frozen (x:=⟨w.heap.size+1,0,none⟩) (by simp;omega) (hp _ (.inl (by simp;omega)))).trans h4,
    (hk.cell (x:=⟨w.heap.size+2,0,none⟩) (by simp;omega) (hp _ (.inl (by simp;omega)))).trans h5,(hk.frozen (x:=⟨w.heap.size+2,0,none⟩) (by simp;omega) (hp _ (.inl (by simp;omega)))).trans h6,
    ownsRow_ks h7 hk fun k hk=>hp k (.inr hk),ownsRow_ks h8 hk fun k hk=>hp k (.inr hk),h9⟩,
  h10.trans (hk.mono fun k _ hk=>hp k (.inl hk.1)),Nat.le_trans h11 hk.size⟩
def DblMid (w W1:World) (X5:Nat) (b:Bk) (vr vg vm vs vc:Value) (la:Option Addr) (lc:Nat) (l:List (List Int)) (pre:List Prt) (x:Prt) (a:Act) (A:World):Prop :=
 ∃ B,W1.heap.size+2<=B/\B < A.heap.size/\A.cell? ⟨B,0,none⟩=some (.int .i64 x.1)/\A.cell? ⟨B,1,none⟩=some (.int .i64 x.2)/\(∀ a2 c2,A.cell? ⟨w.heap.size+1,0,none⟩=some (.slice a2 (sureL b l pre).length c2)->∀ g,(Value.slice a2 (sureL b l pre).length c2).ownBlock=some g->g≠B)/\(∀ a3 c3,A.cell? ⟨w.heap.size+2,0,none⟩=some (.slice a3 (canL b l pre).length c3)->∀ g,(Value.slice a3 (canL b l pre).length c3).ownBlock=some g->g≠B) /\
  a={ tmps:=#[.agg #[vr,vg,vm,vs,vc],.pointer (some ⟨w.heap.size,0,none⟩),.pointer (some ⟨(w.heap.size+1),0,none⟩),.pointer (some ⟨(w.heap.size+2),0,none⟩),.int .i64 0,.pointer (some ⟨X5,0,none⟩),.pointer (some ⟨(X5+1),0,none⟩),.pointer (some ⟨B,0,none⟩),.tuple #[.agg #[vr,vg,vm,vs,vc],.slice la l.length lc,.int .i64 0],.agg #[vr,vg,vm,vs,vc],.tuple #[.agg #[vr,vg,vm,vs,vc],.slice la l.length lc,.int .i64 0],.agg #[vr,vg,vm,vs,vc],.slice la l.length lc,.int .i64 0,.int .i64 0,.bool false,U,.agg #[vr,vg,vm,vs,vc],.func (.func 101) #[.agg #[vr,vg,vm,vs,vc]] #[],.agg #[.int .i64 x.1,.int .i64 x.2],U,U,U,U,U,U,U,U,U,U,U,U,U,U,U,U,U,U,U,U,U,U,U,U,U,U],defers:=[] }/\DblJ w W1 X5 b vr vg vm vs vc la lc l pre A
def DblOut (w:World) (b:Bk) (l:List (List Int)) (e:Ending) (w':World):Prop:=∃ a2 c2 a3 c3,e=.returned (.tuple #[.slice a2 (sureL b l (partsL b)).length c2,.slice a3 (canL b l (partsL b)).length c3,.int .i64 0])/\PartsAt w' a2 (sureL b l (partsL b))/\PartsAt w' a3 (canL b l (partsL b))/\Below w.heap.size w w'
theorem doubles_ok {w:World} (hB:BookAt w b vr vg vm vs vc) (hN:∀ m∈b.ms,m.name.size<=1000000) (hK:KindsAt w) (ht:openAl b 0=0) :
 Calls Tryz.prog 55 #[.agg #[vr,vg,vm,vs,vc]] w (DblOut w b (pasts b)):=by
 obtain ⟨r0,r1,r2,r3,r4,r5,r6,r7,r8,r9,r10,r11,hcode⟩:=dBody_eq;refine (callsIn_wide (n:=0)).1 (callsIn_of_wp_marks Tryz.func55 rfl trivial (wpIn_wide.2 ?_) rfl);have HB:=Hh hB;have HN:=Hh hN;have HK:=Hh hK;obtain ⟨hk,hpt,hps⟩:=openAl_ok ht;have hbo:=(bookAl_ok hk).1;have HO:=Hh hbo;have HBA:=Hh hk;have HPS:=Hh hps;have hpl:=pasts_le hbo;have HPC:=Hh (fun x (hx:x∈pasts b)=>pasts_came hbo hx);obtain ⟨rfl,rfl,⟨ma,mc,rfl,_,_⟩,⟨sa,sc,rfl,_,_⟩,ra,rc,rfl,_,_⟩:=id hB;clear hB hN hK ht hk hpt hps hbo;simp only [Tryz.ntmps55,List.size_toArray,List.length_cons,List.length_nil,Nat.reduceAdd,Nat.reduceSub,Array.replicate_succ,Array.replicate_zero,List.push_toArray,List.append_toArray,List.nil_append,List.cons_append];go_wp2_with (go_at_call 66;(with_reducible refine (open_nothing_ok (HB.out.below (bel)) HN.out (HK.out.below (bel)) (al:=0) (fun hk W hW=>nothing_any _ _ _ _ _ _) HBA.out rfl HPS.out).mono ?_);rintro e w3 ⟨la,rfl,hrow,hb3⟩;obtain ⟨la,lc,rfl⟩:=ownsRow_slice hrow;have HCM:=Hh (cames_of_row hrow);have HGE:=Hh (row_ge hrow);clear hrow;obtain ⟨hc3,hf3⟩:=bcell hb3;have hz3:=hb3.size;(try simp at hz3));obtain ⟨W1,hW1⟩:∃ W1,W1=(w3.alloc (.cells #[.int .i64 b.room,.int .i64 b.gap,.slice ma b.ms.length mc,.slice sa b.ss.length sc,.slice ra b.rs.length rc] 111)).alloc (.cells #[.slice la (pasts b).length lc] 112):=⟨_,rfl⟩;rw [← hW1];have hb31:Below w3.heap.size w3 W1:=by rw [hW1];(exact bel)
 have hs1:W1.heap.size=w3.heap.size+1+1:=by rw [hW1];simp
 have hb1:Below w.heap.size w W1:=by rw [hW1];(exact bel)
 have y2:W1.cell? ⟨w.heap.size+1,0,none⟩=some (.slice none 0 0):=by
  refine (hb31.cell (p:=⟨w.heap.size+1,0,none⟩) (by simp;omega)).trans ((hb3.cell (p:=⟨w.heap.size+1,0,none⟩) (by simp)).trans ?_);rw [World.cell?_alloc_past _ _ _ (by simp),alloc1_cell (by simp)]
 have y3:W1.frozen? ⟨w.heap.size+1,0,none⟩=false:=by
  refine (hb31.frozen (p:=⟨w.heap.size+1,0,none⟩) (by simp;omega)).trans ((hb3.frozen (p:=⟨w.heap.size+1,0,none⟩) (by simp)).trans ?_);rw [World.frozen?_alloc_past _ _ _ (by simp),World.frozen?_alloc_at _ _ _ _ (by simp)]
 have y4:W1.cell? ⟨w.heap.size+2,0,none⟩=some (.slice none 0 0):=by
  refine (hb31.cell (p:=⟨w.heap.size+2,0,none⟩) (by simp;omega)).trans ((hb3.cell (p:=⟨w.heap.size+2,0,none⟩) (by simp)).trans ?_);rw [alloc1_cell (by simp)]
 have y5:W1.frozen? ⟨w.heap.size+2,0,none⟩=false:=by
  refine (hb31.frozen (p:=⟨w.heap.size+2,0,none⟩) (by simp;omega)).trans ((hb3.frozen (p:=⟨w.heap.size+2,0,none⟩) (by simp)).trans ?_);rw [World.frozen?_alloc_at _ _ _ _ (by simp)]
 have hX:w3.heap.size+2=W1.heap.size:=by omega
 have hw3:w.heap.size+3<=w3.heap.size:=by omega
 have HCW:=Hh (HCM.out.below hb31);have hge3:∀ y,la=some y->w.heap.size+3<=y.block:=fun y e=>by have:=HGE.out y e;simp at this;omega
 have HG3:=Hh hge3;have hj1:∀ W,Below W1.heap.size W1 W->W.heap.size=W1.heap.size+1+1->DblJ w W1 w3.heap.size b (.int .i64 b.room) (.int .i64 b.gap) (.slice ma b.ms.length mc) (.slice sa b.ss.length sc) (.slice ra b.rs.length rc) la lc (pasts b) [] W:=by
  intro W hW hsz;have five:=(Five.new w3 (.int .i64 b.room) (.int .i64 b.gap) (.slice ma b.ms.length mc) (.slice sa b.ss.length sc) (.slice ra b.rs.length rc) 111).below (bal _ (.cells #[.slice la (pasts b).length lc] 112)) (by simp);rw [← hW1] at five;refine ⟨five.below hW (by omega),?_,⟨none,0,none,0,(hW.cell (p:=⟨w.heap.size+1,0,none⟩) (by simp;omega)).trans y2,(hW.frozen (p:=⟨w.heap.size+1,0,none⟩) (by simp;omega)).trans y3,(hW.cell (p:=⟨w.heap.size+2,0,none⟩) (by simp;omega)).trans y4,(hW.frozen (p:=⟨w.heap.size+2,0,none⟩) (by simp;omega)).trans y5,by simpa [sureL] using World.ownsRow_nil _ _ _ _,by simpa [canL] using World.ownsRow_nil _ _ _ _,fun g hg=>by cases hg⟩,KS.all hW _,by omega⟩;refine (hW.cell (p:=⟨w3.heap.size+1,0,none⟩) (by simp;omega)).trans ?_;rw [hW1,alloc1_cell (by simp)]
 have HJ1:=Hh hj1;have HB1:=Hh hb1;have HX:=Hh hX;have hle1:w3.heap.size+2<=W1.heap.size:=by omega
 have hle2:W1.heap.size<=w3.heap.size+2:=by omega
 clear hX hs1 hj1 hW1 hc3 hf3 hb3 hb31 y2 y3 y4 y5 hge3 hb1 hz3;refine wpIn_wide.1 (wpIn_range (gf:=101) (recv:=.agg #[.int .i64 b.room,.int .i64 b.gap,.slice ma b.ms.length mc,.slice sa b.ss.length sc,.slice ra b.rs.length rc]) rfl (enters_of Tryz.func101 (by kernel_rfl) rfl)
  encP (fun x args W h=>by rw [h];rfl) (partsL b) (fun _=>False) (fun k=>k < w.heap.size) ⟨fun h=>h,fun h=>h⟩ (by omega)
  (fun W hW hsz=>?seq) (DblJ w W1 w3.heap.size b (.int .i64 b.room) (.int .i64 b.gap) (.slice ma b.ms.length mc) (.slice sa b.ss.length sc) (.slice ra b.rs.length rc) la lc (pasts b)) (fun _ _=>False) ?hJ ?hJx ?h0 (DblMid w W1 w3.heap.size b (.int .i64 b.room) (.int .i64 b.gap) (.slice ma b.ms.length mc) (.slice sa b.ss.length sc) (.slice ra b.rs.length rc) la lc (pasts b)) ?hMid ?assign ?body ?done ?stop)
 case seq=>exact parts_iter HB.out HO.out.groups (Below.next HB1.out hW) (fun k hk=>hk)
 case hJ=>exact fun pre A B h hk=>h.keep HX.out hw3 hk fun k hk h=>h.elim id fun h=>by omega
 case hJx=>exact fun _ _ _ h _=>h
 case h0=>exact fun W hW hsz=>HJ1.out W hW hsz
 case hMid =>
  rintro pre x a₁ A B ⟨Bx,h1,h2,c0,c1,q2,q3,ha,hj⟩ hk hsz;refine ⟨Bx,h1,by omega,(hk.cell h2 (by simp;omega)).trans c0,(hk.cell h2 (by simp;omega)).trans c1,fun a2 c2 hc=>q2 a2 c2 ?_,fun a3 c3 hc=>q3 a3 c3 ?_,ha,hj.keep HX.out hw3 hk (by omega)⟩
  ·exact (hk.cell (x:=⟨w.heap.size+1,0,none⟩) (by have:=hj.lt;simp;omega) (by simp;omega)).symm.trans hc
  ·exact (hk.cell (x:=⟨w.heap.size+2,0,none⟩) (by have:=hj.lt;simp;omega) (by simp;omega)).symm.trans hc
 case assign =>
  rintro pre x args A hx rfl hj hlt;have HJ:=Hh hj;clear hj hx;rw [one_param];show Code.wpIn _ _ _ _ _ { tmps:=#[.agg #[.int .i64 b.room,.int .i64 b.gap,.slice ma b.ms.length mc,.slice sa b.ss.length sc,.slice ra b.rs.length rc],.pointer (some ⟨w.heap.size,0,none⟩),.pointer (some ⟨(w.heap.size+1),0,none⟩),.pointer (some ⟨(w.heap.size+2),0,none⟩),.int .i64 0,.pointer (some ⟨w3.heap.size,0,none⟩),.pointer (some ⟨(w3.heap.size+1),0,none⟩),U,.tuple #[.agg #[.int .i64 b.room,.int .i64 b.gap,.slice ma b.ms.length mc,.slice sa b.ss.length sc,.slice ra b.rs.length rc],.slice la (pasts b).length lc,.int .i64 0],.agg #[.int .i64 b.room,.int .i64 b.gap,.slice ma b.ms.length mc,.slice sa b.ss.length sc,.slice ra b.rs.length rc],.tuple #[.agg #[.int .i64 b.room,.int .i64 b.gap,.slice ma b.ms.length mc,.slice sa b.ss.length sc,.slice ra b.rs.length rc],.slice la (pasts b).length lc,.int .i64 0],.agg #[.int .i64 b.room,.int .i64 b.gap,.slice ma b.ms.length mc,.slice sa b.ss.length sc,.slice ra b.rs.length rc],.slice la (pasts b).length lc,.int .i64 0,.int .i64 0,.bool false,U,.agg #[.int .i64 b.room,.int .i64 b.gap,.slice ma b.ms.length mc,.slice sa b.ss.length sc,.slice ra b.rs.length rc],.func (.func 101) #[.agg #[.int .i64 b.room,.int .i64 b.gap,.slice ma b.ms.length mc,.slice sa b.ss.length sc,.slice ra b.rs.length rc]] #[],.agg #[.int .i64 x.1,.int .i64 x.2],U,U,U,U,U,U,U,U,U,U,U,U,U,U,U,U,U,U,U,U,U,U,U,U,U,U],defers:=[] } _
  gi_wp2
  refine ⟨(KS.alloc _ _ _),A.heap.size,HJ.out.lt,by simp,?_,?_,fun a2 c2 hc g hg=>?_,fun a3 c3 hc g hg=>?_,rfl,HJ.out.keep HX.out hw3 (KS.alloc (fun _=>True) _ _) (fun _ _=>trivial)⟩
  ·rw [World.cell?_alloc_at _ _ _ _ rfl];rfl
  ·rw [World.cell?_alloc_at _ _ _ _ rfl];rfl
  ·obtain ⟨a2',c2',_,_,h3,_,_,_,h7,_⟩:=HJ.out.out;have hlt:=HJ.out.lt;rw [World.cell?_alloc_past _ _ _ (by omega),h3] at hc;cases hc;have:=(ownBlock_row h7 g hg).2;omega
  ·obtain ⟨_,_,a3',c3',_,_,h5,_,_,h8,_⟩:=HJ.out.out;have hlt:=HJ.out.lt;rw [World.cell?_alloc_past _ _ _ (by omega),h5] at hc;cases hc;have:=(ownBlock_row h8 g hg).2;omega
 case body =>
  rintro pre x a₁ A hx ⟨Bx,h1,h2,c0,c1,q2,q3,rfl,hj⟩ hlt;have hlen:pre.length < 5000:=by
   obtain ⟨suf,hx⟩:=hx;have:=parts_bd HO.out;rw [hx] at this;simp at this;omega
  have hpx:isPart b x=true:=parts_isPart (by obtain ⟨suf,hx⟩:=hx;rw [hx];simp);have hfive:=hj.five;have hjc:=hj.c;have hlt2:=hj.lt;have hbA:Below w.heap.size w A:=by
   have k:=hj.ks;exact ⟨k.os.trans HB1.out.os,k.tape.trans HB1.out.tape,k.output.trans HB1.out.output,Nat.le_trans HB1.out.size k.size,fun i hi=>(k.block i (by have:=HB1.out.size;omega) ⟨by have:=HB1.out.size;omega,by omega,by omega⟩).trans (HB1.out.block i hi)⟩
  have hcA:CamesAt A la (pasts b):=cames_kept (n:=w.heap.size+3) (p:=fun k=>w.heap.size+3<=k) HCW.out HG3.out (hj.ks.mono fun k hk hq=>⟨hk,by omega,by omega⟩) (fun _ h=>h);have HBA2:=Hh (HB.out.below hbA);obtain ⟨x1,x2⟩:=x
  gi_wp2
  refine wpIn_mono (dbl_6 rfl (w0:=A) HBA2.out HO.out hcA HPC.out (by omega) (Below.refl _ _) hpx hfive hjc (by omega) c0 c1 h2) ?_;rintro e a' w4 ⟨rfl,hb4,v20,v21,v22,v23,v24,v25,v26,rfl⟩;have hJ4:=hj.keep HX.out hw3 (KS.all hb4 (fun _=>True)) (fun _ _=>trivial);have d0:=(hb4.cell (p:=⟨Bx,0,none⟩) h2).trans c0;have d1:=(hb4.cell (p:=⟨Bx,1,none⟩) h2).trans c1;have hs4:=hb4.size;have hB2:Bx < w4.heap.size:=Nat.lt_of_lt_of_le h2 hs4;obtain ⟨a2,c2,a3,c3,o2,f2,o3,f3,r2,r3,hap⟩:=hJ4.out;have b2:=q2 a2 c2 ((hb4.cell (p:=⟨w.heap.size+1,0,none⟩) (by simp;omega)).symm.trans o2);have b3:=q3 a3 c3 ((hb4.cell (p:=⟨w.heap.size+2,0,none⟩) (by simp;omega)).symm.trans o3);have hm2:(sureL b (pasts b) pre).length < 5000:=Nat.lt_of_le_of_lt (List.length_filter_le _ _) hlen;have hm3:(canL b (pasts b) pre).length < 5000:=Nat.lt_of_le_of_lt (List.length_filter_le _ _) hlen;have HJ4:=Hh hJ4;have HB4:=Hh hb4;have hlt4:=hJ4.lt;clear hfive hjc hJ4 hj hb4 hbA hcA c0 c1 q2 q3;rcases sayD_three b (pasts b) (x1,x2) with hs | hs | hs
  ·have e2:sureL b (pasts b) (pre ++ [(x1,x2)])=sureL b (pasts b) pre:=by
    unfold sureL;rw [List.filter_append,List.filter_cons,if_neg (by rw [hs];simp),List.filter_nil,List.append_nil]
   have e3:canL b (pasts b) (pre ++ [(x1,x2)])=canL b (pasts b) pre ++ [(x1,x2)]:=by
    unfold canL;rw [List.filter_append,List.filter_cons,if_pos (by rw [hs];simp),List.filter_nil]
   have E2:=Hh e2;have E3:=Hh e3;rw [hs];obtain ⟨i0,hi,hz0,hz1,hz2⟩:=info_parts partInfo;generalize sureL b (pasts b) pre=l2 at o2 r2 hap b2 hm2 E2;generalize canL b (pasts b) pre=l3 at o3 r3 hap b3 hm3 E3;have R2:=Hh r2;have R3:=Hh r3;have HAP:=Hh hap;clear e2 e3 hs r2 r3 hap
   gi_wp2_with (gi_at_builtin;go_loud (refine wpListIn_append_own_at _ rfl _ _ 33 rfl (W1.heap.size+2) 41 i0 (.agg #[.int .i64 0,.int .i64 0]) 2 16 Tryz.underlying33 hi hz0 hz1 hz2 rfl (by decide) _ _ _ rfl (ownsRow_ks R3.out (KS.alloc (fun _=>True) _ _) (fun _ _=>trivial)) ⟨w4.heap.size,0,none⟩ 1 1 [.int .i64 x1,.int .i64 x2] rfl rfl (cells_new _ _ _) (by simp [Value.oneCell']) (by unfold maxLen;omega) (by omega) (by simp;omega) ?_;intro v' w5 hown' hgrow _ hat;obtain ⟨g',cap',rfl⟩:=ownsRow_succ hown';have hks:=grow_ks (ownsRow_ks R3.out (KS.alloc (fun _=>True) w4 _) (fun _ _=>trivial)) hgrow;have p2:=(hks.cell (x:=⟨w.heap.size+2,0,none⟩) (by simp;omega) (by simp;omega));have p3:=(hks.frozen (x:=⟨w.heap.size+2,0,none⟩) (by simp;omega) (by simp;omega));rw [World.cell?_alloc_past _ _ _ (by omega),o3] at p2;rw [World.frozen?_alloc_past _ _ _ (by omega),f3] at p3))
   have hks3:KS (fun k=>k≠w.heap.size+2) w5 (w5.setCell ⟨w.heap.size+2,0,none⟩ (.slice (some ⟨g',0,none⟩) (l3.length+1) cap')):=KS.setCell (by simp) _ _;have hksA:=KS.alloc (fun _=>True) w4 (.cells #[.int .i64 x1,.int .i64 x2] 41);have hks4:KS (fun k=>k < W1.heap.size+2/\k≠w.heap.size+2) w4 (w5.setCell ⟨w.heap.size+2,0,none⟩ (.slice (some ⟨g',0,none⟩) (l3.length+1) cap')):=(hksA.mono fun _ _ _=>trivial).trans ((hks.mono fun k _ h=>h.1).trans (hks3.mono fun k _ h=>h.2));have hks6:KS (fun k=>(Value.slice a3 l3.length c3).ownBlock≠some k/\k≠w.heap.size+2) w4 (w5.setCell ⟨w.heap.size+2,0,none⟩ (.slice (some ⟨g',0,none⟩) (l3.length+1) cap')):=(hksA.mono fun _ _ _=>trivial).trans (((KS.own (p:=fun k=>(Value.slice a3 l3.length c3).ownBlock≠some k) hgrow fun g hg h=>h hg).mono fun k _ h=>h.1).trans (hks3.mono fun k _ h=>h.2));have hks5:=(KS.all HB4.out (fun k=>k < W1.heap.size+2/\k≠w.heap.size+2)).trans hks4;have h:=HJ4.out;have hsz:=hks4.size;refine ⟨hks5.mono fun k _ h=>⟨by omega,by omega⟩,⟨?_,?_,⟨a2,c2,some ⟨g',0,none⟩,cap',?_,?_,?_,?_,?_,?_,?_⟩,h.ks.trans (hks4.mono fun k _ h=>⟨by omega,h.2.2⟩),by omega⟩⟩
   ·have e:∀ o,(w5.setCell ⟨w.heap.size+2,0,none⟩ (.slice (some ⟨g',0,none⟩) (l3.length+1) cap')).cell? ⟨w3.heap.size,o,none⟩=w4.cell? ⟨w3.heap.size,o,none⟩:=fun o=>hks4.cell (x:=⟨w3.heap.size,o,none⟩) (by simp;omega) (by simp;omega);exact ⟨(e 0).trans h.five.c0,(e 1).trans h.five.c1,(e 2).trans h.five.c2,(e 3).trans h.five.c3,(e 4).trans h.five.c4,by omega⟩
   ·exact (hks4.cell (x:=⟨w3.heap.size+1,0,none⟩) (by simp;omega) (by simp;omega)).trans h.c
   ·rw [E2.out];exact (hks4.cell (x:=⟨w.heap.size+1,0,none⟩) (by simp;omega) (by simp;omega)).trans o2
   ·exact (hks4.frozen (x:=⟨w.heap.size+1,0,none⟩) (by simp;omega) (by simp;omega)).trans f2
   ·rw [E3.out,List.length_append];exact World.cell?_setCell_same' _ _ _ (by rw [p2];rfl)
   ·rw [World.frozen?_setCell];exact p3
   ·rw [E2.out];exact row_keep' R2.out hks6 fun g hg=>⟨HAP.out g hg,by have:=(ownBlock_row R2.out g hg).1;omega⟩
   ·rw [E3.out,List.flatMap_append,List.length_append,List.flatMap_cons,List.flatMap_nil,List.append_nil];exact ownsRow_ks hown' hks3 (fun k hk=>by omega)
   ·rw [E2.out,E3.out,List.length_append];intro g hg hg2;have:=(ownBlock_row R2.out g hg).2;rcases hat with e | e
    ·exact HAP.out g hg (e.symm.trans hg2)
    ·cases e.symm.trans hg2;rw [World.size_alloc] at this;omega
  ·have e2:sureL b (pasts b) (pre ++ [(x1,x2)])=sureL b (pasts b) pre ++ [(x1,x2)]:=by
    unfold sureL;rw [List.filter_append,List.filter_cons,if_pos (by rw [hs];simp),List.filter_nil]
   have e3:canL b (pasts b) (pre ++ [(x1,x2)])=canL b (pasts b) pre ++ [(x1,x2)]:=by
    unfold canL;rw [List.filter_append,List.filter_cons,if_pos (by rw [hs];simp),List.filter_nil]
   have E2:=Hh e2;have E3:=Hh e3;rw [hs];generalize sureL b (pasts b) pre=l2 at o2 r2 hap b2 hm2 E2;generalize canL b (pasts b) pre=l3 at o3 r3 hap b3 hm3 E3;have hT8:∀ {z:World},KS (fun k=>k < W1.heap.size+2∨k=Bx) w4 z->D8T (w.heap.size+1) (w.heap.size+2) Bx a2 l2.length c2 a3 l3.length c3 x1 x2 z:=fun {z} hz =>
    ⟨(hz.cell (x:=⟨w.heap.size+1,0,none⟩) (by simp;omega) (.inl (by simp;omega))).trans o2,(hz.frozen (x:=⟨w.heap.size+1,0,none⟩) (by simp;omega) (.inl (by simp;omega))).trans f2,(hz.cell (x:=⟨w.heap.size+2,0,none⟩) (by simp;omega) (.inl (by simp;omega))).trans o3,(hz.frozen (x:=⟨w.heap.size+2,0,none⟩) (by simp;omega) (.inl (by simp;omega))).trans f3,(hz.cell (x:=⟨Bx,0,none⟩) hB2 (.inr rfl)).trans d0,(hz.cell (x:=⟨Bx,1,none⟩) hB2 (.inr rfl)).trans d1⟩
   have hD:D8 w4 (W1.heap.size+2) (w.heap.size+1) (w.heap.size+2) Bx a2 l2.length c2 a3 l3.length c3 x1 x2:=⟨by omega,by omega,by omega,hm2,hm3,hT8⟩;have hTw:Two w4 (W1.heap.size+2) Bx 41 (.slice a2 l2.length c2) l2.length (l2.flatMap cellsQ) (.slice a3 l3.length c3) l3.length (l3.flatMap cellsQ) w4:=⟨KS.refl _ _,hlt4,r2,r3,hap,b2,b3,hB2⟩;have HD:=Hh hD;have HTw:=Hh hTw;clear e2 e3 hs r2 r3 hap hT8 hD hTw b2 b3 o2 o3 f2 f3 d0 d1
   gi_wp2
   refine wpIn_mono (dbl_8 rfl HD.out HTw.out) ?_;rintro e a' w5 ⟨rfl,hks,g2,k2,g3,k3,p2,p3,p4,p5,s2,s3,hne⟩;have hks5:=(KS.all HB4.out (fun k=>k < W1.heap.size+2/\k≠w.heap.size+1/\k≠w.heap.size+2)).trans hks;have h:=HJ4.out;have hsz:=hks.size;refine ⟨hks5.mono fun k _ h=>⟨by omega,by omega,by omega⟩,⟨?_,?_,⟨some ⟨g2,0,none⟩,k2,some ⟨g3,0,none⟩,k3,?_,p3,?_,p5,?_,?_,?_⟩,h.ks.trans (hks.mono fun k _ h=>⟨by omega,h.2.1,h.2.2⟩),by omega⟩⟩
   ·have e:∀ o,w5.cell? ⟨w3.heap.size,o,none⟩=w4.cell? ⟨w3.heap.size,o,none⟩:=fun o=>hks.cell (x:=⟨w3.heap.size,o,none⟩) (by simp;omega) (by simp;omega);exact ⟨(e 0).trans h.five.c0,(e 1).trans h.five.c1,(e 2).trans h.five.c2,(e 3).trans h.five.c3,(e 4).trans h.five.c4,by omega⟩
   ·exact (hks.cell (x:=⟨w3.heap.size+1,0,none⟩) (by simp;omega) (by simp;omega)).trans h.c
   ·rw [E2.out,List.length_append];exact p2
   ·rw [E3.out,List.length_append];exact p4
   ·rw [E2.out,List.flatMap_append,List.length_append,List.flatMap_cons,List.flatMap_nil,List.append_nil];exact s2
   ·rw [E3.out,List.flatMap_append,List.length_append,List.flatMap_cons,List.flatMap_nil,List.append_nil];exact s3
   ·rintro g hg hg2;cases hg;cases hg2;exact hne rfl
  ·have e2:sureL b (pasts b) (pre ++ [(x1,x2)])=sureL b (pasts b) pre:=by
    unfold sureL;rw [List.filter_append,List.filter_cons,if_neg (by rw [hs];simp),List.filter_nil,List.append_nil]
   have e3:canL b (pasts b) (pre ++ [(x1,x2)])=canL b (pasts b) pre:=by
    unfold canL;rw [List.filter_append,List.filter_cons,if_neg (by rw [hs];simp),List.filter_nil,List.append_nil]
   have E2:=Hh e2;have E3:=Hh e3;rw [hs];clear e2 e3 hs
   gi_wp2
   refine ⟨(KS.all HB4.out _),?_⟩;have h:=HJ4.out;exact ⟨h.five,h.c,by rw [E2.out,E3.out];exact h.out,h.ks,h.lt⟩
 case done =>
  rintro W hj hd;obtain ⟨a2,c2,a3,c3,o2,f2,o3,f3,r2,r3,hap⟩:=hj.out;have hlt2:=hj.lt;have hk:=hj.ks;have HK2:=Hh hk;have R2:=Hh r2;have R3:=Hh r3;have hD:W1.heap.size < W.heap.size:=(Array.getElem?_eq_some_iff.1 hd).1;generalize hl2:sureL b (pasts b) (partsL b)=l2 at o2 R2;generalize hl3:canL b (pasts b) (partsL b)=l3 at o3 R3;have HL2:=Hh hl2;have HL3:=Hh hl3;clear hj hap r2 r3 hk hl2 hl3;go_wp2
  go_region
  go_wp2;obtain ⟨W9,hW9⟩:∃ W9,W9=((W.setCell ⟨w.heap.size+1,0,none⟩ (.slice a2 l2.length c2)).setCell ⟨w.heap.size+1+1,0,none⟩ (.slice a3 l3.length c3)).drew:=⟨_,rfl⟩;rw [← hW9];have k9:KS (fun k=>k≠w.heap.size+1/\k≠w.heap.size+1+1) W W9:=by rw [hW9];exact ((KS.setCell (by simp) _ _).trans (KS.setCell (by simp) _ _)).trans (KS.drew _ _)
  have hd9:W9.heap[W1.heap.size]? = some (.deferred (some [])):=(k9.block _ hD (by omega)).trans hd;have k10:KS (fun k=>k≠W1.heap.size) W9 (W9.putObj W1.heap.size (.deferred none)):=KS.putObj (by simp) _ _;have hs9:=k9.size;have q1:(W9.putObj W1.heap.size (.deferred none)).cell? ⟨w.heap.size+1,0,none⟩=some (.slice a2 l2.length c2):=by
   rw [k10.cell (x:=⟨w.heap.size+1,0,none⟩) (by simp;omega) (by simp;omega),hW9,World.cell?_drew,World.cell?_setCell_other (h:=fun e=>by injection e with e _ _;omega),World.cell?_setCell_same' _ _ _ (by rw [o2];rfl)]
  have q2:(W9.putObj W1.heap.size (.deferred none)).cell? ⟨w.heap.size+1+1,0,none⟩=some (.slice a3 l3.length c3):=by
   rw [k10.cell (x:=⟨w.heap.size+1+1,0,none⟩) (by simp;omega) (by simp;omega),hW9,World.cell?_drew,World.cell?_setCell_same' _ _ _ (by rw [World.cell?_setCell_other (h:=fun e=>by injection e with e _ _;omega),show w.heap.size+1+1=w.heap.size+2 from rfl,o3];rfl)]
  have hbw:Below w.heap.size w (W9.putObj W1.heap.size (.deferred none)):=by
   have h2:=(HK2.out.toBelow (n:=w.heap.size) (by omega) (fun k hk=>by omega));have h3:=(k9.toBelow (n:=w.heap.size) (by omega) (fun k hk=>by omega));have h4:=(k10.toBelow (n:=w.heap.size) (by omega) (fun k hk=>by omega));exact ((HB1.out.trans h2).trans h3).trans h4
  have s2:(W9.putObj W1.heap.size (.deferred none)).ownsRow (W1.heap.size+2) 41 2 (.slice a2 l2.length c2) l2.length (l2.flatMap cellsQ):=ownsRow_ks (ownsRow_ks R2.out k9 (fun k hk=>by omega)) k10 (fun k hk=>by omega);have s3:(W9.putObj W1.heap.size (.deferred none)).ownsRow (W1.heap.size+2) 41 2 (.slice a3 l3.length c3) l3.length (l3.flatMap cellsQ):=ownsRow_ks (ownsRow_ks R3.out k9 (fun k hk=>by omega)) k10 (fun k hk=>by omega);have S2:=Hh s2;have S3:=Hh s3;clear hW9 o2 o3 f2 f3 s2 s3;refine ⟨by simp,.inl ⟨_,_,rfl,run_takeDeferred hd9,?_⟩⟩;refine ⟨.tuple #[.slice a2 l2.length c2,.slice a3 l3.length c3,.int .i64 0],by simp [results,Tryz.results55,go_sem,q1,q2],?_⟩;exact ⟨a2,c2,a3,c3,by rw [HL2.out,HL3.out],by rw [HL2.out];exact parts_of_row S2.out,by rw [HL3.out];exact parts_of_row S3.out,hbw⟩
 case stop=>exact fun _ _ h _=>h.elim
end
section
variable {b:Bk} {vr vg vm vs vc:Value} {w:World}
theorem doubles_no (hB:BookAt w b vr vg vm vs vc) (hN:∀ m∈b.ms,m.name.size<=1000000) (hK:KindsAt w) {t:Int} (ht:openAl b 0=t) (h0:t≠0) :
 Calls Tryz.prog 55 #[.agg #[vr,vg,vm,vs,vc]] w fun e w'=>e=.returned (.tuple #[.slice none 0 0,.slice none 0 0,.int .i64 t])/\Below w.heap.size w w':=by
 have HB:=Hh hB;have HN:=Hh hN;have HK:=Hh hK;have HT:=Hh ht;have HH0:=Hh h0;have hz3:(t != 0)=true:=by simpa using h0
 obtain ⟨rfl,rfl,⟨ma,mc,rfl,_,_⟩,⟨sa,sc,rfl,_,_⟩,ra,rc,rfl,_,_⟩:=id hB;clear hB hN hK ht
 go_enter Tryz.func55,Tryz.ntmps55
 go_wp2_with fail;obtain ⟨W0,hW0⟩:∃ W0,W0=((w.alloc (.cells #[.int .i64 b.room,.int .i64 b.gap,.slice ma b.ms.length mc,.slice sa b.ss.length sc,.slice ra b.rs.length rc] 26)).alloc (.cells #[.slice none 0 0] 33)).alloc (.cells #[.slice none 0 0] 33):=⟨_,rfl⟩;rw [← hW0];have hb0:Below w.heap.size w W0:=by rw [hW0];(exact bel)
 have hs0:W0.heap.size=w.heap.size+1+1+1:=by rw [hW0];simp
 have q6:W0.cell? ⟨w.heap.size+1,0,none⟩=some (.slice none 0 0):=by rw [hW0,World.cell?_alloc_past _ _ _ (by first | (simp;done) | (simp;omega)),World.cell?_alloc_at _ _ _ _ (by first | (simp;done) | (simp;omega))];rfl
 have q7:W0.cell? ⟨w.heap.size+1+1,0,none⟩=some (.slice none 0 0):=by rw [hW0,World.cell?_alloc_at _ _ _ _ (by simp)];rfl
 have q8:W0.frozen? ⟨w.heap.size+1,0,none⟩=false:=by rw [hW0];simp [go_sem]
 have q9:W0.frozen? ⟨w.heap.size+1+1,0,none⟩=false:=by rw [hW0];simp [go_sem]
 have HB0:=Hh (HB.out.below hb0);have HK0:=Hh (HK.out.below hb0);have HBZ:=Hh hb0;clear hW0 hb0;go_wp2_with (go_at_call 66;(with_reducible refine (open_nothing_no HB0.out HN.out HK0.out (al:=0) (fun hk W hW=>nothing_any _ _ _ _ _ _) HT.out HH0.out).mono ?_);rintro e w3 ⟨rfl,hb3⟩;have x1:=(hb3.cell (p:=⟨w.heap.size+1,0,none⟩) (by simp only;omega)).trans q6;have x2:=(hb3.cell (p:=⟨w.heap.size+1+1,0,none⟩) (by simp only;omega)).trans q7;have x3:=(hb3.frozen (p:=⟨w.heap.size+1,0,none⟩) (by simp only;omega)).trans q8;have x4:=(hb3.frozen (p:=⟨w.heap.size+1+1,0,none⟩) (by simp only;omega)).trans q9;have HBX:=Hh (Below.next HBZ.out hb3);have hl3:w.heap.size+1+1 < w3.heap.size:=(by have:=hb3.size;omega);have hl2:w.heap.size+1 < w3.heap.size:=(by omega);have hl1:w.heap.size < w3.heap.size:=(by omega);clear hb3 q6 q7 q8 q9 hs0);have s1:((w3.setCell ⟨w.heap.size+1,0,none⟩ (.slice none 0 0)).setCell ⟨w.heap.size+1+1,0,none⟩ (.slice none 0 0)).cell? ⟨w.heap.size+1,0,none⟩=some (.slice none 0 0):=by
  rw [World.cell?_setCell_other (h:=fun e=>by injection e with e _ _;omega),World.cell?_setCell_same' _ _ _ (by rw [x1];rfl)]
 have s2:((w3.setCell ⟨w.heap.size+1,0,none⟩ (.slice none 0 0)).setCell ⟨w.heap.size+1+1,0,none⟩ (.slice none 0 0)).cell? ⟨w.heap.size+1+1,0,none⟩=some (.slice none 0 0):=by
  rw [World.cell?_setCell_same' _ _ _ (by rw [World.cell?_setCell_other (h:=fun e=>by injection e with e _ _;omega),x2];rfl)]
 have hbF:Below w.heap.size w ((w3.setCell ⟨w.heap.size+1,0,none⟩ (.slice none 0 0)).setCell ⟨w.heap.size+1+1,0,none⟩ (.slice none 0 0)):=(HBX.out.setCell (show w.heap.size<=w.heap.size+1 by omega) _).setCell (show w.heap.size<=w.heap.size+1+1 by omega) _;have hsz:((w3.setCell ⟨w.heap.size+1,0,none⟩ (.slice none 0 0)).setCell ⟨w.heap.size+1+1,0,none⟩ (.slice none 0 0)).heap.size=w3.heap.size:=by simp
 refine bodyPost_ret (v:=.tuple #[.slice none 0 0,.slice none 0 0,.int .i64 t]) ?_ rfl ⟨rfl,?_⟩
 ·generalize ((w3.setCell ⟨w.heap.size+1,0,none⟩ (.slice none 0 0)).setCell ⟨w.heap.size+1+1,0,none⟩ (.slice none 0 0))=Y at s1 s2 hsz;have h1:w.heap.size+1 < Y.heap.size:=by omega
  have h2:w.heap.size+1+1 < Y.heap.size:=by omega
  have h3:w.heap.size < Y.heap.size:=by omega
  simp [results,Tryz.results55,go_sem,s1,s2,h1,h2,h3]
 ·exact (hbF.alloc (by omega) _).alloc (by simp;omega) _
end
structure PairP (B:Nat) (v1:Value) (n1:Nat) (x1:List Value) (v2:Value) (n2:Nat) (x2:List Value) (w:World):Prop where
 o1:w.ownsRow B 41 2 v1 n1 x1
 o2:w.ownsRow B 41 2 v2 n2 x2
 ap:∀ g,v1.ownBlock=some g->v2.ownBlock≠some g
section
variable {w w':World} {B n1 n2 m:Nat} {v1 v2 v:Value} {x1 x2 xs:List Value}
theorem PairP.swap (t:PairP B v1 n1 x1 v2 n2 x2 w):PairP B v2 n2 x2 v1 n1 x1 w:=⟨t.o2,t.o1,fun g h k=>t.ap g k h⟩
theorem PairP.ks (t:PairP B v1 n1 x1 v2 n2 x2 w) (hk:KS (fun _=>True) w w'):PairP B v1 n1 x1 v2 n2 x2 w':=⟨row_keep' t.o1 hk fun _ _=>trivial,row_keep' t.o2 hk fun _ _=>trivial,t.ap⟩
theorem PairP.app2 (t:PairP B v1 n1 x1 v2 n2 x2 w) (ho:w'.ownsRow B 41 2 v m xs) (hg:w.grownBy w' v2.ownBlock) (hat:v.ownBlock=v2.ownBlock∨v.ownBlock=some w.heap.size):PairP B v1 n1 x1 v m xs w':=by
 have hk:KS (fun k=>v2.ownBlock≠some k) w w':=KS.own hg fun g hg=>by simp [hg]
 refine ⟨row_keep' t.o1 hk fun g hg e=>t.ap g hg e,ho,fun g hg e=>?_⟩;rcases hat with h | h
 ·rw [h] at e;exact t.ap g hg e
 ·rw [h] at e;cases e;have:=(ownBlock_row t.o1 _ hg).2;omega
theorem wpl_pairP {w:World} {ops:Array Oper} {rest:List Oper} {o:Oper} {a:Act} {Q:Exit->Act->World->Prop} (hgd:o.guard=none) (s x:Operand)
 (ho:o.op=.call { callee:=.builtin .append,args:=#[s,x],argTypes:=#[33,33] })
 (base:Nat) (v:Value) (k:Nat) (xs:List Value) (hs:a.eval s=v) {v1:Value} {n1:Nat} {x1:List Value} (hP:PairP base v1 n1 x1 v k xs w) (hbase:base<=w.heap.size) (hk:k<=1000000) (m g:Int)
 {n:Nat} (hn:n=w.heap.size) (hx:a.eval x=.slice (some ⟨n,0,none⟩) 1 1)
 (h:∀ g' cap w',PairP base v1 n1 x1 (.slice (some ⟨g',0,none⟩) (k+1) cap) (k+1) (xs ++ cellsQ (m,g)) w'->Below base w w'->wpList Tryz.prog ops Q rest (a.put o.dst (.slice (some ⟨g',0,none⟩) (k+1) cap)) w') :
 wpList Tryz.prog ops Q (o::rest) a (w.alloc (.cells #[.int .i64 m,.int .i64 g] 41)):=by
 subst hn;obtain ⟨i,hi,hz,hsz,hb⟩:=info_parts partInfo;have hp2:PairP base v1 n1 x1 v k xs (w.alloc (.cells #[.int .i64 m,.int .i64 g] 41)):=hP.ks (KS.alloc _ _ _);have hle:base<=(w.alloc (.cells #[.int .i64 m,.int .i64 g] 41)).heap.size:=by simp;omega
 refine wpList_append_own_at (w.alloc (.cells #[.int .i64 m,.int .i64 g] 41)) hgd s x 33 ho base 41 i (.agg #[.int .i64 0,.int .i64 0]) 2 16 Tryz.underlying33 hi hz hsz hb rfl (by decide) v k xs hs hp2.o2 ⟨w.heap.size,0,none⟩ 1 1 [.int .i64 m,.int .i64 g] hx rfl (cells_new w [.int .i64 m,.int .i64 g] 41) (by simp [Value.oneCell']) (by unfold maxLen;omega) (by omega) hle ?_;intro v' w' hown' hg _ hat;have hp3:=hp2.app2 hown' hg hat;obtain ⟨g',cap',rfl⟩:=ownsRow_succ hown';exact h g' cap' w' hp3 (((Below.refl base w).alloc hbase _).trans (below_own hp2.o2 hg hle))
end
theorem filter_take {α:Type} (f:α->Bool) (l:List α) {k:Nat} (h:k < l.length):(l.take (k+1)).filter f=(l.take k).filter f ++ if f l[k]=true then [l[k]] else []:=by
 rw [List.take_succ_eq_append_getElem h,List.filter_append];cases hm:f l[k] <;> simp [hm]
theorem sureL_take (b:Bk) (l:List (List Int)) (ps:List Prt) {k:Nat} (h:k < ps.length):sureL b l (ps.take (k+1))=sureL b l (ps.take k) ++ if sayD b l ps[k]=1 then [ps[k]] else []:=by
 unfold sureL;rw [filter_take _ _ h];simp
theorem canL_take (b:Bk) (l:List (List Int)) (ps:List Prt) {k:Nat} (h:k < ps.length):canL b l (ps.take (k+1))=canL b l (ps.take k) ++ if sayD b l ps[k]≠2 then [ps[k]] else []:=by
 unfold canL;rw [filter_take _ _ h];simp
def surQ (b:Bk):List Prt:=if openAl b 0=0 then sureL b (pasts b) (partsL b) else []
def canQ (b:Bk):List Prt:=if openAl b 0=0 then canL b (pasts b) (partsL b) else []
def TwoRet (w:World) (q r:List Prt) (u:Int) (e:Ending) (w':World):Prop:=∃ a c a2 c2,e=.returned (.tuple #[.slice a q.length c,.slice a2 r.length c2,.int .i64 u])/\PartsAt w' a q/\PartsAt w' a2 r/\Below w.heap.size w w'
section
variable {b:Bk} {vr vg vm vs vc:Value} {w:World}
theorem doubles2_at (hB:BookAt w b vr vg vm vs vc) (hN:∀ m∈b.ms,m.name.size<=1000000) (hK:KindsAt w) {q r:List Prt} {u:Int} (hq:surQ b=q) (hr:canQ b=r) (hu:openAl b 0=u) :
 Calls Tryz.prog 55 #[.agg #[vr,vg,vm,vs,vc]] w (TwoRet w q r u):=by
 unfold surQ at hq;unfold canQ at hr;by_cases h0:u=0
 ·subst h0;rw [if_pos hu] at hq hr;subst hq hr;refine (doubles_ok hB hN hK hu).mono ?_;rintro e w' ⟨a2,c2,a3,c3,rfl,h1,h2,h3⟩;exact ⟨a2,c2,a3,c3,rfl,h1,h2,h3⟩
 ·rw [if_neg (by rw [hu];exact h0)] at hq hr;subst hq hr;refine (doubles_no hB hN hK hu h0).mono ?_;rintro e w' ⟨rfl,hb⟩;exact ⟨none,0,none,0,rfl,fun i hi=>absurd hi (Nat.not_lt_zero _),fun i hi=>absurd hi (Nat.not_lt_zero _),hb⟩
theorem rDoubles2_at (hB:BookAt w b vr vg vm vs vc) (hN:∀ m∈b.ms,m.name.size<=1000000) (hms:b.ms.length<=20) {q r:List Prt} {u:Int} (hq:surQ b=q) (hr:canQ b=r) (hu:openAl b 0=u) :
 Calls Tryz.prog 56 #[.agg #[vr,vg,vm,vs,vc]] w (TwoRet w q r u):=by
 have HB:=Hh hB;have HN:=Hh hN;unfold surQ at hq;unfold canQ at hr;rw [← asked_true] at hu hq hr;by_cases h0:u=0
 ·subst h0;rw [if_pos hu] at hq hr;obtain ⟨hk,_,hp⟩:=askedAl_ok hu;have hbo:=(bookAl_ok hk).1;have hpl:=pasts_le hbo;have hpos:0 < (pasts b).length:=List.length_pos_iff.2 hp;have HU:=Hh hu;have HO:=Hh hbo;have HPA:=Hh (pasts_at hbo);have hpb:=parts_bd hbo;have HQ:=Hh hq;have HR:=Hh hr;clear hu hk hp hbo hB hN hq hr
  go_enter Tryz.func56,Tryz.ntmps56
  go_wp2_with (fail);obtain ⟨W0,hW0⟩:∃ W0,W0=(w.alloc (.cells #[vr,vg,vm,vs,vc] 26)):=⟨_,rfl⟩;rw [← hW0];have hb0:Below w.heap.size w W0:=by rw [hW0];(exact bel)
  have hl0:w.heap.size < W0.heap.size:=by rw [hW0];simp
  have nn:∀ k u,(#[vr,vg,vm,vs,vc]:Array Value)[k]? = some u->W0.cell? ⟨w.heap.size,k,none⟩=some u:=fun k u hk=>by
   rw [hW0,World.cell?_alloc_at _ _ _ _ rfl];exact hk
  have c0:=nn 0 _ rfl;have c1:=nn 1 _ rfl;have c2:=nn 2 _ rfl;have c3:=nn 3 _ rfl;have c4:=nn 4 _ rfl;have HB0:=Hh hb0;clear hW0 nn hb0;go_wp2_with (first
   | (go_at_call 94;(with_reducible refine (rAsked_ok (HB.out.below HB0.out) HN.out HU.out).mono ?_);rintro e w2 ⟨a3,c3',vs3,rfl,hrow3,hl3,hb1⟩;have HL:=Hh (ListI.of (lists_of_row hrow3 hl3));clear hrow3 hl3;replace c0:=(hb1.cell (p:=⟨w.heap.size,0,none⟩) hl0).trans c0;replace c1:=(hb1.cell (p:=⟨w.heap.size,1,none⟩) hl0).trans c1;replace c2:=(hb1.cell (p:=⟨w.heap.size,2,none⟩) hl0).trans c2;replace c3:=(hb1.cell (p:=⟨w.heap.size,3,none⟩) hl0).trans c3;replace c4:=(hb1.cell (p:=⟨w.heap.size,4,none⟩) hl0).trans c4;have HB2:=Hh (Below.next HB0.out hb1);have hl2:w.heap.size < w2.heap.size:=Nat.lt_of_lt_of_le hl0 hb1.size;clear hb1 hl0)
   | (go_at_call 19;(with_reducible refine (rPartsOf_all (HB.out.below HB2.out) HO.out hms).mono ?_);rintro e w1 ⟨pa,pc,rfl,hp1,hb1⟩;have HP:=Hh hp1;have HB1:=Hh (Below.next HB2.out hb1);have HL1:=Hh (HL.out.below hb1);have hl1:w.heap.size < w1.heap.size:=Nat.lt_of_lt_of_le hl2 hb1.size;replace c0:=(hb1.cell (p:=⟨w.heap.size,0,none⟩) hl2).trans c0;replace c1:=(hb1.cell (p:=⟨w.heap.size,1,none⟩) hl2).trans c1;replace c2:=(hb1.cell (p:=⟨w.heap.size,2,none⟩) hl2).trans c2;replace c3:=(hb1.cell (p:=⟨w.heap.size,3,none⟩) hl2).trans c3;replace c4:=(hb1.cell (p:=⟨w.heap.size,4,none⟩) hl2).trans c4;clear hp1 hb1 hl2))
  have hsz1:w.heap.size<=w1.heap.size:=by omega
  generalize partsL b=ps at HP hpb HQ HR ⊢;clear HL;generalize pasts b=l at hpl hpos HL1 HPA HQ HR ⊢;go_loopw [8,9,10] (fun v1 v2 t wr=>∃ (k:Nat) (a1 a2:Option Addr) (k1 k2 n1 n2:Nat),k<=ps.length/\t=.int .i64 k/\v1=.slice a1 n1 k1/\v2=.slice a2 n2 k2/\Hid (n1=(sureL b l (ps.take k)).length)/\Hid (n2=(canL b l (ps.take k)).length)/\n1<=k/\n2<=k/\Hid (PairP w1.heap.size (.slice a1 n1 k1) n1 ((sureL b l (ps.take k)).flatMap cellsQ) (.slice a2 n2 k2) n2 ((canL b l (ps.take k)).flatMap cellsQ) wr)/\Below w1.heap.size w1 wr) (fun _ _ t _=>ps.length - (intOf t).toNat)
  case atStart=>exact ⟨0,none,none,0,0,0,0,Nat.zero_le _,rfl,rfl,rfl,rfl,rfl,Nat.le_refl _,Nat.le_refl _,(⟨World.ownsRow_nil _ _ _ _,World.ownsRow_nil _ _ _ _,fun g h=>by cases h⟩:PairP _ _ _ _ _ _ _ _),Below.refl _ _⟩
  case round =>
   obtain ⟨k,a1,a2,k1,k2,n1,n2,hk,rfl,rfl,rfl,HN1,HN2,hk1,hk2,HPR,hW⟩:=hrel;have hWs:=hW.size;by_cases hlt:k < ps.length
   ·obtain ⟨pb,po,rfl,hpb2,e0,e1⟩:=HP.out k hlt;have hbr:=Below.next HB1.out hW;have x0:=(hW.cell (p:=⟨w.heap.size,0,none⟩) hl1).trans c0;have x1:=(hW.cell (p:=⟨w.heap.size,1,none⟩) hl1).trans c1;have x2:=(hW.cell (p:=⟨w.heap.size,2,none⟩) hl1).trans c2;have x3:=(hW.cell (p:=⟨w.heap.size,3,none⟩) hl1).trans c3;have x4:=(hW.cell (p:=⟨w.heap.size,4,none⟩) hl1).trans c4;have d0:=(hW.cell (p:=⟨pb,po+k * 2,none⟩) hpb2).trans e0;have d1:=(hW.cell (p:=⟨pb,po+k * 2+1,none⟩) hpb2).trans e1;have hpr:pb < wr.heap.size:=Nat.lt_of_lt_of_le hpb2 hWs;have ha1:w.heap.size < wr.heap.size:=by omega
    have hs1:=sureL_take b l ps hlt;have hs2:=canL_take b l ps hlt;have HBr:=Hh (HB.out.below hbr);have HLr:=Hh (HL1.out.below hW);generalize ps[k]=p at d0 d1 e0 e1 hs1 hs2;obtain ⟨pm,pg⟩:=p;simp only at d0 d1;obtain ⟨t,ht⟩:∃ t,countI (oftenI b l (pm,pg)) 2=t:=⟨_,rfl⟩;have HT:=Hh ht;have htb:=countI_bd (oftenI b l (pm,pg)) 2;have hol:(oftenI b l (pm,pg)).length=l.length:=by simp [oftenI]
    rw [ht,hol] at htb;have hsd:sayD b l (pm,pg)=if t=0 then 2 else if t=(l.length:Int) then 1 else 0:=by rw [← ht];rfl
    clear e0 e1 ht hbr hol;by_cases hz:t=0
    ·rw [if_pos hz] at hsd;rw [hsd,if_neg (by decide),List.append_nil] at hs1;rw [hsd,if_neg (by simp),List.append_nil] at hs2;have g1:(t == (l.length:Int))=false:=by rw [beq_eq_false_iff_ne];omega
     have g2:decide (0 < t)=false:=by rw [decide_eq_false_iff_not];omega
     have HS1:=Hh hs1;have HS2:=Hh hs2;clear hs1 hs2 hsd hz htb;go_wp2
     (refine wp_region_bel (by kernel_rfl) (by kernel_rfl) ?_;(repeat (go_big_quiet_step ((go_at_call 97;with_reducible exact Calls.bel_of (rTimes_at (HBr.out.below (later_below _ _)) HO.out (HLr.out.below (later_below _ _)) rfl HPA.out (by omega) (pm,pg) 2 HT.out)))));refine wpQuiet_nil ?_;rintro _ ⟨xq,rfl⟩)
     go_wp2;go_roundw
     case rel=>exact ⟨k+1,a1,a2,k1,k2,n1,n2,by omega,by go_num,rfl,rfl,(by rw [HS1.out];exact HN1),(by rw [HS2.out];exact HN2),by omega,by omega,(by rw [HS1.out,HS2.out];exact Hh (HPR.out.ks (KS.all (later_below _ _) _))),Below.next hW (later_below _ _)⟩
     case measure=>simp [intOf];omega
    ·rw [if_neg hz] at hsd;by_cases hz2:t=(l.length:Int)
     ·rw [if_pos hz2] at hsd;rw [hsd,if_pos rfl] at hs1;rw [hsd,if_pos (by decide)] at hs2;have g1:(t == (l.length:Int))=true:=by rw [beq_iff_eq];exact hz2
      have g2:decide (0 < t)=true:=by rw [decide_eq_true_iff];omega
      have HS1:=Hh hs1;have HS2:=Hh hs2;clear hs1 hs2 hsd hz htb hz2;go_wp2
      (refine wp_region_bel (by kernel_rfl) (by kernel_rfl) ?_;(repeat (go_big_quiet_step ((go_at_call 97;with_reducible exact Calls.bel_of (rTimes_at (HBr.out.below (later_below _ _)) HO.out (HLr.out.below (later_below _ _)) rfl HPA.out (by omega) (pm,pg) 2 HT.out)))));refine wpQuiet_nil ?_;rintro _ ⟨xq,rfl⟩)
      obtain ⟨X,hX⟩:∃ X,later wr xq=X:=⟨_,rfl⟩;have hbX:Below wr.heap.size wr X:=hX ▸ later_below wr xq;rw [hX];have f0:=(hbX.cell (p:=⟨pb,po+k * 2,none⟩) hpr).trans d0;have f1:=(hbX.cell (p:=⟨pb,po+k * 2+1,none⟩) hpr).trans d1;have hpx:pb < X.heap.size:=Nat.lt_of_lt_of_le hpr hbX.size;have HPX:=Hh (HPR.out.ks (KS.all hbX _));have hXs:=hbX.size;have HBX:=Hh (Below.next hW hbX);clear hX hbX d0 d1;go_wp2_with (first
       | (at_builtin;go_loud (refine wpl_pairP rfl _ _ rfl w1.heap.size (.slice a1 n1 k1) n1 _ rfl HPX.out.swap (by omega) (by omega) pm pg rfl rfl ?_;intro ga cap1 w5 hp9 hb5;have HP5:=Hh hp9;have hs5:=hb5.size;have f2:=(hb5.cell (p:=⟨pb,po+k * 2,none⟩) hpb2).trans f0;have f3:=(hb5.cell (p:=⟨pb,po+k * 2+1,none⟩) hpb2).trans f1;have hp5:pb < w5.heap.size:=Nat.lt_of_lt_of_le hpx hs5;have HB5:=Hh (HBX.out.trans hb5);clear hp9 hb5 f0 f1))
       | (at_builtin;go_loud (refine wpl_pairP rfl _ _ rfl w1.heap.size (.slice a2 n2 k2) n2 _ rfl HP5.out.swap (by omega) (by omega) pm pg rfl rfl ?_;intro gb cap2 w6 hp9 hb6;have HP6:=Hh hp9;have HB6:=Hh (HB5.out.trans hb6);clear hp9 hb6)))
      go_roundw
      case rel=>exact ⟨k+1,some ⟨ga,0,none⟩,some ⟨gb,0,none⟩,cap1,cap2,n1+1,n2+1,by omega,by go_num,rfl,rfl,(by show n1+1=_;rw [HS1.out,List.length_append,← HN1.out];rfl),(by show n2+1=_;rw [HS2.out,List.length_append,← HN2.out];rfl),by omega,by omega,(by rw [HS1.out,HS2.out,List.flatMap_append,List.flatMap_append];exact HP6),HB6.out⟩
      case measure=>simp [intOf];omega
     ·rw [if_neg hz2] at hsd;rw [hsd,if_neg (by decide),List.append_nil] at hs1;rw [hsd,if_pos (by decide)] at hs2;have g1:(t == (l.length:Int))=false:=by rw [beq_eq_false_iff_ne];exact hz2
      have g2:decide (0 < t)=true:=by rw [decide_eq_true_iff];omega
      have HS1:=Hh hs1;have HS2:=Hh hs2;clear hs1 hs2 hsd hz htb hz2;go_wp2
      (refine wp_region_bel (by kernel_rfl) (by kernel_rfl) ?_;(repeat (go_big_quiet_step ((go_at_call 97;with_reducible exact Calls.bel_of (rTimes_at (HBr.out.below (later_below _ _)) HO.out (HLr.out.below (later_below _ _)) rfl HPA.out (by omega) (pm,pg) 2 HT.out)))));refine wpQuiet_nil ?_;rintro _ ⟨xq,rfl⟩)
      obtain ⟨X,hX⟩:∃ X,later wr xq=X:=⟨_,rfl⟩;have hbX:Below wr.heap.size wr X:=hX ▸ later_below wr xq;rw [hX];have f0:=(hbX.cell (p:=⟨pb,po+k * 2,none⟩) hpr).trans d0;have f1:=(hbX.cell (p:=⟨pb,po+k * 2+1,none⟩) hpr).trans d1;have hpx:pb < X.heap.size:=Nat.lt_of_lt_of_le hpr hbX.size;have HPX:=Hh (HPR.out.ks (KS.all hbX _));have hXs:=hbX.size;have HBX:=Hh (Below.next hW hbX);clear hX hbX d0 d1;go_wp2_with (at_builtin;go_loud (refine wpl_pairP rfl _ _ rfl w1.heap.size (.slice a2 n2 k2) n2 _ rfl HPX.out (by omega) (by omega) pm pg rfl rfl ?_;intro gb cap2 w6 hp9 hb6;have HP6:=Hh hp9;have HP6s:=hb6.size;clear hp9));have HB6:=Hh (HBX.out.trans hb6);clear hb6;go_roundw
      case rel=>exact ⟨k+1,a1,some ⟨gb,0,none⟩,k1,cap2,n1,n2+1,by omega,by go_num,rfl,rfl,(by rw [HS1.out];exact HN1),(by show n2+1=_;rw [HS2.out,List.length_append,← HN2.out];rfl),by omega,by omega,(by rw [HS1.out,HS2.out,List.flatMap_append];exact HP6),HB6.out⟩
      case measure=>simp [intOf];omega
   ·obtain rfl:k=ps.length:=by omega
    rw [List.take_length] at HN1 HN2 HPR;rw [HQ.out] at HN1 HPR;rw [HR.out] at HN2 HPR;obtain rfl:=HN1.out;obtain rfl:=HN2.out;go_wp2;exact bodyPost_ret (v:=.tuple #[.slice a1 q.length k1,.slice a2 r.length k2,.int .i64 0]) (by simp [results,Tryz.results56,go_sem]) rfl ⟨a1,k1,a2,k2,rfl,parts_of_row HPR.out.o1,parts_of_row HPR.out.o2,Below.next HB1.out hW⟩
 ·rw [if_neg (by rw [hu];exact h0)] at hq hr;subst hq hr;have HU:=Hh hu;have H0:=Hh h0;have hz3:(u != 0)=true:=by simpa using h0
  clear hu h0 hB hN
  go_enter Tryz.func56,Tryz.ntmps56
  go_wp2_with (go_at_call 94;(with_reducible refine (rAsked_no (HB.out.below (bel)) HN.out true HU.out H0.out).mono ?_);rintro e w3 ⟨rfl,hb3⟩;obtain ⟨hc3,hf3⟩:=bcell hb3);exact bodyPost_ret (v:=.tuple #[.slice none 0 0,.slice none 0 0,.int .i64 u]) (by simp [results,Tryz.results56,go_sem]) rfl ⟨none,0,none,0,rfl,fun i hi=>absurd hi (Nat.not_lt_zero _),fun i hi=>absurd hi (Nat.not_lt_zero _),bel⟩
end
end Go.Proofs.YtgemjjdkjmpmlaaGreatDoor
namespace Go.Proofs.YtgemjjdkjmpmlaaGreatDoor
open Go.RowKit Go.Maps Sp Mt Go.Conc
variable {B:Nat} {b:Bk} {mI gI c u v lo hi:Int} {vr vg vm vs vc x:Value} {w w0:World} {dq:List Int} {q r1 r2:List Prt} {d:Nat->Value}
noncomputable def cz (k:Nat):Code:=sql (sqN k (Tryz.f10.body.getD .skip))
theorem czBody_eq:Tryz.f10.body=some (.seq (cz 0) (.seq (cz 1) (.seq (cz 2) (.seq (cz 3) (.seq (cz 4) (.seq (cz 5) (.seq (cz 6) (.seq (cz 7) (.seq (cz 8) (.seq (cz 9) (.seq (cz 10) (.seq (cz 11) (.seq (cz 12) (.seq (cz 13) (.seq (cz 14) (.seq (cz 15) (.seq (cz 16) .ret))))))))))))))))):=by kernel_rfl
theorem cz1_eq:cz 1=.seq (sql (cz 1)) (.cond (.tmp 20) (cnd (sqr (cz 1))) .skip):=by kernel_rfl
def cI (x0 x1 x2:Value) (d:Nat->Value):Act:={ tmps:=#[x0,x1,x2,d 3,d 4,d 5,d 6,d 7,d 8,d 9,d 10,d 11,d 12,d 13,d 14,d 15,d 16,d 17,d 18,d 19,d 20,d 21,d 22,d 23,d 24,d 25,d 26,d 27,d 28,d 29,d 30,d 31,d 32,d 33,d 34,d 35,d 36,d 37,d 38,d 39,d 40,d 41,d 42,d 43,d 44,d 45,d 46,d 47,d 48,d 49,d 50,d 51,d 52,d 53,d 54,d 55,d 56,d 57,d 58,d 59,d 60,d 61,d 62,d 63,d 64,d 65,d 66,d 67,d 68,d 69,d 70,d 71,d 72,d 73,d 74,d 75,d 76,d 77,d 78,d 79,d 80,d 81,d 82,d 83,d 84,d 85,d 86,d 87,d 88,d 89,d 90,d 91,d 92,d 93,d 94,d 95,d 96,d 97,d 98,d 99,d 100,d 101,d 102,d 103,d 104,d 105,d 106,d 107,d 108,d 109,d 110,d 111,d 112,d 113,d 114,d 115,d 116,d 117,d 118,d 119,d 120,d 121,d 122,d 123,d 124,d 125,d 126,d 127,d 128,d 129,d 130,d 131],defers:=[] }
def cG (B:Nat) (mI gI:Int) (x:Value) (d:Nat->Value):Act:={ tmps:=#[d 0,.int .i64 mI,.int .i64 gI,.pointer (some ⟨B,0,none⟩),d 4,d 5,.bool false,d 7,d 8,d 9,d 10,d 11,d 12,d 13,d 14,d 15,d 16,d 17,d 18,d 19,x,d 21,d 22,d 23,d 24,d 25,d 26,d 27,d 28,d 29,d 30,d 31,d 32,d 33,d 34,d 35,d 36,d 37,d 38,d 39,d 40,d 41,d 42,d 43,d 44,d 45,d 46,d 47,d 48,d 49,d 50,d 51,d 52,d 53,d 54,d 55,d 56,d 57,d 58,d 59,d 60,d 61,d 62,d 63,d 64,d 65,d 66,d 67,d 68,d 69,d 70,d 71,d 72,d 73,d 74,d 75,d 76,d 77,d 78,d 79,d 80,d 81,d 82,d 83,d 84,d 85,d 86,d 87,d 88,d 89,d 90,d 91,d 92,d 93,d 94,d 95,d 96,d 97,d 98,d 99,d 100,d 101,d 102,d 103,d 104,d 105,d 106,d 107,d 108,d 109,d 110,d 111,d 112,d 113,d 114,d 115,d 116,d 117,d 118,d 119,d 120,d 121,d 122,d 123,d 124,d 125,d 126,d 127,d 128,d 129,d 130,d 131],defers:=[] }
def cA (B:Nat) (d:Nat->Value):Act:={ tmps:=#[d 0,d 1,d 2,.pointer (some ⟨B,0,none⟩),d 4,d 5,d 6,d 7,d 8,d 9,d 10,d 11,d 12,d 13,d 14,d 15,d 16,d 17,d 18,d 19,d 20,d 21,d 22,d 23,d 24,d 25,d 26,d 27,d 28,d 29,d 30,d 31,d 32,d 33,d 34,d 35,d 36,d 37,d 38,d 39,d 40,d 41,d 42,d 43,d 44,d 45,d 46,d 47,d 48,d 49,d 50,d 51,d 52,d 53,d 54,d 55,d 56,d 57,d 58,d 59,d 60,d 61,d 62,d 63,d 64,d 65,d 66,d 67,d 68,d 69,d 70,d 71,d 72,d 73,d 74,d 75,d 76,d 77,d 78,d 79,d 80,d 81,d 82,d 83,d 84,d 85,d 86,d 87,d 88,d 89,d 90,d 91,d 92,d 93,d 94,d 95,d 96,d 97,d 98,d 99,d 100,d 101,d 102,d 103,d 104,d 105,d 106,d 107,d 108,d 109,d 110,d 111,d 112,d 113,d 114,d 115,d 116,d 117,d 118,d 119,d 120,d 121,d 122,d 123,d 124,d 125,d 126,d 127,d 128,d 129,d 130,d 131],defers:=[] }
def cD (v:Int) (xa ya za oa:Option Addr) (n1 xc yc n2 zc oc:Nat) (d:Nat->Value):Act:={ tmps:=#[d 0,d 1,d 2,d 3,d 4,d 5,d 6,d 7,.int .i64 v,d 9,.int .i64 v,d 11,d 12,d 13,d 14,.slice xa n1 xc,.slice ya n1 yc,.slice za n2 zc,.slice oa n2 oc,d 19,d 20,d 21,d 22,d 23,d 24,d 25,d 26,d 27,d 28,d 29,d 30,d 31,d 32,d 33,d 34,d 35,d 36,d 37,d 38,d 39,d 40,d 41,d 42,d 43,d 44,d 45,d 46,d 47,d 48,d 49,d 50,d 51,d 52,d 53,d 54,d 55,d 56,d 57,d 58,d 59,d 60,d 61,d 62,d 63,d 64,d 65,d 66,d 67,d 68,d 69,d 70,d 71,d 72,d 73,d 74,d 75,d 76,d 77,d 78,d 79,d 80,d 81,d 82,d 83,d 84,d 85,d 86,d 87,d 88,d 89,d 90,d 91,d 92,d 93,d 94,d 95,d 96,d 97,d 98,d 99,d 100,d 101,d 102,d 103,d 104,d 105,d 106,d 107,d 108,d 109,d 110,d 111,d 112,d 113,d 114,d 115,d 116,d 117,d 118,d 119,d 120,d 121,d 122,d 123,d 124,d 125,d 126,d 127,d 128,d 129,d 130,d 131],defers:=[] }
structure CzSt (w:World) (B:Nat) (b:Bk) (vr vg vm vs vc:Value):Prop where
 c0:w.cell? ⟨B,0,none⟩=some vr
 c1:w.cell? ⟨B,1,none⟩=some vg
 c2:w.cell? ⟨B,2,none⟩=some vm
 c3:w.cell? ⟨B,3,none⟩=some vs
 c4:w.cell? ⟨B,4,none⟩=some vc
 bk:BookAt w b vr vg vm vs vc
 kd:KindsAt w
section
variable {w1:World} {n:Nat}
theorem CzSt.of {l:List Int} {la:Option Addr} (h:LawAt w B b l vr vg vm vs vc la) (hs:SmallB b):CzSt w B b vr vg vm vs vc:=⟨h.c0,h.c1,h.c2,h.c3,h.c4,h.raw.book hs,h.kd⟩
theorem CzSt.old (h:CzSt w B b vr vg vm vs vc) (t:Old w w1):CzSt w1 B b vr vg vm vs vc:=⟨t.cell2 h.c0,t.cell2 h.c1,t.cell2 h.c2,t.cell2 h.c3,t.cell2 h.c4,t.book h.bk,t.kinds h.kd⟩
theorem CzSt.twin (h:CzSt w B b vr vg vm vs vc) (t:Twin n w w1):CzSt w1 B b vr vg vm vs vc:=⟨(t.cell _).trans h.c0,(t.cell _).trans h.c1,(t.cell _).trans h.c2,(t.cell _).trans h.c3,(t.cell _).trans h.c4,t.book h.bk,t.kinds h.kd⟩
end
theorem parts_few {b:Bk} (h:openAl b 0=0):(partsL b).length<=1000000:=by
 have:=parts_bd (bookAl_ok (openAl_ok h).1).1;omega
theorem miss_few (b:Bk):(miss b).length<=1000000:=by
 unfold miss;split
 ·rename_i h;exact Nat.le_trans (List.length_filter_le _ _) (parts_few h)
 ·simp
theorem sur_few (b:Bk):(surQ b).length<=1000000:=by
 unfold surQ;split
 ·rename_i h;exact Nat.le_trans (List.length_filter_le _ _) (parts_few h)
 ·simp
theorem can_few (b:Bk):(canQ b).length<=1000000:=by
 unfold canQ;split
 ·rename_i h;exact Nat.le_trans (List.length_filter_le _ _) (parts_few h)
 ·simp
theorem del_few {b:Bk} (h:b.ms.length<=20):(delQ b).length<=1000000:=by
 unfold delQ;split
 ·rw [show (deliveredI b).length=b.ms.length from deliveredTo_length _ _];omega
 ·simp
def CY0 (b:Bk) (mI gI:Int) (vr vg vm vs vc:Value) (a':Act) (w2:World):Prop:=∃ B x,(∃ d,a'=cG B mI gI x d)/\LawAt w2 B b [] vr vg vm vs vc none
theorem cz_0 (hR:RawAt w b vr vg vm vs vc) (hK:KindsAt w):(cz 0).wp Tryz.prog (PZ w (CY0 b mI gI vr vg vm vs vc)) (cI (.agg #[vr,vg,vm,vs,vc]) (.int .i64 mI) (.int .i64 gI) d) w:=by
 simp only [cz,sqN,sql,sqr,cnd,blk,lpc,Tryz.f10,Option.getD_some,cI];have HR:=Hh hR;have HK:=Hh hK;clear hR hK;go_wp2;have hbw:Below w.heap.size w (w.alloc (.cells #[vr,vg,vm,vs,vc] 26)):=bel;refine ⟨rfl,⟨w.heap.size,d 20,fr_of (by kernel_rfl),⟨?_,?_,?_,?_,?_,HR.out.below hbw,HK.out.below hbw,ints_nil⟩⟩,hbw⟩ <;> (rw [World.cell?_alloc_at _ _ _ _ rfl];rfl)
def CY1 (B:Nat) (mI gI:Int) (x:Bool) (a':Act) (w2:World):Prop:=∃ d,a'=cG B mI gI (.bool x) d
theorem cz_1 {y:Bool} (hE:LawAt w B b [] vr vg vm vs vc none) (hx:y=true↔¬ SmallB b):(sql (cz 1)).wp Tryz.prog (PZ w (CY1 B mI gI y)) (cG B mI gI x d) w:=by
 simp only [cz,sqN,sql,sqr,cnd,blk,lpc,Tryz.f10,Option.getD_some,cG];have hrw:=hE.raw;obtain ⟨x0,x1,x2,x3,x4,_,_,_⟩:=hE;have HRW:=Hh hrw;have HG:=Hh hx;have hB0:=lt_of_cell x0;simp only at hB0;clear hx hrw;go_wp2_with (go_at_call 47;(with_reducible refine (great_at HRW.out HG.out).mono ?_);rintro e w1 ⟨rfl,hb1⟩);exact ⟨rfl,fr_of (by kernel_rfl),hb1⟩
end Go.Proofs.YtgemjjdkjmpmlaaGreatDoor

