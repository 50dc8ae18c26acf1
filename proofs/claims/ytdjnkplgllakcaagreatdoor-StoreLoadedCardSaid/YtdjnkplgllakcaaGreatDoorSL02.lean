/- StoreLoaded -/
import Derived.Test.YtdjnkplgllakcaaGreatDoorSL01
import Derived.Deep.RegionHeld3
import Derived.RangeFuncCalls
set_option maxHeartbeats 1000000
set_option maxRecDepth 100000
set_option linter.all false
namespace Go.Proofs.YtdjnkplgllakcaaGreatDoor
section
open Go.RowKit Go.Maps Sp
def metOf (b:Bk) (c:List Int) (m:Int) (left:Lit->Bool):Nat :=
 ((List.range ((b.ms[m.toNat]?).elim 0 Msg.groups).toNat).filter fun (g:Nat)=>decide (0 < copies b c (m,(g:Int))) && !left (klP (m,(g:Int)))).length
theorem isPart_group {b:Bk} {p:Prt} (h:isPart b p=true):0<=p.2/\p.2.toNat < ((b.ms[p.1.toNat]?).elim 0 Msg.groups).toNat:=by
 unfold isPart inB at h;simp only [Bool.and_eq_true,decide_eq_true_eq] at h;omega
theorem group_ok {b:Bk} (hO:BkOk b) {m:Int} (hm:0<=m/\m.toNat < b.ms.length) {g:Nat} (hg:g < ((b.ms[m.toNat]?).elim 0 Msg.groups).toNat):i64ok m/\i64ok (g:Int):=by
 have:=hO.ml;rw [List.getElem?_eq_getElem hm.2] at hg;have h2:=hO.groups _ (List.getElem_mem hm.2);simp only [Option.elim] at hg;have e1:IntKind.i64.min=-9223372036854775808:=rfl;have e2:IntKind.i64.max=9223372036854775807:=rfl;refine ⟨?_,?_⟩ <;> (unfold i64ok;simp [Lit.wf,e1,e2];omega)
theorem met_same {b:Bk} (hO:BkOk b) (c:List Int) {m:Int} (hm:0<=m/\m.toNat < b.ms.length) {left:Lit->Bool} {p:Prt} (hp:isPart b p=true) (hne:p.1≠m) :
 metOf b c m (fun z=>left z && !z.sameKey (klP p))=metOf b c m left:=by
 unfold metOf;congr 1;apply List.filter_congr;intro g hg;have hpk:=isPart_bounds hO.groups (by have:=hO.ml;omega) hp;dsimp only;rw [klP_ne (group_ok hO hm (List.mem_range.1 hg)) hpk (fun e=>hne (by rw [<- e]))];simp
theorem met_more {b:Bk} (hO:BkOk b) (c:List Int) {left:Lit->Bool} {p:Prt} (hp:isPart b p=true) (hl:left (klP p)=true) (hc:0 < copies b c p) (hm:0<=p.1/\p.1.toNat < b.ms.length) :
 metOf b c p.1 (fun z=>left z && !z.sameKey (klP p))=metOf b c p.1 left+1:=by
 unfold metOf;obtain ⟨h1,h2⟩:=isPart_group hp;have hpk:=isPart_bounds hO.groups (by have:=hO.ml;omega) hp;have e0:((p.2.toNat:Nat):Int)=p.2:=by omega
 have ep:(p.1,p.2)=p:=rfl;refine filter_step (g0:=p.2.toNat) (A:=fun (g:Nat)=>decide (0 < copies b c (p.1,(g:Int)))) (Q:=fun (g:Nat)=>!left (klP (p.1,(g:Int)))) (Q':=fun (g:Nat)=>!(left (klP (p.1,(g:Int))) && !(klP (p.1,(g:Int))).sameKey (klP p))) ?_ ?_ ?_ ?_ h2
 ·simp only [e0,ep,decide_eq_true_eq];exact hc
 ·simp only [e0,ep,hl];rfl
 ·simp only [e0,ep,sameKey_klP];simp
 ·intro g hgG hg;rw [klP_ne (group_ok hO hm hgG) hpk (fun e=>hg (by rw [<- e];simp))];simp
theorem ranges_same {H:Type} {P:Program} {k:TypeId} {R:Value->Option (DataW H × List MemPlace)} {b r n cnt:Nat} {D:DataW H} {left:Lit->Bool} {w w':World} (h:w.ranges P k R b r n D left cnt) (hb:w'.heap[b]? = w.heap[b]?) (hr:w'.heap[r]? = w.heap[r]?):w'.ranges P k R b r n D left cnt:=by
 obtain ⟨es,clock,since,seen,c0,h1,h2,h3,h4,h5,h6⟩:=h;exact ⟨es,clock,since,seen,c0,hb.trans h1,h2,h3,h4,hr.trans h5,h6⟩
theorem ranges_lt {H:Type} {P:Program} {k:TypeId} {R:Value->Option (DataW H × List MemPlace)} {b r n cnt:Nat} {D:DataW H} {left:Lit->Bool} {w:World} (h:w.ranges P k R b r n D left cnt):b < w.heap.size/\r < w.heap.size:=by
 obtain ⟨es,clock,since,seen,c0,h1,h2,h3,h4,h5,h6⟩:=h;exact ⟨(Array.getElem?_eq_some_iff.1 h1).1,(Array.getElem?_eq_some_iff.1 h5).1⟩
theorem ranges_al {H:Type} {P:Program} {k:TypeId} {R:Value->Option (DataW H × List MemPlace)} {b r n cnt:Nat} {D:DataW H} {left:Lit->Bool} {w:World} (h:w.ranges P k R b r n D left cnt) (o:Obj):(w.alloc o).ranges P k R b r n D left cnt :=
 ranges_same h (Below.heap_alloc w o b (ranges_lt h).1) (Below.heap_alloc w o r (ranges_lt h).2)
theorem met_start {b:Bk} (hO:BkOk b) {c:List Int} {m:Int} (hm:0<=m/\m.toNat < b.ms.length) {l:List Prt} {D:DataW Unit} (hD:∀ key kl,keyOf Tryz.prog 85 key=some kl->D.atKey kl (.lit (.int .i64 0))=.lit (.int .i64 (cntV key (l.map partV):Nat))/\(has D kl=true↔key∈l.map partV))
 (hcp:∀ p,(List.count p l:Int)=copies b c p):metOf b c m (has D)=0:=by
 unfold metOf;rw [List.length_eq_zero_iff,List.filter_eq_nil_iff];intro g hg;have hgo:=group_ok hO hm (List.mem_range.1 hg);have:=(hD _ _ (partKeyE (m,(g:Int)) hgo.1 hgo.2)).2;by_cases hz:0 < copies b c (m,(g:Int))
 ·have hmem:(m,(g:Int))∈l:=by
   rw [<- hcp] at hz;exact List.count_pos_iff.1 (by omega)
  rw [this.2 (mem_partV.2 hmem)];simp
 ·simp [hz]
theorem next_facts {b:Bk} (hO:BkOk b) {c:List Int} {l:List Prt} {D:DataW Unit} (hD:∀ key kl,keyOf Tryz.prog 85 key=some kl->D.atKey kl (.lit (.int .i64 0))=.lit (.int .i64 (cntV key (l.map partV):Nat))/\(has D kl=true↔key∈l.map partV))
 (hcp:∀ p,(List.count p l:Int)=copies b c p) (hip:∀ p∈l,isPart b p=true) {x:Prt} {kl:Lit} {y:DataW Unit} (hkey:keyOf Tryz.prog 85 (partV x)=some kl) (hat:∀ zd,D.atKey kl zd=y) :
 kl=klP x/\isPart b x=true/\0 < copies b c x:=by
 have hmem:=mem_partV.1 (((hD _ _ hkey).2).1 (has_true_of_atKey hat));have hpx:=hip _ hmem;have hbd:=isPart_bounds hO.groups (by have:=hO.ml;omega) hpx;rw [partKeyE x hbd.1 hbd.2] at hkey;refine ⟨(Option.some.inj hkey).symm,hpx,?_⟩;rw [<- hcp];have:=List.count_pos_iff.2 hmem;omega
theorem met_end {b:Bk} {c:List Int} {m:Int} {left:Lit->Bool} (h:∀ kl,left kl=false):(metOf b c m left:Int)=haveOf b c m:=by
 unfold metOf haveOf;simp [h]
theorem metOf_le {b:Bk} (hO:BkOk b) {c:List Int} {m:Int} (hm:0<=m/\m.toNat < b.ms.length) (left:Lit->Bool):metOf b c m left<=1000:=by
 unfold metOf;refine Nat.le_trans (List.length_filter_le _ _) ?_;rw [List.length_range,List.getElem?_eq_getElem hm.2];have:=hO.groups _ (List.getElem_mem hm.2);simp only [Option.elim];omega
theorem have_at {b:Bk} {vr vg vm vs vc:Value} {w:World} (hB:BookAt w b vr vg vm vs vc) (hO:BkOk b) {c:List Int} (hc:Came b c) (hc4:c.length=4) {m:Int} (hm:0<=m/\m.toNat < b.ms.length) :
 Calls Tryz.prog 67 #[.agg #[vr,vg,vm,vs,vc],cameV c,.int .i64 m] w fun e w'=>e=.returned (.int .i64 (haveOf b c m))/\Below w.heap.size w w':=by
 obtain ⟨c0,c1,c2,c3,rfl⟩:=four hc4;rw [show cameV [c0,c1,c2,c3]=.agg #[.int .i64 c0,.int .i64 c1,.int .i64 c2,.int .i64 c3] from rfl];have hcop:=fun (w':World) (hb:Below w.heap.size w w')=>copies_at (hB.below hb) hO hc hc4;rw [show cameV [c0,c1,c2,c3]=.agg #[.int .i64 c0,.int .i64 c1,.int .i64 c2,.int .i64 c3] from rfl] at hcop;have HCOP:=Hh hcop;have HO:=Hh hO;clear hO;have HC:=Hh hc;clear hc hc4 hB hcop
 go_enter Tryz.func67,Tryz.ntmps67
 go_wp2_with (first
  | (go_at_call 96;(with_reducible refine (HCOP.out _ (Below.al (Below.al (Below.refl _ _) _) _)).mono ?_);rintro e w1 ⟨B,n,l,rfl,hB1,⟨D,hown,hmap,hD⟩,hcp,hip,hb1⟩)
  | (at_range;refine wpList_range_own _ rfl _ 153 rfl 85 3 partKeyed Tryz.underlying153 _ B n D rfl hown ?_;intro w2 hrg hg2 hs2))
 go_frame
 have hmet0:=met_start HO.out hm hD hcp;have hlt2:=ranges_lt hrg;have hw2:Below w.heap.size w w2:=by
  refine Below.grown (w:=w1) ?_ hg2 (by have:=hb1.size;simp at this;omega) (fun _ e=>by cases e)
  (exact bel)
 have HD:=Hh hD;have HIP:=Hh hip;have HCP:=Hh hcp;have hr1:w.heap.size<=w1.heap.size:=by have:=hb1.size;simp at this;omega
 clear hD hip hcp hown hg2 hs2;go_loopw [7] (fun v wr=>∃ (left:Lit->Bool) (cnt nn:Nat),wr.ranges Tryz.prog 85 (plainElem Tryz.prog 3) B w1.heap.size n D left cnt/\v=.int .i64 nn/\Hid (nn=metOf b [c0,c1,c2,c3] m left)/\Below w.heap.size w wr) (fun _ wr=>wr.rangeLeft B w1.heap.size)
 case atStart=>exact ⟨_,_,0,hrg,rfl,hmet0.symm,hw2⟩
 case round =>
  obtain ⟨left,cnt,nn,hrgr,rfl,hnn,hWr⟩:=hrel;have hle:nn<=1000:=by rw [hnn.out];exact metOf_le HO.out hm left
  clear hrg hmet0 hlt2 hw2;go_wp2_with (at_next;refine wpList_next_ranges _ rfl _ rfl 85 partKeyed (plainElem Tryz.prog 3) partV (Value.int .i64) (fun _ _ h=>partKey_inv h) (fun v y hv=>by obtain ⟨c,rfl,_⟩:=plainElem_int_inv Tryz.underlying3 hv;exact ⟨c,rfl⟩) B _ n D _ _ rfl hrgr ?_ ?_;(intro hc0 hl0;have HL0:=Hh hl0;clear hl0;have tok0:True:=trivial);rotate_left;(intro x cc kl y w3 cnt3 hkey hlk hv hat hrg1 hlt3 hg1 hs1 hen;obtain ⟨rfl,hpx,hcx⟩:=next_facts HO.out HD.out HCP.out HIP.out hkey hat;obtain ⟨pm,pg⟩:=x;have HPX:=Hh hpx;have HCX:=Hh hcx;have HLK:=Hh hlk;have HME:=Hh hrgr.left_eq;have HM1:=Hh hrg1.left_eq;unfold partV at hen ⊢;clear hkey hpx hcx hlk hv hat;by_cases hxm:pm=m);rotate_left;rotate_left)
  ·go_ret;refine ⟨by (show Ending.returned (.int .i64 (nn:Int))=_;rw [<- met_end (b:=b) (m:=m) HL0.out,<- hnn.out]),bel⟩
  ·subst hxm;go_roundw
   case rel=>exact ⟨_,_,nn+1,ranges_al hrg1 _,by go_num,(by rw [show nn+1=metOf b [c0,c1,c2,c3] pm left+1 from by rw [hnn.out]];exact (met_more HO.out _ HPX.out HLK.out HCX.out hm).symm),bel⟩
   case measure=>rw [(ranges_al hrg1 _).left_eq,HME.out];omega
  ·go_roundw
   case rel=>exact ⟨_,_,nn,ranges_al hrg1 _,rfl,hnn.out.trans (met_same HO.out _ hm HPX.out hxm).symm,bel⟩
   case measure=>rw [(ranges_al hrg1 _).left_eq,HME.out];omega
section
variable {b:Bk} {vr vg vm vs vc:Value} {w:World}
structure Boxes (w W:World) (vr vg vm vs vc:Value) (c0 c1 c2 c3 k a rb m:Int):Prop where
 five:Five W w.heap.size vr vg vm vs vc
 came:∀ i,i < 4->W.cell? ⟨w.heap.size+1,i,none⟩=some (.int .i64 ([c0,c1,c2,c3].getD i 0))
 rk:W.cell? ⟨w.heap.size+1+1,0,none⟩=some (.int .i64 k)
 ra:W.cell? ⟨w.heap.size+1+1,1,none⟩=some (.int .i64 a)
 rb:W.cell? ⟨w.heap.size+1+1,2,none⟩=some (.int .i64 rb)
 rm:W.cell? ⟨w.heap.size+1+1,3,none⟩=some (.int .i64 m)
 below:Below w.heap.size w W
 size:W.heap.size=w.heap.size+1+1+1
theorem boxes3 (w:World) (vr vg vm vs vc:Value) (c0 c1 c2 c3 k a rb m:Int) (t1 t2 t3:TypeId) :
 Boxes w (((w.alloc (.cells #[vr,vg,vm,vs,vc] t1)).alloc (.cells #[.int .i64 c0,.int .i64 c1,.int .i64 c2,.int .i64 c3] t2)).alloc (.cells #[.int .i64 k,.int .i64 a,.int .i64 rb,.int .i64 m] t3)) vr vg vm vs vc c0 c1 c2 c3 k a rb m:=by
 refine ⟨⟨?_,?_,?_,?_,?_,by simp;omega⟩,fun i hi=>?_,?_,?_,?_,?_,bel,by simp⟩
 iterate 5 (rw [World.cell?_alloc_past _ _ _ (by simp;omega),World.cell?_alloc_past _ _ _ (by simp),World.cell?_alloc_at _ _ _ _ rfl];rfl)
 ·rw [World.cell?_alloc_past _ _ _ (by simp),World.cell?_alloc_at _ _ _ _ (by simp)];have:i=0\/i=1\/i=2\/i=3:=by omega
  rcases this with rfl | rfl | rfl | rfl <;> rfl
 iterate 4 (rw [World.cell?_alloc_at _ _ _ _ (by simp)];rfl)
theorem right0 (hB:BookAt w b vr vg vm vs vc) (hs:b.ss.length<=4) (c0 c1 c2 c3 a rb m:Int) (ha:inB a 0 ((b.ss.length:Int) - 1)=true) {t:Bool} (h:rightR b [c0,c1,c2,c3] ⟨0,a,rb,m⟩=t) :
 Calls Tryz.prog 150 #[.agg #[vr,vg,vm,vs,vc],.agg #[.int .i64 c0,.int .i64 c1,.int .i64 c2,.int .i64 c3],.agg #[.int .i64 0,.int .i64 a,.int .i64 rb,.int .i64 m]] w fun e w'=>e=.returned (.bool t)/\Below w.heap.size w w':=by
 obtain ⟨sa,sc,rfl,hM,hl⟩:=hB.ss;obtain ⟨h1,h2⟩:=inB_nat.1 ha;obtain ⟨sb,so,rfl,hsb,pa,pc,d0,hpc,hpl,_⟩:=hM _ h2;simp [rightR,List.getElem?_eq_getElem h2] at h;have h3:a < b.ss.length:=by omega
 have h4:a < 4:=by omega
 generalize hs:b.ss[a.toNat]=s at *;have HS:=Hh hs;have H:=Hh h;clear hs h hB hM ha
 go_enter Tryz.func150,Tryz.ntmps150
 go_wp2;obtain ⟨W0,hW0⟩:∃ W0,W0=((w.alloc (.cells #[vr,vg,vm,.slice (some ⟨sb,so,none⟩) b.ss.length sc,vc] 88)).alloc (.cells #[.int .i64 c0,.int .i64 c1,.int .i64 c2,.int .i64 c3] 116)).alloc (.cells #[.int .i64 0,.int .i64 a,.int .i64 rb,.int .i64 m] 79):=⟨_,rfl⟩;rw [<- hW0];obtain ⟨⟨y0,y1,y2,y3,y4,y5⟩,yc,z0,z1,z2,z3,hb0,hsz⟩:=hW0 ▸ boxes3 w vr vg vm (.slice (some ⟨sb,so,none⟩) b.ss.length sc) vc c0 c1 c2 c3 0 a rb m 88 116 79;have d1:=(hb0.cell hsb).trans d0;have hc:=yc a.toNat (by omega);generalize hck:List.getD [c0,c1,c2,c3] a.toNat 0=ck at hc;have HCK:=Hh hck;clear hW0 hck yc d0 hsz;go_quiet (fail);go_wp2;go_ret;refine ⟨?_,bel⟩;rw [<- H.out,<- HCK.out];rfl
theorem right1 (hB:BookAt w b vr vg vm vs vc) (hs:b.ss.length<=4) (c0 c1 c2 c3 a rb m:Int) (ha:inB a 0 ((b.ss.length:Int) - 1)=true) {t:Bool} (h:rightR b [c0,c1,c2,c3] ⟨1,a,rb,m⟩=t) :
 Calls Tryz.prog 151 #[.agg #[vr,vg,vm,vs,vc],.agg #[.int .i64 c0,.int .i64 c1,.int .i64 c2,.int .i64 c3],.agg #[.int .i64 1,.int .i64 a,.int .i64 rb,.int .i64 m]] w fun e w'=>e=.returned (.bool t)/\Below w.heap.size w w':=by
 obtain ⟨sa,sc,rfl,hM,hl⟩:=hB.ss;obtain ⟨h1,h2⟩:=inB_nat.1 ha;obtain ⟨sb,so,rfl,hsb,pa,pc,d0,hpc,hpl,_⟩:=hM _ h2;simp [rightR,List.getElem?_eq_getElem h2] at h;have h3:a < b.ss.length:=by omega
 have h4:a < 4:=by omega
 generalize hs:b.ss[a.toNat]=s at *;have HS:=Hh hs;have H:=Hh h;clear hs h hB hM ha
 go_enter Tryz.func151,Tryz.ntmps151
 go_wp2;obtain ⟨W0,hW0⟩:∃ W0,W0=((w.alloc (.cells #[vr,vg,vm,.slice (some ⟨sb,so,none⟩) b.ss.length sc,vc] 88)).alloc (.cells #[.int .i64 c0,.int .i64 c1,.int .i64 c2,.int .i64 c3] 116)).alloc (.cells #[.int .i64 1,.int .i64 a,.int .i64 rb,.int .i64 m] 79):=⟨_,rfl⟩;rw [<- hW0];obtain ⟨⟨y0,y1,y2,y3,y4,y5⟩,yc,z0,z1,z2,z3,hb0,hsz⟩:=hW0 ▸ boxes3 w vr vg vm (.slice (some ⟨sb,so,none⟩) b.ss.length sc) vc c0 c1 c2 c3 1 a rb m 88 116 79;have d1:=(hb0.cell hsb).trans d0;have hc:=yc a.toNat (by omega);generalize hck:List.getD [c0,c1,c2,c3] a.toNat 0=ck at hc;have HCK:=Hh hck;clear hW0 hck yc d0 hsz;go_quiet (fail);go_wp2;go_ret;refine ⟨?_,bel⟩;rw [<- H.out,<- HCK.out];rfl
theorem right2 (hB:BookAt w b vr vg vm vs vc) (hs:b.ss.length<=4) (c0 c1 c2 c3 a rb m:Int) (ha:inB a 0 ((b.ss.length:Int) - 1)=true) {t:Bool} (h:rightR b [c0,c1,c2,c3] ⟨2,a,rb,m⟩=t) :
 Calls Tryz.prog 152 #[.agg #[vr,vg,vm,vs,vc],.agg #[.int .i64 c0,.int .i64 c1,.int .i64 c2,.int .i64 c3],.agg #[.int .i64 2,.int .i64 a,.int .i64 rb,.int .i64 m]] w fun e w'=>e=.returned (.bool t)/\Below w.heap.size w w':=by
 obtain ⟨sa,sc,rfl,hM,hl⟩:=hB.ss;obtain ⟨h1,h2⟩:=inB_nat.1 ha;obtain ⟨sb,so,rfl,hsb,pa,pc,d0,hpc,hpl,_⟩:=hM _ h2;simp [rightR] at h;have h3:a < b.ss.length:=by omega
 have h4:a < 4:=by omega
 generalize hs:b.ss[a.toNat]=s at *;have HS:=Hh hs;have H:=Hh h;clear hs h hB hM ha
 go_enter Tryz.func152,Tryz.ntmps152
 go_wp2;obtain ⟨W0,hW0⟩:∃ W0,W0=((w.alloc (.cells #[vr,vg,vm,.slice (some ⟨sb,so,none⟩) b.ss.length sc,vc] 88)).alloc (.cells #[.int .i64 c0,.int .i64 c1,.int .i64 c2,.int .i64 c3] 116)).alloc (.cells #[.int .i64 2,.int .i64 a,.int .i64 rb,.int .i64 m] 79):=⟨_,rfl⟩;rw [<- hW0];obtain ⟨⟨y0,y1,y2,y3,y4,y5⟩,yc,z0,z1,z2,z3,hb0,hsz⟩:=hW0 ▸ boxes3 w vr vg vm (.slice (some ⟨sb,so,none⟩) b.ss.length sc) vc c0 c1 c2 c3 2 a rb m 88 116 79;have d1:=(hb0.cell hsb).trans d0;have hc:=yc a.toNat (by omega);generalize hck:List.getD [c0,c1,c2,c3] a.toNat 0=ck at hc;have HCK:=Hh hck;clear hW0 hck yc d0 hsz;go_quiet (fail);go_wp2;go_ret;refine ⟨?_,bel⟩;rw [<- H.out,<- HCK.out];rfl
theorem right3 (hB:BookAt w b vr vg vm vs vc) (hs:b.ss.length<=4) (c0 c1 c2 c3 a rb m:Int) (ha:inB a 0 ((b.ss.length:Int) - 1)=true) {t:Bool} (h:rightR b [c0,c1,c2,c3] ⟨3,a,rb,m⟩=t) :
 Calls Tryz.prog 153 #[.agg #[vr,vg,vm,vs,vc],.agg #[.int .i64 c0,.int .i64 c1,.int .i64 c2,.int .i64 c3],.agg #[.int .i64 3,.int .i64 a,.int .i64 rb,.int .i64 m]] w fun e w'=>e=.returned (.bool t)/\Below w.heap.size w w':=by
 obtain ⟨sa,sc,rfl,hM,hl⟩:=hB.ss;obtain ⟨h1,h2⟩:=inB_nat.1 ha;obtain ⟨sb,so,rfl,hsb,pa,pc,d0,hpc,hpl,_⟩:=hM _ h2;simp [rightR] at h;have h3:a < b.ss.length:=by omega
 have h4:a < 4:=by omega
 generalize hs:b.ss[a.toNat]=s at *;have HS:=Hh hs;have H:=Hh h;clear hs h hB hM ha
 go_enter Tryz.func153,Tryz.ntmps153
 go_wp2;obtain ⟨W0,hW0⟩:∃ W0,W0=((w.alloc (.cells #[vr,vg,vm,.slice (some ⟨sb,so,none⟩) b.ss.length sc,vc] 88)).alloc (.cells #[.int .i64 c0,.int .i64 c1,.int .i64 c2,.int .i64 c3] 116)).alloc (.cells #[.int .i64 3,.int .i64 a,.int .i64 rb,.int .i64 m] 79):=⟨_,rfl⟩;rw [<- hW0];obtain ⟨⟨y0,y1,y2,y3,y4,y5⟩,yc,z0,z1,z2,z3,hb0,hsz⟩:=hW0 ▸ boxes3 w vr vg vm (.slice (some ⟨sb,so,none⟩) b.ss.length sc) vc c0 c1 c2 c3 3 a rb m 88 116 79;have d1:=(hb0.cell hsb).trans d0;have hc:=yc a.toNat (by omega);generalize hck:List.getD [c0,c1,c2,c3] a.toNat 0=ck at hc;have HCK:=Hh hck;clear hW0 hck yc d0 hsz;go_quiet (fail);go_wp2;go_ret;refine ⟨?_,bel⟩;rw [<- H.out,<- HCK.out];rfl
theorem right5 (hB:BookAt w b vr vg vm vs vc) (hO:BkOk b) (c0 c1 c2 c3 a rb m:Int) (hc:Came b [c0,c1,c2,c3]) (ha:inB a 0 ((b.ms.length:Int) - 1)=true) {t:Bool} (h:rightR b [c0,c1,c2,c3] ⟨5,a,rb,m⟩=t) :
 Calls Tryz.prog 157 #[.agg #[vr,vg,vm,vs,vc],.agg #[.int .i64 c0,.int .i64 c1,.int .i64 c2,.int .i64 c3],.agg #[.int .i64 5,.int .i64 a,.int .i64 rb,.int .i64 m]] w fun e w'=>e=.returned (.bool t)/\Below w.heap.size w w':=by
 have ha2:=inB_nat.1 ha;simp [rightR] at h;have hhv:=fun (w':World) (hb:Below w.heap.size w w')=>have_at (hB.below hb) hO hc rfl ha2;rw [show cameV [c0,c1,c2,c3]=.agg #[.int .i64 c0,.int .i64 c1,.int .i64 c2,.int .i64 c3] from rfl] at hhv;generalize haveOf b [c0,c1,c2,c3] a=n at h hhv;have H:=Hh h;have HV:=Hh hhv;clear h hB hO hc ha ha2 hhv
 go_enter Tryz.func157,Tryz.ntmps157
 go_wp2
 (refine wp_region_bel (by kernel_rfl) (by kernel_rfl) ?_;(repeat (go_big_quiet_step ((go_at_call 67;with_reducible exact Calls.bel_of (HV.out _ (Below.next (Below.al (Below.al (Below.al (Below.refl _ _) _) _) _) (later_below _ _)))))));refine wpQuiet_nil ?_;rintro _ ⟨xq,rfl⟩)
 go_wp2;go_ret;refine ⟨?_,by have:=later_below _ xq;(exact bel)⟩;rw [<- H.out];rfl
theorem right4 (hB:BookAt w b vr vg vm vs vc) (hO:BkOk b) (c0 c1 c2 c3 a rb m:Int) (hc:Came b [c0,c1,c2,c3]) (ha:isPart b (a,rb)=true) {t:Bool} (h:rightR b [c0,c1,c2,c3] ⟨4,a,rb,m⟩=t) :
 Calls Tryz.prog 155 #[.agg #[vr,vg,vm,vs,vc],.agg #[.int .i64 c0,.int .i64 c1,.int .i64 c2,.int .i64 c3],.agg #[.int .i64 4,.int .i64 a,.int .i64 rb,.int .i64 m]] w fun e w'=>e=.returned (.bool t)/\Below w.heap.size w w':=by
 have hbd:=isPart_bounds hO.groups (by have:=hO.ml;omega) ha;have hkey:=partKeyE (a,rb) hbd.1 hbd.2;simp [rightR] at h;have hhv:=fun (w':World) (hb:Below w.heap.size w w')=>copies_at (hB.below hb) hO hc rfl;rw [show cameV [c0,c1,c2,c3]=.agg #[.int .i64 c0,.int .i64 c1,.int .i64 c2,.int .i64 c3] from rfl] at hhv;generalize hcc:copies b [c0,c1,c2,c3] (a,rb)=nc at h;have H:=Hh h;have HV:=Hh hhv;have HK:=Hh hkey;have HCC:=Hh hcc;clear h hB hO hc ha hbd hhv hkey hcc
 go_enter Tryz.func155,Tryz.ntmps155
 go_wp2;obtain ⟨W0,hW0⟩:∃ W0,W0=((w.alloc (.cells #[vr,vg,vm,vs,vc] 88)).alloc (.cells #[.int .i64 c0,.int .i64 c1,.int .i64 c2,.int .i64 c3] 116)).alloc (.cells #[.int .i64 4,.int .i64 a,.int .i64 rb,.int .i64 m] 79):=⟨_,rfl⟩;rw [<- hW0];obtain ⟨⟨y0,y1,y2,y3,y4,y5⟩,yc,z0,z1,z2,z3,hb0,hsz⟩:=hW0 ▸ boxes3 w vr vg vm vs vc c0 c1 c2 c3 4 a rb m 88 116 79;have k0:=yc 0 (by omega);have k1:=yc 1 (by omega);have k2:=yc 2 (by omega);have k3:=yc 3 (by omega);simp only [List.getD_cons_zero,List.getD_cons_succ] at k0 k1 k2 k3;clear yc hW0;have hall:∀ w':World,Below W0.heap.size W0 w'->(Below W0.heap.size W0 w'/\w'.cell? ⟨w.heap.size,0,none⟩=some vr/\w'.cell? ⟨w.heap.size,1,none⟩=some vg/\w'.cell? ⟨w.heap.size,2,none⟩=some vm/\w'.cell? ⟨w.heap.size,3,none⟩=some vs/\w'.cell? ⟨w.heap.size,4,none⟩=some vc /\
  w'.cell? ⟨w.heap.size+1,0,none⟩=some (.int .i64 c0)/\w'.cell? ⟨w.heap.size+1,1,none⟩=some (.int .i64 c1)/\w'.cell? ⟨w.heap.size+1,2,none⟩=some (.int .i64 c2)/\w'.cell? ⟨w.heap.size+1,3,none⟩=some (.int .i64 c3) /\
  w'.cell? ⟨w.heap.size+1+1,1,none⟩=some (.int .i64 a)/\w'.cell? ⟨w.heap.size+1+1,2,none⟩=some (.int .i64 rb)/\w'.cell? ⟨w.heap.size+1+1,3,none⟩=some (.int .i64 m)):=fun w' h =>
  ⟨h,(h.cell (by simp;omega)).trans y0,(h.cell (by simp;omega)).trans y1,(h.cell (by simp;omega)).trans y2,(h.cell (by simp;omega)).trans y3,(h.cell (by simp;omega)).trans y4,(h.cell (by simp;omega)).trans k0,(h.cell (by simp;omega)).trans k1,(h.cell (by simp;omega)).trans k2,(h.cell (by simp;omega)).trans k3,(h.cell (by simp;omega)).trans z1,(h.cell (by simp;omega)).trans z2,(h.cell (by simp;omega)).trans z3⟩
 have HALL:=Hh hall;clear hall hsz;go_region_held3 (fun w'=>Below W0.heap.size W0 w'/\w'.cell? ⟨w.heap.size,0,none⟩=some vr/\w'.cell? ⟨w.heap.size,1,none⟩=some vg/\w'.cell? ⟨w.heap.size,2,none⟩=some vm/\w'.cell? ⟨w.heap.size,3,none⟩=some vs/\w'.cell? ⟨w.heap.size,4,none⟩=some vc /\
  w'.cell? ⟨w.heap.size+1,0,none⟩=some (.int .i64 c0)/\w'.cell? ⟨w.heap.size+1,1,none⟩=some (.int .i64 c1)/\w'.cell? ⟨w.heap.size+1,2,none⟩=some (.int .i64 c2)/\w'.cell? ⟨w.heap.size+1,3,none⟩=some (.int .i64 c3) /\
  w'.cell? ⟨w.heap.size+1+1,1,none⟩=some (.int .i64 a)/\w'.cell? ⟨w.heap.size+1+1,2,none⟩=some (.int .i64 rb)/\w'.cell? ⟨w.heap.size+1+1,3,none⟩=some (.int .i64 m))
  (exact HALL.out _ (bel))
  (first
    | (go_at_call 96;go_split_ands;(with_reducible refine (HV.out _ (Below.next hb0 (by assumption))).mono ?_);rintro e w1 ⟨B,n,l,rfl,hB1,hcnt,hcp,hip,hb1⟩;have hlk:=CntAt.look (t:=153) hcnt partKeyed Tryz.underlying153 Tryz.underlying3 (zeroInt _) HK.out;rw [cntV_partV,hcp] at hlk;unfold partV at hlk;rw [HCC.out] at hlk;clear hcp hcnt hip))
 all_goals
  go_wp2;go_ret;refine ⟨?_,bel⟩;rw [<- H.out];rfl
end
section
variable {b:Bk} {vr vg vm vs vc:Value} {w:World}
theorem recAl_facts {b:Bk} {k a rb m:Int} (h:recAl b ⟨k,a,rb,m⟩=0):(0<=k/\k<=5)/\(k<=3->inB a 0 ((b.ss.length:Int) - 1)=true)/\(k=4->isPart b (a,rb)=true)/\(k=5->inB a 0 ((b.ms.length:Int) - 1)=true):=by
 unfold recAl at h;split at h
 ·cases h
 ·rename_i hk
  simp only [Bool.not_eq_false,inB,decide_eq_true_eq] at hk;refine ⟨hk,?_⟩;split at h
  ·cases h
  ·cases hm:most b ⟨k,a,rb,m⟩ with
   | none=>rw [hm] at h;cases h
   | some n =>
    unfold most at hm;dsimp only at hm;refine ⟨fun hk3=>?_,fun hk4=>?_,fun hk5=>?_⟩
    ·rw [if_pos hk3] at hm;split at hm
     ·assumption
     ·cases hm
    ·rw [if_neg (by omega),if_pos hk4] at hm;split at hm
     ·assumption
     ·cases hm
    ·rw [if_neg (by omega),if_neg (by omega)] at hm;split at hm
     ·assumption
     ·cases hm
theorem wrong_0 (hB:BookAt w b vr vg vm vs vc) (hO:BkOk b) (hK:KindsAt w) {bb cb:Nat} (h5:Five w bb vr vg vm vs vc) (c0 c1 c2 c3 a rb m:Int) (hc:Came b [c0,c1,c2,c3])
 (k0:w.cell? ⟨cb,0,none⟩=some (.int .i64 c0)) (k1:w.cell? ⟨cb,1,none⟩=some (.int .i64 c1)) (k2:w.cell? ⟨cb,2,none⟩=some (.int .i64 c2)) (k3:w.cell? ⟨cb,3,none⟩=some (.int .i64 c3)) (hcb:cb < w.heap.size)
 (hr:recAl b ⟨0,a,rb,m⟩=0) {t:Bool} (h:rightR b [c0,c1,c2,c3] ⟨0,a,rb,m⟩=t) :
 Calls Tryz.prog 125 #[.agg #[.int .i64 0,.int .i64 a,.int .i64 rb,.int .i64 m],.pointer (some ⟨bb,0,none⟩),.pointer (some ⟨cb,0,none⟩)] w fun e w'=>e=.returned (.bool (!t))/\Below w.heap.size w w':=by
 have hf:=recAl_facts hr;have HA:=Hh (hf.2.1 (by omega));obtain ⟨hlt,hK⟩:=hK;obtain ⟨⟨s,_,g0⟩,g1,g2,g3,g4⟩:=hK 0 (by omega);simp [usesB,usesMany,kindMost,kindRight] at g0 g1 g2 g3 g4;obtain ⟨y0,y1,y2,y3,y4,y5⟩:=h5;have HB:=Hh hB;have HO:=Hh hO;have HC:=Hh hc;have H:=Hh h;clear hB hO hc h hK hf hr
 go_enter Tryz.func125,Tryz.ntmps125
 go_wp2;obtain ⟨W0,hW0⟩:∃ W0,W0=w.alloc (.cells #[.int .i64 0,.int .i64 a,.int .i64 rb,.int .i64 m] 79):=⟨_,rfl⟩;have hb0:Below w.heap.size w W0:=by rw [hW0];(exact bel)
 (refine wp_region_bel (by kernel_rfl) (by kernel_rfl) ?_;(repeat (go_big_quiet_step ((go_at_call 150;with_reducible exact Calls.bel_of (right0 (HB.out.below (Below.next (Below.al (Below.refl _ _) _) (later_below _ _))) HO.out.sl c0 c1 c2 c3 a rb m HA.out H.out)))));refine wpQuiet_nil ?_;rintro _ ⟨xq,rfl⟩)
 go_wp2;go_ret;exact ⟨rfl,by have:=later_below _ xq;(exact bel)⟩
theorem wrong_1 (hB:BookAt w b vr vg vm vs vc) (hO:BkOk b) (hK:KindsAt w) {bb cb:Nat} (h5:Five w bb vr vg vm vs vc) (c0 c1 c2 c3 a rb m:Int) (hc:Came b [c0,c1,c2,c3])
 (k0:w.cell? ⟨cb,0,none⟩=some (.int .i64 c0)) (k1:w.cell? ⟨cb,1,none⟩=some (.int .i64 c1)) (k2:w.cell? ⟨cb,2,none⟩=some (.int .i64 c2)) (k3:w.cell? ⟨cb,3,none⟩=some (.int .i64 c3)) (hcb:cb < w.heap.size)
 (hr:recAl b ⟨1,a,rb,m⟩=0) {t:Bool} (h:rightR b [c0,c1,c2,c3] ⟨1,a,rb,m⟩=t) :
 Calls Tryz.prog 125 #[.agg #[.int .i64 1,.int .i64 a,.int .i64 rb,.int .i64 m],.pointer (some ⟨bb,0,none⟩),.pointer (some ⟨cb,0,none⟩)] w fun e w'=>e=.returned (.bool (!t))/\Below w.heap.size w w':=by
 have hf:=recAl_facts hr;have HA:=Hh (hf.2.1 (by omega));obtain ⟨hlt,hK⟩:=hK;obtain ⟨⟨s,_,g0⟩,g1,g2,g3,g4⟩:=hK 1 (by omega);simp [usesB,usesMany,kindMost,kindRight] at g0 g1 g2 g3 g4;obtain ⟨y0,y1,y2,y3,y4,y5⟩:=h5;have HB:=Hh hB;have HO:=Hh hO;have HC:=Hh hc;have H:=Hh h;clear hB hO hc h hK hf hr
 go_enter Tryz.func125,Tryz.ntmps125
 go_wp2;obtain ⟨W0,hW0⟩:∃ W0,W0=w.alloc (.cells #[.int .i64 1,.int .i64 a,.int .i64 rb,.int .i64 m] 79):=⟨_,rfl⟩;have hb0:Below w.heap.size w W0:=by rw [hW0];(exact bel)
 (refine wp_region_bel (by kernel_rfl) (by kernel_rfl) ?_;(repeat (go_big_quiet_step ((go_at_call 151;with_reducible exact Calls.bel_of (right1 (HB.out.below (Below.next (Below.al (Below.refl _ _) _) (later_below _ _))) HO.out.sl c0 c1 c2 c3 a rb m HA.out H.out)))));refine wpQuiet_nil ?_;rintro _ ⟨xq,rfl⟩)
 go_wp2;go_ret;exact ⟨rfl,by have:=later_below _ xq;(exact bel)⟩
theorem wrong_2 (hB:BookAt w b vr vg vm vs vc) (hO:BkOk b) (hK:KindsAt w) {bb cb:Nat} (h5:Five w bb vr vg vm vs vc) (c0 c1 c2 c3 a rb m:Int) (hc:Came b [c0,c1,c2,c3])
 (k0:w.cell? ⟨cb,0,none⟩=some (.int .i64 c0)) (k1:w.cell? ⟨cb,1,none⟩=some (.int .i64 c1)) (k2:w.cell? ⟨cb,2,none⟩=some (.int .i64 c2)) (k3:w.cell? ⟨cb,3,none⟩=some (.int .i64 c3)) (hcb:cb < w.heap.size)
 (hr:recAl b ⟨2,a,rb,m⟩=0) {t:Bool} (h:rightR b [c0,c1,c2,c3] ⟨2,a,rb,m⟩=t) :
 Calls Tryz.prog 125 #[.agg #[.int .i64 2,.int .i64 a,.int .i64 rb,.int .i64 m],.pointer (some ⟨bb,0,none⟩),.pointer (some ⟨cb,0,none⟩)] w fun e w'=>e=.returned (.bool (!t))/\Below w.heap.size w w':=by
 have hf:=recAl_facts hr;have HA:=Hh (hf.2.1 (by omega));obtain ⟨hlt,hK⟩:=hK;obtain ⟨⟨s,_,g0⟩,g1,g2,g3,g4⟩:=hK 2 (by omega);simp [usesB,usesMany,kindMost,kindRight] at g0 g1 g2 g3 g4;obtain ⟨y0,y1,y2,y3,y4,y5⟩:=h5;have HB:=Hh hB;have HO:=Hh hO;have HC:=Hh hc;have H:=Hh h;clear hB hO hc h hK hf hr
 go_enter Tryz.func125,Tryz.ntmps125
 go_wp2;obtain ⟨W0,hW0⟩:∃ W0,W0=w.alloc (.cells #[.int .i64 2,.int .i64 a,.int .i64 rb,.int .i64 m] 79):=⟨_,rfl⟩;have hb0:Below w.heap.size w W0:=by rw [hW0];(exact bel)
 (refine wp_region_bel (by kernel_rfl) (by kernel_rfl) ?_;(repeat (go_big_quiet_step ((go_at_call 152;with_reducible exact Calls.bel_of (right2 (HB.out.below (Below.next (Below.al (Below.refl _ _) _) (later_below _ _))) HO.out.sl c0 c1 c2 c3 a rb m HA.out H.out)))));refine wpQuiet_nil ?_;rintro _ ⟨xq,rfl⟩)
 go_wp2;go_ret;exact ⟨rfl,by have:=later_below _ xq;(exact bel)⟩
theorem wrong_3 (hB:BookAt w b vr vg vm vs vc) (hO:BkOk b) (hK:KindsAt w) {bb cb:Nat} (h5:Five w bb vr vg vm vs vc) (c0 c1 c2 c3 a rb m:Int) (hc:Came b [c0,c1,c2,c3])
 (k0:w.cell? ⟨cb,0,none⟩=some (.int .i64 c0)) (k1:w.cell? ⟨cb,1,none⟩=some (.int .i64 c1)) (k2:w.cell? ⟨cb,2,none⟩=some (.int .i64 c2)) (k3:w.cell? ⟨cb,3,none⟩=some (.int .i64 c3)) (hcb:cb < w.heap.size)
 (hr:recAl b ⟨3,a,rb,m⟩=0) {t:Bool} (h:rightR b [c0,c1,c2,c3] ⟨3,a,rb,m⟩=t) :
 Calls Tryz.prog 125 #[.agg #[.int .i64 3,.int .i64 a,.int .i64 rb,.int .i64 m],.pointer (some ⟨bb,0,none⟩),.pointer (some ⟨cb,0,none⟩)] w fun e w'=>e=.returned (.bool (!t))/\Below w.heap.size w w':=by
 have hf:=recAl_facts hr;have HA:=Hh (hf.2.1 (by omega));obtain ⟨hlt,hK⟩:=hK;obtain ⟨⟨s,_,g0⟩,g1,g2,g3,g4⟩:=hK 3 (by omega);simp [usesB,usesMany,kindMost,kindRight] at g0 g1 g2 g3 g4;obtain ⟨y0,y1,y2,y3,y4,y5⟩:=h5;have HB:=Hh hB;have HO:=Hh hO;have HC:=Hh hc;have H:=Hh h;clear hB hO hc h hK hf hr
 go_enter Tryz.func125,Tryz.ntmps125
 go_wp2;obtain ⟨W0,hW0⟩:∃ W0,W0=w.alloc (.cells #[.int .i64 3,.int .i64 a,.int .i64 rb,.int .i64 m] 79):=⟨_,rfl⟩;have hb0:Below w.heap.size w W0:=by rw [hW0];(exact bel)
 (refine wp_region_bel (by kernel_rfl) (by kernel_rfl) ?_;(repeat (go_big_quiet_step ((go_at_call 153;with_reducible exact Calls.bel_of (right3 (HB.out.below (Below.next (Below.al (Below.refl _ _) _) (later_below _ _))) HO.out.sl c0 c1 c2 c3 a rb m HA.out H.out)))));refine wpQuiet_nil ?_;rintro _ ⟨xq,rfl⟩)
 go_wp2;go_ret;exact ⟨rfl,by have:=later_below _ xq;(exact bel)⟩
theorem wrong_4 (hB:BookAt w b vr vg vm vs vc) (hO:BkOk b) (hK:KindsAt w) {bb cb:Nat} (h5:Five w bb vr vg vm vs vc) (c0 c1 c2 c3 a rb m:Int) (hc:Came b [c0,c1,c2,c3])
 (k0:w.cell? ⟨cb,0,none⟩=some (.int .i64 c0)) (k1:w.cell? ⟨cb,1,none⟩=some (.int .i64 c1)) (k2:w.cell? ⟨cb,2,none⟩=some (.int .i64 c2)) (k3:w.cell? ⟨cb,3,none⟩=some (.int .i64 c3)) (hcb:cb < w.heap.size)
 (hr:recAl b ⟨4,a,rb,m⟩=0) {t:Bool} (h:rightR b [c0,c1,c2,c3] ⟨4,a,rb,m⟩=t) :
 Calls Tryz.prog 125 #[.agg #[.int .i64 4,.int .i64 a,.int .i64 rb,.int .i64 m],.pointer (some ⟨bb,0,none⟩),.pointer (some ⟨cb,0,none⟩)] w fun e w'=>e=.returned (.bool (!t))/\Below w.heap.size w w':=by
 have hf:=recAl_facts hr;have HA:=Hh (hf.2.2.1 rfl);obtain ⟨hlt,hK⟩:=hK;obtain ⟨⟨s,_,g0⟩,g1,g2,g3,g4⟩:=hK 4 (by omega);simp [usesB,usesMany,kindMost,kindRight] at g0 g1 g2 g3 g4;obtain ⟨y0,y1,y2,y3,y4,y5⟩:=h5;have HB:=Hh hB;have HO:=Hh hO;have HC:=Hh hc;have H:=Hh h;clear hB hO hc h hK hf hr
 go_enter Tryz.func125,Tryz.ntmps125
 go_wp2;obtain ⟨W0,hW0⟩:∃ W0,W0=w.alloc (.cells #[.int .i64 4,.int .i64 a,.int .i64 rb,.int .i64 m] 79):=⟨_,rfl⟩;have hb0:Below w.heap.size w W0:=by rw [hW0];(exact bel)
 (refine wp_region_bel (by kernel_rfl) (by kernel_rfl) ?_;(repeat (go_big_quiet_step ((go_at_call 155;with_reducible exact Calls.bel_of (right4 (HB.out.below (Below.next (Below.al (Below.refl _ _) _) (later_below _ _))) HO.out c0 c1 c2 c3 a rb m HC.out HA.out H.out)))));refine wpQuiet_nil ?_;rintro _ ⟨xq,rfl⟩)
 go_wp2;go_ret;exact ⟨rfl,by have:=later_below _ xq;(exact bel)⟩
theorem wrong_5 (hB:BookAt w b vr vg vm vs vc) (hO:BkOk b) (hK:KindsAt w) {bb cb:Nat} (h5:Five w bb vr vg vm vs vc) (c0 c1 c2 c3 a rb m:Int) (hc:Came b [c0,c1,c2,c3])
 (k0:w.cell? ⟨cb,0,none⟩=some (.int .i64 c0)) (k1:w.cell? ⟨cb,1,none⟩=some (.int .i64 c1)) (k2:w.cell? ⟨cb,2,none⟩=some (.int .i64 c2)) (k3:w.cell? ⟨cb,3,none⟩=some (.int .i64 c3)) (hcb:cb < w.heap.size)
 (hr:recAl b ⟨5,a,rb,m⟩=0) {t:Bool} (h:rightR b [c0,c1,c2,c3] ⟨5,a,rb,m⟩=t) :
 Calls Tryz.prog 125 #[.agg #[.int .i64 5,.int .i64 a,.int .i64 rb,.int .i64 m],.pointer (some ⟨bb,0,none⟩),.pointer (some ⟨cb,0,none⟩)] w fun e w'=>e=.returned (.bool (!t))/\Below w.heap.size w w':=by
 have hf:=recAl_facts hr;have HA:=Hh (hf.2.2.2 rfl);obtain ⟨hlt,hK⟩:=hK;obtain ⟨⟨s,_,g0⟩,g1,g2,g3,g4⟩:=hK 5 (by omega);simp [usesB,usesMany,kindMost,kindRight] at g0 g1 g2 g3 g4;obtain ⟨y0,y1,y2,y3,y4,y5⟩:=h5;have HB:=Hh hB;have HO:=Hh hO;have HC:=Hh hc;have H:=Hh h;clear hB hO hc h hK hf hr
 go_enter Tryz.func125,Tryz.ntmps125
 go_wp2;obtain ⟨W0,hW0⟩:∃ W0,W0=w.alloc (.cells #[.int .i64 5,.int .i64 a,.int .i64 rb,.int .i64 m] 79):=⟨_,rfl⟩;have hb0:Below w.heap.size w W0:=by rw [hW0];(exact bel)
 (refine wp_region_bel (by kernel_rfl) (by kernel_rfl) ?_;(repeat (go_big_quiet_step ((go_at_call 157;with_reducible exact Calls.bel_of (right5 (HB.out.below (Below.next (Below.al (Below.refl _ _) _) (later_below _ _))) HO.out c0 c1 c2 c3 a rb m HC.out HA.out H.out)))));refine wpQuiet_nil ?_;rintro _ ⟨xq,rfl⟩)
 go_wp2;go_ret;exact ⟨rfl,by have:=later_below _ xq;(exact bel)⟩
theorem wrong_at (hB:BookAt w b vr vg vm vs vc) (hO:BkOk b) (hK:KindsAt w) {bb cb:Nat} (h5:Five w bb vr vg vm vs vc) (c0 c1 c2 c3:Int) (r:Rec) (hc:Came b [c0,c1,c2,c3])
 (k0:w.cell? ⟨cb,0,none⟩=some (.int .i64 c0)) (k1:w.cell? ⟨cb,1,none⟩=some (.int .i64 c1)) (k2:w.cell? ⟨cb,2,none⟩=some (.int .i64 c2)) (k3:w.cell? ⟨cb,3,none⟩=some (.int .i64 c3)) (hcb:cb < w.heap.size)
 (hr:recAl b r=0) {t:Bool} (h:rightR b [c0,c1,c2,c3] r=t) :
 Calls Tryz.prog 125 #[.agg #[.int .i64 r.k,.int .i64 r.a,.int .i64 r.b,.int .i64 r.m],.pointer (some ⟨bb,0,none⟩),.pointer (some ⟨cb,0,none⟩)] w fun e w'=>e=.returned (.bool (!t))/\Below w.heap.size w w':=by
 obtain ⟨k,a,rb,m⟩:=r;have:=(recAl_facts hr).1;have:k=0\/k=1\/k=2\/k=3\/k=4\/k=5:=by omega
 rcases this with rfl | rfl | rfl | rfl | rfl | rfl
 ·exact wrong_0 hB hO hK h5 c0 c1 c2 c3 a rb m hc k0 k1 k2 k3 hcb hr h
 ·exact wrong_1 hB hO hK h5 c0 c1 c2 c3 a rb m hc k0 k1 k2 k3 hcb hr h
 ·exact wrong_2 hB hO hK h5 c0 c1 c2 c3 a rb m hc k0 k1 k2 k3 hcb hr h
 ·exact wrong_3 hB hO hK h5 c0 c1 c2 c3 a rb m hc k0 k1 k2 k3 hcb hr h
 ·exact wrong_4 hB hO hK h5 c0 c1 c2 c3 a rb m hc k0 k1 k2 k3 hcb hr h
 ·exact wrong_5 hB hO hK h5 c0 c1 c2 c3 a rb m hc k0 k1 k2 k3 hcb hr h
end
section
variable {b:Bk} {vr vg vm vs vc:Value} {w:World}
structure Asks (w:World) (b:Bk) (vr vg vm vs vc:Value) (bb cb:Nat) (c0 c1 c2 c3:Int):Prop where
 book:BookAt w b vr vg vm vs vc
 kinds:KindsAt w
 five:Five w bb vr vg vm vs vc
 k0:w.cell? ⟨cb,0,none⟩=some (.int .i64 c0)
 k1:w.cell? ⟨cb,1,none⟩=some (.int .i64 c1)
 k2:w.cell? ⟨cb,2,none⟩=some (.int .i64 c2)
 k3:w.cell? ⟨cb,3,none⟩=some (.int .i64 c3)
 lt:cb < w.heap.size
theorem Asks.below {w w':World} {bb cb:Nat} {c0 c1 c2 c3:Int} (h:Asks w b vr vg vm vs vc bb cb c0 c1 c2 c3) (hb:Below w.heap.size w w'):Asks w' b vr vg vm vs vc bb cb c0 c1 c2 c3 :=
 ⟨h.book.below hb,h.kinds.below hb,h.five.below hb h.five.lt,(hb.cell h.lt).trans h.k0,(hb.cell h.lt).trans h.k1,(hb.cell h.lt).trans h.k2,(hb.cell h.lt).trans h.k3,Nat.lt_of_lt_of_le h.lt hb.size⟩
theorem wrong_asks {bb cb:Nat} {c0 c1 c2 c3:Int} (h:Asks w b vr vg vm vs vc bb cb c0 c1 c2 c3) (hO:BkOk b) (hc:Came b [c0,c1,c2,c3]) (r:Rec) (hr:recAl b r=0) {t:Bool} (hh:(!rightR b [c0,c1,c2,c3] r)=t) :
 Calls Tryz.prog 125 #[.agg #[.int .i64 r.k,.int .i64 r.a,.int .i64 r.b,.int .i64 r.m],.pointer (some ⟨bb,0,none⟩),.pointer (some ⟨cb,0,none⟩)] w fun e w'=>e=.returned (.bool t)/\Below w.heap.size w w' :=
 (wrong_at h.book hO h.kinds h.five c0 c1 c2 c3 r hc h.k0 h.k1 h.k2 h.k3 h.lt hr rfl).mono fun _ _ ⟨e,x⟩=>⟨hh ▸ e,x⟩
def IdxPost (w:World) (t:Bool) (e:Ending) (w':World):Prop:=∃ i:Int,e=.returned (.int .i64 i)/\decide (0<=i)=t/\Below w.heap.size w w'
theorem index_at {bb cb:Nat} {c0 c1 c2 c3:Int} {ra:Option Addr} {rc:Nat} (h:Asks w b vr vg vm vs vc bb cb c0 c1 c2 c3) (hO:BkOk b) (hc:Came b [c0,c1,c2,c3]) (hR:RecsAt w ra b.rs) (hl:b.rs.length<=1000000) (hr:∀ r∈b.rs,recAl b r=0) :
 Calls Tryz.prog 131 #[.slice ra b.rs.length rc,.func (.func 125) #[] #[.pointer (some ⟨bb,0,none⟩),.pointer (some ⟨cb,0,none⟩)]] w (IdxPost w (!right b [c0,c1,c2,c3])):=by
 have HA:=Hh h;have HO:=Hh hO;have HC:=Hh hc;have HS:=Hh hR;have HR:=Hh hr;clear h hO hc hR hr
 go_enter Tryz.func131,Tryz.ntmps131
 go_wp2;go_loopw [8] (fun i wr=>∃ (k:Nat),k<=b.rs.length/\i=.int .i64 k/\Hid (∀ j (h:j < b.rs.length),j < k->rightR b [c0,c1,c2,c3] b.rs[j]=true)/\Below w.heap.size w wr) (fun i _=>b.rs.length - (intOf i).toNat)
 case atStart=>exact ⟨0,Nat.zero_le _,rfl,fun j _ hj=>absurd hj (Nat.not_lt_zero _),Below.refl _ _⟩
 case round =>
  obtain ⟨k,hk,rfl,hG,hW⟩:=hrel;have hWs:=hW.size;by_cases hlt:k < b.rs.length
  ·obtain ⟨sb,so,rfl,hsb,e0,e1,e2,e3⟩:=HS.out k hlt;have d0:=(hW.cell hsb).trans e0;have d1:=(hW.cell hsb).trans e1;have d2:=(hW.cell hsb).trans e2;have d3:=(hW.cell hsb).trans e3;have hrr:=HR.out _ (List.getElem_mem hlt);clear e0 e1 e2 e3;generalize hs:b.rs[k]=s at d0 d1 d2 d3 hrr;have HSS:=Hh hs;have HRR:=Hh hrr;have HAr:=Hh (HA.out.below hW);obtain ⟨rk,ra,rb,rm⟩:=s;dsimp only at d0 d1 d2 d3;clear hs hrr;cases hx:rightR b [c0,c1,c2,c3] ⟨rk,ra,rb,rm⟩
   ·have HX:=Hh (show (!rightR b [c0,c1,c2,c3] ⟨rk,ra,rb,rm⟩)=true by rw [hx];rfl);have HN:Hid (right b [c0,c1,c2,c3]=false):=by
     unfold Hid right;rw [List.all_eq_false];exact ⟨_,List.getElem_mem hlt,by rw [HSS.out,hx];simp⟩
    clear hx;go_wp2_with (go_at_call 125;(with_reducible refine (wrong_asks HAr.out HO.out HC.out ⟨rk,ra,rb,rm⟩ HRR.out HX.out).mono ?_);rintro e w1 ⟨rfl,hb1⟩);go_ret;exact ⟨_,rfl,by rw [HN.out];simp,bel⟩
   ·have HX:=Hh (show (!rightR b [c0,c1,c2,c3] ⟨rk,ra,rb,rm⟩)=false by rw [hx];rfl);have HG:Hid (∀ j (h:j < b.rs.length),j < k+1->rightR b [c0,c1,c2,c3] b.rs[j]=true):=fun j h hj=>by
     by_cases hjk:j < k
     ·exact hG.out j h hjk
     ·obtain rfl:j=k:=by omega
      rw [HSS.out,hx]
    clear hx hG;go_wp2_with (go_at_call 125;(with_reducible refine (wrong_asks HAr.out HO.out HC.out ⟨rk,ra,rb,rm⟩ HRR.out HX.out).mono ?_);rintro e w1 ⟨rfl,hb1⟩);go_roundw
    case rel=>exact ⟨k+1,by omega,by go_num,HG,bel⟩
    case measure=>simp [intOf];omega
  ·have HN:Hid (right b [c0,c1,c2,c3]=true):=by
    unfold Hid right;rw [List.all_eq_true];intro r hr;obtain ⟨j,hj,rfl⟩:=List.getElem_of_mem hr;exact hG.out j hj (by omega)
   clear hG;go_wp2;go_ret;exact ⟨_,rfl,by rw [HN.out];rfl,bel⟩
theorem contains_at {bb cb:Nat} {c0 c1 c2 c3:Int} {ra:Option Addr} {rc:Nat} (h:Asks w b vr vg vm vs vc bb cb c0 c1 c2 c3) (hO:BkOk b) (hc:Came b [c0,c1,c2,c3]) (hR:RecsAt w ra b.rs) (hl:b.rs.length<=1000000) (hr:∀ r∈b.rs,recAl b r=0) {t:Bool} (ht:(!right b [c0,c1,c2,c3])=t) :
 Calls Tryz.prog 124 #[.slice ra b.rs.length rc,.func (.func 125) #[] #[.pointer (some ⟨bb,0,none⟩),.pointer (some ⟨cb,0,none⟩)]] w fun e w'=>e=.returned (.bool t)/\Below w.heap.size w w':=by
 have hx:=index_at (rc:=rc) h hO hc hR hl hr;rw [ht] at hx;have HX:=Hh hx;clear h hO hc hR hr ht hx
 go_enter Tryz.func124,Tryz.ntmps124
 go_wp2_with (go_at_call 131;(with_reducible refine HX.out.mono ?_);rintro e w1 ⟨i,rfl,hi,hb1⟩;have HI:=Hh hi;clear hi);go_ret;refine ⟨?_,bel⟩;rw [<- HI.out];rfl
theorem agrees_at (hB:BookAt w b vr vg vm vs vc) (hK:KindsAt w) (hO:BkOk b) {c:List Int} (hc:Came b c) (hc4:c.length=4) (hr:∀ r∈b.rs,recAl b r=0) {t:Bool} (ht:right b c=t) :
 Calls Tryz.prog 109 #[.agg #[vr,vg,vm,vs,vc],cameV c] w fun e w'=>e=.returned (.bool t)/\Below w.heap.size w w':=by
 obtain ⟨c0,c1,c2,c3,rfl⟩:=four hc4;rw [show cameV [c0,c1,c2,c3]=.agg #[.int .i64 c0,.int .i64 c1,.int .i64 c2,.int .i64 c3] from rfl];obtain ⟨ra,rc,rfl,hR,hl⟩:=hB.rs;have hW0:∃ W0,W0=(w.alloc (.cells #[vr,vg,vm,vs,.slice ra b.rs.length rc] 88)).alloc (.cells #[.int .i64 c0,.int .i64 c1,.int .i64 c2,.int .i64 c3] 116):=⟨_,rfl⟩;obtain ⟨W0,hW0⟩:=hW0;have hb0:Below w.heap.size w W0:=by rw [hW0];(exact bel)
 have hA:Asks W0 b vr vg vm vs (.slice ra b.rs.length rc) w.heap.size (w.heap.size+1) c0 c1 c2 c3:=by
  refine ⟨hB.below hb0,hK.below hb0,?_,?_,?_,?_,?_,?_⟩
  ·rw [hW0];exact (Five.new w vr vg vm vs (.slice ra b.rs.length rc) _).below (bal _ _) (by simp)
  iterate 4 (rw [hW0,World.cell?_alloc_at _ _ _ _ (by simp)];rfl)
  ·rw [hW0];simp
 have hx:=contains_at (rc:=rc) hA hO hc (hR.below hb0) hl hr rfl;rw [ht] at hx;have HX:=Hh hx;have HW0:=Hh hW0;clear hB hK hO hc hc4 hr ht hx hA hR hW0
 go_enter Tryz.func109,Tryz.ntmps109
 go_wp2_with (rw [<- HW0.out];(go_at_call 124;(with_reducible refine (HX.out).mono ?_);rintro e w1 ⟨rfl,hb1⟩));go_ret;exact ⟨by simp,bel⟩
end
end
section
open Go Go.RowKit
theorem wide_fn (f:FuncId):Fence.wide.fn f=True:=eq_true trivial
theorem wide_depth:Fence.wide.depth=none:=rfl
attribute [go_sem] wide_fn wide_depth
theorem one_param (p:Nat) (v:Value) (T:Array Value):((#[p]:Array Tmp).zip #[v]).foldl (fun t (p,v)=>t.setIfInBounds p v) T=T.setIfInBounds p v:=by simp
theorem two_param (p q:Nat) (v u:Value) (T:Array Value):((#[p,q]:Array Tmp).zip #[v,u]).foldl (fun t (p,v)=>t.setIfInBounds p v) T=(T.setIfInBounds p v).setIfInBounds q u:=by simp
structure KS (p:Nat->Prop) (w w':World):Prop where
 os:w'.os=w.os
 tape:w'.tape=w.tape
 output:w'.output=w.output
 size:w.heap.size<=w'.heap.size
 block:∀ k,k < w.heap.size->p k->w'.heap[k]? = w.heap[k]?
section
variable {p q:Nat->Prop} {a b c w:World}
theorem KS.refl (p:Nat->Prop) (w:World):KS p w w:=⟨rfl,rfl,rfl,Nat.le_refl _,fun _ _ _=>rfl⟩
theorem KS.trans (h:KS p a b) (k:KS p b c):KS p a c :=
 ⟨k.os.trans h.os,k.tape.trans h.tape,k.output.trans h.output,Nat.le_trans h.size k.size,fun i hi hp=>(k.block i (Nat.lt_of_lt_of_le hi h.size) hp).trans (h.block i hi hp)⟩
theorem KS.mono (h:KS p a b) (hq:∀ k,k < a.heap.size->q k->p k):KS q a b:=⟨h.os,h.tape,h.output,h.size,fun i hi hp=>h.block i hi (hq i hi hp)⟩
theorem KS.below {n:Nat} (h:Below n a b):KS (· < n) a b:=⟨h.os,h.tape,h.output,h.size,fun i _ hp=>h.block i hp⟩
theorem KS.to_below {n:Nat} (h:KS (· < n) a b) (hn:n<=a.heap.size):Below n a b:=⟨h.os,h.tape,h.output,h.size,fun i hi=>h.block i (Nat.lt_of_lt_of_le hi hn) hi⟩
theorem KS.all (h:Below a.heap.size a b) (p:Nat->Prop):KS p a b:=⟨h.os,h.tape,h.output,h.size,fun i hi _=>h.block i hi⟩
theorem KS.grown {r:Nat} (h:a.grownBy b (some r)) (hp:¬ p r):KS p a b:=⟨h.os,h.tape,h.output,h.size,fun i hi hpi=>h.block i hi (fun e=>by cases e;exact hp hpi)⟩
theorem KS.alloc (p:Nat->Prop) (w:World) (o:Obj):KS p w (w.alloc o):=KS.all ((Below.refl _ _).alloc (Nat.le_refl _) o) p
theorem KS.drew (p:Nat->Prop) (w:World):KS p w w.drew:=⟨rfl,rfl,rfl,Nat.le_refl _,fun _ _ _=>rfl⟩
theorem KS.drewN (p:Nat->Prop) (w:World) (n:Nat):KS p w (w.drewN n):=⟨rfl,rfl,rfl,Nat.le_refl _,fun _ _ _=>rfl⟩
theorem KS.setCell {x:Addr} (hp:¬ p x.block) (w:World) (v:Value):KS p w (w.setCell x v) :=
 ⟨rfl,rfl,rfl,by simp [World.setCell],fun k _ hk=>Below.heap_setCell w x v k (fun e=>hp (e ▸ hk))⟩
theorem KS.putObj {r:Nat} (hp:¬ p r) (w:World) (o:Obj):KS p w (w.putObj r o) :=
 ⟨rfl,rfl,rfl,by simp,fun k _ hk=>World.putObj_heap_other (fun e=>hp (e ▸ hk))⟩
theorem KS.cell (h:KS p a b) {x:Addr} (hx:x.block < a.heap.size) (hp:p x.block):b.cell? x=a.cell? x:=World.cell?_of_block (h.block _ hx hp)
theorem KS.frozen (h:KS p a b) {x:Addr} (hx:x.block < a.heap.size) (hp:p x.block):b.frozen? x=a.frozen? x:=World.frozen?_of_block (h.block _ hx hp)
end
def Iter {α:Type} (P:Program) (gf:Nat) (recv:Value) (enc:α->Array Value->World->Prop) (xs:List α) (own p:Nat->Prop) (W:World):Prop :=
 ∀ (l:Nat) (J Jx:List α->World->Prop),
  (∀ pre A B,J pre A->KS (fun k=>¬ own k) A B->J pre B)->(∀ pre A B,Jx pre A->KS (fun k=>¬ own k) A B->Jx pre B) ->
  (∀ pre x args A,(∃ suf,xs=pre ++ x::suf)->enc x args A->J pre A->YieldAt Fence.wide 0 P l args A fun e B =>
    (e=.returned (.bool true)/\J (pre ++ [x]) B/\KS p A B)\/(e=.returned (.bool false)/\Jx (pre ++ [x]) B)) ->
  J [] W->CallsIn Fence.wide 0 P gf #[recv,.func (.yield l) #[] #[]] W fun e W'=>(∃ v,e=.returned v)/\(J xs W'\/∃ pre,Jx pre W')
def rPost {α:Type} (q:Nat->Prop) (J Jx:List α->World->Prop) (xs:List α) (A:World):Exit->Act->World->Prop
 | .normal,_,B=>KS q A B/\J xs B
 | .ret,_,B=>KS q A B/\Jx xs B
 | _,_,_=>False
variable {P:Program}
theorem wpIn_range {α:Type} {g:Operand} {ps:Array Tmp} {assign body:Code} {Q:Exit->Act->World->Prop} {a:Act} {w:World} {gf:Nat} {recv:Value}
 (hg:a.eval g=.func (.func gf) #[recv] #[]) (eg:∀ args w,(callFunc gf args).run P w=.ok (.enter gf args) w)
 (enc:α->Array Value->World->Prop) (hps:∀ x args W,enc x args W->args.size=ps.size) (xs:List α) (own p:Nat->Prop) (hown:¬ own (w.heap.size+1)/\¬ own w.heap.size) (hp:¬ p (w.heap.size+1))
 (hseq:∀ W,Below w.heap.size w W->W.heap.size=w.heap.size+1+1->Iter P gf recv enc xs own p W)
 (J Jx:List α->World->Prop) (hJ:∀ pre A B,J pre A->KS (fun k=>¬ (own k\/k=w.heap.size+1)) A B->J pre B) (hJx:∀ pre A B,Jx pre A->KS (fun k=>¬ (own k\/k=w.heap.size+1)) A B->Jx pre B)
 (h0:∀ W,Below w.heap.size w W->W.heap.size=w.heap.size+1+1->J [] W)
 (Mid:List α->α->Act->World->Prop) (hMid:∀ pre x a₁ A B,Mid pre x a₁ A->KS (fun k=>¬ (k=w.heap.size+1)) A B->A.heap.size=B.heap.size->Mid pre x a₁ B)
 (hassign:∀ pre x args A,(∃ suf,xs=pre ++ x::suf)->enc x args A->J pre A->w.heap.size+1 < A.heap.size ->
   assign.wpIn (Fence.wide.inRound (w.heap.size+1)) 0 P (Exit.then (fun a₁ w₁=>KS (fun k=>p k\/k=w.heap.size\/k=w.heap.size+1) A w₁/\Mid pre x a₁ w₁) (fun _ _ _=>False)) { tmps:=(ps.zip args).foldl (fun t (p,v)=>t.setIfInBounds p v) a.tmps,defers:=[] } A)
 (hbody:∀ pre x a₁ A,(∃ suf,xs=pre ++ x::suf)->Mid pre x a₁ A->w.heap.size+1 < A.heap.size->body.wpIn (Fence.wide.inRound (w.heap.size+1)) 0 P (rPost (fun k=>p k\/k=w.heap.size\/k=w.heap.size+1) J Jx (pre ++ [x]) A) a₁ A)
 (hdone:∀ W,J xs W->W.heap[w.heap.size]? = some (.deferred (some []))->Q .normal { a with defers:={ target:=.collected w.heap.size,args:=#[] }::a.defers } W)
 (hstop:∀ pre W,Jx pre W->W.heap[w.heap.size]? = some (.deferred (some []))->Code.ret.wpIn Fence.wide 0 P Q { a with defers:={ target:=.collected w.heap.size,args:=#[] }::a.defers } W) :
 (Code.rangeFunc g ps assign body).wpIn Fence.wide 0 P Q a w:=by
 refine wpIn_rangeFunc ?_;intro fn hfn;have hro:Fence.wide.round=none:=rfl;rw [hro];obtain ⟨rec,hrec⟩:∃ rec:LoopState->Option Code->Loop,rec=fun st pe=>{ state:=st,pending:=pe,fn,tmps:=a.tmps,params:=ps,assign,body,defers:=w.heap.size }:=⟨_,rfl⟩;obtain ⟨W1,hW1⟩:∃ W1,(w.alloc (.deferred (some []))).alloc (.loop (rec .ready none))=W1:=⟨_,rfl⟩;have hL1:W1.heap[w.heap.size+1]? = some (.loop (rec .ready none)):=by
  rw [<- hW1];have:=World.alloc_heap_new (w.alloc (.deferred (some []))) (.loop (rec .ready none));rwa [World.size_alloc] at this
 have hD1:W1.heap[w.heap.size]? = some (.deferred (some [])):=by
  rw [<- hW1];exact (Below.heap_alloc _ _ _ (by simp)).trans (World.alloc_heap_new w _)
 have hb1:Below w.heap.size w W1:=by rw [<- hW1];(exact bel)
 have hs1:W1.heap.size=w.heap.size+1+1:=by rw [<- hW1];simp
 refine ⟨w.heap.size+1,[{ target:=.collected w.heap.size,args:=#[] }],W1,{ target:=.fn (.func gf) #[],args:=#[recv,.func (.yield (w.heap.size+1)) #[] #[]] },W1,gf,
  #[recv,.func (.yield (w.heap.size+1)) #[] #[]],W1,?_,?_,?_,?_,(fun h=>by cases h),?_⟩
 ·rw [<- hW1,hrec];exact run_enterLoop_outer _ _ _ _ _
 ·simp only [resolve,hg];simp [go_sem]
 ·intro f' _;trivial
 ·simp [invoke,go_sem,eg]
 ·refine (hseq W1 hb1 hs1 (w.heap.size+1)
   (fun pre W=>J pre W/\W.heap[w.heap.size+1]? = some (.loop (rec .ready none))/\W.heap[w.heap.size]? = some (.deferred (some [])))
   (fun pre W=>Jx pre W/\W.heap[w.heap.size+1]? = some (.loop (rec .done (some .ret)))/\W.heap[w.heap.size]? = some (.deferred (some []))) ?_ ?_ ?_ ⟨h0 W1 hb1 hs1,hL1,hD1⟩).mono ?_
  ·rintro pre A B ⟨h1,h2,h3⟩ hk;exact ⟨hJ pre A B h1 (hk.mono fun k _ hk=>fun h=>hk (.inl h)),(hk.block _ (Array.getElem?_eq_some_iff.1 h2).1 hown.1).trans h2,(hk.block _ (Array.getElem?_eq_some_iff.1 h3).1 hown.2).trans h3⟩
  ·rintro pre A B ⟨h1,h2,h3⟩ hk;exact ⟨hJx pre A B h1 (hk.mono fun k _ hk=>fun h=>hk (.inl h)),(hk.block _ (Array.getElem?_eq_some_iff.1 h2).1 hown.1).trans h2,(hk.block _ (Array.getElem?_eq_some_iff.1 h3).1 hown.2).trans h3⟩
  ·rintro pre x args A hx he ⟨h1,h2,h3⟩;have hlt:w.heap.size+1 < A.heap.size:=(Array.getElem?_eq_some_iff.1 h2).1;have hy:=run_yield (P:=P) (args:=args) h2 (by rw [hrec];exact hps x args A he);rw [hrec] at hy;refine ⟨fn,_,assign,body,hy,roundIn_of_wpIn hfn (wpIn_mono (hassign pre x args A hx he h1 hlt) ?_)⟩;rintro e a₁ w₁ hp1
   cases e with
   | normal =>
    obtain ⟨hks,hm⟩:=hp1;have hl1:w₁.heap[w.heap.size+1]? = some (.loop (rec .ready none)):=(hks.block _ hlt (.inr (.inr rfl))).trans h2;have hd1:w₁.heap[w.heap.size]? = some (.deferred (some [])):=(hks.block _ (by omega) (.inr (.inl rfl))).trans h3;have hlt1:w.heap.size+1 < w₁.heap.size:=(Array.getElem?_eq_some_iff.1 hl1).1;refine ⟨_,run_beginRound hl1 (by rw [hrec]),?_⟩;have hm2:=hMid pre x a₁ w₁ (w₁.putObj (w.heap.size+1) (.loop { rec .ready none with state:=.busy })) hm (KS.putObj (by simp) _ _) (by simp);refine wpIn_mono (hbody pre x a₁ _ hx hm2 (by simpa using hlt1)) ?_;have hl2:(w₁.putObj (w.heap.size+1) (.loop { rec .ready none with state:=.busy })).heap[w.heap.size+1]? = some (.loop { rec .ready none with state:=.busy }):=World.putObj_heap_same hlt1;have hd2:(w₁.putObj (w.heap.size+1) (.loop { rec .ready none with state:=.busy })).heap[w.heap.size]? = some (.deferred (some [])):=(World.putObj_heap_other (by omega)).trans hd1;have hks2:KS p A (w₁.putObj (w.heap.size+1) (.loop { rec .ready none with state:=.busy })):=(hks.mono fun k _ h=>.inl h).trans (KS.putObj hp _ _);rintro e2 a3 W3 hp3;have fin:∀ (jump:Option Code),KS (fun k=>p k\/k=w.heap.size\/k=w.heap.size+1) (w₁.putObj (w.heap.size+1) (.loop { rec .ready none with state:=.busy })) W3 ->
     (Instr.endRound (w.heap.size+1) jump).run P W3=.ok (.bool jump.isNone) (W3.putObj (w.heap.size+1) (.loop (rec (if jump.isNone then .ready else .done) jump))) /\
     (W3.putObj (w.heap.size+1) (.loop (rec (if jump.isNone then .ready else .done) jump))).heap[w.heap.size+1]? = some (.loop (rec (if jump.isNone then .ready else .done) jump)) /\
     (W3.putObj (w.heap.size+1) (.loop (rec (if jump.isNone then .ready else .done) jump))).heap[w.heap.size]? = some (.deferred (some [])):=fun jump hk3=>by
     have hl3:=(hk3.block _ (by simpa using hlt1) (.inr (.inr rfl))).trans hl2;have hd3:=(hk3.block _ (by simp;omega) (.inr (.inl rfl))).trans hd2;have:=run_endRound (P:=P) jump hl3;rw [hrec] at this ⊢;exact ⟨this,World.putObj_heap_same (Array.getElem?_eq_some_iff.1 hl3).1,(World.putObj_heap_other (by omega)).trans hd3⟩
    cases e2 with
    | normal =>
     obtain ⟨hk3,hj3⟩:=hp3;obtain ⟨hr,hl4,hd4⟩:=fin none hk3;exact ⟨_,_,hr,.inl ⟨rfl,⟨hJ _ _ _ hj3 (KS.putObj (by simp) _ _),hl4,hd4⟩,(hks2.trans (hk3.mono fun k _ h=>.inl h)).trans (KS.putObj hp _ _)⟩⟩
    | ret =>
     obtain ⟨hk3,hj3⟩:=hp3;obtain ⟨hr,hl4,hd4⟩:=fin (some .ret) hk3;exact ⟨_,_,hr,.inr ⟨rfl,hJx _ _ _ hj3 (KS.putObj (by simp) _ _),hl4,hd4⟩⟩
    | exit id=>exact hp3.elim
    | goto t=>exact hp3.elim
    | panic ch=>exact hp3.elim
    | outgrown=>exact hp3.elim
   | exit id=>exact hp1.elim
   | goto t=>exact hp1.elim
   | ret=>exact hp1.elim
   | panic ch=>exact hp1.elim
   | outgrown=>exact hp1.elim
  ·rintro e W2 ⟨⟨v,rfl⟩,(⟨hj,hl,hd⟩ | ⟨pre,hj,hl,hd⟩)⟩
   ·exact ⟨none,_,by have:=run_endLoop (P:=P) hl (by rw [hrec];simp);rw [hrec] at this;exact this,hdone _ (hJ _ _ _ hj (KS.putObj (by simp) _ _)) ((World.putObj_heap_other (by omega)).trans hd)⟩
   ·exact ⟨some .ret,_,by have:=run_endLoop (P:=P) hl (by rw [hrec];simp);rw [hrec] at this;exact this,hstop pre _ (hJx _ _ _ hj (KS.putObj (by simp) _ _)) ((World.putObj_heap_other (by omega)).trans hd)⟩
end
section
open Go.RowKit Go.Maps Sp
theorem copies_take (b:Bk) (c:List Int) (p:Prt) (n:Nat) (hn:b.ss.length<=n):copies b (c.take n) p=copies b c p:=by
 unfold copies;have:b.ss.zip (c.take n)=b.ss.zip c:=by
  have e:b.ss.zip c=(b.ss.zip c).take n:=by rw [List.take_of_length_le];simp;omega
  rw [e];simp only [List.zip_eq_zipWith,List.take_zipWith,List.take_of_length_le hn]
 rw [this]
theorem rightR_take {b:Bk} {c:List Int} {n:Nat} (hn:b.ss.length=n) {r:Rec} (hr:recAl b r=0):rightR b (c.take n) r=rightR b c r:=by
 obtain ⟨k,a,rb,m⟩:=r;have hf:=recAl_facts hr;have hg:k<=3->(c.take n).getD a.toNat 0=c.getD a.toNat 0:=fun hk=>by
  have:=(inB_nat.1 (hf.2.1 hk)).2;simp only [List.getD];rw [List.getElem?_take,if_pos (by omega)]
 have hc:∀ p,copies b (c.take n) p=copies b c p:=fun p=>copies_take b c p n (by omega);unfold rightR haveOf;simp only [hc];by_cases h3:k<=3
 ·rw [hg h3]
 ·have h0:¬ k=0:=by omega
  have h1:¬ k=1:=by omega
  have h2:¬ k=2:=by omega
  have h4:¬ k=3:=by omega
  simp only [h0,h1,h2,h4,if_false]
theorem right_take {b:Bk} {c:List Int} {n:Nat} (hn:b.ss.length=n) (hr:∀ r∈b.rs,recAl b r=0):right b (c.take n)=right b c:=by
 unfold right;rw [Bool.eq_iff_iff,List.all_eq_true,List.all_eq_true];exact ⟨fun h r hm=>by rw [<- rightR_take hn (hr r hm)];exact h r hm,fun h r hm=>by rw [rightR_take hn (hr r hm)];exact h r hm⟩
def pad (x:List Int):List Int:=x ++ List.replicate (4 - x.length) 0
theorem pad_length {x:List Int} (h:x.length<=4):(pad x).length=4:=by simp [pad];omega
theorem pastsFrom_length {b:Bk}:∀ (l:List (List Prt)) (pre:List Int) (x:List Int),x∈pastsFrom b pre l->x.length=pre.length+l.length
 | [],pre,x,h=>by
  unfold pastsFrom at h;split at h
  ·simp at h;simp [h]
  ·cases h
 | s::l,pre,x,h=>by
  unfold pastsFrom at h;obtain ⟨n,_,h⟩:=List.mem_flatMap.1 h;have:=pastsFrom_length l _ x h;simp at this ⊢;omega
def restFrom (b:Bk) (pre:List Int) (s:List Prt) (l:List (List Prt)) (n:Nat):List (List Int):=(List.range' n (s.length+1 - n)).flatMap fun (k:Nat)=>pastsFrom b (pre ++ [(k:Int)]) l
theorem restFrom_zero (b:Bk) (pre:List Int) (s:List Prt) (l:List (List Prt)):pastsFrom b pre (s::l)=restFrom b pre s l 0:=by
 unfold restFrom;rw [pastsFrom,List.range_eq_range',Nat.sub_zero]
theorem restFrom_succ (b:Bk) (pre:List Int) (s:List Prt) (l:List (List Prt)) (n:Nat) (h:n<=s.length):restFrom b pre s l n=pastsFrom b (pre ++ [(n:Int)]) l ++ restFrom b pre s l (n+1):=by
 unfold restFrom;rw [show s.length+1 - n=(s.length+1 - (n+1))+1 by omega,List.range'_succ,List.flatMap_cons]
theorem restFrom_end (b:Bk) (pre:List Int) (s:List Prt) (l:List (List Prt)) (n:Nat) (h:s.length < n):restFrom b pre s l n=[]:=by
 unfold restFrom;rw [show s.length+1 - n=0 by omega];rfl
end
end Go.Proofs.YtdjnkplgllakcaaGreatDoor
