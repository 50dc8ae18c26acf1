/- Leads to the Store laws of chapter 6: K11 K12 K13. -/
import Derived.Test.YtfggbepickdokaaGreatDoorT02
import Derived.Deep.RegionHeld3
set_option maxHeartbeats 1000000
set_option maxRecDepth 100000
set_option linter.all false
namespace Go.Proofs.YtfggbepickdokaaGreatDoor
open Go.RowKit Go.Maps Sp
def metOf (b:Bk) (c:List Int) (m:Int) (left:Lit→Bool):Nat :=
 ((List.range ((b.ms[m.toNat]?).elim 0 Msg.groups).toNat).filter fun (g:Nat)=>decide (0 < copies b c (m,(g:Int))) && !left (klP (m,(g:Int)))).length
theorem isPart_group {b:Bk} {p:Prt} (h:isPart b p=true):0≤p.2∧p.2.toNat < ((b.ms[p.1.toNat]?).elim 0 Msg.groups).toNat:=by
 unfold isPart inB at h
 simp only [Bool.and_eq_true,decide_eq_true_eq] at h
 omega
theorem group_ok {b:Bk} (hO:BkOk b) {m:Int} (hm:0≤m∧m.toNat < b.ms.length) {g:Nat} (hg:g < ((b.ms[m.toNat]?).elim 0 Msg.groups).toNat):i64ok m∧i64ok (g:Int):=by
 have:=hO.ml
 rw [List.getElem?_eq_getElem hm.2] at hg
 have h2:=hO.groups _ (List.getElem_mem hm.2)
 simp only [Option.elim] at hg
 have e1:IntKind.i64.min=-9223372036854775808:=rfl
 have e2:IntKind.i64.max=9223372036854775807:=rfl
 refine ⟨?_,?_⟩ <;> (unfold i64ok;simp [Lit.wf,e1,e2];omega)
theorem met_same {b:Bk} (hO:BkOk b) (c:List Int) {m:Int} (hm:0≤m∧m.toNat < b.ms.length) {left:Lit→Bool} {p:Prt} (hp:isPart b p=true) (hne:p.1≠m) :
 metOf b c m (fun z=>left z && !z.sameKey (klP p))=metOf b c m left:=by
 unfold metOf
 congr 1
 apply List.filter_congr
 intro g hg
 have hpk:=isPart_bounds hO.groups (by have:=hO.ml;omega) hp
 dsimp only
 rw [klP_ne (group_ok hO hm (List.mem_range.1 hg)) hpk (fun e=>hne (by rw [← e]))]
 simp
theorem met_more {b:Bk} (hO:BkOk b) (c:List Int) {left:Lit→Bool} {p:Prt} (hp:isPart b p=true) (hl:left (klP p)=true) (hc:0 < copies b c p) (hm:0≤p.1∧p.1.toNat < b.ms.length) :
 metOf b c p.1 (fun z=>left z && !z.sameKey (klP p))=metOf b c p.1 left+1:=by
 unfold metOf
 obtain ⟨h1,h2⟩:=isPart_group hp
 have hpk:=isPart_bounds hO.groups (by have:=hO.ml;omega) hp
 have e0:((p.2.toNat:Nat):Int)=p.2:=by omega
 have ep:(p.1,p.2)=p:=rfl
 refine filter_step (g0:=p.2.toNat) (A:=fun (g:Nat)=>decide (0 < copies b c (p.1,(g:Int)))) (Q:=fun (g:Nat)=>!left (klP (p.1,(g:Int)))) (Q':=fun (g:Nat)=>!(left (klP (p.1,(g:Int))) && !(klP (p.1,(g:Int))).sameKey (klP p))) ?_ ?_ ?_ ?_ h2
 ·simp only [e0,ep,decide_eq_true_eq];exact hc
 ·simp only [e0,ep,hl];rfl
 ·simp only [e0,ep,sameKey_klP];simp
 ·intro g hgG hg
  rw [klP_ne (group_ok hO hm hgG) hpk (fun e=>hg (by rw [← e];simp))]
  simp
theorem ranges_same {H:Type} {P:Program} {k:TypeId} {R:Value→Option (DataW H × List MemPlace)} {b r n cnt:Nat} {D:DataW H} {left:Lit→Bool} {w w':World} (h:w.ranges P k R b r n D left cnt) (hb:w'.heap[b]? = w.heap[b]?) (hr:w'.heap[r]? = w.heap[r]?):w'.ranges P k R b r n D left cnt:=by
 obtain ⟨es,clock,since,seen,c0,h1,h2,h3,h4,h5,h6⟩:=h
 exact ⟨es,clock,since,seen,c0,hb.trans h1,h2,h3,h4,hr.trans h5,h6⟩
theorem ranges_lt {H:Type} {P:Program} {k:TypeId} {R:Value→Option (DataW H × List MemPlace)} {b r n cnt:Nat} {D:DataW H} {left:Lit→Bool} {w:World} (h:w.ranges P k R b r n D left cnt):b < w.heap.size∧r < w.heap.size:=by
 obtain ⟨es,clock,since,seen,c0,h1,h2,h3,h4,h5,h6⟩:=h
 exact ⟨(Array.getElem?_eq_some_iff.1 h1).1,(Array.getElem?_eq_some_iff.1 h5).1⟩
theorem ranges_al {H:Type} {P:Program} {k:TypeId} {R:Value→Option (DataW H × List MemPlace)} {b r n cnt:Nat} {D:DataW H} {left:Lit→Bool} {w:World} (h:w.ranges P k R b r n D left cnt) (o:Obj):(w.alloc o).ranges P k R b r n D left cnt :=
 ranges_same h (Below.heap_alloc w o b (ranges_lt h).1) (Below.heap_alloc w o r (ranges_lt h).2)
theorem met_start {b:Bk} (hO:BkOk b) {c:List Int} {m:Int} (hm:0≤m∧m.toNat < b.ms.length) {l:List Prt} {D:DataW Unit} (hD:∀ key kl,keyOf Tryz.prog 65 key=some kl→D.atKey kl (.lit (.int .i64 0))=.lit (.int .i64 (cntV key (l.map partV):Nat))∧(has D kl=true↔key∈l.map partV))
 (hcp:∀ p,(List.count p l:Int)=copies b c p):metOf b c m (has D)=0:=by
 unfold metOf
 rw [List.length_eq_zero_iff,List.filter_eq_nil_iff]
 intro g hg
 have hgo:=group_ok hO hm (List.mem_range.1 hg)
 have:=(hD _ _ (partKeyE (m,(g:Int)) hgo.1 hgo.2)).2
 by_cases hz:0 < copies b c (m,(g:Int))
 ·have hmem:(m,(g:Int))∈l:=by
   rw [← hcp] at hz
   exact List.count_pos_iff.1 (by omega)
  rw [this.2 (mem_partV.2 hmem)]
  simp
 ·simp [hz]
theorem next_facts {b:Bk} (hO:BkOk b) {c:List Int} {l:List Prt} {D:DataW Unit} (hD:∀ key kl,keyOf Tryz.prog 65 key=some kl→D.atKey kl (.lit (.int .i64 0))=.lit (.int .i64 (cntV key (l.map partV):Nat))∧(has D kl=true↔key∈l.map partV))
 (hcp:∀ p,(List.count p l:Int)=copies b c p) (hip:∀ p∈l,isPart b p=true) {x:Prt} {kl:Lit} {y:DataW Unit} (hkey:keyOf Tryz.prog 65 (partV x)=some kl) (hat:∀ zd,D.atKey kl zd=y) :
 kl=klP x∧isPart b x=true∧0 < copies b c x:=by
 have hmem:=mem_partV.1 (((hD _ _ hkey).2).1 (has_true_of_atKey hat))
 have hpx:=hip _ hmem
 have hbd:=isPart_bounds hO.groups (by have:=hO.ml;omega) hpx
 rw [partKeyE x hbd.1 hbd.2] at hkey
 refine ⟨(Option.some.inj hkey).symm,hpx,?_⟩
 rw [← hcp]
 have:=List.count_pos_iff.2 hmem
 omega
theorem met_end {b:Bk} {c:List Int} {m:Int} {left:Lit→Bool} (h:∀ kl,left kl=false):(metOf b c m left:Int)=haveOf b c m:=by
 unfold metOf haveOf
 simp [h]
theorem metOf_le {b:Bk} (hO:BkOk b) {c:List Int} {m:Int} (hm:0≤m∧m.toNat < b.ms.length) (left:Lit→Bool):metOf b c m left≤1000:=by
 unfold metOf
 refine Nat.le_trans (List.length_filter_le _ _) ?_
 rw [List.length_range,List.getElem?_eq_getElem hm.2]
 have:=hO.groups _ (List.getElem_mem hm.2)
 simp only [Option.elim]
 omega
theorem have_at {b:Bk} {vr vg vm vs vc:Value} {w:World} (hB:BookAt w b vr vg vm vs vc) (hO:BkOk b) {c:List Int} (hc:Came b c) (hc4:c.length=4) {m:Int} (hm:0≤m∧m.toNat < b.ms.length) :
 Calls Tryz.prog 81 #[.agg #[vr,vg,vm,vs,vc],cameV c,.int .i64 m] w fun e w'=>e=.returned (.int .i64 (haveOf b c m))∧Below w.heap.size w w':=by
 obtain ⟨c0,c1,c2,c3,rfl⟩:=four hc4
 rw [show cameV [c0,c1,c2,c3]=.agg #[.int .i64 c0,.int .i64 c1,.int .i64 c2,.int .i64 c3] from rfl]
 have hcop:=fun (w':World) (hb:Below w.heap.size w w')=>copies_at (hB.below hb) hO hc hc4
 rw [show cameV [c0,c1,c2,c3]=.agg #[.int .i64 c0,.int .i64 c1,.int .i64 c2,.int .i64 c3] from rfl] at hcop
 have HCOP:=Hh hcop
 have HO:=Hh hO;clear hO
 have HC:=Hh hc;clear hc hc4 hB hcop
 go_enter Tryz.func81,Tryz.ntmps81
 go_wp2_with (first
  | (go_at_call 122;(with_reducible refine (HCOP.out _ (Below.al (Below.al (Below.refl _ _) _) _)).mono ?_);rintro e w1 ⟨B,n,l,rfl,hB1,⟨D,hown,hmap,hD⟩,hcp,hip,hb1⟩)
  | (at_range;refine wpList_range_own _ rfl _ 162 rfl 65 3 partKeyed Tryz.underlying162 _ B n D rfl hown ?_;intro w2 hrg hg2 hs2))
 go_frame
 have hmet0:=met_start HO.out hm hD hcp
 have hlt2:=ranges_lt hrg
 have hw2:Below w.heap.size w w2:=by
  refine Below.grown (w:=w1) ?_ hg2 (by have:=hb1.size;simp at this;omega) (fun _ e=>by cases e)
  (exact bel)
 have HD:=Hh hD
 have HIP:=Hh hip
 have HCP:=Hh hcp
 have hr1:w.heap.size≤w1.heap.size:=by have:=hb1.size;simp at this;omega
 clear hD hip hcp hown hg2 hs2
 go_loopw [7] (fun v wr=>∃ (left:Lit→Bool) (cnt nn:Nat),wr.ranges Tryz.prog 65 (plainElem Tryz.prog 3) B w1.heap.size n D left cnt∧v=.int .i64 nn∧Hid (nn=metOf b [c0,c1,c2,c3] m left)∧Below w.heap.size w wr) (fun _ wr=>wr.rangeLeft B w1.heap.size)
 case atStart=>exact ⟨_,_,0,hrg,rfl,hmet0.symm,hw2⟩
 case round =>
  obtain ⟨left,cnt,nn,hrgr,rfl,hnn,hWr⟩:=hrel
  have hle:nn≤1000:=by rw [hnn.out];exact metOf_le HO.out hm left
  clear hrg hmet0 hlt2 hw2
  go_wp2_with (at_next;refine wpList_next_ranges _ rfl _ rfl 65 partKeyed (plainElem Tryz.prog 3) partV (Value.int .i64) (fun _ _ h=>partKey_inv h) (fun v y hv=>by obtain ⟨c,rfl,_⟩:=plainElem_int_inv Tryz.underlying3 hv;exact ⟨c,rfl⟩) B _ n D _ _ rfl hrgr ?_ ?_;(intro hc0 hl0;have HL0:=Hh hl0;clear hl0;have tok0:True:=trivial);rotate_left;(intro x cc kl y w3 cnt3 hkey hlk hv hat hrg1 hlt3 hg1 hs1 hen;obtain ⟨rfl,hpx,hcx⟩:=next_facts HO.out HD.out HCP.out HIP.out hkey hat;obtain ⟨pm,pg⟩:=x;have HPX:=Hh hpx;have HCX:=Hh hcx;have HLK:=Hh hlk;have HME:=Hh hrgr.left_eq;have HM1:=Hh hrg1.left_eq;unfold partV at hen ⊢;clear hkey hpx hcx hlk hv hat;by_cases hxm:pm=m);rotate_left;rotate_left)
  ·go_ret
   refine ⟨by (show Ending.returned (.int .i64 (nn:Int))=_;rw [← met_end (b:=b) (m:=m) HL0.out,← hnn.out]),bel⟩
  ·subst hxm
   go_roundw
   case rel=>exact ⟨_,_,nn+1,ranges_al hrg1 _,by go_num,(by rw [show nn+1=metOf b [c0,c1,c2,c3] pm left+1 from by rw [hnn.out]];exact (met_more HO.out _ HPX.out HLK.out HCX.out hm).symm),bel⟩
   case measure=>rw [(ranges_al hrg1 _).left_eq,HME.out];omega
  ·go_roundw
   case rel=>exact ⟨_,_,nn,ranges_al hrg1 _,rfl,hnn.out.trans (met_same HO.out _ hm HPX.out hxm).symm,bel⟩
   case measure=>rw [(ranges_al hrg1 _).left_eq,HME.out];omega
section
variable {b:Bk} {vr vg vm vs vc:Value} {w:World}
structure Boxes (w W:World) (vr vg vm vs vc:Value) (c0 c1 c2 c3 k a rb m:Int):Prop where
 five:Five W w.heap.size vr vg vm vs vc
 came:∀ i,i < 4→W.cell? ⟨w.heap.size+1,i,none⟩=some (.int .i64 ([c0,c1,c2,c3].getD i 0))
 rk:W.cell? ⟨w.heap.size+1+1,0,none⟩=some (.int .i64 k)
 ra:W.cell? ⟨w.heap.size+1+1,1,none⟩=some (.int .i64 a)
 rb:W.cell? ⟨w.heap.size+1+1,2,none⟩=some (.int .i64 rb)
 rm:W.cell? ⟨w.heap.size+1+1,3,none⟩=some (.int .i64 m)
 below:Below w.heap.size w W
 size:W.heap.size=w.heap.size+1+1+1
theorem boxes3 (w:World) (vr vg vm vs vc:Value) (c0 c1 c2 c3 k a rb m:Int) (t1 t2 t3:TypeId) :
 Boxes w (((w.alloc (.cells #[vr,vg,vm,vs,vc] t1)).alloc (.cells #[.int .i64 c0,.int .i64 c1,.int .i64 c2,.int .i64 c3] t2)).alloc (.cells #[.int .i64 k,.int .i64 a,.int .i64 rb,.int .i64 m] t3)) vr vg vm vs vc c0 c1 c2 c3 k a rb m:=by
 refine ⟨⟨?_,?_,?_,?_,?_,by simp;omega⟩,fun i hi=>?_,?_,?_,?_,?_,bel,by simp⟩
 iterate 5 (rw [World.cell?_alloc_past _ _ _ (by simp;omega),World.cell?_alloc_past _ _ _ (by simp),World.cell?_alloc_at _ _ _ _ rfl];rfl)
 ·rw [World.cell?_alloc_past _ _ _ (by simp),World.cell?_alloc_at _ _ _ _ (by simp)]
  have:i=0∨i=1∨i=2∨i=3:=by omega
  rcases this with rfl | rfl | rfl | rfl <;> rfl
 iterate 4 (rw [World.cell?_alloc_at _ _ _ _ (by simp)];rfl)
theorem right0 (hB:BookAt w b vr vg vm vs vc) (hs:b.ss.length≤4) (c0 c1 c2 c3 a rb m:Int) (ha:inB a 0 ((b.ss.length:Int) - 1)=true) {t:Bool} (h:rightR b [c0,c1,c2,c3] ⟨0,a,rb,m⟩=t) :
 Calls Tryz.prog 177 #[.agg #[vr,vg,vm,vs,vc],.agg #[.int .i64 c0,.int .i64 c1,.int .i64 c2,.int .i64 c3],.agg #[.int .i64 0,.int .i64 a,.int .i64 rb,.int .i64 m]] w fun e w'=>e=.returned (.bool t)∧Below w.heap.size w w':=by
 obtain ⟨sa,sc,rfl,hM,hl⟩:=hB.ss
 obtain ⟨h1,h2⟩:=inB_nat.1 ha
 obtain ⟨sb,so,rfl,hsb,pa,pc,d0,hpc,hpl,_⟩:=hM _ h2
 simp [rightR,List.getElem?_eq_getElem h2] at h
 have h3:a < b.ss.length:=by omega
 have h4:a < 4:=by omega
 generalize hs:b.ss[a.toNat]=s at *
 have HS:=Hh hs
 have H:=Hh h
 clear hs h hB hM ha
 go_enter Tryz.func177,Tryz.ntmps177
 go_wp2
 obtain ⟨W0,hW0⟩:∃ W0,W0=((w.alloc (.cells #[vr,vg,vm,.slice (some ⟨sb,so,none⟩) b.ss.length sc,vc] 88)).alloc (.cells #[.int .i64 c0,.int .i64 c1,.int .i64 c2,.int .i64 c3] 124)).alloc (.cells #[.int .i64 0,.int .i64 a,.int .i64 rb,.int .i64 m] 49):=⟨_,rfl⟩
 rw [← hW0]
 obtain ⟨⟨y0,y1,y2,y3,y4,y5⟩,yc,z0,z1,z2,z3,hb0,hsz⟩:=hW0 ▸ boxes3 w vr vg vm (.slice (some ⟨sb,so,none⟩) b.ss.length sc) vc c0 c1 c2 c3 0 a rb m 88 124 49
 have d1:=(hb0.cell hsb).trans d0
 have hc:=yc a.toNat (by omega)
 generalize hck:List.getD [c0,c1,c2,c3] a.toNat 0=ck at hc
 have HCK:=Hh hck
 clear hW0 hck yc d0 hsz
 go_quiet (fail)
 go_wp2
 go_ret
 refine ⟨?_,bel⟩
 rw [← H.out,← HCK.out]
 rfl
theorem right1 (hB:BookAt w b vr vg vm vs vc) (hs:b.ss.length≤4) (c0 c1 c2 c3 a rb m:Int) (ha:inB a 0 ((b.ss.length:Int) - 1)=true) {t:Bool} (h:rightR b [c0,c1,c2,c3] ⟨1,a,rb,m⟩=t) :
 Calls Tryz.prog 178 #[.agg #[vr,vg,vm,vs,vc],.agg #[.int .i64 c0,.int .i64 c1,.int .i64 c2,.int .i64 c3],.agg #[.int .i64 1,.int .i64 a,.int .i64 rb,.int .i64 m]] w fun e w'=>e=.returned (.bool t)∧Below w.heap.size w w':=by
 obtain ⟨sa,sc,rfl,hM,hl⟩:=hB.ss
 obtain ⟨h1,h2⟩:=inB_nat.1 ha
 obtain ⟨sb,so,rfl,hsb,pa,pc,d0,hpc,hpl,_⟩:=hM _ h2
 simp [rightR,List.getElem?_eq_getElem h2] at h
 have h3:a < b.ss.length:=by omega
 have h4:a < 4:=by omega
 generalize hs:b.ss[a.toNat]=s at *
 have HS:=Hh hs
 have H:=Hh h
 clear hs h hB hM ha
 go_enter Tryz.func178,Tryz.ntmps178
 go_wp2
 obtain ⟨W0,hW0⟩:∃ W0,W0=((w.alloc (.cells #[vr,vg,vm,.slice (some ⟨sb,so,none⟩) b.ss.length sc,vc] 88)).alloc (.cells #[.int .i64 c0,.int .i64 c1,.int .i64 c2,.int .i64 c3] 124)).alloc (.cells #[.int .i64 1,.int .i64 a,.int .i64 rb,.int .i64 m] 49):=⟨_,rfl⟩
 rw [← hW0]
 obtain ⟨⟨y0,y1,y2,y3,y4,y5⟩,yc,z0,z1,z2,z3,hb0,hsz⟩:=hW0 ▸ boxes3 w vr vg vm (.slice (some ⟨sb,so,none⟩) b.ss.length sc) vc c0 c1 c2 c3 1 a rb m 88 124 49
 have d1:=(hb0.cell hsb).trans d0
 have hc:=yc a.toNat (by omega)
 generalize hck:List.getD [c0,c1,c2,c3] a.toNat 0=ck at hc
 have HCK:=Hh hck
 clear hW0 hck yc d0 hsz
 go_quiet (fail)
 go_wp2
 go_ret
 refine ⟨?_,bel⟩
 rw [← H.out,← HCK.out]
 rfl
theorem right2 (hB:BookAt w b vr vg vm vs vc) (hs:b.ss.length≤4) (c0 c1 c2 c3 a rb m:Int) (ha:inB a 0 ((b.ss.length:Int) - 1)=true) {t:Bool} (h:rightR b [c0,c1,c2,c3] ⟨2,a,rb,m⟩=t) :
 Calls Tryz.prog 179 #[.agg #[vr,vg,vm,vs,vc],.agg #[.int .i64 c0,.int .i64 c1,.int .i64 c2,.int .i64 c3],.agg #[.int .i64 2,.int .i64 a,.int .i64 rb,.int .i64 m]] w fun e w'=>e=.returned (.bool t)∧Below w.heap.size w w':=by
 obtain ⟨sa,sc,rfl,hM,hl⟩:=hB.ss
 obtain ⟨h1,h2⟩:=inB_nat.1 ha
 obtain ⟨sb,so,rfl,hsb,pa,pc,d0,hpc,hpl,_⟩:=hM _ h2
 simp [rightR] at h
 have h3:a < b.ss.length:=by omega
 have h4:a < 4:=by omega
 generalize hs:b.ss[a.toNat]=s at *
 have HS:=Hh hs
 have H:=Hh h
 clear hs h hB hM ha
 go_enter Tryz.func179,Tryz.ntmps179
 go_wp2
 obtain ⟨W0,hW0⟩:∃ W0,W0=((w.alloc (.cells #[vr,vg,vm,.slice (some ⟨sb,so,none⟩) b.ss.length sc,vc] 88)).alloc (.cells #[.int .i64 c0,.int .i64 c1,.int .i64 c2,.int .i64 c3] 124)).alloc (.cells #[.int .i64 2,.int .i64 a,.int .i64 rb,.int .i64 m] 49):=⟨_,rfl⟩
 rw [← hW0]
 obtain ⟨⟨y0,y1,y2,y3,y4,y5⟩,yc,z0,z1,z2,z3,hb0,hsz⟩:=hW0 ▸ boxes3 w vr vg vm (.slice (some ⟨sb,so,none⟩) b.ss.length sc) vc c0 c1 c2 c3 2 a rb m 88 124 49
 have d1:=(hb0.cell hsb).trans d0
 have hc:=yc a.toNat (by omega)
 generalize hck:List.getD [c0,c1,c2,c3] a.toNat 0=ck at hc
 have HCK:=Hh hck
 clear hW0 hck yc d0 hsz
 go_quiet (fail)
 go_wp2
 go_ret
 refine ⟨?_,bel⟩
 rw [← H.out,← HCK.out]
 rfl
theorem right3 (hB:BookAt w b vr vg vm vs vc) (hs:b.ss.length≤4) (c0 c1 c2 c3 a rb m:Int) (ha:inB a 0 ((b.ss.length:Int) - 1)=true) {t:Bool} (h:rightR b [c0,c1,c2,c3] ⟨3,a,rb,m⟩=t) :
 Calls Tryz.prog 180 #[.agg #[vr,vg,vm,vs,vc],.agg #[.int .i64 c0,.int .i64 c1,.int .i64 c2,.int .i64 c3],.agg #[.int .i64 3,.int .i64 a,.int .i64 rb,.int .i64 m]] w fun e w'=>e=.returned (.bool t)∧Below w.heap.size w w':=by
 obtain ⟨sa,sc,rfl,hM,hl⟩:=hB.ss
 obtain ⟨h1,h2⟩:=inB_nat.1 ha
 obtain ⟨sb,so,rfl,hsb,pa,pc,d0,hpc,hpl,_⟩:=hM _ h2
 simp [rightR] at h
 have h3:a < b.ss.length:=by omega
 have h4:a < 4:=by omega
 generalize hs:b.ss[a.toNat]=s at *
 have HS:=Hh hs
 have H:=Hh h
 clear hs h hB hM ha
 go_enter Tryz.func180,Tryz.ntmps180
 go_wp2
 obtain ⟨W0,hW0⟩:∃ W0,W0=((w.alloc (.cells #[vr,vg,vm,.slice (some ⟨sb,so,none⟩) b.ss.length sc,vc] 88)).alloc (.cells #[.int .i64 c0,.int .i64 c1,.int .i64 c2,.int .i64 c3] 124)).alloc (.cells #[.int .i64 3,.int .i64 a,.int .i64 rb,.int .i64 m] 49):=⟨_,rfl⟩
 rw [← hW0]
 obtain ⟨⟨y0,y1,y2,y3,y4,y5⟩,yc,z0,z1,z2,z3,hb0,hsz⟩:=hW0 ▸ boxes3 w vr vg vm (.slice (some ⟨sb,so,none⟩) b.ss.length sc) vc c0 c1 c2 c3 3 a rb m 88 124 49
 have d1:=(hb0.cell hsb).trans d0
 have hc:=yc a.toNat (by omega)
 generalize hck:List.getD [c0,c1,c2,c3] a.toNat 0=ck at hc
 have HCK:=Hh hck
 clear hW0 hck yc d0 hsz
 go_quiet (fail)
 go_wp2
 go_ret
 refine ⟨?_,bel⟩
 rw [← H.out,← HCK.out]
 rfl
theorem right5 (hB:BookAt w b vr vg vm vs vc) (hO:BkOk b) (c0 c1 c2 c3 a rb m:Int) (hc:Came b [c0,c1,c2,c3]) (ha:inB a 0 ((b.ms.length:Int) - 1)=true) {t:Bool} (h:rightR b [c0,c1,c2,c3] ⟨5,a,rb,m⟩=t) :
 Calls Tryz.prog 184 #[.agg #[vr,vg,vm,vs,vc],.agg #[.int .i64 c0,.int .i64 c1,.int .i64 c2,.int .i64 c3],.agg #[.int .i64 5,.int .i64 a,.int .i64 rb,.int .i64 m]] w fun e w'=>e=.returned (.bool t)∧Below w.heap.size w w':=by
 have ha2:=inB_nat.1 ha
 simp [rightR] at h
 have hhv:=fun (w':World) (hb:Below w.heap.size w w')=>have_at (hB.below hb) hO hc rfl ha2
 rw [show cameV [c0,c1,c2,c3]=.agg #[.int .i64 c0,.int .i64 c1,.int .i64 c2,.int .i64 c3] from rfl] at hhv
 generalize haveOf b [c0,c1,c2,c3] a=n at h hhv
 have H:=Hh h
 have HV:=Hh hhv
 clear h hB hO hc ha ha2 hhv
 go_enter Tryz.func184,Tryz.ntmps184
 go_wp2
 (refine wp_region_bel (by kernel_rfl) (by kernel_rfl) ?_;(repeat (go_big_quiet_step ((go_at_call 81;with_reducible exact Calls.bel_of (HV.out _ (Below.next (Below.al (Below.al (Below.al (Below.refl _ _) _) _) _) (later_below _ _)))))));refine wpQuiet_nil ?_;rintro _ ⟨xq,rfl⟩)
 go_wp2
 go_ret
 refine ⟨?_,by have:=later_below _ xq;(exact bel)⟩
 rw [← H.out]
 rfl
theorem right4 (hB:BookAt w b vr vg vm vs vc) (hO:BkOk b) (c0 c1 c2 c3 a rb m:Int) (hc:Came b [c0,c1,c2,c3]) (ha:isPart b (a,rb)=true) {t:Bool} (h:rightR b [c0,c1,c2,c3] ⟨4,a,rb,m⟩=t) :
 Calls Tryz.prog 182 #[.agg #[vr,vg,vm,vs,vc],.agg #[.int .i64 c0,.int .i64 c1,.int .i64 c2,.int .i64 c3],.agg #[.int .i64 4,.int .i64 a,.int .i64 rb,.int .i64 m]] w fun e w'=>e=.returned (.bool t)∧Below w.heap.size w w':=by
 have hbd:=isPart_bounds hO.groups (by have:=hO.ml;omega) ha
 have hkey:=partKeyE (a,rb) hbd.1 hbd.2
 simp [rightR] at h
 have hhv:=fun (w':World) (hb:Below w.heap.size w w')=>copies_at (hB.below hb) hO hc rfl
 rw [show cameV [c0,c1,c2,c3]=.agg #[.int .i64 c0,.int .i64 c1,.int .i64 c2,.int .i64 c3] from rfl] at hhv
 generalize hcc:copies b [c0,c1,c2,c3] (a,rb)=nc at h
 have H:=Hh h
 have HV:=Hh hhv
 have HK:=Hh hkey
 have HCC:=Hh hcc
 clear h hB hO hc ha hbd hhv hkey hcc
 go_enter Tryz.func182,Tryz.ntmps182
 go_wp2
 obtain ⟨W0,hW0⟩:∃ W0,W0=((w.alloc (.cells #[vr,vg,vm,vs,vc] 88)).alloc (.cells #[.int .i64 c0,.int .i64 c1,.int .i64 c2,.int .i64 c3] 124)).alloc (.cells #[.int .i64 4,.int .i64 a,.int .i64 rb,.int .i64 m] 49):=⟨_,rfl⟩
 rw [← hW0]
 obtain ⟨⟨y0,y1,y2,y3,y4,y5⟩,yc,z0,z1,z2,z3,hb0,hsz⟩:=hW0 ▸ boxes3 w vr vg vm vs vc c0 c1 c2 c3 4 a rb m 88 124 49
 have k0:=yc 0 (by omega)
 have k1:=yc 1 (by omega)
 have k2:=yc 2 (by omega)
 have k3:=yc 3 (by omega)
 simp only [List.getD_cons_zero,List.getD_cons_succ] at k0 k1 k2 k3
 clear yc hW0
 have hall:∀ w':World,Below W0.heap.size W0 w'→(Below W0.heap.size W0 w'∧w'.cell? ⟨w.heap.size,0,none⟩=some vr∧w'.cell? ⟨w.heap.size,1,none⟩=some vg∧w'.cell? ⟨w.heap.size,2,none⟩=some vm∧w'.cell? ⟨w.heap.size,3,none⟩=some vs∧w'.cell? ⟨w.heap.size,4,none⟩=some vc ∧
  w'.cell? ⟨w.heap.size+1,0,none⟩=some (.int .i64 c0)∧w'.cell? ⟨w.heap.size+1,1,none⟩=some (.int .i64 c1)∧w'.cell? ⟨w.heap.size+1,2,none⟩=some (.int .i64 c2)∧w'.cell? ⟨w.heap.size+1,3,none⟩=some (.int .i64 c3) ∧
  w'.cell? ⟨w.heap.size+1+1,1,none⟩=some (.int .i64 a)∧w'.cell? ⟨w.heap.size+1+1,2,none⟩=some (.int .i64 rb)∧w'.cell? ⟨w.heap.size+1+1,3,none⟩=some (.int .i64 m)):=fun w' h =>
  ⟨h,(h.cell (by simp;omega)).trans y0,(h.cell (by simp;omega)).trans y1,(h.cell (by simp;omega)).trans y2,(h.cell (by simp;omega)).trans y3,(h.cell (by simp;omega)).trans y4,(h.cell (by simp;omega)).trans k0,(h.cell (by simp;omega)).trans k1,(h.cell (by simp;omega)).trans k2,(h.cell (by simp;omega)).trans k3,(h.cell (by simp;omega)).trans z1,(h.cell (by simp;omega)).trans z2,(h.cell (by simp;omega)).trans z3⟩
 have HALL:=Hh hall
 clear hall hsz
 go_region_held3 (fun w'=>Below W0.heap.size W0 w'∧w'.cell? ⟨w.heap.size,0,none⟩=some vr∧w'.cell? ⟨w.heap.size,1,none⟩=some vg∧w'.cell? ⟨w.heap.size,2,none⟩=some vm∧w'.cell? ⟨w.heap.size,3,none⟩=some vs∧w'.cell? ⟨w.heap.size,4,none⟩=some vc ∧
  w'.cell? ⟨w.heap.size+1,0,none⟩=some (.int .i64 c0)∧w'.cell? ⟨w.heap.size+1,1,none⟩=some (.int .i64 c1)∧w'.cell? ⟨w.heap.size+1,2,none⟩=some (.int .i64 c2)∧w'.cell? ⟨w.heap.size+1,3,none⟩=some (.int .i64 c3) ∧
  w'.cell? ⟨w.heap.size+1+1,1,none⟩=some (.int .i64 a)∧w'.cell? ⟨w.heap.size+1+1,2,none⟩=some (.int .i64 rb)∧w'.cell? ⟨w.heap.size+1+1,3,none⟩=some (.int .i64 m))
  (exact HALL.out _ (bel))
  (first
    | (go_at_call 122;go_split_ands;(with_reducible refine (HV.out _ (Below.next hb0 (by assumption))).mono ?_);rintro e w1 ⟨B,n,l,rfl,hB1,hcnt,hcp,hip,hb1⟩;have hlk:=CntAt.look (t:=162) hcnt partKeyed Tryz.underlying162 Tryz.underlying3 (zeroInt _) HK.out;rw [cntV_partV,hcp] at hlk;unfold partV at hlk;rw [HCC.out] at hlk;clear hcp hcnt hip))
 all_goals
  go_wp2
  go_ret
  refine ⟨?_,bel⟩
  rw [← H.out]
  rfl
end
section
variable {b:Bk} {vr vg vm vs vc:Value} {w:World}
theorem recAl_facts {b:Bk} {k a rb m:Int} (h:recAl b ⟨k,a,rb,m⟩=0):(0≤k∧k≤5)∧(k≤3→inB a 0 ((b.ss.length:Int) - 1)=true)∧(k=4→isPart b (a,rb)=true)∧(k=5→inB a 0 ((b.ms.length:Int) - 1)=true):=by
 unfold recAl at h
 split at h
 ·cases h
 ·rename_i hk
  simp only [Bool.not_eq_false,inB,decide_eq_true_eq] at hk
  refine ⟨hk,?_⟩
  split at h
  ·cases h
  ·cases hm:most b ⟨k,a,rb,m⟩ with
   | none=>rw [hm] at h;cases h
   | some n =>
    unfold most at hm
    dsimp only at hm
    refine ⟨fun hk3=>?_,fun hk4=>?_,fun hk5=>?_⟩
    ·rw [if_pos hk3] at hm
     split at hm
     ·assumption
     ·cases hm
    ·rw [if_neg (by omega),if_pos hk4] at hm
     split at hm
     ·assumption
     ·cases hm
    ·rw [if_neg (by omega),if_neg (by omega)] at hm
     split at hm
     ·assumption
     ·cases hm
theorem wrong_0 (hB:BookAt w b vr vg vm vs vc) (hO:BkOk b) (hK:KindsAt w) {bb cb:Nat} (h5:Five w bb vr vg vm vs vc) (c0 c1 c2 c3 a rb m:Int) (hc:Came b [c0,c1,c2,c3])
 (k0:w.cell? ⟨cb,0,none⟩=some (.int .i64 c0)) (k1:w.cell? ⟨cb,1,none⟩=some (.int .i64 c1)) (k2:w.cell? ⟨cb,2,none⟩=some (.int .i64 c2)) (k3:w.cell? ⟨cb,3,none⟩=some (.int .i64 c3)) (hcb:cb < w.heap.size)
 (hr:recAl b ⟨0,a,rb,m⟩=0) {t:Bool} (h:rightR b [c0,c1,c2,c3] ⟨0,a,rb,m⟩=t) :
 Calls Tryz.prog 151 #[.agg #[.int .i64 0,.int .i64 a,.int .i64 rb,.int .i64 m],.pointer (some ⟨bb,0,none⟩),.pointer (some ⟨cb,0,none⟩)] w fun e w'=>e=.returned (.bool (!t))∧Below w.heap.size w w':=by
 have hf:=recAl_facts hr
 have HA:=Hh (hf.2.1 (by omega))
 obtain ⟨hlt,hK⟩:=hK
 obtain ⟨⟨s,_,g0⟩,g1,g2,g3,g4⟩:=hK 0 (by omega)
 simp [usesB,usesMany,kindMost,kindRight] at g0 g1 g2 g3 g4
 obtain ⟨y0,y1,y2,y3,y4,y5⟩:=h5
 have HB:=Hh hB
 have HO:=Hh hO
 have HC:=Hh hc
 have H:=Hh h
 clear hB hO hc h hK hf hr
 go_enter Tryz.func151,Tryz.ntmps151
 go_wp2
 obtain ⟨W0,hW0⟩:∃ W0,W0=w.alloc (.cells #[.int .i64 0,.int .i64 a,.int .i64 rb,.int .i64 m] 49):=⟨_,rfl⟩
 have hb0:Below w.heap.size w W0:=by rw [hW0];(exact bel)
 (refine wp_region_bel (by kernel_rfl) (by kernel_rfl) ?_;(repeat (go_big_quiet_step ((go_at_call 177;with_reducible exact Calls.bel_of (right0 (HB.out.below (Below.next (Below.al (Below.refl _ _) _) (later_below _ _))) HO.out.sl c0 c1 c2 c3 a rb m HA.out H.out)))));refine wpQuiet_nil ?_;rintro _ ⟨xq,rfl⟩)
 go_wp2
 go_ret
 exact ⟨rfl,by have:=later_below _ xq;(exact bel)⟩
theorem wrong_1 (hB:BookAt w b vr vg vm vs vc) (hO:BkOk b) (hK:KindsAt w) {bb cb:Nat} (h5:Five w bb vr vg vm vs vc) (c0 c1 c2 c3 a rb m:Int) (hc:Came b [c0,c1,c2,c3])
 (k0:w.cell? ⟨cb,0,none⟩=some (.int .i64 c0)) (k1:w.cell? ⟨cb,1,none⟩=some (.int .i64 c1)) (k2:w.cell? ⟨cb,2,none⟩=some (.int .i64 c2)) (k3:w.cell? ⟨cb,3,none⟩=some (.int .i64 c3)) (hcb:cb < w.heap.size)
 (hr:recAl b ⟨1,a,rb,m⟩=0) {t:Bool} (h:rightR b [c0,c1,c2,c3] ⟨1,a,rb,m⟩=t) :
 Calls Tryz.prog 151 #[.agg #[.int .i64 1,.int .i64 a,.int .i64 rb,.int .i64 m],.pointer (some ⟨bb,0,none⟩),.pointer (some ⟨cb,0,none⟩)] w fun e w'=>e=.returned (.bool (!t))∧Below w.heap.size w w':=by
 have hf:=recAl_facts hr
 have HA:=Hh (hf.2.1 (by omega))
 obtain ⟨hlt,hK⟩:=hK
 obtain ⟨⟨s,_,g0⟩,g1,g2,g3,g4⟩:=hK 1 (by omega)
 simp [usesB,usesMany,kindMost,kindRight] at g0 g1 g2 g3 g4
 obtain ⟨y0,y1,y2,y3,y4,y5⟩:=h5
 have HB:=Hh hB
 have HO:=Hh hO
 have HC:=Hh hc
 have H:=Hh h
 clear hB hO hc h hK hf hr
 go_enter Tryz.func151,Tryz.ntmps151
 go_wp2
 obtain ⟨W0,hW0⟩:∃ W0,W0=w.alloc (.cells #[.int .i64 1,.int .i64 a,.int .i64 rb,.int .i64 m] 49):=⟨_,rfl⟩
 have hb0:Below w.heap.size w W0:=by rw [hW0];(exact bel)
 (refine wp_region_bel (by kernel_rfl) (by kernel_rfl) ?_;(repeat (go_big_quiet_step ((go_at_call 178;with_reducible exact Calls.bel_of (right1 (HB.out.below (Below.next (Below.al (Below.refl _ _) _) (later_below _ _))) HO.out.sl c0 c1 c2 c3 a rb m HA.out H.out)))));refine wpQuiet_nil ?_;rintro _ ⟨xq,rfl⟩)
 go_wp2
 go_ret
 exact ⟨rfl,by have:=later_below _ xq;(exact bel)⟩
theorem wrong_2 (hB:BookAt w b vr vg vm vs vc) (hO:BkOk b) (hK:KindsAt w) {bb cb:Nat} (h5:Five w bb vr vg vm vs vc) (c0 c1 c2 c3 a rb m:Int) (hc:Came b [c0,c1,c2,c3])
 (k0:w.cell? ⟨cb,0,none⟩=some (.int .i64 c0)) (k1:w.cell? ⟨cb,1,none⟩=some (.int .i64 c1)) (k2:w.cell? ⟨cb,2,none⟩=some (.int .i64 c2)) (k3:w.cell? ⟨cb,3,none⟩=some (.int .i64 c3)) (hcb:cb < w.heap.size)
 (hr:recAl b ⟨2,a,rb,m⟩=0) {t:Bool} (h:rightR b [c0,c1,c2,c3] ⟨2,a,rb,m⟩=t) :
 Calls Tryz.prog 151 #[.agg #[.int .i64 2,.int .i64 a,.int .i64 rb,.int .i64 m],.pointer (some ⟨bb,0,none⟩),.pointer (some ⟨cb,0,none⟩)] w fun e w'=>e=.returned (.bool (!t))∧Below w.heap.size w w':=by
 have hf:=recAl_facts hr
 have HA:=Hh (hf.2.1 (by omega))
 obtain ⟨hlt,hK⟩:=hK
 obtain ⟨⟨s,_,g0⟩,g1,g2,g3,g4⟩:=hK 2 (by omega)
 simp [usesB,usesMany,kindMost,kindRight] at g0 g1 g2 g3 g4
 obtain ⟨y0,y1,y2,y3,y4,y5⟩:=h5
 have HB:=Hh hB
 have HO:=Hh hO
 have HC:=Hh hc
 have H:=Hh h
 clear hB hO hc h hK hf hr
 go_enter Tryz.func151,Tryz.ntmps151
 go_wp2
 obtain ⟨W0,hW0⟩:∃ W0,W0=w.alloc (.cells #[.int .i64 2,.int .i64 a,.int .i64 rb,.int .i64 m] 49):=⟨_,rfl⟩
 have hb0:Below w.heap.size w W0:=by rw [hW0];(exact bel)
 (refine wp_region_bel (by kernel_rfl) (by kernel_rfl) ?_;(repeat (go_big_quiet_step ((go_at_call 179;with_reducible exact Calls.bel_of (right2 (HB.out.below (Below.next (Below.al (Below.refl _ _) _) (later_below _ _))) HO.out.sl c0 c1 c2 c3 a rb m HA.out H.out)))));refine wpQuiet_nil ?_;rintro _ ⟨xq,rfl⟩)
 go_wp2
 go_ret
 exact ⟨rfl,by have:=later_below _ xq;(exact bel)⟩
theorem wrong_3 (hB:BookAt w b vr vg vm vs vc) (hO:BkOk b) (hK:KindsAt w) {bb cb:Nat} (h5:Five w bb vr vg vm vs vc) (c0 c1 c2 c3 a rb m:Int) (hc:Came b [c0,c1,c2,c3])
 (k0:w.cell? ⟨cb,0,none⟩=some (.int .i64 c0)) (k1:w.cell? ⟨cb,1,none⟩=some (.int .i64 c1)) (k2:w.cell? ⟨cb,2,none⟩=some (.int .i64 c2)) (k3:w.cell? ⟨cb,3,none⟩=some (.int .i64 c3)) (hcb:cb < w.heap.size)
 (hr:recAl b ⟨3,a,rb,m⟩=0) {t:Bool} (h:rightR b [c0,c1,c2,c3] ⟨3,a,rb,m⟩=t) :
 Calls Tryz.prog 151 #[.agg #[.int .i64 3,.int .i64 a,.int .i64 rb,.int .i64 m],.pointer (some ⟨bb,0,none⟩),.pointer (some ⟨cb,0,none⟩)] w fun e w'=>e=.returned (.bool (!t))∧Below w.heap.size w w':=by
 have hf:=recAl_facts hr
 have HA:=Hh (hf.2.1 (by omega))
 obtain ⟨hlt,hK⟩:=hK
 obtain ⟨⟨s,_,g0⟩,g1,g2,g3,g4⟩:=hK 3 (by omega)
 simp [usesB,usesMany,kindMost,kindRight] at g0 g1 g2 g3 g4
 obtain ⟨y0,y1,y2,y3,y4,y5⟩:=h5
 have HB:=Hh hB
 have HO:=Hh hO
 have HC:=Hh hc
 have H:=Hh h
 clear hB hO hc h hK hf hr
 go_enter Tryz.func151,Tryz.ntmps151
 go_wp2
 obtain ⟨W0,hW0⟩:∃ W0,W0=w.alloc (.cells #[.int .i64 3,.int .i64 a,.int .i64 rb,.int .i64 m] 49):=⟨_,rfl⟩
 have hb0:Below w.heap.size w W0:=by rw [hW0];(exact bel)
 (refine wp_region_bel (by kernel_rfl) (by kernel_rfl) ?_;(repeat (go_big_quiet_step ((go_at_call 180;with_reducible exact Calls.bel_of (right3 (HB.out.below (Below.next (Below.al (Below.refl _ _) _) (later_below _ _))) HO.out.sl c0 c1 c2 c3 a rb m HA.out H.out)))));refine wpQuiet_nil ?_;rintro _ ⟨xq,rfl⟩)
 go_wp2
 go_ret
 exact ⟨rfl,by have:=later_below _ xq;(exact bel)⟩
theorem wrong_4 (hB:BookAt w b vr vg vm vs vc) (hO:BkOk b) (hK:KindsAt w) {bb cb:Nat} (h5:Five w bb vr vg vm vs vc) (c0 c1 c2 c3 a rb m:Int) (hc:Came b [c0,c1,c2,c3])
 (k0:w.cell? ⟨cb,0,none⟩=some (.int .i64 c0)) (k1:w.cell? ⟨cb,1,none⟩=some (.int .i64 c1)) (k2:w.cell? ⟨cb,2,none⟩=some (.int .i64 c2)) (k3:w.cell? ⟨cb,3,none⟩=some (.int .i64 c3)) (hcb:cb < w.heap.size)
 (hr:recAl b ⟨4,a,rb,m⟩=0) {t:Bool} (h:rightR b [c0,c1,c2,c3] ⟨4,a,rb,m⟩=t) :
 Calls Tryz.prog 151 #[.agg #[.int .i64 4,.int .i64 a,.int .i64 rb,.int .i64 m],.pointer (some ⟨bb,0,none⟩),.pointer (some ⟨cb,0,none⟩)] w fun e w'=>e=.returned (.bool (!t))∧Below w.heap.size w w':=by
 have hf:=recAl_facts hr
 have HA:=Hh (hf.2.2.1 rfl)
 obtain ⟨hlt,hK⟩:=hK
 obtain ⟨⟨s,_,g0⟩,g1,g2,g3,g4⟩:=hK 4 (by omega)
 simp [usesB,usesMany,kindMost,kindRight] at g0 g1 g2 g3 g4
 obtain ⟨y0,y1,y2,y3,y4,y5⟩:=h5
 have HB:=Hh hB
 have HO:=Hh hO
 have HC:=Hh hc
 have H:=Hh h
 clear hB hO hc h hK hf hr
 go_enter Tryz.func151,Tryz.ntmps151
 go_wp2
 obtain ⟨W0,hW0⟩:∃ W0,W0=w.alloc (.cells #[.int .i64 4,.int .i64 a,.int .i64 rb,.int .i64 m] 49):=⟨_,rfl⟩
 have hb0:Below w.heap.size w W0:=by rw [hW0];(exact bel)
 (refine wp_region_bel (by kernel_rfl) (by kernel_rfl) ?_;(repeat (go_big_quiet_step ((go_at_call 182;with_reducible exact Calls.bel_of (right4 (HB.out.below (Below.next (Below.al (Below.refl _ _) _) (later_below _ _))) HO.out c0 c1 c2 c3 a rb m HC.out HA.out H.out)))));refine wpQuiet_nil ?_;rintro _ ⟨xq,rfl⟩)
 go_wp2
 go_ret
 exact ⟨rfl,by have:=later_below _ xq;(exact bel)⟩
theorem wrong_5 (hB:BookAt w b vr vg vm vs vc) (hO:BkOk b) (hK:KindsAt w) {bb cb:Nat} (h5:Five w bb vr vg vm vs vc) (c0 c1 c2 c3 a rb m:Int) (hc:Came b [c0,c1,c2,c3])
 (k0:w.cell? ⟨cb,0,none⟩=some (.int .i64 c0)) (k1:w.cell? ⟨cb,1,none⟩=some (.int .i64 c1)) (k2:w.cell? ⟨cb,2,none⟩=some (.int .i64 c2)) (k3:w.cell? ⟨cb,3,none⟩=some (.int .i64 c3)) (hcb:cb < w.heap.size)
 (hr:recAl b ⟨5,a,rb,m⟩=0) {t:Bool} (h:rightR b [c0,c1,c2,c3] ⟨5,a,rb,m⟩=t) :
 Calls Tryz.prog 151 #[.agg #[.int .i64 5,.int .i64 a,.int .i64 rb,.int .i64 m],.pointer (some ⟨bb,0,none⟩),.pointer (some ⟨cb,0,none⟩)] w fun e w'=>e=.returned (.bool (!t))∧Below w.heap.size w w':=by
 have hf:=recAl_facts hr
 have HA:=Hh (hf.2.2.2 rfl)
 obtain ⟨hlt,hK⟩:=hK
 obtain ⟨⟨s,_,g0⟩,g1,g2,g3,g4⟩:=hK 5 (by omega)
 simp [usesB,usesMany,kindMost,kindRight] at g0 g1 g2 g3 g4
 obtain ⟨y0,y1,y2,y3,y4,y5⟩:=h5
 have HB:=Hh hB
 have HO:=Hh hO
 have HC:=Hh hc
 have H:=Hh h
 clear hB hO hc h hK hf hr
 go_enter Tryz.func151,Tryz.ntmps151
 go_wp2
 obtain ⟨W0,hW0⟩:∃ W0,W0=w.alloc (.cells #[.int .i64 5,.int .i64 a,.int .i64 rb,.int .i64 m] 49):=⟨_,rfl⟩
 have hb0:Below w.heap.size w W0:=by rw [hW0];(exact bel)
 (refine wp_region_bel (by kernel_rfl) (by kernel_rfl) ?_;(repeat (go_big_quiet_step ((go_at_call 184;with_reducible exact Calls.bel_of (right5 (HB.out.below (Below.next (Below.al (Below.refl _ _) _) (later_below _ _))) HO.out c0 c1 c2 c3 a rb m HC.out HA.out H.out)))));refine wpQuiet_nil ?_;rintro _ ⟨xq,rfl⟩)
 go_wp2
 go_ret
 exact ⟨rfl,by have:=later_below _ xq;(exact bel)⟩
theorem wrong_at (hB:BookAt w b vr vg vm vs vc) (hO:BkOk b) (hK:KindsAt w) {bb cb:Nat} (h5:Five w bb vr vg vm vs vc) (c0 c1 c2 c3:Int) (r:Rec) (hc:Came b [c0,c1,c2,c3])
 (k0:w.cell? ⟨cb,0,none⟩=some (.int .i64 c0)) (k1:w.cell? ⟨cb,1,none⟩=some (.int .i64 c1)) (k2:w.cell? ⟨cb,2,none⟩=some (.int .i64 c2)) (k3:w.cell? ⟨cb,3,none⟩=some (.int .i64 c3)) (hcb:cb < w.heap.size)
 (hr:recAl b r=0) {t:Bool} (h:rightR b [c0,c1,c2,c3] r=t) :
 Calls Tryz.prog 151 #[.agg #[.int .i64 r.k,.int .i64 r.a,.int .i64 r.b,.int .i64 r.m],.pointer (some ⟨bb,0,none⟩),.pointer (some ⟨cb,0,none⟩)] w fun e w'=>e=.returned (.bool (!t))∧Below w.heap.size w w':=by
 obtain ⟨k,a,rb,m⟩:=r
 have:=(recAl_facts hr).1
 have:k=0∨k=1∨k=2∨k=3∨k=4∨k=5:=by omega
 rcases this with rfl | rfl | rfl | rfl | rfl | rfl
 ·exact wrong_0 hB hO hK h5 c0 c1 c2 c3 a rb m hc k0 k1 k2 k3 hcb hr h
 ·exact wrong_1 hB hO hK h5 c0 c1 c2 c3 a rb m hc k0 k1 k2 k3 hcb hr h
 ·exact wrong_2 hB hO hK h5 c0 c1 c2 c3 a rb m hc k0 k1 k2 k3 hcb hr h
 ·exact wrong_3 hB hO hK h5 c0 c1 c2 c3 a rb m hc k0 k1 k2 k3 hcb hr h
 ·exact wrong_4 hB hO hK h5 c0 c1 c2 c3 a rb m hc k0 k1 k2 k3 hcb hr h
 ·exact wrong_5 hB hO hK h5 c0 c1 c2 c3 a rb m hc k0 k1 k2 k3 hcb hr h
end
end Go.Proofs.YtfggbepickdokaaGreatDoor
