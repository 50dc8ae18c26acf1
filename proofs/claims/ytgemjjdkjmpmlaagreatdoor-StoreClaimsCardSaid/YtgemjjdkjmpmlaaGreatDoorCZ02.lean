/- Leads to StoreClaims of chapter 6: CM0 CM1 CM2 CM3. -/
import Derived.Test.YtgemjjdkjmpmlaaGreatDoorCZ01
set_option maxHeartbeats 16000000
set_option maxRecDepth 100000
set_option linter.all false
namespace Go.Proofs.YtgemjjdkjmpmlaaGreatDoor
open Go.RowKit Go.Maps Sp
theorem rSay_at (s m:Int) (w:World) {t:Int} (ht:sayI s m=t):Calls Tryz.prog 96 #[.int .i64 s,.int .i64 m] w fun e w'=>e=.returned (.int .i64 t)/\w'=w:=by
 unfold sayI at ht;by_cases h0:s=0
 ·rw [if_pos h0] at ht;subst h0 ht
  go_enter Tryz.func96,Tryz.ntmps96
  go_wp2;go_ret;exact ⟨rfl,rfl⟩
 ·rw [if_neg h0] at ht;have h1:(s == 0)=false:=by rw [beq_eq_false_iff_ne];exact h0
  by_cases h2:s=m
  ·rw [if_pos h2] at ht;subst h2 ht;clear h0
   go_enter Tryz.func96,Tryz.ntmps96
   go_wp2;go_ret;exact ⟨rfl,rfl⟩
  ·rw [if_neg h2] at ht;have h3:(s == m)=false:=by rw [beq_eq_false_iff_ne];exact h2
   subst ht;clear h0 h2
   go_enter Tryz.func96,Tryz.ntmps96
   go_wp2;go_ret;exact ⟨rfl,rfl⟩
theorem ListI.below {w w':World} {a:Option Addr} {l:List (List Int)} (h:ListI w a l) (hb:Below w.heap.size w w'):ListI w' a l:=fun i hi=>by
 obtain ⟨b,o,xa,xc,e,hlt,hc,hx⟩:=h i hi;exact ⟨b,o,xa,xc,e,Nat.lt_of_lt_of_le hlt hb.size,(hb.cell hlt).trans hc,hx.below hb⟩
theorem countI_snoc (l:List Int) (m x:Int):countI (l ++ [x]) m=countI l m+if m<=x then 1 else 0:=by
 unfold countI;rw [List.filter_append];by_cases h:m<=x <;> simp [h]
theorem countI_bd (l:List Int) (m:Int):0<=countI l m/\countI l m<=l.length:=by
 unfold countI;have:=List.length_filter_le (fun k=>decide (m<=k)) l;omega
theorem oftenI_take (b:Bk) (l:List (List Int)) (p:Prt) {k:Nat} (h:k < l.length):oftenI b (l.take (k+1)) p=oftenI b (l.take k) p ++ [copies b l[k] p]:=by
 unfold oftenI;rw [List.take_succ_eq_append_getElem h,List.map_append];rfl
section
variable {b:Bk} {vr vg vm vs vc:Value} {w:World} {la:Option Addr} {lc n:Nat} {l:List (List Int)}
theorem rTimes_at (hB:BookAt w b vr vg vm vs vc) (hO:BkOk b) (hL:ListI w la l) (hn:n=l.length) (hl:∀ x∈l,x.length=b.ss.length/\Came b x) (hll:l.length<=2000) (p:Prt) (m:Int) {t:Int} (ht:countI (oftenI b l p) m=t) :
 Calls Tryz.prog 97 #[.agg #[vr,vg,vm,vs,vc],.slice la n lc,.agg #[.int .i64 p.1,.int .i64 p.2],.int .i64 m] w fun e w'=>e=.returned (.int .i64 t)/\Below w.heap.size w w':=by
 subst hn;obtain ⟨pm,pg⟩:=p;have HB:=Hh hB;have HO:=Hh hO;have HL:=Hh hL;have HLL:=Hh hl;have HT:=Hh ht;clear hB hO hL hl ht
 go_enter Tryz.func97,Tryz.ntmps97
 go_wp2;obtain ⟨W0,hW0⟩:∃ W0,W0=((w.alloc (.cells #[vr,vg,vm,vs,vc] 26)).alloc (.cells #[.int .i64 pm,.int .i64 pg] 41)):=⟨_,rfl⟩;rw [← hW0];have hb0:Below w.heap.size w W0:=by rw [hW0];(exact bel)
 have hs0:W0.heap.size=w.heap.size+1+1:=by rw [hW0];simp
 have nn:∀ k u,(#[vr,vg,vm,vs,vc]:Array Value)[k]? = some u->W0.cell? ⟨w.heap.size,k,none⟩=some u:=fun k u hk=>by
  rw [hW0,World.cell?_alloc_past _ _ _ (by simp),World.cell?_alloc_at _ _ _ _ rfl];exact hk
 have pp:∀ k u,(#[.int .i64 pm,.int .i64 pg]:Array Value)[k]? = some u->W0.cell? ⟨w.heap.size+1,k,none⟩=some u:=fun k u hk=>by
  rw [hW0,World.cell?_alloc_at _ _ _ _ (by simp)];exact hk
 have c0:=nn 0 _ rfl;have c1:=nn 1 _ rfl;have c2:=nn 2 _ rfl;have c3:=nn 3 _ rfl;have c4:=nn 4 _ rfl;have p0:=pp 0 _ rfl;have p1:=pp 1 _ rfl;have HB0:=Hh hb0;have hl1:w.heap.size < W0.heap.size:=by omega
 have hl2:w.heap.size+1 < W0.heap.size:=by omega
 clear hW0 nn pp hb0 hs0;go_loopw [9,10] (fun v i wr=>∃ (k:Nat) (s:Int),k<=l.length/\i=.int .i64 k/\v=.int .i64 s/\Hid (s=countI (oftenI b (l.take k) (pm,pg)) m)/\0<=s/\s<=k/\Below W0.heap.size W0 wr) (fun _ i _=>l.length - (intOf i).toNat)
 case atStart=>exact ⟨0,0,Nat.zero_le _,rfl,rfl,(by simp [oftenI,countI]:(0:Int)=_),by omega,by omega,Below.refl _ _⟩
 case round =>
  obtain ⟨k,s,hk,rfl,rfl,HS,hsa,hsb,hW⟩:=hrel;have hWs:=hW.size;by_cases hlt:k < l.length
  ·obtain ⟨lb,lo,xa,xc,rfl,hlb,e0,hx⟩:=HL.out k hlt;have hbr:=Below.next HB0.out hW;have d:=(hbr.cell (p:=⟨lb,lo+k,none⟩) hlb).trans e0;have x0:=(hW.cell (p:=⟨w.heap.size,0,none⟩) hl1).trans c0;have x1:=(hW.cell (p:=⟨w.heap.size,1,none⟩) hl1).trans c1;have x2:=(hW.cell (p:=⟨w.heap.size,2,none⟩) hl1).trans c2;have x3:=(hW.cell (p:=⟨w.heap.size,3,none⟩) hl1).trans c3;have x4:=(hW.cell (p:=⟨w.heap.size,4,none⟩) hl1).trans c4;have y0:=(hW.cell (p:=⟨w.heap.size+1,0,none⟩) hl2).trans p0;have y1:=(hW.cell (p:=⟨w.heap.size+1,1,none⟩) hl2).trans p1;have hlb2:lb < wr.heap.size:=Nat.lt_of_lt_of_le hlb hbr.size;have ha1:w.heap.size < wr.heap.size:=by omega
   have ha2:w.heap.size+1 < wr.heap.size:=by omega
   obtain ⟨q1,q2⟩:=HLL.out _ (List.getElem_mem hlt);have hsn:=oftenI_take b l (pm,pg) hlt;have hcs:countI (oftenI b (l.take (k+1)) (pm,pg)) m=s+if m<=copies b l[k] (pm,pg) then 1 else 0:=by rw [hsn,countI_snoc,HS.out]
   have HBr:=Hh (HB.out.below hbr);have HX:=Hh (hx.below hbr);generalize hct:copies b l[k] (pm,pg)=ct at hcs;have HCT:=Hh hct;clear hsn hct;generalize l[k]=x at d e0 q1 q2 HCT HX hx;have Q1:=Hh q1;have Q2:=Hh q2;have HCS:=Hh hcs;clear hx e0 c0 c1 c2 c3 c4 p0 p1 q1 q2 hcs hbr;by_cases hge:m<=ct
   ·have hg1:decide (m<=ct)=true:=by simp [hge]
    have HG:=Hh hge;clear hge;have hws:IntKind.i64.wrap (s+1)=s+1:=wrapI (by omega) (by omega);go_wp2
    (refine wp_region_bel (by kernel_rfl) (by kernel_rfl) ?_;(repeat (go_big_quiet_step ((go_at_call 20;with_reducible exact Calls.bel_of (rCopies_at (HBr.out.below (later_below _ _)) HO.out (HX.out.below (later_below _ _)) rfl Q1.out Q2.out (pm,pg) HCT.out)))));refine wpQuiet_nil ?_;rintro _ ⟨xq,rfl⟩)
    go_wp2;go_roundw
    case rel=>exact ⟨k+1,s+1,by omega,by go_num,rfl,(by rw [HCS.out,if_pos HG.out]:s+1=_),by omega,by omega,Below.next hW (later_below _ _)⟩
    case measure=>simp [intOf];omega
   ·have hg1:decide (m<=ct)=false:=by simp [hge]
    have HG:=Hh hge;clear hge;go_wp2
    (refine wp_region_bel (by kernel_rfl) (by kernel_rfl) ?_;(repeat (go_big_quiet_step ((go_at_call 20;with_reducible exact Calls.bel_of (rCopies_at (HBr.out.below (later_below _ _)) HO.out (HX.out.below (later_below _ _)) rfl Q1.out Q2.out (pm,pg) HCT.out)))));refine wpQuiet_nil ?_;rintro _ ⟨xq,rfl⟩)
    go_wp2;go_roundw
    case rel=>exact ⟨k+1,s,by omega,by go_num,rfl,(by have hg:=HG.out;rw [HCS.out,if_neg (by omega)];omega:s=_),by omega,by omega,Below.next hW (later_below _ _)⟩
    case measure=>simp [intOf];omega
  ·obtain rfl:k=l.length:=by omega
   have hs:=HS.out;rw [List.take_length,HT.out] at hs;subst hs;go_wp2;go_ret;exact ⟨rfl,Below.next HB0.out hW⟩
theorem thereI_any (n m:Int) (w:World):Calls Tryz.prog 106 #[.int .i64 n,.int .i64 m] w fun e w'=>∃ t,e=.returned (.bool t)/\w'=w/\(0<=m->m<=1000000->t=inB n 0 (m - 1)):=by
 have hw:0<=m->m<=1000000->inB n 0 (wrap64 (m - 1))=inB n 0 (m - 1):=fun h0 h1=>by rw [IntWalk.wrap64_in (m - 1) (by omega)]
 have HW:=Hh hw;clear hw
 go_enter Tryz.func106,Tryz.ntmps106
 go_wp2_with (go_at_call 30;(refine (rin_at rfl).mono ?_);rintro e w1 ⟨rfl,rfl⟩);go_ret;exact ⟨_,rfl,rfl,HW.out⟩
theorem rGroup_is (hB:BookAt w b vr vg vm vs vc) (hG:bookAl b=0->∀ m∈b.ms,0<=m.groups/\m.groups<=1000) (m g:Int) :
 Calls Tryz.prog 95 #[.agg #[vr,vg,vm,vs,vc],.int .i64 m,.int .i64 g] w fun e w'=>∃ t,e=.returned (.bool t)/\Below w.heap.size w w'/\(bookAl b=0->t=isPart b (m,g)):=by
 obtain ⟨ma,mc,rfl,hM,hl⟩:=hB.ms;have HM:=Hh hM;have HG:=Hh hG;clear hM hB hG
 cases hm:inB m 0 ((b.ms.length:Int) - 1) with
 | true =>
  have hm2:=hm;unfold inB at hm2;simp only [decide_eq_true_eq] at hm2;obtain ⟨mn,rfl⟩:∃ mn:Nat,m=mn:=⟨m.toNat,by omega⟩;have hmn:mn < b.ms.length:=by omega
  obtain ⟨mb,mo,rfl,hmb,_,eg,_⟩:=HM.out mn hmn;have hge:(b.ms[(mn:Int).toNat]?).elim 0 Msg.groups=b.ms[mn].groups:=by rw [Int.toNat_natCast,List.getElem?_eq_getElem hmn];rfl
  have hgb:=fun hk=>HG.out hk _ (List.getElem_mem hmn);have hip:isPart b ((mn:Int),g)=inB g 0 (b.ms[mn].groups - 1):=by unfold isPart;rw [hm,Bool.true_and,hge]
  generalize b.ms[mn].groups=gr at eg hgb hip;have HIP:=Hh hip;have HGB:=Hh hgb;have HI:=Hh hm;have hmn1:(mn:Int) < b.ms.length:=by omega
  clear hm hge hm2 hip hgb
  go_enter Tryz.func95,Tryz.ntmps95
  go_wp2_with (first | (go_at_call 106;(with_reducible refine (there_at hl HI.out).mono ?_);rintro e w1 ⟨rfl,rfl⟩) | (go_at_call 106;(with_reducible refine (thereI_any g gr _).mono ?_);rintro e w1 ⟨t,rfl,rfl,ht⟩;have HTT:=Hh ht;clear ht));go_ret;exact ⟨t,rfl,bel,fun hk=>by rw [HIP.out];have:=HGB.out hk;exact HTT.out this.1 (by omega)⟩
 | false =>
  have hip:isPart b (m,g)=false:=by unfold isPart;rw [hm,Bool.false_and]
  have HIP:=Hh hip;have HI:=Hh hm;clear hm hip
  go_enter Tryz.func95,Tryz.ntmps95
  go_wp2_with (go_at_call 106;(with_reducible refine (there_at hl HI.out).mono ?_);rintro e w1 ⟨rfl,rfl⟩);go_ret;exact ⟨false,rfl,bel,fun _=>HIP.out.symm⟩
def missTo (b:Bk) (l:List (List Int)) (ps:List Prt) (k:Nat):List Prt:=missL b l (ps.take k)
theorem missTo_succ (b:Bk) (l:List (List Int)) (ps:List Prt) {k:Nat} (h:k < ps.length):missTo b l ps (k+1)=missTo b l ps k ++ if isMiss b l ps[k]=true then [ps[k]] else []:=by
 unfold missTo missL;rw [List.take_succ_eq_append_getElem h,List.filter_append];cases hm:isMiss b l ps[k] <;> simp [hm]
theorem rMissingOf_at (hB:BookAt w b vr vg vm vs vc) (hO:BkOk b) (hms:b.ms.length<=20) (hL:ListI w la l) (hn:n=l.length) (hl:∀ x∈l,x.length=b.ss.length/\Came b x) (hll:l.length<=2000) :
 Calls Tryz.prog 100 #[.agg #[vr,vg,vm,vs,vc],.slice la n lc] w (PartsAll w (missL b l (partsL b))):=by
 subst hn;have HB:=Hh hB;have HO:=Hh hO;have HL:=Hh hL;have HLL:=Hh hl;have hpb:=parts_bd hO;obtain ⟨i0,hi,hz0,hz1,hz2⟩:=info_parts partInfo;clear hB hO hL hl
 go_enter Tryz.func100,Tryz.ntmps100
 go_wp2_with (fail);obtain ⟨W0,hW0⟩:∃ W0,W0=(w.alloc (.cells #[vr,vg,vm,vs,vc] 26)):=⟨_,rfl⟩;rw [← hW0];have hb0:Below w.heap.size w W0:=by rw [hW0];(exact bel)
 have hl0:w.heap.size < W0.heap.size:=by rw [hW0];simp
 have nn:∀ k u,(#[vr,vg,vm,vs,vc]:Array Value)[k]? = some u->W0.cell? ⟨w.heap.size,k,none⟩=some u:=fun k u hk=>by
  rw [hW0,World.cell?_alloc_at _ _ _ _ rfl];exact hk
 have c0:=nn 0 _ rfl;have c1:=nn 1 _ rfl;have c2:=nn 2 _ rfl;have c3:=nn 3 _ rfl;have c4:=nn 4 _ rfl;have HB0:=Hh hb0;clear hW0 nn hb0;go_wp2_with (go_at_call 19;(with_reducible refine (rPartsOf_all (HB.out.below HB0.out) HO.out hms).mono ?_);rintro e w1 ⟨pa,pc,rfl,hp1,hb1⟩);have HP:=Hh hp1;have HB1:=Hh (Below.next HB0.out hb1);have hl1:w.heap.size < w1.heap.size:=Nat.lt_of_lt_of_le hl0 hb1.size;replace c0:=(hb1.cell (p:=⟨w.heap.size,0,none⟩) hl0).trans c0;replace c1:=(hb1.cell (p:=⟨w.heap.size,1,none⟩) hl0).trans c1;replace c2:=(hb1.cell (p:=⟨w.heap.size,2,none⟩) hl0).trans c2;replace c3:=(hb1.cell (p:=⟨w.heap.size,3,none⟩) hl0).trans c3;replace c4:=(hb1.cell (p:=⟨w.heap.size,4,none⟩) hl0).trans c4;clear hp1 hb1 hl0;have hsz1:w.heap.size<=w1.heap.size:=by omega
 go_wp2;generalize hps:partsL b=ps at HP hpb;go_loopw [6,7] (fun v t wr=>∃ (k:Nat) (a:Option Addr) (c n:Nat),k<=ps.length/\t=.int .i64 k/\v=.slice a n c/\Hid (n=(missTo b l ps k).length)/\n<=k/\Hid (wr.ownsRow w1.heap.size 41 2 (.slice a n c) n ((missTo b l ps k).flatMap cellsQ))/\Below w1.heap.size w1 wr) (fun _ t _=>ps.length - (intOf t).toNat)
 case atStart=>exact ⟨0,none,0,0,Nat.zero_le _,rfl,rfl,rfl,Nat.le_refl _,by show World.ownsRow _ _ _ _ _ _ _;simpa [missTo,missL] using World.ownsRow_nil _ _ _ _,Below.refl _ _⟩
 case round =>
  obtain ⟨k,a,c,n,hk,rfl,rfl,HN,hnk,HROW,hW⟩:=hrel;have hWs:=hW.size;by_cases hlt:k < ps.length
  ·obtain ⟨pb,po,rfl,hpb2,e0,e1⟩:=HP.out k hlt;have hbr:=Below.next HB1.out hW;have x0:=(hW.cell (p:=⟨w.heap.size,0,none⟩) hl1).trans c0;have x1:=(hW.cell (p:=⟨w.heap.size,1,none⟩) hl1).trans c1;have x2:=(hW.cell (p:=⟨w.heap.size,2,none⟩) hl1).trans c2;have x3:=(hW.cell (p:=⟨w.heap.size,3,none⟩) hl1).trans c3;have x4:=(hW.cell (p:=⟨w.heap.size,4,none⟩) hl1).trans c4;have d0:=(hW.cell (p:=⟨pb,po+k * 2,none⟩) hpb2).trans e0;have d1:=(hW.cell (p:=⟨pb,po+k * 2+1,none⟩) hpb2).trans e1;have hpr:pb < wr.heap.size:=Nat.lt_of_lt_of_le hpb2 hWs;have ha1:w.heap.size < wr.heap.size:=by omega
   have hsu:=missTo_succ b l ps hlt;have HBr:=Hh (HB.out.below hbr);have HLr:=Hh (HL.out.below hbr);generalize ps[k]=p at d0 d1 e0 e1 hsu;obtain ⟨pm,pg⟩:=p;simp only at d0 d1;obtain ⟨t,ht⟩:∃ t,countI (oftenI b l (pm,pg)) 1=t:=⟨_,rfl⟩;have HT:=Hh ht;have him:isMiss b l (pm,pg)=decide (t < (l.length:Int)):=by rw [← ht];rfl
   rw [him] at hsu;clear e0 e1 ht him hbr;by_cases hm:t < (l.length:Int)
   ·have hm1:decide (t < (l.length:Int))=true:=by simp [hm]
    rw [hm1,if_pos rfl] at hsu;have HSU:=Hh hsu;clear hsu hm;go_wp2
    (refine wp_region_bel (by kernel_rfl) (by kernel_rfl) ?_;(repeat (go_big_quiet_step ((go_at_call 97;with_reducible exact Calls.bel_of (rTimes_at (HBr.out.below (later_below _ _)) HO.out (HLr.out.below (later_below _ _)) rfl HLL.out hll (pm,pg) 1 HT.out)))));refine wpQuiet_nil ?_;rintro _ ⟨xq,rfl⟩)
    obtain ⟨X,hX⟩:∃ X,later wr xq=X:=⟨_,rfl⟩;have hbX:Below wr.heap.size wr X:=hX ▸ later_below wr xq;rw [hX];have f0:=(hbX.cell (p:=⟨pb,po+k * 2,none⟩) hpr).trans d0;have f1:=(hbX.cell (p:=⟨pb,po+k * 2+1,none⟩) hpr).trans d1;have hpx:pb < X.heap.size:=Nat.lt_of_lt_of_le hpr hbX.size;have HROWX:=Hh (ownsRow_below HROW.out hbX);have hXs:=hbX.size;have HBX:=Hh (Below.next hW hbX);clear hX hbX;go_wp2_with (at_builtin;go_loud (refine wpList_append_own _ rfl _ _ 33 rfl w1.heap.size 41 i0 (.agg #[.int .i64 0,.int .i64 0]) 2 16 Tryz.underlying33 hi hz0 hz1 hz2 rfl (by decide) _ _ _ rfl (HROWX.out.alloc _) ⟨X.heap.size,0,none⟩ 1 1 [.int .i64 pm,.int .i64 pg] rfl rfl (cells_new _ _ _) (by simp [Value.oneCell']) (by unfold maxLen;omega) (by omega) (by simp;omega) ?_;intro v' w5 hown' hgrow _;obtain ⟨g',cap',rfl⟩:=ownsRow_succ hown';have hb5:=below_own (HROWX.out.alloc (.cells #[.int .i64 pm,.int .i64 pg] 41)) hgrow (by simp;omega)));have hb6:Below w1.heap.size w1 w5:=(HBX.out.alloc (by omega) _).trans hb5;have HOW:=Hh hown';have HB6:=Hh hb6;clear hb5 hb6 hown' hgrow;go_roundw
    case rel=>exact ⟨k+1,some ⟨g',0,none⟩,cap',n+1,by omega,by go_num,rfl,(by show n+1=_;rw [HSU.out,List.length_append,← HN.out];rfl),by omega,(by rw [HSU.out,List.flatMap_append];exact HOW),HB6.out⟩
    case measure=>simp [intOf];omega
   ·have hm1:decide (t < (l.length:Int))=false:=by simp [hm]
    rw [hm1,if_neg (by simp)] at hsu;have HSU:=Hh hsu;clear hsu hm;go_wp2
    (refine wp_region_bel (by kernel_rfl) (by kernel_rfl) ?_;(repeat (go_big_quiet_step ((go_at_call 97;with_reducible exact Calls.bel_of (rTimes_at (HBr.out.below (later_below _ _)) HO.out (HLr.out.below (later_below _ _)) rfl HLL.out hll (pm,pg) 1 HT.out)))));refine wpQuiet_nil ?_;rintro _ ⟨xq,rfl⟩)
    go_wp2;go_roundw
    case rel=>exact ⟨k+1,a,c,n,by omega,by go_num,rfl,(by show n=_;rw [HSU.out,List.append_nil];exact HN.out),by omega,(by rw [HSU.out,List.append_nil];exact Hh (ownsRow_below HROW.out (later_below _ _))),Below.next hW (later_below _ _)⟩
    case measure=>simp [intOf];omega
  ·obtain rfl:k=ps.length:=by omega
   have e:missTo b l ps ps.length=missL b l (partsL b):=by rw [hps];unfold missTo;rw [List.take_length]
   have hn2:=HN.out;have hrow2:=HROW.out;rw [e] at hn2 hrow2;have HN2:=Hh hn2;have HR2:=Hh hrow2;clear hn2 hrow2 HROW HN e;go_wp2;go_ret;exact ⟨a,c,by rw [HN2.out];rfl,parts_of_row (by have:=HR2.out;rwa [HN2.out] at this),Below.next HB1.out hW⟩
end
theorem asked_true (b:Bk):askedAl b true=openAl b 0:=by unfold askedAl openAl;simp
theorem asked_group (b:Bk) (p:Prt):askedAl b (isPart b p)=groupAl b p:=by
 unfold askedAl groupAl openAl;cases isPart b p <;> simp
theorem asked_any {b:Bk} {p:Prt} {t:Bool} (h:bookAl b=0->t=isPart b p):askedAl b t=groupAl b p:=by
 by_cases hk:bookAl b=0
 ·rw [h hk,asked_group]
 ·rw [← asked_group];unfold askedAl;rw [if_pos hk,if_pos hk]
section
variable {b:Bk} {vr vg vm vs vc:Value} {w:World}
theorem pasts_at (hO:BkOk b):∀ x∈pasts b,x.length=b.ss.length/\Came b x:=fun x hx=>⟨past_len hx,past_came hx⟩
theorem rMissing2_at (hB:BookAt w b vr vg vm vs vc) (hN:∀ m∈b.ms,m.name.size<=1000000) (hms:b.ms.length<=20) {q:List Prt} {u:Int} (hq:miss b=q) (hu:openAl b 0=u) :
 Calls Tryz.prog 54 #[.agg #[vr,vg,vm,vs,vc]] w fun e w'=>∃ a c,e=.returned (.tuple #[.slice a q.length c,.int .i64 u])/\PartsAt w' a q/\Below w.heap.size w w':=by
 have HB:=Hh hB;have HN:=Hh hN;rw [← asked_true] at hu;clear hB hN;by_cases h0:u=0
 ·subst h0;have hqe:q=missI b:=by rw [← hq];unfold miss;rw [if_pos (by rw [← asked_true];exact hu)]
  subst hqe;obtain ⟨hk,_,hp⟩:=askedAl_ok hu;have hbo:=(bookAl_ok hk).1;have hpl:=pasts_le hbo;have HU:=Hh hu;have HO:=Hh hbo;have HPA:=Hh (pasts_at hbo);clear hq hu hk hp hbo
  go_enter Tryz.func54,Tryz.ntmps54
  go_wp2_with (first
   | (go_at_call 94;(with_reducible refine (rAsked_ok (HB.out.below (bel)) HN.out HU.out).mono ?_);rintro e w3 ⟨a3,c3,vs3,rfl,hrow3,hl3,hb3⟩;have HL:=Hh (ListI.of (lists_of_row hrow3 hl3));clear hrow3 hl3;obtain ⟨hc3,hf3⟩:=bcell hb3;have hz3:=hb3.size;(try simp at hz3))
   | (go_at_call 100;(with_reducible refine (rMissingOf_at (HB.out.below (bel)) HO.out hms (HL.out.below (bel)) rfl HPA.out (by omega)).mono ?_);rintro e w4 ⟨a4,c4,rfl,hp4,hb4⟩;have HP4:=Hh hp4;clear hp4))
  exact bodyPost_ret (v:=.tuple #[.slice a4 (missI b).length c4,.int .i64 0]) (by simp [results,Tryz.results54,go_sem,missI]) rfl ⟨a4,c4,rfl,HP4.out,bel⟩
 ·have hqe:q=[]:=by rw [← hq];unfold miss;rw [if_neg (by rw [← asked_true,hu];exact h0)]
  subst hqe;have HU:=Hh hu;have H0:=Hh h0;have hz3:(u != 0)=true:=by simpa using h0
  clear hq hu h0
  go_enter Tryz.func54,Tryz.ntmps54
  go_wp2_with (go_at_call 94;(with_reducible refine (rAsked_no (HB.out.below (bel)) HN.out true HU.out H0.out).mono ?_);rintro e w3 ⟨rfl,hb3⟩;obtain ⟨hc3,hf3⟩:=bcell hb3);exact bodyPost_ret (v:=.tuple #[.slice none 0 0,.int .i64 u]) (by simp [results,Tryz.results54,go_sem]) rfl ⟨none,0,rfl,fun i hi=>absurd hi (Nat.not_lt_zero _),bel⟩
theorem rCame2_at (hB:BookAt w b vr vg vm vs vc) (hN:∀ m∈b.ms,m.name.size<=1000000) (m g:Int) {c u:Int} (hc:cameQ b (m,g)=c) (hu:groupAl b (m,g)=u) :
 Calls Tryz.prog 49 #[.agg #[vr,vg,vm,vs,vc],.int .i64 m,.int .i64 g] w fun e w'=>e=.returned (.tuple #[.int .i64 c,.int .i64 u])/\Below w.heap.size w w':=by
 have HB:=Hh hB;have HN:=Hh hN;clear hB hN;by_cases h0:u=0
 ·subst h0;have hce:sayI (countI (oftenI b (pasts b) (m,g)) 1) ((pasts b).length:Int)=c:=by rw [← hc];unfold cameQ;rw [if_pos hu]
  obtain ⟨hk,hi,hp⟩:=askedAl_ok ((asked_group b (m,g)).trans hu);have HIP:=Hh hi;have HKB:=Hh hk;have hu':askedAl b true=0:=by rw [← hi,asked_group];exact hu
  have hbo:=(bookAl_ok hk).1;have hpl:=pasts_le hbo;have HU:=Hh hu';have HO:=Hh hbo;have HPA:=Hh (pasts_at hbo);have HCE:=Hh hce;clear hc hu hk hp hbo hi hu' hce
  go_enter Tryz.func49,Tryz.ntmps49
  go_wp2;obtain ⟨W0,hW0⟩:∃ W0,W0=w.alloc (.cells #[vr,vg,vm,vs,vc] 26):=⟨_,rfl⟩;rw [← hW0];have hb0:Below w.heap.size w W0:=by rw [hW0];(exact bel)
  have hs0:w.heap.size < W0.heap.size:=by rw [hW0];simp;try omega
  have nn:∀ k u,(#[vr,vg,vm,vs,vc]:Array Value)[k]? = some u->W0.cell? ⟨w.heap.size,k,none⟩=some u:=fun k u hk=>by
   rw [hW0,World.cell?_alloc_at _ _ _ _ rfl];exact hk
  have HALL:=Hh (fun (w':World) (h:Below W0.heap.size W0 w')=>(⟨h,(h.cell (p:=⟨w.heap.size,0,none⟩) hs0).trans (nn 0 _ rfl),(h.cell (p:=⟨w.heap.size,1,none⟩) hs0).trans (nn 1 _ rfl),(h.cell (p:=⟨w.heap.size,2,none⟩) hs0).trans (nn 2 _ rfl),(h.cell (p:=⟨w.heap.size,3,none⟩) hs0).trans (nn 3 _ rfl),(h.cell (p:=⟨w.heap.size,4,none⟩) hs0).trans (nn 4 _ rfl)⟩:Below W0.heap.size W0 w'/\w'.cell? ⟨w.heap.size,0,none⟩=some vr/\w'.cell? ⟨w.heap.size,1,none⟩=some vg/\w'.cell? ⟨w.heap.size,2,none⟩=some vm/\w'.cell? ⟨w.heap.size,3,none⟩=some vs/\w'.cell? ⟨w.heap.size,4,none⟩=some vc));have HBZ:=Hh hb0;have HB0:=Hh (HB.out.below hb0);clear hW0 nn hb0;go_region_held3 (fun w'=>Below W0.heap.size W0 w'/\w'.cell? ⟨w.heap.size,0,none⟩=some vr/\w'.cell? ⟨w.heap.size,1,none⟩=some vg/\w'.cell? ⟨w.heap.size,2,none⟩=some vm/\w'.cell? ⟨w.heap.size,3,none⟩=some vs/\w'.cell? ⟨w.heap.size,4,none⟩=some vc)
   ((go_split_ands;exact HALL.out _ (bel)))
   (first
     | (go_at_call 95;go_split_ands;(with_reducible refine (rGroup_is (HB0.out.below ‹Below W0.heap.size W0 _›) (fun hk=>(bookAl_ok hk).1.groups) m g).mono ?_);rintro e w2 ⟨is,rfl,hb2,his2⟩;obtain rfl:is=true:=(his2 HKB.out).trans HIP.out;clear his2)
     | (go_at_call 94;go_split_ands;(with_reducible refine (rAsked_ok (HB0.out.below ‹Below W0.heap.size W0 _›) HN.out HU.out).mono ?_);rintro e w3 ⟨a3,c3,vs3,rfl,hrow3,hl3,hb3⟩;have HL:=Hh (ListI.of (lists_of_row hrow3 hl3));clear hrow3 hl3)
     | fail "no arm")
  all_goals
   have hbw:Below W0.heap.size W0 w3:=bel;obtain ⟨_,m0,m1,m2,m3,m4⟩:=HALL.out _ hbw;have HBW:=Hh (Below.next HBZ.out hbw);have HBk:=Hh (HB0.out.below hbw);have hw3:w.heap.size < w3.heap.size:=Nat.lt_of_lt_of_le hs0 hbw.size;clear hbw hb2 hb3;go_wp2_with (first
    | (go_at_call 97;(with_reducible refine (rTimes_at (HBk.out.below (bel)) HO.out (HL.out.below (bel)) rfl HPA.out (by omega) (m,g) 1 rfl).mono ?_);rintro e w4 ⟨rfl,hb4⟩)
    | (go_at_call 96;(with_reducible refine (rSay_at _ _ _ HCE.out).mono ?_);rintro e w5 ⟨rfl,rfl⟩))
   exact bodyPost_ret (v:=.tuple #[.int .i64 c,.int .i64 0]) (by simp [results,Tryz.results49,go_sem]) rfl ⟨rfl,Below.next HBW.out (bel)⟩
 ·have hce:c=0:=by rw [← hc];unfold cameQ;rw [if_neg (by rw [hu];exact h0)]
  subst hce;have HU:=Hh hu;have H0:=Hh h0;have hz3:(u != 0)=true:=by simpa using h0
  clear hc hu h0
  go_enter Tryz.func49,Tryz.ntmps49
  go_wp2;obtain ⟨W0,hW0⟩:∃ W0,W0=w.alloc (.cells #[vr,vg,vm,vs,vc] 26):=⟨_,rfl⟩;rw [← hW0];have hb0:Below w.heap.size w W0:=by rw [hW0];(exact bel)
  have hs0:w.heap.size < W0.heap.size:=by rw [hW0];simp;try omega
  have nn:∀ k u,(#[vr,vg,vm,vs,vc]:Array Value)[k]? = some u->W0.cell? ⟨w.heap.size,k,none⟩=some u:=fun k u hk=>by
   rw [hW0,World.cell?_alloc_at _ _ _ _ rfl];exact hk
  have HALL:=Hh (fun (w':World) (h:Below W0.heap.size W0 w')=>(⟨h,(h.cell (p:=⟨w.heap.size,0,none⟩) hs0).trans (nn 0 _ rfl),(h.cell (p:=⟨w.heap.size,1,none⟩) hs0).trans (nn 1 _ rfl),(h.cell (p:=⟨w.heap.size,2,none⟩) hs0).trans (nn 2 _ rfl),(h.cell (p:=⟨w.heap.size,3,none⟩) hs0).trans (nn 3 _ rfl),(h.cell (p:=⟨w.heap.size,4,none⟩) hs0).trans (nn 4 _ rfl)⟩:Below W0.heap.size W0 w'/\w'.cell? ⟨w.heap.size,0,none⟩=some vr/\w'.cell? ⟨w.heap.size,1,none⟩=some vg/\w'.cell? ⟨w.heap.size,2,none⟩=some vm/\w'.cell? ⟨w.heap.size,3,none⟩=some vs/\w'.cell? ⟨w.heap.size,4,none⟩=some vc));have HBZ:=Hh hb0;have HB0:=Hh (HB.out.below hb0);clear hW0 nn hb0;go_region_held3 (fun w'=>Below W0.heap.size W0 w'/\w'.cell? ⟨w.heap.size,0,none⟩=some vr/\w'.cell? ⟨w.heap.size,1,none⟩=some vg/\w'.cell? ⟨w.heap.size,2,none⟩=some vm/\w'.cell? ⟨w.heap.size,3,none⟩=some vs/\w'.cell? ⟨w.heap.size,4,none⟩=some vc)
   ((go_split_ands;exact HALL.out _ (bel)))
   (first
     | (go_at_call 95;go_split_ands;(with_reducible refine (rGroup_is (HB0.out.below ‹Below W0.heap.size W0 _›) (fun hk=>(bookAl_ok hk).1.groups) m g).mono ?_);rintro e w2 ⟨is,rfl,hb2,his2⟩;have HI2:=Hh (asked_any his2);clear his2)
     | (go_at_call 94;go_split_ands;(with_reducible refine (rAsked_no (HB0.out.below ‹Below W0.heap.size W0 _›) HN.out is (HI2.out.trans HU.out) H0.out).mono ?_);rintro e w3 ⟨rfl,hb3⟩)
     | fail "no arm")
  all_goals
   have hbw:Below W0.heap.size W0 w3:=bel;have HBW:=Hh (Below.next HBZ.out hbw);clear hbw;go_wp2;exact bodyPost_ret (v:=.tuple #[.int .i64 0,.int .i64 u]) (by simp [results,Tryz.results49,go_sem]) rfl ⟨rfl,HBW.out⟩
end
def lowZ (b:Bk) (p:Prt) (k:Nat):Int:=if k=0 then 0 else lowK b p k
def topZ (b:Bk) (p:Prt) (k:Nat):Int:=if k=0 then 0 else topK b p k
theorem lowZ_one {b:Bk} {p:Prt} (h:0 < (pasts b).length):lowZ b p 1=copies b (pasts b)[0] p/\topZ b p 1=copies b (pasts b)[0] p:=by
 obtain ⟨h1,h2⟩:=lowK_succ b p h;obtain ⟨h3,h4⟩:=lowK_one b p;have h5:=headD_often b p h;unfold lowZ topZ;rw [if_neg (by decide),if_neg (by decide),h1,h2,h3,h4,h5];simp
theorem lowZ_succ {b:Bk} {p:Prt} {j:Nat} (h:j+1 < (pasts b).length):lowZ b p (j+1+1)=min (lowZ b p (j+1)) (copies b (pasts b)[j+1] p)/\topZ b p (j+1+1)=max (topZ b p (j+1)) (copies b (pasts b)[j+1] p):=by
 obtain ⟨h1,h2⟩:=lowK_succ b p h;unfold lowZ topZ;rw [if_neg (by omega),if_neg (by omega),if_neg (by omega),if_neg (by omega)];exact ⟨h1,h2⟩
section
variable {b:Bk} {vr vg vm vs vc:Value} {w:World}
theorem rCopies2_at (hB:BookAt w b vr vg vm vs vc) (hN:∀ m∈b.ms,m.name.size<=1000000) (m g:Int) {lo hi u:Int} (hlo:loQ b (m,g)=lo) (hhi:hiQ b (m,g)=hi) (hu:groupAl b (m,g)=u) :
 Calls Tryz.prog 51 #[.agg #[vr,vg,vm,vs,vc],.int .i64 m,.int .i64 g] w fun e w'=>e=.returned (.tuple #[.agg #[.int .i64 lo,.int .i64 hi],.int .i64 u])/\Below w.heap.size w w':=by
 have HB:=Hh hB;have HN:=Hh hN;clear hB hN;by_cases h0:u=0
 ·subst h0;have hle:loI b (m,g)=lo:=by rw [← hlo];unfold loQ;rw [if_pos hu]
  have hhe:hiI b (m,g)=hi:=by rw [← hhi];unfold hiQ;rw [if_pos hu]
  obtain ⟨hk,hi',hp⟩:=askedAl_ok ((asked_group b (m,g)).trans hu);have HIP:=Hh hi';have HKB:=Hh hk;have hu':askedAl b true=0:=by rw [← hi',asked_group];exact hu
  have hbo:=(bookAl_ok hk).1;have hpl:=pasts_le hbo;obtain ⟨ha1,ha2⟩:=lowK_all b (m,g);rw [hle] at ha1;rw [hhe] at ha2;have hpos:0 < (pasts b).length:=List.length_pos_iff.2 hp;have HPOS:=Hh hpos;have HA1:=Hh ha1;have HA2:=Hh ha2;have HU:=Hh hu';have HO:=Hh hbo;have HPA:=Hh (pasts_at hbo);clear hlo hhi hu hk hp hbo hi' hu' hle hhe ha1 ha2 hpos
  go_enter Tryz.func51,Tryz.ntmps51
  go_wp2;obtain ⟨W0,hW0⟩:∃ W0,W0=(w.alloc (.cells #[vr,vg,vm,vs,vc] 26)).alloc (.cells #[.int .i64 0,.int .i64 0] 90):=⟨_,rfl⟩;rw [← hW0];have hb0:Below w.heap.size w W0:=by rw [hW0];(exact bel)
  have hs0:w.heap.size < W0.heap.size:=by rw [hW0];simp;try omega
  have nn:∀ k u,(#[vr,vg,vm,vs,vc]:Array Value)[k]? = some u->W0.cell? ⟨w.heap.size,k,none⟩=some u:=fun k u hk=>by
   rw [hW0,World.cell?_alloc_past _ _ _ (by simp),World.cell?_alloc_at _ _ _ _ rfl];exact hk
  have HALL:=Hh (fun (w':World) (h:Below W0.heap.size W0 w')=>(⟨h,(h.cell (p:=⟨w.heap.size,0,none⟩) hs0).trans (nn 0 _ rfl),(h.cell (p:=⟨w.heap.size,1,none⟩) hs0).trans (nn 1 _ rfl),(h.cell (p:=⟨w.heap.size,2,none⟩) hs0).trans (nn 2 _ rfl),(h.cell (p:=⟨w.heap.size,3,none⟩) hs0).trans (nn 3 _ rfl),(h.cell (p:=⟨w.heap.size,4,none⟩) hs0).trans (nn 4 _ rfl)⟩:Below W0.heap.size W0 w'/\w'.cell? ⟨w.heap.size,0,none⟩=some vr/\w'.cell? ⟨w.heap.size,1,none⟩=some vg/\w'.cell? ⟨w.heap.size,2,none⟩=some vm/\w'.cell? ⟨w.heap.size,3,none⟩=some vs/\w'.cell? ⟨w.heap.size,4,none⟩=some vc));have HBZ:=Hh hb0;have HB0:=Hh (HB.out.below hb0);have hz1:W0.heap.size=w.heap.size+1+1:=by rw [hW0];simp
  have z0:W0.cell? ⟨w.heap.size+1,0,none⟩=some (.int .i64 0):=by rw [hW0,World.cell?_alloc_at _ _ _ _ (by simp)];rfl
  have z1:W0.cell? ⟨w.heap.size+1,1,none⟩=some (.int .i64 0):=by rw [hW0,World.cell?_alloc_at _ _ _ _ (by simp)];rfl
  have z2:∀ i,W0.frozen? ⟨w.heap.size+1,i,none⟩=false:=fun i=>by rw [hW0,World.frozen?_alloc_at _ _ _ _ (by simp)]
  have HZ:=Hh (⟨z0,z1,z2 0,z2 1⟩:_/\_/\_/\_);clear z0 z1 z2;clear hW0 nn hb0;go_region_held3 (fun w'=>Below W0.heap.size W0 w'/\w'.cell? ⟨w.heap.size,0,none⟩=some vr/\w'.cell? ⟨w.heap.size,1,none⟩=some vg/\w'.cell? ⟨w.heap.size,2,none⟩=some vm/\w'.cell? ⟨w.heap.size,3,none⟩=some vs/\w'.cell? ⟨w.heap.size,4,none⟩=some vc)
   ((go_split_ands;exact HALL.out _ (bel)))
   (first
     | (go_at_call 95;go_split_ands;(with_reducible refine (rGroup_is (HB0.out.below ‹Below W0.heap.size W0 _›) (fun hk=>(bookAl_ok hk).1.groups) m g).mono ?_);rintro e w2 ⟨is,rfl,hb2,his2⟩;obtain rfl:is=true:=(his2 HKB.out).trans HIP.out;clear his2)
     | (go_at_call 94;go_split_ands;(with_reducible refine (rAsked_ok (HB0.out.below ‹Below W0.heap.size W0 _›) HN.out HU.out).mono ?_);rintro e w3 ⟨a3,c3,vs3,rfl,hrow3,hl3,hb3⟩;have HL:=Hh (ListI.of (lists_of_row hrow3 hl3));clear hrow3 hl3)
     | fail "no arm")
  all_goals
   have hbw:Below W0.heap.size W0 w3:=bel;obtain ⟨_,m0,m1,m2,m3,m4⟩:=HALL.out _ hbw;have hw3:w.heap.size+1 < w3.heap.size:=by have:=hbw.size;omega
   obtain ⟨z0,z1,z2,z3⟩:=HZ.out;have y0:=(hbw.cell (p:=⟨w.heap.size+1,0,none⟩) (by simp only;omega)).trans z0;have y1:=(hbw.cell (p:=⟨w.heap.size+1,1,none⟩) (by simp only;omega)).trans z1;have y2:=(hbw.frozen (p:=⟨w.heap.size+1,0,none⟩) (by simp only;omega)).trans z2;have y3:=(hbw.frozen (p:=⟨w.heap.size+1,1,none⟩) (by simp only;omega)).trans z3;have HY:=Hh (⟨y0,y1,y2,y3⟩:_/\_/\_/\_);have HBW:=Hh (Below.next HBZ.out hbw);have HM:=Hh (⟨m0,m1,m2,m3,m4⟩:_/\_/\_/\_/\_);clear hbw hb2 hb3 z0 z1 z2 z3 y0 y1 y2 y3 m0 m1 m2 m3 m4;go_wp2;obtain ⟨W1,hW1⟩:∃ W1,W1=w3.alloc (.cells #[.int .i64 0,.int .i64 0] 90):=⟨_,rfl⟩;rw [← hW1];have hs1:W1.heap.size=w3.heap.size+1:=by rw [hW1];simp
   have hb1:Below w3.heap.size w3 W1:=by rw [hW1];(exact bel)
   have b0:W1.cell? ⟨w3.heap.size,0,none⟩=some (.int .i64 0):=by rw [hW1,World.cell?_alloc_at _ _ _ _ rfl];rfl
   have b1:W1.cell? ⟨w3.heap.size,1,none⟩=some (.int .i64 0):=by rw [hW1,World.cell?_alloc_at _ _ _ _ rfl];rfl
   have b2:∀ i,W1.frozen? ⟨w3.heap.size,i,none⟩=false:=fun i=>by rw [hW1,World.frozen?_alloc_at _ _ _ _ rfl]
   have HB1:=Hh hb1;have HFZ:=Hh (⟨b2 0,b2 1⟩:_/\_);have HBW1:=Hh (Below.next HBW.out hb1);clear hW1 hb1 b2;go_loopw [11] (fun i wr=>∃ k:Nat,k<=(pasts b).length/\i=.int .i64 k/\KS (fun j=>j≠w3.heap.size) W1 wr/\Hid (wr.cell? ⟨w3.heap.size,0,none⟩=some (.int .i64 (lowZ b (m,g) k)))/\Hid (wr.cell? ⟨w3.heap.size,1,none⟩=some (.int .i64 (topZ b (m,g) k)))/\wr.frozen? ⟨w3.heap.size,0,none⟩=false/\wr.frozen? ⟨w3.heap.size,1,none⟩=false) (fun i _=>(pasts b).length - (intOf i).toNat)
   case atStart=>exact ⟨0,Nat.zero_le _,rfl,KS.refl _ _,b0,b1,HFZ.out.1,HFZ.out.2⟩
   case round =>
    obtain ⟨k,hk,rfl,hW,HC0,HC1,hf0,hf1⟩:=hrel;have hWs:=hW.size;have hKB:Below w3.heap.size W1 wr:=KS.toBelow hW (by omega) (fun j hj=>by omega);have hbr:=Below.next HBW.out ((HB1.out).trans hKB);obtain ⟨m0,m1,m2,m3,m4⟩:=HM.out;have hbx:=HB1.out.trans hKB;have x0:=(hbx.cell (p:=⟨w.heap.size,0,none⟩) (by simp only;omega)).trans m0;have x1:=(hbx.cell (p:=⟨w.heap.size,1,none⟩) (by simp only;omega)).trans m1;have x2:=(hbx.cell (p:=⟨w.heap.size,2,none⟩) (by simp only;omega)).trans m2;have x3:=(hbx.cell (p:=⟨w.heap.size,3,none⟩) (by simp only;omega)).trans m3;have x4:=(hbx.cell (p:=⟨w.heap.size,4,none⟩) (by simp only;omega)).trans m4;have hxr:w.heap.size < wr.heap.size:=by omega
    have hzr:w3.heap.size < wr.heap.size:=by omega
    have HBr:=Hh ((HB0.out.below (Below.refl _ _)).below (Below.refl _ _));have HBk:=Hh (HB.out.below hbr);by_cases hlt:k < (pasts b).length
    ·obtain ⟨lb,lo',xa,xc,rfl,hlb,e0,hx⟩:=HL.out k hlt;have d:=(hbx.cell (p:=⟨lb,lo'+k,none⟩) hlb).trans e0;have HX:=Hh (hx.below hbx);have hlr:lb < wr.heap.size:=Nat.lt_of_lt_of_le hlb hbx.size;obtain ⟨q1,q2⟩:=HPA.out _ (List.getElem_mem hlt);have Q1:=Hh q1;have Q2:=Hh q2;clear hx e0 q1 q2 hbx
     cases k with
     | zero =>
      obtain ⟨l1,l2⟩:=lowZ_one (b:=b) (p:=(m,g)) hlt;generalize hct:copies b (pasts b)[0] (m,g)=ct at l1 l2;have HCT:=Hh hct;have HL1:=Hh l1;have HL2:=Hh l2;clear hct l1 l2;generalize (pasts b)[0]=x at d HX Q1 Q2 HCT;have y0:=HC0.out;have y1:=HC1.out;have d8:wr.cell? ⟨lb,lo',none⟩=some (.slice xa x.length xc):=by simpa using d
      clear d;go_wp2
      (refine wp_region_bel (by kernel_rfl) (by kernel_rfl) ?_;(repeat (go_big_quiet_step ((go_at_call 20;with_reducible exact Calls.bel_of (rCopies_at (HBk.out.below (later_below _ _)) HO.out (HX.out.below (later_below _ _)) rfl Q1.out Q2.out (m,g) HCT.out)))));refine wpQuiet_nil ?_;rintro _ ⟨xq,rfl⟩)
      obtain ⟨X,hX⟩:∃ X,later wr xq=X:=⟨_,rfl⟩;have hbX:Below wr.heap.size wr X:=hX ▸ later_below wr xq;rw [hX];have w0:=(hbX.cell (p:=⟨w3.heap.size,0,none⟩) hzr).trans y0;have w1:=(hbX.cell (p:=⟨w3.heap.size,1,none⟩) hzr).trans y1;have w4:=(hbX.frozen (p:=⟨w3.heap.size,0,none⟩) hzr).trans hf0;have w5:=(hbX.frozen (p:=⟨w3.heap.size,1,none⟩) hzr).trans hf1;have hzX:w3.heap.size < X.heap.size:=Nat.lt_of_lt_of_le hzr hbX.size;have HKX:=Hh (hW.trans (KS.all hbX _));have hmm:min ct ct=ct:=by omega
      have hmx:max ct ct=ct:=by omega
      clear hX hbX y0 y1;go_wp2;have s0:((X.setCell ⟨w3.heap.size,0,none⟩ (.int .i64 ct)).setCell ⟨w3.heap.size,1,none⟩ (.int .i64 ct)).cell? ⟨w3.heap.size,0,none⟩=some (.int .i64 ct):=by simp [go_sem,w0,w1]
      have s1:((X.setCell ⟨w3.heap.size,0,none⟩ (.int .i64 ct)).setCell ⟨w3.heap.size,1,none⟩ (.int .i64 ct)).cell? ⟨w3.heap.size,1,none⟩=some (.int .i64 ct):=by simp [go_sem,w0,w1]
      go_roundw
      case rel=>exact ⟨1,by omega,rfl,(((HKX.out.trans (KS.setCell (fun h=>h rfl) _ _)).trans (KS.setCell (fun h=>h rfl) _ _)).trans (KS.setCell (fun h=>h rfl) _ _)).trans (KS.setCell (fun h=>h rfl) _ _),Hh (by rw [HL1.out];simp [go_sem,s0,s1]),Hh (by rw [HL2.out];simp [go_sem,s0,s1]),by simp [go_sem,w4],by simp [go_sem,w5]⟩
      case measure=>simp [intOf];omega
     | succ j =>
      obtain ⟨l1,l2⟩:=lowZ_succ (b:=b) (p:=(m,g)) hlt;generalize hct:copies b (pasts b)[j+1] (m,g)=ct at l1 l2;have HCT:=Hh hct;have HL1:=Hh l1;have HL2:=Hh l2;clear hct l1 l2;generalize (pasts b)[j+1]=x at d HX Q1 Q2 HCT;have y0:=HC0.out;have y1:=HC1.out;generalize lowZ b (m,g) (j+1)=lz at y0 HL1;generalize topZ b (m,g) (j+1)=tz at y1 HL2;have hjz:(((j+1:Nat):Int) == 0)=false:=by rw [beq_eq_false_iff_ne];omega
      clear HC0 HC1;go_wp2
      (refine wp_region_bel (by kernel_rfl) (by kernel_rfl) ?_;(repeat (go_big_quiet_step ((go_at_call 20;with_reducible exact Calls.bel_of (rCopies_at (HBk.out.below (later_below _ _)) HO.out (HX.out.below (later_below _ _)) rfl Q1.out Q2.out (m,g) HCT.out)))));refine wpQuiet_nil ?_;rintro _ ⟨xq,rfl⟩)
      obtain ⟨X,hX⟩:∃ X,later wr xq=X:=⟨_,rfl⟩;have hbX:Below wr.heap.size wr X:=hX ▸ later_below wr xq;rw [hX];have w0:=(hbX.cell (p:=⟨w3.heap.size,0,none⟩) hzr).trans y0;have w1:=(hbX.cell (p:=⟨w3.heap.size,1,none⟩) hzr).trans y1;have w4:=(hbX.frozen (p:=⟨w3.heap.size,0,none⟩) hzr).trans hf0;have w5:=(hbX.frozen (p:=⟨w3.heap.size,1,none⟩) hzr).trans hf1;have hzX:w3.heap.size < X.heap.size:=Nat.lt_of_lt_of_le hzr hbX.size;have HKX:=Hh (hW.trans (KS.all hbX _));clear hX hbX y0 y1;go_wp2;go_roundw
      case rel=>exact ⟨j+1+1,by omega,by go_num,(HKX.out.trans (KS.setCell (fun h=>h rfl) _ _)).trans (KS.setCell (fun h=>h rfl) _ _),Hh (by rw [HL1.out];simp [go_sem,w0,w1]),Hh (by rw [HL2.out];simp [go_sem,w0,w1]),by simp [go_sem,w4],by simp [go_sem,w5]⟩
      case measure=>simp [intOf];omega
    ·obtain rfl:k=(pasts b).length:=by omega
     have e1:lowZ b (m,g) (pasts b).length=lo:=by unfold lowZ;rw [if_neg (by have:=HPOS.out;omega)];exact HA1.out
     have e2:topZ b (m,g) (pasts b).length=hi:=by unfold topZ;rw [if_neg (by have:=HPOS.out;omega)];exact HA2.out
     have y0:=HC0.out;have y1:=HC1.out;rw [e1] at y0;rw [e2] at y1;obtain ⟨v0,v1,v2,v3⟩:=HY.out;have t0:=(hbx.cell (p:=⟨w.heap.size+1,0,none⟩) hw3).trans v0;have t1:=(hbx.cell (p:=⟨w.heap.size+1,1,none⟩) hw3).trans v1;have t2:=(hbx.frozen (p:=⟨w.heap.size+1,0,none⟩) hw3).trans v2;have t3:=(hbx.frozen (p:=⟨w.heap.size+1,1,none⟩) hw3).trans v3;have hzr1:w.heap.size+1 < wr.heap.size:=by omega
     have HBR:=Hh hbr;clear e1 e2 HC0 HC1 v0 v1 v2 v3 hbx hbr;go_wp2;refine bodyPost_ret (v:=.tuple #[.agg #[.int .i64 lo,.int .i64 hi],.int .i64 0]) ?_ rfl ⟨rfl,(HBR.out.setCell (by simp) _).setCell (by simp) _⟩;have r0:((wr.setCell ⟨w.heap.size+1,0,none⟩ (.int .i64 lo)).setCell ⟨w.heap.size+1,1,none⟩ (.int .i64 hi)).cell? ⟨w.heap.size+1,0,none⟩=some (.int .i64 lo):=by simp [go_sem,t0,t1]
     have r1:((wr.setCell ⟨w.heap.size+1,0,none⟩ (.int .i64 lo)).setCell ⟨w.heap.size+1,1,none⟩ (.int .i64 hi)).cell? ⟨w.heap.size+1,1,none⟩=some (.int .i64 hi):=by simp [go_sem,t0,t1]
     simp [results,Tryz.results51,go_sem,r0,r1]
 ·have hle:lo=0:=by rw [← hlo];unfold loQ;rw [if_neg (by rw [hu];exact h0)]
  have hhe:hi=0:=by rw [← hhi];unfold hiQ;rw [if_neg (by rw [hu];exact h0)]
  subst hle hhe;have HU:=Hh hu;have H0:=Hh h0;have hz3:(u != 0)=true:=by simpa using h0
  clear hlo hhi hu h0
  go_enter Tryz.func51,Tryz.ntmps51
  go_wp2;obtain ⟨W0,hW0⟩:∃ W0,W0=(w.alloc (.cells #[vr,vg,vm,vs,vc] 26)).alloc (.cells #[.int .i64 0,.int .i64 0] 90):=⟨_,rfl⟩;rw [← hW0];have hb0:Below w.heap.size w W0:=by rw [hW0];(exact bel)
  have hs0:w.heap.size < W0.heap.size:=by rw [hW0];simp;try omega
  have nn:∀ k u,(#[vr,vg,vm,vs,vc]:Array Value)[k]? = some u->W0.cell? ⟨w.heap.size,k,none⟩=some u:=fun k u hk=>by
   rw [hW0,World.cell?_alloc_past _ _ _ (by simp),World.cell?_alloc_at _ _ _ _ rfl];exact hk
  have HALL:=Hh (fun (w':World) (h:Below W0.heap.size W0 w')=>(⟨h,(h.cell (p:=⟨w.heap.size,0,none⟩) hs0).trans (nn 0 _ rfl),(h.cell (p:=⟨w.heap.size,1,none⟩) hs0).trans (nn 1 _ rfl),(h.cell (p:=⟨w.heap.size,2,none⟩) hs0).trans (nn 2 _ rfl),(h.cell (p:=⟨w.heap.size,3,none⟩) hs0).trans (nn 3 _ rfl),(h.cell (p:=⟨w.heap.size,4,none⟩) hs0).trans (nn 4 _ rfl)⟩:Below W0.heap.size W0 w'/\w'.cell? ⟨w.heap.size,0,none⟩=some vr/\w'.cell? ⟨w.heap.size,1,none⟩=some vg/\w'.cell? ⟨w.heap.size,2,none⟩=some vm/\w'.cell? ⟨w.heap.size,3,none⟩=some vs/\w'.cell? ⟨w.heap.size,4,none⟩=some vc));have HBZ:=Hh hb0;have HB0:=Hh (HB.out.below hb0);have hz1:W0.heap.size=w.heap.size+1+1:=by rw [hW0];simp
  have z0:W0.cell? ⟨w.heap.size+1,0,none⟩=some (.int .i64 0):=by rw [hW0,World.cell?_alloc_at _ _ _ _ (by simp)];rfl
  have z1:W0.cell? ⟨w.heap.size+1,1,none⟩=some (.int .i64 0):=by rw [hW0,World.cell?_alloc_at _ _ _ _ (by simp)];rfl
  have z2:∀ i,W0.frozen? ⟨w.heap.size+1,i,none⟩=false:=fun i=>by rw [hW0,World.frozen?_alloc_at _ _ _ _ (by simp)]
  have HZ:=Hh (⟨z0,z1,z2 0,z2 1⟩:_/\_/\_/\_);clear z0 z1 z2;clear hW0 nn hb0;go_region_held3 (fun w'=>Below W0.heap.size W0 w'/\w'.cell? ⟨w.heap.size,0,none⟩=some vr/\w'.cell? ⟨w.heap.size,1,none⟩=some vg/\w'.cell? ⟨w.heap.size,2,none⟩=some vm/\w'.cell? ⟨w.heap.size,3,none⟩=some vs/\w'.cell? ⟨w.heap.size,4,none⟩=some vc)
   ((go_split_ands;exact HALL.out _ (bel)))
   (first
     | (go_at_call 95;go_split_ands;(with_reducible refine (rGroup_is (HB0.out.below ‹Below W0.heap.size W0 _›) (fun hk=>(bookAl_ok hk).1.groups) m g).mono ?_);rintro e w2 ⟨is,rfl,hb2,his2⟩;have HI2:=Hh (asked_any his2);clear his2)
     | (go_at_call 94;go_split_ands;(with_reducible refine (rAsked_no (HB0.out.below ‹Below W0.heap.size W0 _›) HN.out is (HI2.out.trans HU.out) H0.out).mono ?_);rintro e w3 ⟨rfl,hb3⟩)
     | fail "no arm")
  all_goals
   have hbw:Below W0.heap.size W0 w3:=bel;obtain ⟨z0,z1,z2,z3⟩:=HZ.out;have t0:=(hbw.cell (p:=⟨w.heap.size+1,0,none⟩) (by simp only;omega)).trans z0;have t1:=(hbw.cell (p:=⟨w.heap.size+1,1,none⟩) (by simp only;omega)).trans z1;have t2:=(hbw.frozen (p:=⟨w.heap.size+1,0,none⟩) (by simp only;omega)).trans z2;have t3:=(hbw.frozen (p:=⟨w.heap.size+1,1,none⟩) (by simp only;omega)).trans z3;have hzr1:w.heap.size+1 < w3.heap.size:=by have:=hbw.size;omega
   have HBR:=Hh (Below.next HBZ.out hbw);clear hbw z0 z1 z2 z3;go_wp2;refine bodyPost_ret (v:=.tuple #[.agg #[.int .i64 0,.int .i64 0],.int .i64 u]) ?_ rfl ⟨rfl,(HBR.out.setCell (by simp) _).setCell (by simp) _⟩;have r0:((w3.setCell ⟨w.heap.size+1,0,none⟩ (.int .i64 0)).setCell ⟨w.heap.size+1,1,none⟩ (.int .i64 0)).cell? ⟨w.heap.size+1,0,none⟩=some (.int .i64 0):=by simp [go_sem,t0,t1]
   have r1:((w3.setCell ⟨w.heap.size+1,0,none⟩ (.int .i64 0)).setCell ⟨w.heap.size+1,1,none⟩ (.int .i64 0)).cell? ⟨w.heap.size+1,1,none⟩=some (.int .i64 0):=by simp [go_sem,t0,t1]
   simp [results,Tryz.results51,go_sem,r0,r1]
end
section
variable {b:Bk} {vr vg vm vs vc:Value} {w:World}
theorem rDelivered2_at (hB:BookAt w b vr vg vm vs vc) (hN:∀ m∈b.ms,m.name.size<=1000000) (hms:b.ms.length<=20) {q:List Int} {u:Int} (hq:delQ b=q) (hu:openAl b 0=u) :
 Calls Tryz.prog 52 #[.agg #[vr,vg,vm,vs,vc]] w fun e w'=>∃ a c,e=.returned (.tuple #[.slice a q.length c,.int .i64 u])/\IntsAt w' a q/\Below w.heap.size w w':=by
 have HB:=Hh hB;have HN:=Hh hN;rw [← asked_true] at hu;by_cases h0:u=0
 ·subst h0;have hqe:q=deliveredI b:=by rw [← hq];unfold delQ;rw [if_pos (by rw [← asked_true];exact hu)]
  subst hqe;obtain ⟨hk,_,hp⟩:=askedAl_ok hu;have hbo:=(bookAl_ok hk).1;have hpl:=pasts_le hbo;obtain ⟨ma,mc,rfl,hM,_⟩:=hB.ms;have HM:=Hh hM;have HU:=Hh hu;have HO:=Hh hbo;have HPA:=Hh (pasts_at hbo);clear hq hu hk hp hbo hB hN hM
  go_enter Tryz.func52,Tryz.ntmps52
  go_wp2_with (fail);obtain ⟨W0,hW0⟩:∃ W0,W0=(w.alloc (.cells #[vr,vg,.slice ma b.ms.length mc,vs,vc] 26)):=⟨_,rfl⟩;rw [← hW0];have hb0:Below w.heap.size w W0:=by rw [hW0];(exact bel)
  have hl0:w.heap.size < W0.heap.size:=by rw [hW0];simp
  have nn:∀ k u,(#[vr,vg,.slice ma b.ms.length mc,vs,vc]:Array Value)[k]? = some u->W0.cell? ⟨w.heap.size,k,none⟩=some u:=fun k u hk=>by
   rw [hW0,World.cell?_alloc_at _ _ _ _ rfl];exact hk
  have c0:=nn 0 _ rfl;have c1:=nn 1 _ rfl;have c2:=nn 2 _ rfl;have c3:=nn 3 _ rfl;have c4:=nn 4 _ rfl;have HB0:=Hh hb0;clear hW0 nn hb0;go_wp2_with (go_at_call 94;(with_reducible refine (rAsked_ok (HB.out.below HB0.out) HN.out HU.out).mono ?_);rintro e w1 ⟨a3,c3',vs3,rfl,hrow3,hl3,hb1⟩;have HL:=Hh (ListI.of (lists_of_row hrow3 hl3));clear hrow3 hl3;replace c0:=(hb1.cell (p:=⟨w.heap.size,0,none⟩) hl0).trans c0;replace c1:=(hb1.cell (p:=⟨w.heap.size,1,none⟩) hl0).trans c1;replace c2:=(hb1.cell (p:=⟨w.heap.size,2,none⟩) hl0).trans c2;replace c3:=(hb1.cell (p:=⟨w.heap.size,3,none⟩) hl0).trans c3;replace c4:=(hb1.cell (p:=⟨w.heap.size,4,none⟩) hl0).trans c4;have HB1:=Hh (Below.next HB0.out hb1);have hl1:w.heap.size < w1.heap.size:=Nat.lt_of_lt_of_le hl0 hb1.size;clear hb1 hl0);have hsz1:w.heap.size<=w1.heap.size:=by omega
  go_loopw [6,7] (fun v t wr=>∃ (k:Nat) (a:Option Addr) (c:Nat),k<=b.ms.length/\t=.int .i64 k/\v=.slice a k c/\Hid (wr.ownsRow w1.heap.size 74 1 (.slice a k c) k ((deliveredTo b k).map (Value.int .i64)))/\Below w1.heap.size w1 wr) (fun _ t _=>b.ms.length - (intOf t).toNat)
  case atStart=>exact ⟨0,none,0,Nat.zero_le _,rfl,rfl,by show World.ownsRow _ _ _ _ _ _ _;simpa [deliveredTo] using World.ownsRow_nil _ _ _ _,Below.refl _ _⟩
  case round =>
   obtain ⟨k,a,c,hk,rfl,rfl,HROW,hW⟩:=hrel;have hWs:=hW.size;have x2:=(hW.cell (p:=⟨w.heap.size,2,none⟩) hl1).trans c2;have ha1:w.heap.size < wr.heap.size:=by omega
   by_cases hlt:k < b.ms.length
   ·obtain ⟨mb,mo,rfl,hmb,_,eg,_⟩:=HM.out k hlt;have hge:(b.ms[k]?).elim 0 Msg.groups=b.ms[k].groups:=by rw [List.getElem?_eq_getElem hlt];rfl
    have HGE:=Hh hge;have eg1:=(HB1.out.cell (p:=⟨mb,mo+k * 3+1,none⟩) hmb).trans eg;have hmb1:mb < w1.heap.size:=by omega
    generalize b.ms[k].groups=gr at eg eg1 HGE;have HLT:=Hh hlt;clear hge eg;go_wp2;go_loopw [8,9] (fun v t wo=>∃ (j:Nat),j<=(pasts b).length/\t=.int .i64 j/\v=.int .i64 (wholeK b k j:Int)/\wholeK b k j<=j/\Below wr.heap.size wr wo) (fun _ t _=>(pasts b).length - (intOf t).toNat)
    case atStart=>exact ⟨0,Nat.zero_le _,rfl,by simp [wholeK],by simp [wholeK],Below.refl _ _⟩
    case round =>
     obtain ⟨j,hj,rfl,rfl,hjb,hW2⟩:=hrel;have hWs2:=hW2.size;by_cases hlj:j < (pasts b).length
     ·obtain ⟨lb,lo,xa,xc,rfl,hlb,e0,hx⟩:=HL.out j hlj;have hbo:=hW.trans (hW2.mono hWs);have y0:=(hbo.cell (p:=⟨w.heap.size,0,none⟩) hl1).trans c0;have y1:=(hbo.cell (p:=⟨w.heap.size,1,none⟩) hl1).trans c1;have y2:=(hbo.cell (p:=⟨w.heap.size,2,none⟩) hl1).trans c2;have y3:=(hbo.cell (p:=⟨w.heap.size,3,none⟩) hl1).trans c3;have y4:=(hbo.cell (p:=⟨w.heap.size,4,none⟩) hl1).trans c4;have dg:=(hbo.cell (p:=⟨mb,mo+k * 3+1,none⟩) hmb1).trans eg1;have d:=(hbo.cell (p:=⟨lb,lo+j,none⟩) hlb).trans e0;have hb3:w.heap.size < wr.heap.size:=by omega
      have hb4:mb < wr.heap.size:=by omega
      have hb5:lb < wr.heap.size:=by omega
      obtain ⟨q1,q2⟩:=HPA.out _ (List.getElem_mem hlj);have hsu:=wholeK_succ b k hlj;rw [HGE.out] at hsu;have HBo:=Hh (HB.out.below (Below.next HB1.out hbo));have HX:=Hh (hx.below hbo);obtain ⟨hv,hhv⟩:∃ hv,haveOf b (pasts b)[j] (k:Int)=hv:=⟨_,rfl⟩;rw [hhv] at hsu;have HHV:=Hh hhv;generalize (pasts b)[j]=x at d e0 q1 q2 HHV HX hx hhv;have Q1:=Hh q1;have Q2:=Hh q2;have HSU:=Hh hsu;generalize wholeK b k j=z at HSU hjb hsu;clear hx e0 q1 q2 hsu hhv hbo;by_cases hge:hv=gr
      ·have hg1:(hv == gr)=true:=by rw [beq_iff_eq];exact hge
       have HG:=Hh hge;clear hge;have hws:IntKind.i64.wrap ((z:Int)+1)=(z:Int)+1:=wrapI (by omega) (by omega);go_wp2
       (refine wp_region_bel (by kernel_rfl) (by kernel_rfl) ?_;(repeat (go_big_quiet_step ((go_at_call 60;with_reducible exact Calls.bel_of (rHave_at (HBo.out.below (later_below _ _)) HO.out (HX.out.below (later_below _ _)) rfl Q1.out Q2.out (m:=(k:Int)) ⟨by omega,by simpa using HLT.out⟩ HHV.out)))));refine wpQuiet_nil ?_;rintro _ ⟨xq,rfl⟩)
       go_wp2;go_roundw
       case rel=>exact ⟨j+1,by omega,by go_num,by rw [HSU.out,if_pos HG.out];simp,by rw [HSU.out,if_pos HG.out];omega,Below.next hW2 (later_below _ _)⟩
       case measure=>simp [intOf];omega
      ·have hg1:(hv == gr)=false:=by rw [beq_eq_false_iff_ne];exact hge
       have HG:=Hh hge;clear hge;go_wp2
       (refine wp_region_bel (by kernel_rfl) (by kernel_rfl) ?_;(repeat (go_big_quiet_step ((go_at_call 60;with_reducible exact Calls.bel_of (rHave_at (HBo.out.below (later_below _ _)) HO.out (HX.out.below (later_below _ _)) rfl Q1.out Q2.out (m:=(k:Int)) ⟨by omega,by simpa using HLT.out⟩ HHV.out)))));refine wpQuiet_nil ?_;rintro _ ⟨xq,rfl⟩)
       go_wp2;go_roundw
       case rel=>exact ⟨j+1,by omega,by go_num,by rw [HSU.out,if_neg HG.out];simp,by rw [HSU.out,if_neg HG.out];omega,Below.next hW2 (later_below _ _)⟩
       case measure=>simp [intOf];omega
     ·obtain rfl:j=(pasts b).length:=by omega
      have hwa:=wholeK_all b k;have hsn:=deliveredTo_succ b k;rw [← hwa] at hsn;obtain ⟨z,hz⟩:∃ z,wholeK b k (pasts b).length=z:=⟨_,rfl⟩;rw [hz] at hsn ⊢;obtain ⟨t,ht⟩:∃ t,sayI (z:Int) ((pasts b).length:Int)=t:=⟨_,rfl⟩;rw [ht] at hsn;have HT:=Hh ht;have HSN:=Hh hsn;have HROWO:=Hh (ownsRow_below HROW.out hW2);have hbo2:=hW.trans (hW2.mono hWs);have HBO2:=Hh hbo2;have hsz2:w1.heap.size<=wr.heap.size:=hbo2.size;clear hwa hsn hz ht hbo2 hjb;go_wp2_with (first
       | (go_at_call 96;(with_reducible refine (rSay_at _ _ _ HT.out).mono ?_);rintro e w5 ⟨rfl,rfl⟩)
       | (at_builtin;go_loud (refine wpl_append1 rfl _ _ 71 rfl w1.heap.size 74 Tryz.underlying71 claimInfo rfl (by omega) (.slice a k c) k _ rfl HROWO.out (by omega) (by omega) _ (n:=_) rfl rfl (by simp [Value.oneCell']) ?_;intro g cap w6 hown6 hb6)))
      have HOW:=Hh hown6;have HB6:=Hh (HBO2.out.trans hb6);clear hown6 hb6;go_roundw
      case rel=>exact ⟨k+1,some ⟨g,0,none⟩,cap,by omega,by go_num,rfl,by rw [HSN.out,List.map_append];exact HOW,HB6.out⟩
      case measure=>simp [intOf];omega
   ·obtain rfl:k=b.ms.length:=by omega
    go_wp2;exact bodyPost_ret (v:=.tuple #[.slice a (deliveredI b).length c,.int .i64 0]) (by simp [results,Tryz.results52,go_sem,deliveredI,deliveredTo_length]) rfl ⟨a,c,rfl,ints_of_row2 (n:=(deliveredI b).length) (by have:=HROW.out;rw [show (deliveredI b).length=b.ms.length from deliveredTo_length _ _];exact this),Below.next HB1.out hW⟩
 ·have hqe:q=[]:=by rw [← hq];unfold delQ;rw [if_neg (by rw [← asked_true,hu];exact h0)]
  subst hqe;have HU:=Hh hu;have H0:=Hh h0;have hz3:(u != 0)=true:=by simpa using h0
  clear hq hu h0 hB hN
  go_enter Tryz.func52,Tryz.ntmps52
  go_wp2_with (go_at_call 94;(with_reducible refine (rAsked_no (HB.out.below (bel)) HN.out true HU.out H0.out).mono ?_);rintro e w3 ⟨rfl,hb3⟩;obtain ⟨hc3,hf3⟩:=bcell hb3);exact bodyPost_ret (v:=.tuple #[.slice none 0 0,.int .i64 u]) (by simp [results,Tryz.results52,go_sem]) rfl ⟨none,0,rfl,ints_nil,bel⟩
end
end Go.Proofs.YtgemjjdkjmpmlaaGreatDoor

