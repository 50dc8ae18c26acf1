/- Leads to StoreReached of chapter 6: RF3 RF4 RF5. -/
import Derived.Test.YtgemjjdkjmpmlaaGreatDoorRF02
set_option maxHeartbeats 16000000
set_option maxRecDepth 100000
set_option linter.all false
namespace Go.Proofs.YtgemjjdkjmpmlaaGreatDoor
open Go.RowKit Go.Maps Sp Mt Go.Conc
variable {B pl iN mN pc xc dc P Q C ec wn:Nat} {b:Bk} {s s2 s3 g u c lo hi gr:Int} {vr vg vm vs vc x:Value} {w w0:World} {pa xa da ea:Option Addr} {q dq sn:List Int} {d:Nat→Value}
theorem band_put {wA:World} {C:Nat} {v0 v1 u0 u1:Value} (h0:wA.cell? ⟨C,0,none⟩=some u0) (h1:wA.cell? ⟨C,1,none⟩=some u1) (f:∀ j,wA.frozen? ⟨C,j,none⟩=false) :
 ((wA.setCell ⟨C,0,none⟩ v0).setCell ⟨C,1,none⟩ v1).cell? ⟨C,0,none⟩=some v0∧((wA.setCell ⟨C,0,none⟩ v0).setCell ⟨C,1,none⟩ v1).cell? ⟨C,1,none⟩=some v1∧(∀ j,((wA.setCell ⟨C,0,none⟩ v0).setCell ⟨C,1,none⟩ v1).frozen? ⟨C,j,none⟩=false)∧KS (fun k=>k≠C) wA ((wA.setCell ⟨C,0,none⟩ v0).setCell ⟨C,1,none⟩ v1):=by
 refine ⟨?_,?_,fun j=>?_,?_⟩
 ·rw [World.cell?_setCell_other (h:=fun e=>by injection e with _ e _;omega)]
  exact World.cell?_setCell_same' _ _ _ (by rw [h0];rfl)
 ·exact World.cell?_setCell_same' _ _ _ (by rw [World.cell?_setCell_other (h:=fun e=>by injection e with _ e _;omega),h1];rfl)
 ·rw [World.frozen?_setCell,World.frozen?_setCell]
  exact f j
 ·exact (KS.setCell (by simp) _ _).trans (KS.setCell (by simp) _ _)
def lowS (b:Bk) (p:Prt) (k:Nat):Int:=if k=0 then 0 else lowK b p k
def topS (b:Bk) (p:Prt) (k:Nat):Int:=if k=0 then 0 else topK b p k
def RZL1 (B pl iN mN:Nat) (s s2 s3:Int) (vr vg vm vs vc:Value) (b:Bk) (pc xc dc P Q C:Nat) (pa xa da:Option Addr) (g c:Int) (q dq:List Int) (w:World):Exit→Act→World→Prop
 | .normal,a',w2=>∃ ea ec,∃ wn:Nat,(∃ d,a'=frL B pl iN mN pc xc dc P Q C s s2 s3 c vr vg vm vs vc pa xa da q dq (.slice ea pl ec) (.int .i64 (wn:Int)) d)∧wn=wholeK b mN pl∧IntsAt w2 ea (seenK b iN pl)∧w2.cell? ⟨C,0,none⟩=some (.int .i64 (lowS b ((mN:Int),g) pl))∧w2.cell? ⟨C,1,none⟩=some (.int .i64 (topS b ((mN:Int),g) pl))∧KS (fun k=>k < w.heap.size∧k≠C) w w2
 | _,_,_=>False
theorem re_L1 (ho:Old w0 w) (hE:RSt w0 B b vr vg vm vs vc pa xa da P Q (mN:Int) g lo hi q dq) (hS:SmallB b) (hk:bookAl b=0) (hpl:(pasts b).length=pl) (hiN:iN < b.ss.length) (hmN:mN < b.ms.length)
 (hC:w0.heap.size≤C) (hC2:C < w.heap.size) (hq0:w.cell? ⟨C,0,none⟩=some (.int .i64 0)) (hq1:w.cell? ⟨C,1,none⟩=some (.int .i64 0)) (hqf:∀ k,w.frozen? ⟨C,k,none⟩=false) :
 (rp 16).wp Tryz.prog (RZL1 B pl iN mN s s2 s3 vr vg vm vs vc b pc xc dc P Q C pa xa da g c q dq w) (frL B pl iN mN pc xc dc P Q C s s2 s3 c vr vg vm vs vc pa xa da q dq (.slice none 0 0) (.int .i64 0) d) w:=by
 simp only [rp,sqN,sql,sqr,cnd,Tryz.f11,Option.getD_some,frL]
 have hbo:=(bookAl_ok hk).1
 have hple:=pasts_le hbo
 rw [hpl] at hple
 have hiN4:iN < 20:=by have:=hS.2.1;omega
 have hmN4:mN < 20:=by have:=hS.1;omega
 obtain ⟨i0,hi0,hz0,hz1,hz2⟩:=info_parts intInfo
 obtain ⟨rfl,rfl,⟨ma,mc,rfl,hM⟩,⟨sa,sc,rfl,_⟩,ra,rc,rfl,_⟩:=hE.law.raw
 obtain ⟨mb,mo,rfl,hmb,_,hgc,_⟩:=hM mN hmN
 have hge:(b.ms[mN]?).elim 0 Msg.groups=b.ms[mN].groups:=by rw [List.getElem?_eq_getElem hmN];rfl
 generalize b.ms[mN].groups=gr at hgc hge
 have HE:=Hh (fun (w':World) (h:KS (fun k=>k < w.heap.size∧k≠C) w w')=>(⟨ho.ks hC h,hE.old (ho.ks hC h),(ho.ks hC h).cell2 hgc⟩:_∧_∧_))
 have HLI:=Hh hE.ls
 have HO:=Hh hbo
 have HN:=Hh hS.names
 have HS:=Hh hS
 have HAL:=Hh hk
 have HPL:=Hh hpl
 have HGE:=Hh hge
 have hw0:w0.heap.size≤w.heap.size:=ho.size
 clear hE hS hk hM hgc hmb hbo ho hge
 have hqf0:=Hh hqf
 have hse:=seenK_len b iN
 go_wp2
 go_loopw [23,25,26] (fun v n t wr=>∃ (k:Nat) (a:Option Addr) (ac:Nat),k≤pl∧t=.int .i64 k∧n=.int .i64 (wholeK b mN k:Nat)∧v=.slice a k ac∧wr.cell? ⟨C,0,none⟩=some (.int .i64 (lowS b ((mN:Int),g) k))∧wr.cell? ⟨C,1,none⟩=some (.int .i64 (topS b ((mN:Int),g) k))∧Hid (∀ j,wr.frozen? ⟨C,j,none⟩=false)∧Hid (wr.ownsRow w.heap.size 3 1 (.slice a k ac) k ((seenK b iN k).map (Value.int .i64)))∧KS (fun k=>k < w.heap.size∧k≠C) w wr) (fun _ _ t _=>pl - (intOf t).toNat)
 case atStart=>exact ⟨0,none,0,Nat.zero_le _,rfl,rfl,rfl,hq0,hq1,hqf0,by show World.ownsRow _ _ _ _ _ _ _;simpa [seenK] using World.ownsRow_nil _ _ _ _,KS.refl _ _⟩
 case round =>
  obtain ⟨k,a,ac,hkp,rfl,rfl,rfl,q0,q1,hz,HROW,hW⟩:=hrel
  have hWs:=hW.size
  by_cases hlt:k < pl
  ·obtain ⟨_,⟨⟨d0,d1,d2,d3,d4,_,_,_⟩,_,_,_,p0,p1,_,_⟩,gc⟩:=HE.out wr hW
   have hx:=List.getElem_mem (l:=pasts b) (n:=k) (by omega)
   obtain ⟨lb,lo2,ya,yc,rfl,hlb,e00,hya⟩:=HLI.out k (by omega)
   have hxl:=past_len hx
   have hxc:=past_came hx
   obtain ⟨hia,hih⟩:=past_hist HAL.out hx
   obtain ⟨yb,yo,rfl,hyb,ex0⟩:=hya iN (by omega)
   have sn:=seenK_succ b iN (k:=k) (by omega)
   obtain ⟨ln,tn⟩:=lowK_succ b ((mN:Int),g) (k:=k) (by omega)
   have wn:=wholeK_succ b mN (k:=k) (by omega)
   replace ex0:w0.cell? ⟨yb,yo+iN,none⟩=some (.int .i64 ((pasts b)[k].getD iN 0)):=by rw [getD_of_lt (by omega)];exact ex0
   have hwb:=wholeK_le b mN k
   have hkl:k < (pasts b).length:=by omega
   have hk1:k=0→lowK b ((mN:Int),g) k=copies b ((pasts b)[k]'hkl) ((mN:Int),g)∧topK b ((mN:Int),g) k=copies b ((pasts b)[k]'hkl) ((mN:Int),g):=fun h=>by subst h;exact ⟨headD_often b _ (by omega),headD_often b _ (by omega)⟩
   clear hx
   generalize (pasts b)[k]=x at e00 hya hxl hxc hia hih ex0 sn ln tn wn hk1
   generalize x.getD iN 0=xi at ex0 sn
   generalize hcm:copies b x ((mN:Int),g)=cm at ln tn hk1
   generalize hhv:haveOf b x (mN:Int)=hv at wn
   rw [HGE.out] at wn
   have e0:=(HE.out wr hW).1.cell2 e00
   have ex:=(HE.out wr hW).1.cell2 ex0
   have hxll:x.length≤20:=by have:=HS.out.2.1;omega
   have hix:iN < x.length:=by omega
   have hix2:(iN:Int) < (x.length:Int):=by omega
   have HXL:=Hh hxl
   have HXC:=Hh hxc
   have HYA:=Hh hya
   have HIA:=Hh hia
   have HIH:=Hh hih
   have HSN:=Hh sn
   have HLN:=Hh (⟨ln,tn⟩:_∧_)
   have HWN:=Hh wn
   have HK1:=Hh hk1
   have HCM:=Hh hcm
   have HHV:=Hh hhv
   have HALL:=Hh (fun (w':World) (h:KS (fun k=>k < w.heap.size∧k≠C) w w')=>(by
    obtain ⟨o1,⟨⟨d0,d1,d2,d3,d4,_,_,_⟩,_,_,_,p0,p1,_,_⟩,gc⟩:=HE.out w' h
    exact ⟨d0,d1,d2,d3,d4,o1.cell2 e00,p0,p1,gc,o1.cell2 ex0⟩:w'.cell? ⟨B,0,none⟩=some (.int .i64 b.room)∧w'.cell? ⟨B,1,none⟩=some (.int .i64 b.gap)∧w'.cell? ⟨B,2,none⟩=some (.slice (some ⟨mb,mo,none⟩) b.ms.length mc)∧w'.cell? ⟨B,3,none⟩=some (.slice sa b.ss.length sc)∧w'.cell? ⟨B,4,none⟩=some (.slice ra b.rs.length rc)∧w'.cell? ⟨lb,lo2+k,none⟩=some (.slice (some ⟨yb,yo,none⟩) x.length yc)∧w'.cell? ⟨P,0,none⟩=some (.int .i64 (mN:Int))∧w'.cell? ⟨P,1,none⟩=some (.int .i64 g)∧w'.cell? ⟨mb,mo+mN * 3+1,none⟩=some (.int .i64 gr)∧w'.cell? ⟨yb,yo+iN,none⟩=some (.int .i64 xi)))
   have HBK:=Hh (fun (w':World) (h:KS (fun k=>k < w.heap.size∧k≠C) w w')=>(HE.out w' h).2.1.law.raw.book HS.out)
   have HKD:=Hh (fun (w':World) (h:KS (fun k=>k < w.heap.size∧k≠C) w w')=>(HE.out w' h).2.1.law.kd)
   have HYS:=Hh (fun (w':World) (h:KS (fun k=>k < w.heap.size∧k≠C) w w')=>(HE.out w' h).1.ints HYA.out)
   have HS1:=Hh (fun (w':World) (h:Below wr.heap.size wr w')=>(by
    obtain ⟨d0,d1,d2,d3,d4,e0,p0,p1,gc,ex⟩:=HALL.out w' (hW.trans (KS.all h _))
    exact ⟨h,d0,d1,d2,d3,d4,e0⟩:Below wr.heap.size wr w'∧w'.cell? ⟨B,0,none⟩=some (.int .i64 b.room)∧w'.cell? ⟨B,1,none⟩=some (.int .i64 b.gap)∧w'.cell? ⟨B,2,none⟩=some (.slice (some ⟨mb,mo,none⟩) b.ms.length mc)∧w'.cell? ⟨B,3,none⟩=some (.slice sa b.ss.length sc)∧w'.cell? ⟨B,4,none⟩=some (.slice ra b.rs.length rc)∧w'.cell? ⟨lb,lo2+k,none⟩=some (.slice (some ⟨yb,yo,none⟩) x.length yc)))
   have hBr:=lt_of_cell d0
   have hPr:=lt_of_cell p0
   have hGr:=lt_of_cell gc
   have hCr:=lt_of_cell q0
   have hlbr:=lt_of_cell e0
   have hybr:=lt_of_cell ex
   simp only at hBr hPr hGr hCr hlbr hybr
   clear hxl hxc hya hia hih sn ln tn wn hk1 hcm hhv hlb hyb e00 ex0
   go_wp2
   go_region_held3 (fun w'=>Below wr.heap.size wr w'∧w'.cell? ⟨B,0,none⟩=some (.int .i64 b.room)∧w'.cell? ⟨B,1,none⟩=some (.int .i64 b.gap)∧w'.cell? ⟨B,2,none⟩=some (.slice (some ⟨mb,mo,none⟩) b.ms.length mc)∧w'.cell? ⟨B,3,none⟩=some (.slice sa b.ss.length sc)∧w'.cell? ⟨B,4,none⟩=some (.slice ra b.rs.length rc)∧w'.cell? ⟨lb,lo2+k,none⟩=some (.slice (some ⟨yb,yo,none⟩) x.length yc))
    ((go_split_ands;exact HS1.out _ (bel)))
    (first
      | (go_at_call 58;go_split_ands;(with_reducible refine (isHistory_at (HBK.out _ (hW.trans (KS.all (bel) _))) HN.out (HKD.out _ (hW.trans (KS.all (bel) _))) (HYS.out _ (hW.trans (KS.all (bel) _))) (by omega) HIH.out HIA.out).mono ?_);rintro e w1 ⟨rfl,hb1⟩;have hbr1:Below wr.heap.size wr w1:=bel)
      | fail "no arm")
   have hW1:KS (fun k=>k < w.heap.size∧k≠C) w w1:=hW.trans (KS.all hbr1 _)
   obtain ⟨d0,d1,d2,d3,d4,e0,p0,p1,gc,ex⟩:=HALL.out w1 hW1
   have hs1:=hbr1.size
   have hlb1:lb < w1.heap.size:=by omega
   have hyb1:yb < w1.heap.size:=by omega
   have HROW1:=Hh (ownsRow_below HROW.out hbr1)
   have q0':=(hbr1.cell (p:=⟨C,0,none⟩) hCr).trans q0
   have q1':=(hbr1.cell (p:=⟨C,1,none⟩) hCr).trans q1
   have hz':Hid (∀ j,w1.frozen? ⟨C,j,none⟩=false):=fun j=>(hbr1.frozen (p:=⟨C,j,none⟩) hCr).trans (hz.out j)
   clear q0 q1 hz HROW HS1 hb1
   go_wp2_with (at_builtin;go_loud (refine wpList_append_own _ rfl _ _ 30 rfl w.heap.size 3 i0 (.int .i64 0) 1 8 Tryz.underlying30 hi0 hz0 hz1 hz2 rfl (by decide) _ _ _ rfl (HROW1.out.alloc _) ⟨w1.heap.size,0,none⟩ 1 1 [.int .i64 xi] rfl rfl (cells_new _ _ _) (by simp [Value.oneCell']) (by unfold maxLen;omega) (by omega) (by simp;omega) ?_;intro v' w5 hown' hgrow _;obtain ⟨g',cap',rfl⟩:=ownsRow_succ hown';have hb5:=below_own (HROW1.out.alloc (.cells #[.int .i64 xi] 3)) hgrow (by simp;omega)))
   have hW5:KS (fun k=>k < w.heap.size∧k≠C) w w5:=hW1.trans (((KS.below ((Below.refl w.heap.size w1).alloc (by omega) _)).trans (KS.below hb5)).mono (fun _ _ h=>h.1))
   have hs5:=hW5.size
   have q05:=(hb5.cell (p:=⟨C,0,none⟩) hC2).trans ((World.cell?_alloc_past _ _ _ (by first | omega | (simp;done) | (simp;omega))).trans q0')
   have q15:=(hb5.cell (p:=⟨C,1,none⟩) hC2).trans ((World.cell?_alloc_past _ _ _ (by first | omega | (simp;done) | (simp;omega))).trans q1')
   have hz5:Hid (∀ j,w5.frozen? ⟨C,j,none⟩=false):=fun j=>(hb5.frozen (p:=⟨C,j,none⟩) hC2).trans ((World.frozen?_alloc_past _ _ _ (by first | omega | (simp;done) | (simp;omega))).trans (hz'.out j))
   have HROW5:=Hh hown'
   clear q0' q1' hz' hb5 hown' hgrow HROW1 hbr1 hBr hPr hGr hCr hlbr hybr hlb1 hyb1 hs1 hW1 d0 d1 d2 d3 d4 e0 p0 p1 gc ex
   obtain ⟨d0,d1,d2,d3,d4,e0,p0,p1,gc,ex⟩:=HALL.out w5 hW5
   have hBr:=lt_of_cell d0
   have hPr:=lt_of_cell p0
   have hCr:=lt_of_cell q05
   have hlbr:=lt_of_cell e0
   simp only at hBr hPr hCr hlbr
   have HS2:=Hh (fun (w':World) (h:Below w5.heap.size w5 w')=>(by
    obtain ⟨d0,d1,d2,d3,d4,e0,p0,p1,gc,ex⟩:=HALL.out w' (hW5.trans (KS.all h _))
    exact ⟨h,d0,d1,d2,d3,d4,e0,p0,p1⟩:Below w5.heap.size w5 w'∧w'.cell? ⟨B,0,none⟩=some (.int .i64 b.room)∧w'.cell? ⟨B,1,none⟩=some (.int .i64 b.gap)∧w'.cell? ⟨B,2,none⟩=some (.slice (some ⟨mb,mo,none⟩) b.ms.length mc)∧w'.cell? ⟨B,3,none⟩=some (.slice sa b.ss.length sc)∧w'.cell? ⟨B,4,none⟩=some (.slice ra b.rs.length rc)∧w'.cell? ⟨lb,lo2+k,none⟩=some (.slice (some ⟨yb,yo,none⟩) x.length yc)∧w'.cell? ⟨P,0,none⟩=some (.int .i64 (mN:Int))∧w'.cell? ⟨P,1,none⟩=some (.int .i64 g)))
   go_region_held3 (fun w'=>Below w5.heap.size w5 w'∧w'.cell? ⟨B,0,none⟩=some (.int .i64 b.room)∧w'.cell? ⟨B,1,none⟩=some (.int .i64 b.gap)∧w'.cell? ⟨B,2,none⟩=some (.slice (some ⟨mb,mo,none⟩) b.ms.length mc)∧w'.cell? ⟨B,3,none⟩=some (.slice sa b.ss.length sc)∧w'.cell? ⟨B,4,none⟩=some (.slice ra b.rs.length rc)∧w'.cell? ⟨lb,lo2+k,none⟩=some (.slice (some ⟨yb,yo,none⟩) x.length yc)∧w'.cell? ⟨P,0,none⟩=some (.int .i64 (mN:Int))∧w'.cell? ⟨P,1,none⟩=some (.int .i64 g))
    ((go_split_ands;exact HS2.out _ (bel)))
    (first
      | (go_at_call 20;go_split_ands;(with_reducible refine (rCopies_at (HBK.out _ (hW5.trans (KS.all (bel) _))) HO.out (HYS.out _ (hW5.trans (KS.all (bel) _))) rfl HXL.out HXC.out ((mN:Int),g) HCM.out).mono ?_);rintro e w6 ⟨rfl,hb6⟩;have hbr6:Below w5.heap.size w5 w6:=bel)
      | fail "no arm")
   have hW6:KS (fun k=>k < w.heap.size∧k≠C) w w6:=hW5.trans (KS.all hbr6 _)
   have hs6:=hbr6.size
   have q06:=(hbr6.cell (p:=⟨C,0,none⟩) hCr).trans q05
   have q16:=(hbr6.cell (p:=⟨C,1,none⟩) hCr).trans q15
   have hz6:Hid (∀ j,w6.frozen? ⟨C,j,none⟩=false):=fun j=>(hbr6.frozen (p:=⟨C,j,none⟩) hCr).trans (hz5.out j)
   have HROW6:=Hh (ownsRow_below HROW5.out hbr6)
   clear q05 q15 hz5 HROW5 HS2 hb6 hbr6 hBr hPr hCr hlbr d0 d1 d2 d3 d4 e0 p0 p1 gc ex hs5 hW5
   have f0:=hz6.out 0
   have f1:=hz6.out 1
   have hsw6:=hW6.size
   have hC6:C < w6.heap.size:=by omega
   have HMI:=Hh (⟨by omega,by simpa using hmN⟩:0≤(mN:Int)∧(mN:Int).toNat < b.ms.length)
   by_cases hk0:k=0
   ·have e9:((k:Int) == 0)=true:=by rw [beq_iff_eq];omega
    have HK0:=Hh hk0
    clear hk0
    go_wp2_with (first
     | (go_at_call 59;(refine (to_at _ _ _).mono ?_);rintro e w7 ⟨rfl,hb7⟩;have hs7:=hb7.size;have q07:=(hb7.cell (p:=⟨C,0,none⟩) hC6).trans q06;have q17:=(hb7.cell (p:=⟨C,1,none⟩) hC6).trans q16;have f07:w7.frozen? ⟨C,0,none⟩=false:=(hb7.frozen (p:=⟨C,0,none⟩) hC6).trans f0;have f17:w7.frozen? ⟨C,1,none⟩=false:=(hb7.frozen (p:=⟨C,1,none⟩) hC6).trans f1;have hC7:C < w7.heap.size:=Nat.lt_of_lt_of_le hC6 hs7)
     | fail "no arm")
    refine (to_at _ _ _).mono ?_
    rintro e w8 ⟨rfl,hb8⟩
    have hC7b:C < ((w7.setCell ⟨C,0,none⟩ (.int .i64 cm)).setCell ⟨C,1,none⟩ (.int .i64 cm)).heap.size:=by simpa using hC7
    have hC8:C < w8.heap.size:=Nat.lt_of_lt_of_le hC7b hb8.size
    have q08:w8.cell? ⟨C,0,none⟩=some (.int .i64 cm):=(hb8.cell (p:=⟨C,0,none⟩) hC7b).trans (by rw [World.cell?_setCell_other (h:=fun e=>by injection e with _ e _;omega)];exact World.cell?_setCell_same' _ _ _ (by rw [q07];rfl))
    have q18:w8.cell? ⟨C,1,none⟩=some (.int .i64 cm):=(hb8.cell (p:=⟨C,1,none⟩) hC7b).trans (World.cell?_setCell_same' _ _ _ (by rw [World.cell?_setCell_other (h:=fun e=>by injection e with _ e _;omega),q17];rfl))
    have f08:w8.frozen? ⟨C,0,none⟩=false:=(hb8.frozen (p:=⟨C,0,none⟩) hC7b).trans (by rw [World.frozen?_setCell,World.frozen?_setCell];exact f07)
    have f18:w8.frozen? ⟨C,1,none⟩=false:=(hb8.frozen (p:=⟨C,1,none⟩) hC7b).trans (by rw [World.frozen?_setCell,World.frozen?_setCell];exact f17)
    go_wp2
    have eV:lowS b ((mN:Int),g) (k+1)=cm∧topS b ((mN:Int),g) (k+1)=cm:=by
     obtain ⟨l1,l2⟩:=HK1.out HK0.out
     refine ⟨?_,?_⟩ <;> simp [lowS,topS,HLN.out.1,HLN.out.2,l1,l2]
    have fz8:∀ j,w8.frozen? ⟨C,j,none⟩=false:=fun j=>(hb8.frozen (p:=⟨C,j,none⟩) hC7b).trans (by rw [World.frozen?_setCell,World.frozen?_setCell];exact (hb7.frozen (p:=⟨C,j,none⟩) hC6).trans (hz6.out j))
    have hW8:KS (fun k=>k < w.heap.size∧k≠C) w w8:=((hW6.trans (KS.all hb7 _)).trans ((KS.setCell (by simp) _ _).trans (KS.setCell (by simp) _ _))).trans (KS.all hb8 _)
    have row8:=ownsRow_below (ownsRow_ks (p:=fun k=>k≠C) (ownsRow_below HROW6.out hb7) ((KS.setCell (by simp) _ _).trans (KS.setCell (by simp) _ _)) (fun k hk=>by show k≠C;omega)) hb8
    obtain ⟨z0,z1,zf,hks⟩:=band_put (v0:=.int .i64 cm) (v1:=.int .i64 cm) q08 q18 fz8
    have hW7:KS (fun k=>k < w.heap.size∧k≠C) w ((w8.setCell ⟨C,0,none⟩ (.int .i64 cm)).setCell ⟨C,1,none⟩ (.int .i64 cm)):=hW8.trans (hks.mono fun _ _ h=>h.2)
    have HROW7:=Hh (ownsRow_ks row8 hks (fun k hk=>by show k≠C;omega))
    have Z0:=Hh (z0.trans (congrArg (fun x=>some (Value.int .i64 x)) eV.1.symm))
    have Z1:=Hh (z1.trans (congrArg (fun x=>some (Value.int .i64 x)) eV.2.symm))
    have ZF:=Hh zf
    generalize ((w8.setCell ⟨C,0,none⟩ (.int .i64 cm)).setCell ⟨C,1,none⟩ (.int .i64 cm))=W7 at hW7 HROW7 Z0 Z1 ZF ⊢
    clear z0 z1 zf hks q08 q18 f08 f18 q07 q17 f07 f17 q06 q16 f0 f1 row8 hW8 fz8 hb7 hb8 eV
    obtain ⟨d0,d1,d2,d3,d4,e0,p0,p1,gc,ex⟩:=HALL.out W7 hW7
    have hBr:=lt_of_cell d0
    have hGr:=lt_of_cell gc
    have hlbr:=lt_of_cell e0
    simp only at hBr hGr hlbr
    have hsW7:=hW7.size
    have HS3:=Hh (fun (w':World) (h:Below W7.heap.size W7 w')=>(by
     obtain ⟨d0,d1,d2,d3,d4,e0,p0,p1,gc,ex⟩:=HALL.out w' (hW7.trans (KS.all h _))
     exact ⟨h,d0,d1,d2,d3,d4,e0,gc⟩:Below W7.heap.size W7 w'∧w'.cell? ⟨B,0,none⟩=some (.int .i64 b.room)∧w'.cell? ⟨B,1,none⟩=some (.int .i64 b.gap)∧w'.cell? ⟨B,2,none⟩=some (.slice (some ⟨mb,mo,none⟩) b.ms.length mc)∧w'.cell? ⟨B,3,none⟩=some (.slice sa b.ss.length sc)∧w'.cell? ⟨B,4,none⟩=some (.slice ra b.rs.length rc)∧w'.cell? ⟨lb,lo2+k,none⟩=some (.slice (some ⟨yb,yo,none⟩) x.length yc)∧w'.cell? ⟨mb,mo+mN * 3+1,none⟩=some (.int .i64 gr)))
    go_region_held3 (fun w'=>Below W7.heap.size W7 w'∧w'.cell? ⟨B,0,none⟩=some (.int .i64 b.room)∧w'.cell? ⟨B,1,none⟩=some (.int .i64 b.gap)∧w'.cell? ⟨B,2,none⟩=some (.slice (some ⟨mb,mo,none⟩) b.ms.length mc)∧w'.cell? ⟨B,3,none⟩=some (.slice sa b.ss.length sc)∧w'.cell? ⟨B,4,none⟩=some (.slice ra b.rs.length rc)∧w'.cell? ⟨lb,lo2+k,none⟩=some (.slice (some ⟨yb,yo,none⟩) x.length yc)∧w'.cell? ⟨mb,mo+mN * 3+1,none⟩=some (.int .i64 gr))
     ((go_split_ands;exact HS3.out _ (bel)))
     (first
       | (go_at_call 60;go_split_ands;(with_reducible refine (rHave_at (HBK.out _ (hW7.trans (KS.all (bel) _))) HO.out (HYS.out _ (hW7.trans (KS.all (bel) _))) rfl HXL.out HXC.out HMI.out HHV.out).mono ?_);rintro e w9 ⟨rfl,hb9⟩;have hbr9:Below W7.heap.size W7 w9:=bel)
       | fail "no arm")
    have HROW9:=Hh (ownsRow_below HROW7.out hbr9)
    have hW9:KS (fun k=>k < w.heap.size∧k≠C) w w9:=hW7.trans (KS.all hbr9 _)
    have hC9:C < W7.heap.size:=by omega
    have z09:=(hbr9.cell (p:=⟨C,0,none⟩) hC9).trans Z0.out
    have z19:=(hbr9.cell (p:=⟨C,1,none⟩) hC9).trans Z1.out
    have zf9:Hid (∀ j,w9.frozen? ⟨C,j,none⟩=false):=fun j=>(hbr9.frozen (p:=⟨C,j,none⟩) hC9).trans (ZF.out j)
    have hlen:(seenK b iN k ++ [xi]).length=k+1:=by rw [List.length_append,hse k (by omega)];rfl
    have HFIN:=Hh (⟨z09,z19,hW9⟩:_∧_∧_)
    clear z09 z19 hW9 hC9 hb9 Z0 Z1 ZF HROW7 HS3 d0 d1 d2 d3 d4 e0 p0 p1 gc ex hlen
    by_cases hvg:hv=gr
    ·have e8:(hv == gr)=true:=by rw [beq_iff_eq];exact hvg
     have HVG:=Hh hvg
     clear hvg
     go_wp2
     go_roundw
     case rel=>exact ⟨k+1,some ⟨g',0,none⟩,cap',by omega,by go_num,by rw [HWN.out,if_pos HVG.out];go_num,rfl,HFIN.out.1,HFIN.out.2.1,zf9,by rw [HSN.out,List.map_append];exact HROW9,HFIN.out.2.2⟩
     case measure=>simp [intOf];omega
    ·have e8:(hv == gr)=false:=by rw [beq_eq_false_iff_ne];exact hvg
     have HVG:=Hh hvg
     clear hvg
     go_wp2
     go_roundw
     case rel=>exact ⟨k+1,some ⟨g',0,none⟩,cap',by omega,by go_num,by rw [HWN.out,if_neg HVG.out];rfl,rfl,HFIN.out.1,HFIN.out.2.1,zf9,by rw [HSN.out,List.map_append];exact HROW9,HFIN.out.2.2⟩
     case measure=>simp [intOf];omega
   ·have e9:((k:Int) == 0)=false:=by rw [beq_eq_false_iff_ne];omega
    have HK0:=Hh hk0
    clear hk0
    go_wp2_with (go_at_call 59;(refine (to_at _ _ _).mono ?_);rintro e w7 ⟨rfl,hb7⟩;have hs7:=hb7.size;have q07:=(hb7.cell (p:=⟨C,0,none⟩) hC6).trans q06;have q17:=(hb7.cell (p:=⟨C,1,none⟩) hC6).trans q16;have f07:w7.frozen? ⟨C,0,none⟩=false:=(hb7.frozen (p:=⟨C,0,none⟩) hC6).trans f0;have f17:w7.frozen? ⟨C,1,none⟩=false:=(hb7.frozen (p:=⟨C,1,none⟩) hC6).trans f1;have hC7:C < w7.heap.size:=Nat.lt_of_lt_of_le hC6 hs7)
    have eV:lowS b ((mN:Int),g) (k+1)=min (lowS b ((mN:Int),g) k) cm∧topS b ((mN:Int),g) (k+1)=max (topS b ((mN:Int),g) k) cm:=by
     have h0:=HK0.out
     refine ⟨?_,?_⟩ <;> simp [lowS,topS,h0,HLN.out.1,HLN.out.2]
    have fz7:∀ j,w7.frozen? ⟨C,j,none⟩=false:=fun j=>(hb7.frozen (p:=⟨C,j,none⟩) hC6).trans (hz6.out j)
    have hW70:KS (fun k=>k < w.heap.size∧k≠C) w w7:=hW6.trans (KS.all hb7 _)
    have row7:=ownsRow_below HROW6.out hb7
    obtain ⟨z0,z1,zf,hks⟩:=band_put (v0:=.int .i64 (min (lowS b ((mN:Int),g) k) cm)) (v1:=.int .i64 (max (topS b ((mN:Int),g) k) cm)) q07 q17 fz7
    have hW7:KS (fun k=>k < w.heap.size∧k≠C) w ((w7.setCell ⟨C,0,none⟩ (.int .i64 (min (lowS b ((mN:Int),g) k) cm))).setCell ⟨C,1,none⟩ (.int .i64 (max (topS b ((mN:Int),g) k) cm))):=hW70.trans (hks.mono fun _ _ h=>h.2)
    have HROW7:=Hh (ownsRow_ks row7 hks (fun k hk=>by show k≠C;omega))
    have Z0:=Hh (z0.trans (congrArg (fun x=>some (Value.int .i64 x)) eV.1.symm))
    have Z1:=Hh (z1.trans (congrArg (fun x=>some (Value.int .i64 x)) eV.2.symm))
    have ZF:=Hh zf
    generalize ((w7.setCell ⟨C,0,none⟩ (.int .i64 (min (lowS b ((mN:Int),g) k) cm))).setCell ⟨C,1,none⟩ (.int .i64 (max (topS b ((mN:Int),g) k) cm)))=W7 at hW7 HROW7 Z0 Z1 ZF ⊢
    clear z0 z1 zf hks q07 q17 f07 f17 q06 q16 f0 f1 row7 hW70 fz7 hb7 eV
    obtain ⟨d0,d1,d2,d3,d4,e0,p0,p1,gc,ex⟩:=HALL.out W7 hW7
    have hBr:=lt_of_cell d0
    have hGr:=lt_of_cell gc
    have hlbr:=lt_of_cell e0
    simp only at hBr hGr hlbr
    have hsW7:=hW7.size
    have HS3:=Hh (fun (w':World) (h:Below W7.heap.size W7 w')=>(by
     obtain ⟨d0,d1,d2,d3,d4,e0,p0,p1,gc,ex⟩:=HALL.out w' (hW7.trans (KS.all h _))
     exact ⟨h,d0,d1,d2,d3,d4,e0,gc⟩:Below W7.heap.size W7 w'∧w'.cell? ⟨B,0,none⟩=some (.int .i64 b.room)∧w'.cell? ⟨B,1,none⟩=some (.int .i64 b.gap)∧w'.cell? ⟨B,2,none⟩=some (.slice (some ⟨mb,mo,none⟩) b.ms.length mc)∧w'.cell? ⟨B,3,none⟩=some (.slice sa b.ss.length sc)∧w'.cell? ⟨B,4,none⟩=some (.slice ra b.rs.length rc)∧w'.cell? ⟨lb,lo2+k,none⟩=some (.slice (some ⟨yb,yo,none⟩) x.length yc)∧w'.cell? ⟨mb,mo+mN * 3+1,none⟩=some (.int .i64 gr)))
    go_region_held3 (fun w'=>Below W7.heap.size W7 w'∧w'.cell? ⟨B,0,none⟩=some (.int .i64 b.room)∧w'.cell? ⟨B,1,none⟩=some (.int .i64 b.gap)∧w'.cell? ⟨B,2,none⟩=some (.slice (some ⟨mb,mo,none⟩) b.ms.length mc)∧w'.cell? ⟨B,3,none⟩=some (.slice sa b.ss.length sc)∧w'.cell? ⟨B,4,none⟩=some (.slice ra b.rs.length rc)∧w'.cell? ⟨lb,lo2+k,none⟩=some (.slice (some ⟨yb,yo,none⟩) x.length yc)∧w'.cell? ⟨mb,mo+mN * 3+1,none⟩=some (.int .i64 gr))
     ((go_split_ands;exact HS3.out _ (bel)))
     (first
       | (go_at_call 60;go_split_ands;(with_reducible refine (rHave_at (HBK.out _ (hW7.trans (KS.all (bel) _))) HO.out (HYS.out _ (hW7.trans (KS.all (bel) _))) rfl HXL.out HXC.out HMI.out HHV.out).mono ?_);rintro e w9 ⟨rfl,hb9⟩;have hbr9:Below W7.heap.size W7 w9:=bel)
       | fail "no arm")
    have HROW9:=Hh (ownsRow_below HROW7.out hbr9)
    have hW9:KS (fun k=>k < w.heap.size∧k≠C) w w9:=hW7.trans (KS.all hbr9 _)
    have hC9:C < W7.heap.size:=by omega
    have z09:=(hbr9.cell (p:=⟨C,0,none⟩) hC9).trans Z0.out
    have z19:=(hbr9.cell (p:=⟨C,1,none⟩) hC9).trans Z1.out
    have zf9:Hid (∀ j,w9.frozen? ⟨C,j,none⟩=false):=fun j=>(hbr9.frozen (p:=⟨C,j,none⟩) hC9).trans (ZF.out j)
    have hlen:(seenK b iN k ++ [xi]).length=k+1:=by rw [List.length_append,hse k (by omega)];rfl
    have HFIN:=Hh (⟨z09,z19,hW9⟩:_∧_∧_)
    clear z09 z19 hW9 hC9 hb9 Z0 Z1 ZF HROW7 HS3 d0 d1 d2 d3 d4 e0 p0 p1 gc ex hlen
    by_cases hvg:hv=gr
    ·have e8:(hv == gr)=true:=by rw [beq_iff_eq];exact hvg
     have HVG:=Hh hvg
     clear hvg
     go_wp2
     go_roundw
     case rel=>exact ⟨k+1,some ⟨g',0,none⟩,cap',by omega,by go_num,by rw [HWN.out,if_pos HVG.out];go_num,rfl,HFIN.out.1,HFIN.out.2.1,zf9,by rw [HSN.out,List.map_append];exact HROW9,HFIN.out.2.2⟩
     case measure=>simp [intOf];omega
    ·have e8:(hv == gr)=false:=by rw [beq_eq_false_iff_ne];exact hvg
     have HVG:=Hh hvg
     clear hvg
     go_wp2
     go_roundw
     case rel=>exact ⟨k+1,some ⟨g',0,none⟩,cap',by omega,by go_num,by rw [HWN.out,if_neg HVG.out];rfl,rfl,HFIN.out.1,HFIN.out.2.1,zf9,by rw [HSN.out,List.map_append];exact HROW9,HFIN.out.2.2⟩
     case measure=>simp [intOf];omega
  ·obtain rfl:k=pl:=by omega
   go_wp2
   exact ⟨a,ac,wholeK b mN k,fr_of (by kernel_rfl),rfl,ints_of_row HROW.out,q0,q1,hW⟩
variable {B pl iN mN pc xc dc P Q C ec wn:Nat} {b:Bk} {s s2 s3 g u c lo hi gr:Int} {vr vg vm vs vc x:Value} {w w0:World} {pa xa da ea:Option Addr} {q dq sn:List Int} {d:Nat→Value}
def RZL2 (B pl iN mN:Nat) (s s2 s3:Int) (vr vg vm vs vc:Value) (b:Bk) (pc xc dc P Q C ec wn:Nat) (pa xa da ea:Option Addr) (c:Int) (q dq:List Int) (w:World):Exit→Act→World→Prop
 | .normal,a',w2=>(∃ d,a'=frL B pl iN mN pc xc dc P Q C s s2 s3 c vr vg vm vs vc pa xa da q dq (.slice ea pl ec) (.int .i64 (wn:Int)) d)∧Below w.heap.size w w2
 | _,_,_=>False
def RZL3 (B pl iN mN:Nat) (s s2 s3:Int) (vr vg vm vs vc:Value) (b:Bk) (pc xc dc P Q C ec wn:Nat) (pa xa da ea:Option Addr) (c:Int) (q dq:List Int) (w:World):Exit→Act→World→Prop
 | .normal,a',w2=>(∃ d,a'=frL B pl iN mN pc xc dc P Q C s s2 s3 c vr vg vm vs vc pa xa da q dq (.slice ea pl ec) (.int .i64 (wn:Int)) d)∧Below w.heap.size w w2
 | _,_,_=>False
theorem re_L2 (hX:IntsAt w xa q) (hY:IntsAt w ea sn) (hsn:pl=sn.length) (hpl:pl≤1000000) (hql:q.length≤1000000) (hq:q.Pairwise (· < ·)) (hm:∀ x∈q,x∈sn) :
 (rp 17).wp Tryz.prog (RZL2 B pl iN mN s s2 s3 vr vg vm vs vc b pc xc dc P Q C ec wn pa xa da ea c q dq w) (frL B pl iN mN pc xc dc P Q C s s2 s3 c vr vg vm vs vc pa xa da q dq (.slice ea pl ec) (.int .i64 (wn:Int)) d) w:=by
 simp only [rp,sqN,sql,sqr,cnd,Tryz.f11,Option.getD_some,frL]
 have HX:=Hh hX
 have HY:=Hh hY
 have HQ:=Hh hq
 have HM:=Hh hm
 have HSL:=Hh hsn
 have hsl:sn.length≤1000000:=by omega
 clear hX hY hq hm hsn
 go_wp2
 go_loopw [30] (fun i wr=>∃ k:Nat,k≤q.length∧i=.int .i64 k∧Below w.heap.size w wr) (fun i _=>q.length - (intOf i).toNat)
 case atStart=>exact ⟨0,Nat.zero_le _,rfl,Below.refl _ _⟩
 case round =>
  obtain ⟨k,hk,rfl,hW⟩:=hrel
  have hWs:=hW.size
  by_cases hlt:k < q.length
  ·obtain ⟨lb,lo,rfl,hlb,e0⟩:=HX.out k hlt
   have d0:=(hW.cell hlb).trans e0
   have hlb2:lb < wr.heap.size:=Nat.lt_of_lt_of_le hlb hWs
   have HMM:=Hh (show decide (q[k]∈sn)=true by rw [decide_eq_true_iff];exact HM.out _ (List.getElem_mem hlt))
   by_cases h0:k=0
   ·subst h0
    generalize q[0]=x at d0 HMM e0
    have d9:wr.cell? ⟨lb,lo,none⟩=some (.int .i64 x):=d0
    clear e0 d0
    go_wp2
    (refine wp_region_bel (by kernel_rfl) (by kernel_rfl) ?_;(repeat (go_big_quiet_step ((go_at_call 61;with_reducible exact Calls.bel_of_same (hasNum_at (lc:=ec) (HY.out.below (Below.next hW (later_below wr _))) HSL.out hsl HMM.out)))));refine wpQuiet_nil ?_;rintro _ ⟨xq,rfl⟩)
    go_wp2
    go_roundw
    case rel=>exact ⟨1,by omega,by go_num,Below.next hW (later_below _ _)⟩
    case measure=>simp [intOf];omega
   ·obtain ⟨j,rfl⟩:∃ j,k=j+1:=⟨k - 1,by omega⟩
    obtain ⟨lb',lo',e',hlb',e1⟩:=HX.out j (by omega)
    cases e'
    have d1:=(hW.cell hlb').trans e1
    have hlts:=List.pairwise_iff_getElem.1 HQ.out j (j+1) (by omega) hlt (by omega)
    have hd:decide (q[j+1]≤q[j])=false:=by simp;omega
    generalize q[j]=y at d1 hd hlts e1
    generalize q[j+1]=x at d0 HMM hd hlts e0
    have hwj:IntKind.i64.wrap (((j+1:Nat):Int) - 1)=(j:Int):=by rw [wrapI (by omega) (by omega)];simp
    have hgt:decide ((0:Int) < ((j+1:Nat):Int))=true:=by simp
    clear e0 e1 hlts
    go_wp2
    (refine wp_region_bel (by kernel_rfl) (by kernel_rfl) ?_;(repeat (go_big_quiet_step ((go_at_call 61;with_reducible exact Calls.bel_of_same (hasNum_at (lc:=ec) (HY.out.below (Below.next hW (later_below wr _))) HSL.out hsl HMM.out)))));refine wpQuiet_nil ?_;rintro _ ⟨xq,rfl⟩)
    go_wp2
    go_roundw
    case rel=>exact ⟨j+1+1,by omega,by go_num,Below.next hW (later_below _ _)⟩
    case measure=>simp [intOf];omega
  ·obtain rfl:k=q.length:=by omega
   go_wp2
   exact ⟨fr_of (by kernel_rfl),hW⟩
theorem re_L3 (hX:IntsAt w xa q) (hY:IntsAt w ea sn) (hsn:pl=sn.length) (hpl:pl≤1000000) (hql:q.length≤1000000) (hm:∀ x∈sn,x∈q) :
 (rp 18).wp Tryz.prog (RZL3 B pl iN mN s s2 s3 vr vg vm vs vc b pc xc dc P Q C ec wn pa xa da ea c q dq w) (frL B pl iN mN pc xc dc P Q C s s2 s3 c vr vg vm vs vc pa xa da q dq (.slice ea pl ec) (.int .i64 (wn:Int)) d) w:=by
 simp only [rp,sqN,sql,sqr,cnd,Tryz.f11,Option.getD_some,frL]
 have HX:=Hh hX
 have HY:=Hh hY
 have HM:=Hh hm
 have HSL:=Hh hsn
 clear hX hm hsn
 go_wp2
 go_loopw [31] (fun i wr=>∃ k:Nat,k≤pl∧i=.int .i64 k∧Below w.heap.size w wr) (fun i _=>pl - (intOf i).toNat)
 case atStart=>exact ⟨0,Nat.zero_le _,rfl,Below.refl _ _⟩
 case round =>
  obtain ⟨k,hk,rfl,hW⟩:=hrel
  have hWs:=hW.size
  by_cases hlt:k < pl
  ·obtain ⟨lb,lo,rfl,hlb,e0⟩:=HY.out k (by rw [← HSL.out];exact hlt)
   have d0:=(hW.cell hlb).trans e0
   have hlb2:lb < wr.heap.size:=Nat.lt_of_lt_of_le hlb hWs
   have hks:k < sn.length:=by rw [← HSL.out];exact hlt
   have HMM:=Hh (show decide (sn[k]∈q)=true by rw [decide_eq_true_iff];exact HM.out _ (List.getElem_mem hks))
   generalize sn[k]=x at d0 HMM e0
   clear e0
   go_wp2_with (go_at_call 61;(with_reducible refine (hasNum_at (HX.out.below hW) rfl hql HMM.out).mono ?_);rintro e w' ⟨rfl,rfl⟩)
   go_roundw
   case rel=>exact ⟨k+1,by omega,by go_num,bel⟩
   case measure=>simp [intOf];omega
  ·obtain rfl:k=pl:=by omega
   go_wp2
   exact ⟨fr_of (by kernel_rfl),hW⟩
variable {B pl iN mN pc xc dc P Q C ec wn:Nat} {b:Bk} {s s2 s3 g u c lo hi gr:Int} {vr vg vm vs vc x:Value} {w w0:World} {pa xa da ea:Option Addr} {q dq sn:List Int} {d:Nat→Value}
def RZB (pl mN:Nat) (b:Bk) (g c lo hi:Int) (dq:List Int) (a':Act) (w2:World):Prop:=∃ (da:Option Addr) (dc Q C:Nat),Kn a' 314 [(11,.int .i64 (mN:Int)),(13,.int .i64 (pl:Int)),(17,.int .i64 c),(19,.pointer (some ⟨Q,0,none⟩)),(21,.slice da dq.length dc),(24,.pointer (some ⟨C,0,none⟩)),(25,.int .i64 ((wholeK b mN pl:Nat):Int))]∧IntsAt w2 da dq∧KindsAt w2∧w2.cell? ⟨Q,0,none⟩=some (.int .i64 lo)∧w2.cell? ⟨Q,1,none⟩=some (.int .i64 hi)∧w2.cell? ⟨C,0,none⟩=some (.int .i64 (lowS b ((mN:Int),g) pl))∧w2.cell? ⟨C,1,none⟩=some (.int .i64 (topS b ((mN:Int),g) pl))
theorem re_B (hE:RSt w B b vr vg vm vs vc pa xa da P Q (mN:Int) g lo hi q dq) (hS:SmallB b) (hk:bookAl b=0) (hpl:(pasts b).length=pl) (hp0:0 < pl) (hiN:iN < b.ss.length) (hmN:mN < b.ms.length) (hdq:dq.length=b.ms.length)
 (hq:q.Pairwise (· < ·)) (hql:q.length≤1000000) (hqs:∀ x,x∈q↔x∈seenK b iN pl) :
 wps Tryz.prog [rp 11,rp 12,rp 13,rp 14,rp 15,rp 16,rp 17,rp 18] (fun a' w2=>RZB pl mN b g c lo hi dq a' w2∧Old w w2) (frA B pl iN mN pc xc dc P Q s s2 s3 0 c vr vg vm vs vc pa xa da q dq d) w:=by
 unfold frA
 have hple:=pasts_le (bookAl_ok hk).1
 rw [hpl] at hple
 have hsl:pl=(seenK b iN pl).length:=(seenK_len b iN pl (by omega)).symm
 have hm20:b.ms.length≤20:=hS.1
 have e1:((pl:Int) == 0)=false:=by rw [beq_eq_false_iff_ne];omega
 have e2:((dq.length:Int) != (b.ms.length:Int))=false:=by rw [hdq];simp
 have HE:=Hh hE
 have HS:=Hh hS
 have HAL:=Hh hk
 have HPL:=Hh hpl
 have HQ:=Hh hq
 have HQS:=Hh hqs
 have HSL:=Hh hsl
 clear hE hS hk hpl hq hqs hsl hdq
 refine wps_nq ?_
 obtain ⟨cc,hcc⟩:∃ c,rp 11=c:=⟨_,rfl⟩
 rw [hcc]
 simp only [rp,sqN,sql,sqr,cnd,Tryz.f11,Option.getD_some] at hcc
 subst hcc
 go_wp2
 refine ⟨rfl,fun X1 t1=>?_⟩
 have OO1:=Hh ((Old.refl w).twin0 t1)
 clear t1
 refine wps_nq ?_
 obtain ⟨cc,hcc⟩:∃ c,rp 12=c:=⟨_,rfl⟩
 rw [hcc]
 simp only [rp,sqN,sql,sqr,cnd,Tryz.f11,Option.getD_some] at hcc
 subst hcc
 have E1:=HE.out.law.old OO1.out
 obtain ⟨ma,mc,hvm,_⟩:=E1.raw.ms
 obtain ⟨_,_,c2,_,_,_,_,_⟩:=E1
 rw [hvm] at c2
 clear hvm
 have hB0:=lt_of_cell c2
 simp only at hB0
 go_wp2
 refine ⟨rfl,fun X2 t1=>?_⟩
 have OO2:=Hh (OO1.out.trans ((Old.refl X1).twin0 t1))
 clear t1 OO1 c2 hB0 e2
 refine wps_nq ?_
 obtain ⟨cc,hcc⟩:∃ c,rp 13=c:=⟨_,rfl⟩
 rw [hcc]
 simp only [rp,sqN,sql,sqr,cnd,Tryz.f11,Option.getD_some] at hcc
 subst hcc
 go_wp2
 refine ⟨rfl,fun X3 t1=>?_⟩
 have OO3:=Hh (OO2.out.trans ((Old.refl X2).twin0 t1))
 clear t1 OO2
 refine wps_nq ?_
 obtain ⟨cc,hcc⟩:∃ c,rp 14=c:=⟨_,rfl⟩
 rw [hcc]
 simp only [rp,sqN,sql,sqr,cnd,Tryz.f11,Option.getD_some] at hcc
 subst hcc
 go_wp2
 have hbz:Below X3.heap.size X3 (X3.alloc (.cells #[.int .i64 0,.int .i64 0] 90)):=bel
 have z0:(X3.alloc (.cells #[.int .i64 0,.int .i64 0] 90)).cell? ⟨X3.heap.size,0,none⟩=some (.int .i64 0):=by rw [World.cell?_alloc_at _ _ _ _ rfl];rfl
 have z1:(X3.alloc (.cells #[.int .i64 0,.int .i64 0] 90)).cell? ⟨X3.heap.size,1,none⟩=some (.int .i64 0):=by rw [World.cell?_alloc_at _ _ _ _ rfl];rfl
 have zf:∀ k,(X3.alloc (.cells #[.int .i64 0,.int .i64 0] 90)).frozen? ⟨X3.heap.size,k,none⟩=false:=fun k=>by rw [World.frozen?_alloc_at _ _ _ _ rfl]
 refine ⟨rfl,fun X4 t1=>?_⟩
 have OO4:=Hh (OO3.out.trans ((Old.ofBelow hbz).twin0 t1))
 have Z0:=Hh ((t1.cell _).trans z0)
 have Z1:=Hh ((t1.cell _).trans z1)
 have ZF:=Hh (fun k=>(t1.frozen _).trans (zf k))
 have hCl:w.heap.size≤X3.heap.size:=OO3.out.size
 have hCs:X3.heap.size < X4.heap.size:=by rw [t1.size];simp
 clear t1 OO3 z0 z1 zf hbz
 generalize X3.heap.size=C at hCl hCs Z0 Z1 ZF ⊢
 refine wps_nq ?_
 obtain ⟨cc,hcc⟩:∃ c,rp 15=c:=⟨_,rfl⟩
 rw [hcc]
 simp only [rp,sqN,sql,sqr,cnd,Tryz.f11,Option.getD_some] at hcc
 subst hcc
 go_wp2
 refine ⟨rfl,fun X5 t1=>?_⟩
 have o1:=(Old.refl X4).twin0 t1
 replace OO4:=Hh (OO4.out.trans o1)
 replace Z0:=Hh (o1.cell2 Z0.out)
 replace Z1:=Hh (o1.cell2 Z1.out)
 replace ZF:=Hh (fun k=>(t1.frozen _).trans (ZF.out k))
 have hCs2:C < X5.heap.size:=Nat.lt_of_lt_of_le hCs o1.size
 clear t1 o1 hCs
 refine wps_nq (Code.wp_mono (fun e a' w1 h=>?_) (wp_fr (F:=frL B pl iN mN pc xc dc P Q C s s2 s3 c vr vg vm vs vc pa xa da q dq (.slice none 0 0) (.int .i64 0)) (by kernel_rfl) fun d=>re_L1 OO4.out HE.out HS.out HAL.out HPL.out hiN hmN hCl hCs2 Z0.out Z1.out ZF.out))
 cases e <;> try exact h.elim
 obtain ⟨ea,ec,wn,⟨d1,rfl⟩,hwn,hI,z0,z1,hks⟩:=h
 refine ⟨rfl,fun X6 t1=>?_⟩
 have o6:=((OO4.out.ks hCl hks).twin0 t1)
 have hI:=t1.ints hI
 have z0:=(t1.cell _).trans z0
 have z1:=(t1.cell _).trans z1
 have E6:=HE.out.old o6
 clear t1 hks OO4 Z0 Z1 ZF
 refine wps_nq (Code.wp_mono (fun e a' w1 h=>?_) (re_L2 (b:=b) E6.xs hI HSL.out (by omega) hql HQ.out fun x hx=>(HQS.out x).1 hx))
 cases e <;> try exact h.elim
 obtain ⟨⟨d2,rfl⟩,hb⟩:=h
 refine ⟨rfl,fun X7 t1=>?_⟩
 have o1:=(Old.ofBelow hb).twin0 t1
 have o7:=o6.trans o1
 have hI:=o1.ints hI
 have z0:=o1.cell2 z0
 have z1:=o1.cell2 z1
 have E7:=E6.old o1
 clear hb t1 o1 o6 E6
 refine wps_nq (Code.wp_mono (fun e a' w1 h=>?_) (re_L3 (b:=b) E7.xs hI HSL.out (by omega) hql fun x hx=>(HQS.out x).2 hx))
 cases e <;> try exact h.elim
 obtain ⟨⟨d3,he⟩,hb⟩:=h
 subst he hwn
 refine ⟨rfl,fun X8 t1=>?_⟩
 have o1:=(Old.ofBelow hb).twin0 t1
 have E8:=E7.old o1
 exact ⟨⟨da,dc,Q,C,⟨rfl,rfl,rfl,rfl,rfl,rfl,rfl,rfl,rfl,trivial⟩,E8.ds,E8.law.kd,E8.q0,E8.q1,o1.cell2 z0,o1.cell2 z1⟩,o7.trans o1⟩
end Go.Proofs.YtgemjjdkjmpmlaaGreatDoor
