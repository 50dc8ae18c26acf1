/- Leads to StoreConnects of chapter 6: CX6 U15. -/
import Derived.Test.YtfggbepickdokaaGreatDoorCX03
set_option maxHeartbeats 16000000
set_option maxRecDepth 100000
set_option linter.all false
namespace Go.Proofs.YtfggbepickdokaaGreatDoor
open Go.RowKit Go.Maps Sp Mt Go.Conc
variable {B X O P m xc sc:Nat} {b:Bk} {x:List Prt} {t n:Int} {vr vg vm vs vc ur ug um us uc us1 y0:Value} {w w0:World} {xa sa:Option Addr} {u v:List Prt} {d:Nat→Value}
theorem least_ix {Q:Nat→Prop}:(∃ j,Q j)→∃ j,Q j∧∀ i,i < j→¬ Q i:=by
 intro ⟨j,hj⟩
 induction j using Nat.strongRecOn with
 | _ j ih =>
  by_cases h:∃ i,i < j∧Q i
  ·obtain ⟨i,hi,hq⟩:=h
   exact ih i hi hq
  ·exact ⟨j,hj,fun i hi hq=>h ⟨i,hi,hq⟩⟩
theorem connectAl_one {b:Bk} {x:List Prt} (hk:bookAl b=0):connectAl b x=openAl (moreS b x) 0:=by
 unfold connectAl
 rw [if_neg (by simp [hk])]
theorem cx_rounds (hok:codeOk Tryz.prog cxB=true) {j:Nat} (hj:j < b.rs.length) (hz:b.rs[j].k=4∨b.rs[j].k=5) (hfirst:∀ i (h:i < b.rs.length),i < j→b.rs[i].k≠4∧b.rs[i].k≠5) {kk:List Item} :
 ∀ (m k:Nat),k+m=j→∀ (w:World),Old w0 w→BxSt w B b vr vg vm vs vc→∀ (d:Nat→Value),Leads Tryz.prog (Leaving0 Tryz.prog fun v w'=>v=.bool true∧Old w0 w') ((Go.Conc.base 5).at (cL B X k d) (.code cxB::.inLoop cxB::kk)) [] w:=by
 have nb:(Go.Conc.base 5).kind=.normal:=rfl
 have nd:MarksOnly []:=fun d hd=>by cases hd
 intro m
 induction m with
 | zero =>
  intro k hk w ho1 hE d
  obtain rfl:k=j:=by omega
  have hok':=hok
  rw [cxB_eq] at hok'
  simp only [codeOk,Bool.and_eq_true] at hok'
  obtain ⟨k1,⟨k2,_⟩,_⟩:=hok'
  rw [cxB_eq]
  refine leads_seq fun e1=>?_
  have hE1:=hE.twin (on_at w e1)
  refine piece_here k1 nb nd (Z:=CL B X k) (fun a w1 w2 ht h=>h) (fun W hW=>cx_head (hE1.twin hW) hj) fun a2 w2 hz2 ho3=>?_
  obtain ⟨d2,rfl⟩:=hz2
  have hE2:=hE1.old ho3
  have hoA:=(ho1.at e1).trans ho3
  refine leads_seq fun e2=>?_
  refine leads_block fun e3=>?_
  refine leads_seq fun e4=>?_
  have hE3:=((hE2.twin (on_at w2 e2)).twin (on_at _ e3)).twin (on_at _ e4)
  have hoB:=((hoA.at e2).at e3).at e4
  refine piece_here k2 nb nd (Z:=fun a' _=>a'.tmps[49]? = some (.bool true)∧Kn a' 151 []) (fun a w1 w2 ht h=>h) (fun W hW=>cx_hit (hE3.twin hW) hj hz) fun a5 w5 hz5 ho5=>?_
  have hE5:=hE3.old ho5
  have hoC:=hoB.trans ho5
  refine leads_cond (t:=true) (by simp [go_sem,hz5.1]) fun e6=>?_
  simp only [if_true]
  exact (cx_early7 (hoC.at e6) ((on_at w5 e6).kinds hE5.kd) hz5.2).here
 | succ m ih =>
  intro k hk w ho1 hE d
  refine piece_here hok nb nd (Z:=CL B X (k+1)) (fun a w1 w2 ht h=>h) (fun W hW=>cx_body (hE.twin hW) (by omega) (hfirst k (by omega) (by omega))) fun a2 w2 hz2 ho3=>?_
  obtain ⟨d2,rfl⟩:=hz2
  refine leads_inLoop fun e1=>?_
  exact ih (k+1) (by omega) _ ((ho1.trans ho3).at e1) ((hE.old ho3).twin (on_at w2 e1)) d2
theorem cx_co {w:World} {b:Bk} {x:List Prt} {xa:Option Addr} {xc:Nat} {vr vg vm vs vc:Value} (hR:RawAt w b vr vg vm vs vc) (hK:KindsAt w) (hP:PartsAt w xa x) (hxc:x.length≤xc) :
 Leads Tryz.prog (Leaving0 Tryz.prog fun v w'=>v=.bool true∧Old w w') (Frame.enter Tryz.prog 5 #[.agg #[vr,vg,vm,vs,vc],.agg #[.slice xa x.length xc]] .normal) [] w:=by
 have hok:=progOk.code _ _ Tryz.func5 _ cxBody_eq
 simp only [codeOk,Bool.and_eq_true] at hok
 obtain ⟨k0,k1,k2,k3,k4,k5,k6,k7,k8,k9,k10,k11,k12,k13,k14,_⟩:=hok
 have k1':=k1
 have k2':=k2
 have k6':=k6
 have k9':=k9
 rw [cx1_eq] at k1'
 rw [cx2_eq] at k2'
 rw [cx6_eq] at k6'
 rw [cx9_eq] at k9'
 simp only [codeOk,Bool.and_eq_true] at k1' k2' k6' k9'
 rw [cxFrame cxBody_eq]
 have nb:(Go.Conc.base 5).kind=.normal:=rfl
 have nd:MarksOnly []:=fun d hd=>by cases hd
 refine piece_step k0 nb nd (Z:=CX0 b x xa xc vr vg vm vs vc) (fun a w1 w2 ht h=>by obtain ⟨B,X,y,h1,h2,h3⟩:=h;exact ⟨B,X,y,h1,h2.twin ht,h3.twin ht⟩) (fun W hW=>cx_0 (d:=fun _=>undef) (hW.raw hR) (hW.kinds hK) (hW.parts hP) hxc) fun a0 w0 hz ho0=>?_
 obtain ⟨B,X,y0,⟨d0,rfl⟩,hE,hX⟩:=hz
 obtain ⟨y,hy⟩:∃ y:Bool,(y=true↔¬ (SmallB b∧bookAl b=0∧x.length≤20)):=by
  by_cases h:SmallB b∧bookAl b=0∧x.length≤20
  ·exact ⟨false,by simp only [Bool.false_eq_true,false_iff];exact fun h2=>h2 h⟩
  ·exact ⟨true,by simp only [true_iff];exact h⟩
 refine leads_seq fun d=>?_
 rw [cx1_eq]
 have hE:=hE.twin (on_at w0 d)
 have hX:=hX.twin (on_at w0 d)
 have ho0:=ho0.at d
 refine piece_step k1'.1 nb nd (Z:=CX1 B X y) (fun a w1 w2 ht h=>h) (fun W hW=>cx_1 (hE.twin hW) (hX.twin hW) hy) fun a1 w1 hz ho=>?_
 obtain ⟨d1,rfl⟩:=hz
 have hE:=hE.old ho
 have hX:=hX.old ho
 have ho1:=ho0.trans ho
 clear ho
 cases y with
 | true =>
  refine leads_cond (t:=true) (by simp [go_sem,cG]) fun da=>?_
  simp only [if_true]
  exact (cx_early2 (ho1.at da) ((on_at w1 da).kinds hE.kd) ⟨rfl,rfl,trivial⟩).here
 | false =>
  obtain ⟨hS,hk,hxl⟩:SmallB b∧bookAl b=0∧x.length≤20:=Classical.byContradiction fun h=>by have:=hy.2 h;cases this
  refine leads_cond (t:=false) (by simp [go_sem,cG]) fun dd=>?_
  simp only [Bool.false_eq_true,if_false]
  refine leads_skip fun dd2=>?_
  have hE:=BxSt.of ((hE.twin (on_at w1 dd)).twin (on_at (w1.at dd) dd2)) hS
  have hX:=(hX.twin (on_at w1 dd)).twin (on_at (w1.at dd) dd2)
  have ho2:=(ho1.at dd).at dd2
  generalize (w1.at dd).at dd2=w2 at hE hX ho2
  clear ho1 ho0
  obtain ⟨d2,hd2⟩:∃ d,cG B X (.bool false) d1=cF B X d:=fr_of (by kernel_rfl)
  rw [hd2]
  by_cases hn:NoCounts b
  ·refine pieces_co [cx 2] (by simp [k2]) nb rfl (Z:=CF B X) (fun a w1 w2 ht h=>h) (fun W hW=>wps_nq (Code.wp_mono (fun e a' w' h=>by cases e <;> first | exact h.elim | (obtain ⟨⟨d,rfl⟩,rfl⟩:=h;exact ⟨rfl,fun X1 t1=>⟨⟨d,rfl⟩,(Old.refl _).twin0 t1⟩⟩)) (cx_2 (hE.twin hW) hn))) fun a3 w3 hz ho=>?_
   obtain ⟨d3,rfl⟩:=hz
   have hE:=hE.old ho
   have hX:=hX.old ho
   have ho3:=ho2.trans ho
   clear ho ho2
   obtain ⟨t,ht⟩:∃ t,connectAl b x=t:=⟨_,rfl⟩
   refine pieces_co [cx 3,cx 4,cx 5] (by simp [k3,k4,k5]) nb rfl (Z:=CXA B X b x xa xc vr vg vm vs vc t (if t=0 then moreS b x else noBook)) (fun a w1 w2 ht h=>by obtain ⟨O,P,us1,ur,ug,um,us,uc,h1,h2,h3,h4,h5⟩:=h;exact ⟨O,P,us1,ur,ug,um,us,uc,h1,h2.twin ht,h3.twin ht,h4.twin ht,h5.twin ht⟩) (fun W hW=>cx_A (hE.twin hW) (hX.twin hW) hS hxl ht rfl) fun a4 w4 hz ho=>?_
   obtain ⟨O,P,us1,ur,ug,um,us,uc,⟨d4,rfl⟩,hE,hX,hO,hP⟩:=hz
   have ho4:=ho3.trans ho
   clear ho ho3
   rw [connectAl_one hk] at ht
   obtain ⟨u,hu⟩:∃ u,bookAl (moreS b x)=u:=⟨_,rfl⟩
   obtain ⟨y6,hy6⟩:∃ y,(u != 0)=y:=⟨_,rfl⟩
   refine leads_seq fun e1=>?_
   rw [cx6_eq]
   have hE:=hE.twin (on_at w4 e1)
   have hX:=hX.twin (on_at w4 e1)
   have hO:=hO.twin (on_at w4 e1)
   have hP:=hP.twin (on_at w4 e1)
   have ho4:=ho4.at e1
   generalize w4.at e1=w5 at hE hX hO hP ho4
   refine pieces_co [sql (cx 6),sql (sqr (cx 6))] (by simp [k6'.1,k6'.2.1]) nb rfl (Z:=CX6 B X O P t u y6) (fun a w1 w2 ht h=>h) (fun W hW=>cx_6 (hO.twin hW) (fun m hm=>hS.names m hm) hu hy6) fun a6 w6 hz ho=>?_
   obtain ⟨h69,d6,rfl⟩:=hz
   have hE:=hE.old ho
   have hX:=hX.old ho
   have hO:=hO.old ho
   have hP:=hP.old ho
   have ho6:=ho4.trans ho
   clear ho ho4
   cases y6 with
   | true =>
    have hu0:u≠0:=by simpa using hy6
    have htu:t=u:=by
     rw [← ht]
     unfold openAl
     rw [if_pos (by rw [hu];exact hu0),hu]
    subst htu
    rw [if_neg hu0] at hP
    refine leads_cond (t:=true) (by simp [go_sem,h69]) fun e2=>?_
    simp only [if_true]
    have hP:=hP.twin (on_at w6 e2)
    exact (cx_early13 (ho6.at e2) hP.kd hP (lt_of_cell hP.c0) ⟨rfl,rfl,rfl,rfl,rfl,trivial⟩).here
   | false =>
    have hu0:u=0:=by simpa using hy6
    subst hu0
    refine leads_cond (t:=false) (by simp [go_sem,h69]) fun e2=>?_
    simp only [Bool.false_eq_true,if_false]
    refine leads_skip fun e3=>?_
    have hE:=(hE.twin (on_at w6 e2)).twin (on_at _ e3)
    have hX:=(hX.twin (on_at w6 e2)).twin (on_at _ e3)
    have hO:=(hO.twin (on_at w6 e2)).twin (on_at _ e3)
    have hP:=(hP.twin (on_at w6 e2)).twin (on_at _ e3)
    have ho6:=(ho6.at e2).at e3
    generalize (w6.at e2).at e3=w7 at hE hX hO hP ho6
    obtain ⟨n,hn9⟩:∃ n,histN b=n:=⟨_,rfl⟩
    obtain ⟨y9,hy9⟩:∃ y,(n == 0)=y:=⟨_,rfl⟩
    have hnl:((pasts b).length:Int)=n:=by rw [← hn9];unfold histN;rw [if_pos hk]
    refine pieces_co [cx 7,cx 8] (by simp [k7,k8]) nb rfl (Z:=CXN B X O P t n) (fun a w1 w2 ht h=>h) (fun W hW=>cx_7 (hE.twin hW) hS hk hn9) fun a8 w8 hz ho=>?_
    obtain ⟨d8,rfl⟩:=hz
    have hE:=hE.old ho
    have hX:=hX.old ho
    have hO:=hO.old ho
    have hP:=hP.old ho
    have ho8:=ho6.trans ho
    clear ho ho6
    rw [openAl_zero hu] at ht
    cases y9 with
    | true =>
     have hn0:n=0:=by simpa using hy9
     have hpn:pasts (moreS b x)=[]:=(pasts_moreS_nil hk hn x).2 (List.eq_nil_of_length_eq_zero (by omega))
     rw [if_pos hpn] at ht
     subst ht
     rw [if_neg (by decide)] at hP
     refine leads_seq fun e4=>?_
     rw [cx9_eq]
     have hP:=hP.twin (on_at w8 e4)
     refine piece_step k9'.1 nb nd (Z:=CX9 B X O P 10 n true) (fun a w1 w2 ht h=>h) (fun W hW=>cx_9 hy9) fun a9 w9 hz ho=>?_
     obtain ⟨h89,d9,rfl⟩:=hz
     have hP:=hP.old ho
     refine leads_cond (t:=true) (by simp [go_sem,h89]) fun e5=>?_
     simp only [if_true]
     have hP:=hP.twin (on_at w9 e5)
     exact (cx_early18 (((ho8.at e4).trans ho).at e5) hP.kd hP (lt_of_cell hP.c0) ⟨rfl,rfl,rfl,rfl,trivial⟩).here
    | false =>
     have hn0:n≠0:=by simpa using hy9
     have hpn1:pasts b≠[]:=fun e=>hn0 (by rw [← hnl,e];rfl)
     have hpn:pasts (moreS b x)≠[]:=fun e=>hpn1 ((pasts_moreS_nil hk hn x).1 e)
     rw [if_neg hpn] at ht
     subst ht
     rw [if_pos rfl] at hP
     have hoB:openAl b 0=0:=by rw [openAl_zero hk,if_neg hpn1]
     have hoM:openAl (moreS b x) 0=0:=by rw [openAl_zero hu,if_neg hpn]
     obtain ⟨m,hm⟩:∃ m,histN (moreS b x)=m:=⟨_,rfl⟩
     have hml:n * ((x.length:Int)+1)=m:=by
      rw [← hm,← hnl]
      unfold histN
      rw [if_pos hu,pasts_moreS_len hk hn]
     obtain ⟨l,hl⟩:∃ l,missI b=l:=⟨_,rfl⟩
     have hl2:missI (moreS b x)=l:=by rw [missI_moreS hk hn,hl]
     have hll:l.length≤1000000:=by rw [← hl];have:=missI_bd hk;omega
     have hple:=pasts_le (bookAl_ok hu).1
     refine leads_seq fun e4=>?_
     rw [cx9_eq]
     have hE:=hE.twin (on_at w8 e4)
     have hX:=hX.twin (on_at w8 e4)
     have hO:=hO.twin (on_at w8 e4)
     have hP:=hP.twin (on_at w8 e4)
     refine piece_step k9'.1 nb nd (Z:=CX9 B X O P 0 n false) (fun a w1 w2 ht h=>h) (fun W hW=>cx_9 hy9) fun a9 w9 hz ho=>?_
     obtain ⟨h89,d9,rfl⟩:=hz
     have hE:=hE.old ho
     have hX:=hX.old ho
     have hO:=hO.old ho
     have hP:=hP.old ho
     have ho9:=(ho8.at e4).trans ho
     clear ho
     refine leads_cond (t:=false) (by simp [go_sem,h89]) fun e5=>?_
     simp only [Bool.false_eq_true,if_false]
     refine leads_skip fun e6=>?_
     have hE:=(hE.twin (on_at w9 e5)).twin (on_at _ e6)
     have hX:=(hX.twin (on_at w9 e5)).twin (on_at _ e6)
     have hO:=(hO.twin (on_at w9 e5)).twin (on_at _ e6)
     have hP:=(hP.twin (on_at w9 e5)).twin (on_at _ e6)
     have ho9:=(ho9.at e5).at e6
     generalize (w9.at e5).at e6=wA at hE hX hO hP ho9
     refine pieces_co [cx 10,cx 11,cx 12,cx 13] (by simp [k10,k11,k12,k13]) nb rfl (Z:=CXE X n m x xa xc l l) (fun a w1 w2 ht h=>by obtain ⟨qa,qc,pa,pc,h1,h2,h3,h4,h5⟩:=h;exact ⟨qa,qc,pa,pc,h1,h2.twin ht,ht.kinds h3,ht.parts h4,ht.parts h5⟩) (fun W hW=>cx_B (hE.twin hW) (hX.twin hW) (hO.twin hW) (hP.twin hW) hS.names (fun m hm=>hS.names m hm) hu hoB hoM hm hl hl2) fun aB wB hz ho=>?_
     obtain ⟨qa,qc,pa,pc,⟨dB,rfl⟩,hX,hKB,hq,hp⟩:=hz
     have hw1:IntKind.i64.wrap ((x.length:Int)+1)=(x.length:Int)+1:=wrapI (by omega) (by omega)
     have hmb:0≤m∧m≤2000:=by
      rw [← hm]
      unfold histN
      rw [if_pos hu]
      omega
     have hw2:IntKind.i64.wrap (n * ((x.length:Int)+1))=m:=by rw [hml];exact wrapI (by omega) (by omega)
     exact (cx_last (ho9.trans ho) hKB hX (lt_of_cell hX.c) hw1 hw2 hq hp hll ⟨rfl,rfl,rfl,rfl,rfl,rfl,rfl,rfl,rfl,rfl,trivial⟩).here
  ·have hex:∃ j,∃ h:j < b.rs.length,b.rs[j].k=4∨b.rs[j].k=5:=by
    refine Classical.byContradiction fun hc=>hn fun r hr=>?_
    obtain ⟨i,hi,rfl⟩:=List.mem_iff_getElem.1 hr
    exact ⟨fun e=>hc ⟨i,hi,.inl e⟩,fun e=>hc ⟨i,hi,.inr e⟩⟩
   obtain ⟨j,hj,hjz,hfirst⟩:∃ j,∃ h:j < b.rs.length,(b.rs[j].k=4∨b.rs[j].k=5)∧∀ i (h:i < b.rs.length),i < j→b.rs[i].k≠4∧b.rs[i].k≠5:=by
    obtain ⟨j,⟨h1,h2⟩,h3⟩:=least_ix (Q:=fun j=>∃ h:j < b.rs.length,b.rs[j].k=4∨b.rs[j].k=5) hex
    exact ⟨j,h1,h2,fun i hi hlt=>⟨fun e=>h3 i hlt ⟨hi,.inl e⟩,fun e=>h3 i hlt ⟨hi,.inr e⟩⟩⟩
   refine leads_seq fun e1=>?_
   rw [cx2_eq]
   have hE:=hE.twin (on_at w2 e1)
   refine piece_step k2'.1 nb nd (Z:=CL B X 0) (fun a w1 w2 ht h=>h) (fun W hW=>cx_l0) fun a3 w3 hz ho=>?_
   obtain ⟨d3,rfl⟩:=hz
   have hE:=hE.old ho
   have ho3:=(ho2.at e1).trans ho
   refine leads_block fun e5=>?_
   refine leads_loop fun e6=>?_
   exact cx_rounds k2'.2 hj hjz hfirst j 0 (by omega) _ ((ho3.at e5).at e6) ((hE.twin (on_at w3 e5)).twin (on_at _ e6)) d3
end Go.Proofs.YtfggbepickdokaaGreatDoor
namespace Go.Proofs.YtfggbepickdokaaGreatDoor
open Go.ChangeShapes Go.WideShapes Go.ChangeAt Go.RowKit Sp
section
variable {H:Type} {enc:TypeId × Value→H} {w:World} {base n:Nat} {held:Bool} {y:DataW H × List MemPlace}
theorem open_sesv {v:Value} (hv:∃ cs,v=.agg cs∧cs.size=Tryz.prog.cellsOf 40) (h:DataW.trod enc Tryz.prog w base (fun _=>true) held n 40 v.cells.toList=some y):∃ a l c,v=.agg #[.slice a (List.length l) c]∧List.length l≤c∧PartsAt w a l:=by
 obtain ⟨c,rfl,hc⟩:=hv
 rw [cellsSes] at hc
 obtain ⟨xs,k,_,_,hl,hx,hf⟩:=DataW.trod_struct Tryz.underlying40 h
 rw [cellsSes] at hl
 simp only [Value.cells] at hl hf
 have hx3:xs.length=1:=hx
 have h0:=hf 0 _ rfl
 obtain ⟨c⟩:=c
 simp only at hl h0
 match c,hl,xs,hx3 with
 | [a0],_,[x0],_ =>
  simp [cellsParts] at h0
  obtain ⟨a,l,cc,e,hle,hp⟩:=open_parts h0
  cases e
  exact ⟨a,l,cc,rfl,hle,hp⟩
end
end Go.Proofs.YtfggbepickdokaaGreatDoor
