/- Leads to StorePacked of chapter 6: PK6 U14. -/
import Derived.Test.YtgemjjdkjmpmlaaGreatDoorPK02
set_option maxHeartbeats 16000000
set_option maxRecDepth 100000
set_option linter.all false
namespace Go.Proofs.YtgemjjdkjmpmlaaGreatDoor
open Go.RowKit Go.Maps Sp Mt Go.Conc
variable {B lc pc nc oc kc ln pn:Nat} {b:Bk} {s t u kk2 jj2:Int} {fd is:Bool} {vr vg vm vs vc x:Value} {w w0:World} {la pa na oa ka:Option Addr} {ks q ql ot ot2:List Int} {l:List Prt} {d:Nat→Value}
theorem pk_co {w:World} {b:Bk} {ks:List Int} {ka:Option Addr} {kc:Nat} {s:Int} {vr vg vm vs vc:Value} (hR:RawAt w b vr vg vm vs vc) (hK:KindsAt w) (hU:U16sAt w ka ks) (hs0:0≤s) (hs1:s≤65535) :
 Leads Tryz.prog (Leaving0 Tryz.prog fun v w'=>v=.bool true∧Old w w') (Frame.enter Tryz.prog 8 #[.agg #[vr,vg,vm,vs,vc],.slice ka ks.length kc,.int .u16 s] .normal) [] w:=by
 have hok:=progOk.code _ _ Tryz.func8 _ pkBody_eq
 simp only [codeOk,Bool.and_eq_true] at hok
 obtain ⟨k0,k1,k2,k3,k4,k5,k6,k7,k8,k9,k10,k11,k12,k13,k14,k15,_⟩:=hok
 have k1':=k1
 have k5':=k5
 have k11':=k11
 rw [pk1_eq] at k1'
 rw [pk5_eq] at k5'
 rw [pk11_eq] at k11'
 simp only [codeOk,Bool.and_eq_true] at k1' k5' k11'
 rw [pkFrame pkBody_eq]
 have nb:(Go.Conc.base 8).kind=.normal:=rfl
 have nd:MarksOnly []:=fun d hd=>by cases hd
 refine piece_step k0 nb nd (Z:=KZ0 w.heap.size b s vr vg vm vs vc ka ks kc) (fun a w1 w2 ht h=>by obtain ⟨B,x,h1,h2⟩:=h;exact ⟨B,x,h1,h2.twin ht⟩) (fun W hW=>by have:=pk_0 (s:=s) (ka:=ka) (ks:=ks) (kc:=kc) (d:=fun _=>undef) (hW.raw hR) (hW.kinds hK);rwa [hW.size] at this) fun a0 w0 hz ho0=>?_
 obtain ⟨B,x0,⟨d0,rfl⟩,hE⟩:=hz
 have hU:=hU.ol ho0
 obtain ⟨x,hx⟩:∃ x:Bool,(x=true↔¬ (SmallB b∧bookAl b=0)):=by
  by_cases h:SmallB b∧bookAl b=0
  ·exact ⟨false,by simp only [Bool.false_eq_true,false_iff];exact fun h2=>h2 h⟩
  ·exact ⟨true,by simp only [true_iff];exact h⟩
 refine leads_seq fun d=>?_
 rw [pk1_eq]
 have hE:=hE.twin (on_at w0 d)
 have hU:=hU.tw (on_at w0 d)
 have ho0:=ho0.at d
 refine piece_step k1'.1 nb nd (Z:=KZ1 B s vr vg vm vs vc ka ks kc x) (fun a w1 w2 ht h=>h) (fun W hW=>pk_1 (hE.twin hW) hx) fun a1 w1 hz ho=>?_
 obtain ⟨d1,rfl⟩:=hz
 have hE:=hE.old ho
 have hU:=hU.ol ho
 have ho1:=ho0.trans ho
 clear ho
 cases x with
 | true =>
  refine leads_cond (t:=true) (by simp [go_sem,kG]) fun da=>?_
  simp only [if_true]
  exact (pk_early2 (ho1.at da) ((on_at w1 da).kinds hE.kd) ⟨rfl,rfl,trivial⟩).here
 | false =>
  obtain ⟨hS,hk⟩:SmallB b∧bookAl b=0:=Classical.byContradiction fun h=>by have:=hx.2 h;cases this
  refine leads_cond (t:=false) (by simp [go_sem,kG]) fun dd=>?_
  simp only [Bool.false_eq_true,if_false]
  refine leads_skip fun dd2=>?_
  have hE:=PkSt.of ((hE.twin (on_at w1 dd)).twin (on_at (w1.at dd) dd2)) hS
  have hU:=(hU.tw (on_at w1 dd)).tw (on_at (w1.at dd) dd2)
  have ho2:=(ho1.at dd).at dd2
  generalize (w1.at dd).at dd2=w2 at hE hU ho2
  clear ho1 ho0
  obtain ⟨t,ht⟩:∃ t,s % 1000=t:=⟨_,rfl⟩
  have ht0:0≤t:=by omega
  have ht1:t≤999:=by omega
  obtain ⟨l,hl⟩:∃ l,miss b=l:=⟨_,rfl⟩
  obtain ⟨⟨q,fd⟩,hpq⟩:∃ q,packQ b t=q:=⟨_,rfl⟩
  obtain ⟨u,hu⟩:∃ u,openAl b 0=u:=⟨_,rfl⟩
  refine pieces_co [pk 2,pk 3,pk 4] (by simp [k2,k3,k4]) nb rfl (Z:=KZA B b vr vg vm vs vc ka ks kc t l u q fd) (fun a w1 w2 ht h=>by obtain ⟨la,lc,pa,pc,h1,h2,h3,h4⟩:=h;exact ⟨la,lc,pa,pc,h1,h2.twin ht,ht.parts h3,ht.ints h4⟩) (fun W hW=>pk_A (hE.twin hW) hS hs0 hs1 ht ht0 ht1 hl hu hpq) fun a3 w3 hz ho=>?_
  obtain ⟨la,lc,pa,pc,⟨d3,rfl⟩,hG,hL,hQ⟩:=hz
  have hU:=hU.ol ho
  have ho3:=ho2.trans ho
  clear ho ho2 hE
  rcases openAl_two hk with hz | hz
  ·rw [hz] at hu
   subst hu
   have hmi:missI b=l:=by rw [← hl];unfold miss;rw [if_pos hz]
   obtain ⟨ot,hot⟩:∃ ot,planP ks (loadsI b)=ot:=⟨_,rfl⟩
   obtain ⟨o,hpo⟩:=planP_ok ks (loadsI_nn hk)
   rw [hot] at hpo
   have hotl:ot.length=b.ms.length:=by rw [← hot,planP_len,loadsI_len]
   obtain ⟨is,his⟩:∃ is,goodI b ot o t=is:=⟨_,rfl⟩
   have hin:=plansI_in (by rw [loadsI_len,hotl]) hpo
   refine pieces_co [pk 5,pk 6,pk 7,pk 8,pk 9,pk 10] (by simp [k5,k6,k7,k8,k9,k10]) nb rfl (Z:=KZB B b vr vg vm vs vc t pa q pc fd ot is) (fun a w1 w2 ht h=>by obtain ⟨na,oa,nc,oc,h1,h2,h3,h4,h5⟩:=h;exact ⟨na,oa,nc,oc,h1,h2.twin ht,ht.ints h3,ht.ints h4,ht.ints h5⟩) (fun W hW=>pk_B (hG.twin hW) (hW.parts hL) (hW.ints hQ) (hU.tw hW) hS hk hz ht0 ht1 hmi hot hpo his) fun a5 w5 hz5 ho=>?_
   obtain ⟨na,oa,nc,oc,⟨d5,rfl⟩,hG,hQ,hN,hO⟩:=hz5
   have ho5:=ho3.trans ho
   clear ho ho3
   refine leads_seq fun e1=>?_
   rw [pk11_eq]
   have hG:=hG.twin (on_at w5 e1)
   have hQ:=(on_at w5 e1).ints hQ
   have hN:=(on_at w5 e1).ints hN
   have hO:=(on_at w5 e1).ints hO
   have ho5:=ho5.at e1
   generalize w5.at e1=w6 at hG hQ hN hO ho5
   refine piece_step k11'.1 nb nd (Z:=KZ11 B t pa q.length pc fd na oa b.ms.length nc oc is) (fun a w1 w2 ht h=>h) (fun W hW=>pk_11) fun a7 w7 hz7 ho=>?_
   obtain ⟨h84,d7,rfl⟩:=hz7
   have hG:=hG.old ho
   have hQ:=ho.ints hQ
   have hN:=ho.ints hN
   have hO:=ho.ints hO
   have ho7:=ho5.trans ho
   clear ho ho5
   unfold packQ at hpq
   rw [if_pos hz] at hpq
   cases hp:packI b (loadsI b) t with
   | none =>
    rw [hp] at hpq
    obtain rfl:q=[]:=(congrArg Prod.fst hpq).symm
    obtain rfl:fd=false:=(congrArg Prod.snd hpq).symm
    have hng:=pack_none hp _ hin
    have hng:is=false:=by rw [← his];exact hng
    subst hng
    refine leads_cond (t:=true) (by have h:=h84;simp only [List.length_nil,Bool.not_false] at h;simp [go_sem,h]) fun e2=>?_
    simp only [if_true]
    exact (pk_early16 (ho7.at e2) ((on_at w7 e2).kinds hG.kd) ⟨rfl,rfl,rfl,rfl,trivial⟩).here
   | some y =>
    rw [hp] at hpq
    obtain ⟨hym,hyg,hyb⟩:=pack_law hp
    obtain ⟨q',o2⟩:=y
    obtain rfl:q=q':=(congrArg Prod.fst hpq).symm
    obtain rfl:fd=true:=(congrArg Prod.snd hpq).symm
    obtain ⟨hq1,hq2⟩:=plansI_mem hym
    rw [loadsI_len] at hq2
    have hyg:goodI b q o2 t=true:=hyg
    have hq1:planOk (loadsI b) q=some o2:=hq1
    have hq2:q.length=b.ms.length:=hq2
    refine leads_cond (t:=false) (by simp [go_sem,h84]) fun e2=>?_
    simp only [Bool.false_eq_true,if_false]
    refine leads_skip fun e3=>?_
    have hG:=(hG.twin (on_at w7 e2)).twin (on_at (w7.at e2) e3)
    have hQ:=(on_at (w7.at e2) e3).ints ((on_at w7 e2).ints hQ)
    have hN:=(on_at (w7.at e2) e3).ints ((on_at w7 e2).ints hN)
    have hO:=(on_at (w7.at e2) e3).ints ((on_at w7 e2).ints hO)
    have ho7:=(ho7.at e2).at e3
    generalize (w7.at e2).at e3=w8 at hG hQ hN hO ho7
    have hml:b.ms.length≤20:=hS.1
    refine pieces_co [pk 12,pk 13,pk 14] (by simp [k12,k13,k14]) nb rfl (Z:=KZC pa q pc ot is (o.length:Int) (o2.length:Int)) (fun a w1 w2 ht h=>by obtain ⟨oa,oc,h1,h2,h3,h4⟩:=h;exact ⟨oa,oc,h1,ht.kinds h2,ht.ints h3,ht.ints h4⟩) (fun W hW=>pk_C (hG.twin hW) (hW.ints hQ) (hW.ints hN) (hW.ints hO) hS hz ht0 ht1 hotl hq2 hpo hq1 hyg) fun a9 w9 hz9 ho=>?_
    obtain ⟨oa,oc,⟨d9,rfl⟩,hK9,hQ,hO⟩:=hz9
    have ho9:=ho7.trans ho
    cases is with
    | false=>exact (pk_last0 ho9 hK9 ⟨rfl,rfl,rfl,rfl,rfl,rfl,rfl,rfl,rfl,trivial⟩).here
    | true =>
     rcases hyb _ hin his with h1 | ⟨h1,h2⟩
     ·exact (pk_last1 ho9 hK9 (by simp only at h1;omega) ⟨rfl,rfl,rfl,rfl,rfl,rfl,rfl,rfl,rfl,trivial⟩).here
     ·simp only at h1 h2
      rw [h1]
      exact (pk_last2 ho9 hK9 hQ hO (by omega) (by omega) h2 ⟨rfl,rfl,rfl,rfl,rfl,rfl,rfl,rfl,rfl,trivial⟩).here
  ·rw [hz] at hu
   subst hu
   unfold packQ at hpq
   rw [if_neg (by rw [hz];decide)] at hpq
   cases hpq
   refine leads_seq fun e1=>?_
   rw [pk5_eq]
   have hG:=hG.twin (on_at w3 e1)
   have ho3:=ho3.at e1
   generalize w3.at e1=w4 at hG ho3
   refine piece_step k5'.1 nb nd (Z:=KZ5 B ka ks kc t la l.length lc pa pc) (fun a w1 w2 ht h=>h) (fun W hW=>pk_5) fun a5 w5 hz5 ho=>?_
   obtain ⟨h40,d5,rfl⟩:=hz5
   refine leads_cond (t:=true) (by simp [go_sem,h40]) fun e2=>?_
   simp only [if_true]
   exact (pk_early7 ((ho3.trans ho).at e2) ((on_at w5 e2).kinds (ho.kinds hG.kd)) ⟨rfl,rfl,rfl,rfl,rfl,rfl,trivial⟩).here
end Go.Proofs.YtgemjjdkjmpmlaaGreatDoor
namespace Go.Proofs.YtgemjjdkjmpmlaaGreatDoor
open Go.ChangeShapes Go.WideShapes Go.ChangeAt Go.RowKit Sp
theorem cellsU16:Tryz.prog.cellsOf 78=1:=by kernel_rfl
theorem u16_bd {n:Int} (h:(Lit.int .u16 n).wf=true):0≤n∧n≤65535:=by
 simp [Lit.wf,IntKind.min,IntKind.max,IntKind.signed,IntKind.bits] at h
 omega
section
variable {H:Type} {enc:TypeId × Value→H} {w:World} {base n:Nat} {held:Bool} {cs:List Value} {y:DataW H × List MemPlace}
theorem open_u16s (h:DataW.trod enc Tryz.prog w base (fun _=>true) held n 27 cs=some y):∃ a l c,cs=[.slice a (List.length l) c]∧U16sAt w a l:=by
 rcases Deep.open_slice1 Tryz.underlying27 cellsU16 h with ⟨hcs,_⟩ | ⟨a,len,cap,m,k,V,D,Pl,hcs,hb,hl,hm,hmm,_,hx⟩
 ·exact ⟨none,[],0,hcs,fun i hi=>absurd hi (Nat.not_lt_zero _)⟩
 ·simp only [if_true] at hmm
  obtain ⟨M,hM⟩:=Deep.choose_lt (α:=Int) (p:=fun i m=>w.cell? (a.add i)=some (.int .u16 m)∧0≤m∧m≤65535) (fun i hi=>by
   obtain ⟨h1,h2⟩:=hx i (show i < m from hi)
   obtain ⟨q,e,_,hw⟩:=DataW.trod_int Tryz.underlying78 h2
   exact ⟨q,h1.trans (congrArg some (List.cons.inj e).1),u16_bd hw⟩)
  refine ⟨some a,(List.range len).map M,cap,by rw [hcs];simp,fun i hi=>?_⟩
  have hi2:i < len:=by simpa using hi
  have hs:a.spot=none:=by simpa [Addr.add] using World.cell?_spot (hM 0 (by omega)).1
  obtain ⟨b,o,spot⟩:=a
  simp only at hs
  subst hs
  obtain ⟨c0,c1,c2⟩:=hM i (by omega)
  simp only [addr_plus] at c0
  refine ⟨b,o,rfl,lt_of_cell c0,?_⟩
  simp only [List.getElem_map,List.getElem_range]
  exact ⟨c0,c1,c2⟩
end
end Go.Proofs.YtgemjjdkjmpmlaaGreatDoor
