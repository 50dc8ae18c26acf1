/- StoreTapes -/
import Derived.Test.YtgagoahfdnnpkaaGreatDoorSG29
set_option maxHeartbeats 8000000
set_option maxRecDepth 100000
set_option linter.all false
namespace Go.Proofs.YtgagoahfdnnpkaaGreatDoor
section
open Go.RowKit Go.Maps Sp
theorem inB_time {now:Int} (h:inB now 0 999=true):0<=now/\now<=999:=by unfold inB at h;simp at h;exact h
section
variable {b:Bk} {vr vg vm vs vc:Value} {w:World}
theorem rTimes_no (hB:BookAt w b vr vg vm vs vc) (hN:∀ m∈b.ms,m.name.size<=1000000) {pa:Option Addr} {pc:Nat} {plan:List Int} {pn:Nat} (hpl:pn=plan.length) (hp6:plan.length<=1000) (hP:IntsAt w pa plan) (now:Int) {t:Int} (ht:plannedAl b plan now=t) (h0:t≠0) :
 Calls Tryz.prog 10 #[.agg #[vr,vg,vm,vs,vc],.slice pa pn pc,.int .i64 now] w fun e w'=>e=.returned (.tuple #[.slice none 0 0,.int .i64 t])/\Below w.heap.size w w':=by
 have HB:=Hh hB;have HN:=Hh hN;have HP:=Hh hP;have HT:=Hh ht;have HT0:=Hh h0;have HPL:=Hh hpl;have HP6:=Hh hp6;have hz3:(t != 0)=true:=by simpa using h0
 obtain ⟨rfl,rfl,⟨ma,mc,rfl,_,_⟩,⟨sa,sc,rfl,_,_⟩,ra,rc,rfl,_,_⟩:=id hB;clear hB hN hP ht h0 hpl
 go_enter Tryz.func10,Tryz.ntmps10
 go_wp2_with (go_at_call 47;(with_reducible refine (rPlanned_no (HB.out.below (bel)) HN.out HPL.out HP6.out (HP.out.below (bel)) now HT.out HT0.out).mono ?_);rintro e w1 ⟨rfl,hb1⟩);exact bodyPost_ret (v:=.tuple #[.slice none 0 0,.int .i64 t]) (by simp [results,Tryz.results10,go_sem, *]) rfl ⟨rfl,bel⟩
theorem rTimes_ok (hB:BookAt w b vr vg vm vs vc) (hN:∀ m∈b.ms,m.name.size<=1000000) {pa:Option Addr} {pc:Nat} {plan:List Int} {pn:Nat} (hpl:pn=plan.length) (hP:IntsAt w pa plan) (now:Int) (ht:plannedAl b plan now=0) {o:List Int} (ho:planOk (loadsI b) plan=some o) :
 Calls Tryz.prog 10 #[.agg #[vr,vg,vm,vs,vc],.slice pa pn pc,.int .i64 now] w fun e w'=>∃ a c,e=.returned (.tuple #[.slice a (endsI b.gap now o).length c,.int .i64 0])/\IntsAt w' a (endsI b.gap now o)/\Below w.heap.size w w':=by
 subst hpl;have HB:=Hh hB;have HN:=Hh hN;have HP:=Hh hP;have HT:=Hh ht;have HO:=Hh ho;obtain ⟨hk,hi,hl,-,-⟩:=plannedAl_yes ht;obtain ⟨hn0,hn1⟩:=inB_time hi;have hml:=(bookAl_ok hk).1.ml;have HK:=Hh hk;have HLL:=Hh (show (loadsI b).length=plan.length by rw [hl];exact loadsOf_length _ _);have HLB:=Hh (loadsI_bd hk);have HP6:=Hh (show plan.length<=50 by omega);obtain ⟨rfl,rfl,⟨ma,mc,rfl,_,_⟩,⟨sa,sc,rfl,_,_⟩,ra,rc,rfl,_,_⟩:=id hB;clear hB hN hP ht ho hk hi hl
 go_enter Tryz.func10,Tryz.ntmps10
 go_wp2_with (first
  | (go_at_call 47;(with_reducible refine (rPlanned_ok (HB.out.below (bel)) HN.out rfl (by have:=HP6.out;omega) (HP.out.below (bel)) now HT.out).mono ?_);rintro e w1 ⟨la,lc,rfl,hL,hb1⟩;have HL:=Hh hL;clear hL;obtain ⟨hc1,hf1⟩:=bcell hb1;have hz1:w.heap.size < w1.heap.size:=(by have:=hb1.size;simp at this;omega))
  | (go_at_call 48;(with_reducible refine (rEnds_at (HB.out.below (bel)) HK.out (HL.out.below (bel)) (HP.out.below (bel)) rfl rfl HLL.out HP6.out HLB.out HO.out hn0 hn1).mono ?_);rintro e w2 ⟨ea,ec,rfl,he2,hb2⟩;have HE:=Hh (intsV_parts he2).2.1;clear he2))
 exact bodyPost_ret (v:=.tuple #[.slice ea (endsI b.gap now o).length ec,.int .i64 0]) (by simp [results,Tryz.results10,go_sem]) rfl ⟨ea,ec,rfl,HE.out,bel⟩
theorem rGood_no (hB:BookAt w b vr vg vm vs vc) (hN:∀ m∈b.ms,m.name.size<=1000000) {pa:Option Addr} {pc:Nat} {plan:List Int} {pn:Nat} (hpl:pn=plan.length) (hp6:plan.length<=1000) (hP:IntsAt w pa plan) (now:Int) {t:Int} (ht:plannedAl b plan now=t) (h0:t≠0) :
 Calls Tryz.prog 12 #[.agg #[vr,vg,vm,vs,vc],.slice pa pn pc,.int .i64 now] w fun e w'=>e=.returned (.tuple #[.bool false,.int .i64 t])/\Below w.heap.size w w':=by
 have HB:=Hh hB;have HN:=Hh hN;have HP:=Hh hP;have HT:=Hh ht;have HT0:=Hh h0;have HPL:=Hh hpl;have HP6:=Hh hp6;have hz3:(t != 0)=true:=by simpa using h0
 obtain ⟨rfl,rfl,⟨ma,mc,rfl,_,_⟩,⟨sa,sc,rfl,_,_⟩,ra,rc,rfl,_,_⟩:=id hB;clear hB hN hP ht h0 hpl
 go_enter Tryz.func12,Tryz.ntmps12
 go_wp2_with (go_at_call 47;(with_reducible refine (rPlanned_no (HB.out.below (bel)) HN.out HPL.out HP6.out (HP.out.below (bel)) now HT.out HT0.out).mono ?_);rintro e w1 ⟨rfl,hb1⟩);exact bodyPost_ret (v:=.tuple #[.bool false,.int .i64 t]) (by simp [results,Tryz.results12,go_sem, *]) rfl ⟨rfl,bel⟩
theorem rGood_ok (hB:BookAt w b vr vg vm vs vc) (hN:∀ m∈b.ms,m.name.size<=1000000) {pa:Option Addr} {pc:Nat} {plan:List Int} {pn:Nat} (hpl:pn=plan.length) (hP:IntsAt w pa plan) (now:Int) (ht:plannedAl b plan now=0) {o:List Int} (ho:planOk (loadsI b) plan=some o) {v:Bool} (hv:goodI b plan o now=v) :
 Calls Tryz.prog 12 #[.agg #[vr,vg,vm,vs,vc],.slice pa pn pc,.int .i64 now] w fun e w'=>e=.returned (.tuple #[.bool v,.int .i64 0])/\Below w.heap.size w w':=by
 subst hpl;have HB:=Hh hB;have HN:=Hh hN;have HP:=Hh hP;have HT:=Hh ht;have HO:=Hh ho;have HV:=Hh hv;obtain ⟨hk,hi,hl,-,-⟩:=plannedAl_yes ht;obtain ⟨hn0,hn1⟩:=inB_time hi;have hml:=(bookAl_ok hk).1.ml;have HK:=Hh hk;have HLL:=Hh (show (loadsI b).length=plan.length by rw [hl];exact loadsOf_length _ _);have HLB:=Hh (loadsI_bd hk);have HPM:=Hh hl;have HP6:=Hh (show plan.length<=50 by omega);obtain ⟨rfl,rfl,⟨ma,mc,rfl,_,_⟩,⟨sa,sc,rfl,_,_⟩,ra,rc,rfl,_,_⟩:=id hB;clear hB hN hP ht ho hk hi hl hv
 go_enter Tryz.func12,Tryz.ntmps12
 go_wp2_with (first
  | (go_at_call 47;(with_reducible refine (rPlanned_ok (HB.out.below (bel)) HN.out rfl (by have:=HP6.out;omega) (HP.out.below (bel)) now HT.out).mono ?_);rintro e w1 ⟨la,lc,rfl,hL,hb1⟩;have HL:=Hh hL;clear hL;obtain ⟨hc1,hf1⟩:=bcell hb1;have hz1:w.heap.size < w1.heap.size:=(by have:=hb1.size;simp at this;omega))
  | (go_at_call 42;(with_reducible refine (rGoodOf_at (HB.out.below (bel)) HK.out (HL.out.below (bel)) (HP.out.below (bel)) rfl rfl HLL.out HPM.out HLB.out HO.out hn0 hn1 HV.out).mono ?_);rintro e w2 ⟨rfl,hb2⟩))
 exact bodyPost_ret (v:=.tuple #[.bool v,.int .i64 0]) (by simp [results,Tryz.results12,go_sem]) rfl ⟨rfl,bel⟩
end
theorem timedAl_cases {b:Bk} {now t:Int} (ht:openAl b (timedAsk now)=t) (h0:t≠0) :
 bookAl b=t\/(bookAl b=0/\inB now 0 999=false/\t=1)\/(bookAl b=0/\inB now 0 999=true/\askedAl b true=10/\t=10):=by
 rw [asked_open];unfold openAl timedAsk at *;by_cases h1:bookAl b=0
 ·by_cases h2:inB now 0 999=true
  ·by_cases h4:pasts b=[]
   ·simp [h1,h2,h4] at ht ⊢;first | exact ht.symm | exact .inr ht.symm
   ·simp [h1,h2,h4] at ht;exact absurd ht.symm h0
  ·have h2':inB now 0 999=false:=by simpa using h2
   simp [h1,h2'] at ht ⊢;first | exact ht.symm | exact .inr ht.symm
 ·simp [h1] at ht;exact .inl ht
theorem timedAl_yes {b:Bk} {now:Int} (h:openAl b (timedAsk now)=0):bookAl b=0/\inB now 0 999=true/\askedAl b true=0:=by
 rw [asked_open];unfold openAl timedAsk at *;by_cases k1:bookAl b=0
 ·by_cases k2:inB now 0 999=true
  ·by_cases k4:pasts b=[]
   ·simp [k1,k2,k4] at h
   ·simp [k1,k2,k4]
  ·have k2':inB now 0 999=false:=by simpa using k2
   simp [k1,k2'] at h
 ·simp [k1] at h
def packK (b:Bk) (now:Int) (k:Nat):Option (List Int × List Int):=((plansI (loadsI b)).take k).foldl (packStep b now) none
def BestK (b:Bk) (now:Int) (k:Nat) (t:Int):Prop:=(t=-1/\packK b now k=none)\/∃ (j:Nat) (y:List Int × List Int),t=j/\j < k/\(plansI (loadsI b))[j]? = some y/\packK b now k=some y
theorem packK_succ {b:Bk} {now:Int} {k:Nat} (h:k < (plansI (loadsI b)).length):packK b now (k+1)=packStep b now (packK b now k) (plansI (loadsI b))[k]:=by
 unfold packK;rw [List.take_succ_eq_append_getElem h,List.foldl_append];rfl
theorem BestK.same {b:Bk} {now:Int} {k:Nat} {t:Int} (hb:BestK b now k t) (h:k < (plansI (loadsI b)).length) (he:packStep b now (packK b now k) (plansI (loadsI b))[k]=packK b now k):BestK b now (k+1) t:=by
 unfold BestK;rw [packK_succ h,he];rcases hb with hb | ⟨j,y,h1,h2,h3,h4⟩
 ·exact .inl hb
 ·exact .inr ⟨j,y,h1,by omega,h3,h4⟩
theorem BestK.turn {b:Bk} {now:Int} {k:Nat} (h:k < (plansI (loadsI b)).length) (he:packStep b now (packK b now k) (plansI (loadsI b))[k]=some (plansI (loadsI b))[k]):BestK b now (k+1) (k:Int) :=
 .inr ⟨k,_,rfl,by omega,List.getElem?_eq_getElem h,by rw [packK_succ h,he]⟩
theorem rPlans_all {w:World} {la:Option Addr} {lc:Nat} {loads:List Int} (h5:loads.length<=5) (h0:∀ x∈loads,0<=x) (hL:IntsAt w la loads) :
 Calls Tryz.prog 41 #[.slice la loads.length lc,.slice none 0 0] w (PastsOut w (planL loads [] loads)) :=
 rPlans_at h5 h0 loads [] w none 0 hL rfl (Nat.zero_le _) (World.ownsRow_nil _ _ _ _)
section
variable {b:Bk} {vr vg vm vs vc:Value} {w:World}
theorem rPack_no (hB:BookAt w b vr vg vm vs vc) (hN:∀ m∈b.ms,m.name.size<=1000000) (now:Int) {t:Int} (ht:openAl b (timedAsk now)=t) (h0:t≠0) :
 Calls Tryz.prog 7 #[.agg #[vr,vg,vm,vs,vc],.int .i64 now] w fun e w'=>e=.returned (.tuple #[.slice none 0 0,.bool false,.int .i64 t])/\Below w.heap.size w w':=by
 have HB:=Hh hB;have HN:=Hh hN;have hz3:(t != 0)=true:=by simpa using h0
 have hcs:=timedAl_cases ht h0;obtain ⟨rfl,rfl,⟨ma,mc,rfl,_,_⟩,⟨sa,sc,rfl,_,_⟩,ra,rc,rfl,_,_⟩:=id hB;clear hB hN ht;rcases hcs with hk | ⟨hk,hi,rfl⟩ | ⟨hk,hi,ha,rfl⟩
 ·have H0:=Hh hk;clear hk h0
  go_enter Tryz.func7,Tryz.ntmps7
  go_wp2_with (go_at_call 37;(with_reducible refine (rCheckBook_at (HB.out.below (bel)) HN.out H0.out).mono ?_);rintro e w1 ⟨rfl,hb1⟩;obtain ⟨hc1,hf1⟩:=bcell hb1;have hz1:w.heap.size < w1.heap.size:=(by have:=hb1.size;simp at this;omega));exact bodyPost_ret (v:=.tuple #[.slice none 0 0,.bool false,.int .i64 t]) (by simp [results,Tryz.results7,go_sem, *]) rfl ⟨rfl,bel⟩
 ·have H0:=Hh hk;have HI:=Hh hi;clear hk h0 hi hz3
  go_enter Tryz.func7,Tryz.ntmps7
  go_wp2_with (first
   | (go_at_call 37;(with_reducible refine (rCheckBook_at (HB.out.below (bel)) HN.out H0.out).mono ?_);rintro e w1 ⟨rfl,hb1⟩;obtain ⟨hc1,hf1⟩:=bcell hb1;have hz1:w.heap.size < w1.heap.size:=(by have:=hb1.size;simp at this;omega))
   | (go_at_call 38;(with_reducible refine (rIsTime_v HI.out _).mono ?_);rintro e w2 ⟨rfl,hb2⟩))
  exact bodyPost_ret (v:=.tuple #[.slice none 0 0,.bool false,.int .i64 1]) (by simp [results,Tryz.results7,go_sem]) rfl ⟨rfl,bel⟩
 ·have H0:=Hh hk;have HI:=Hh hi;have HA:=Hh ha;clear hk h0 hi hz3 ha
  go_enter Tryz.func7,Tryz.ntmps7
  go_wp2_with (first
   | (go_at_call 37;(with_reducible refine (rCheckBook_at (HB.out.below (bel)) HN.out H0.out).mono ?_);rintro e w1 ⟨rfl,hb1⟩;obtain ⟨hc1,hf1⟩:=bcell hb1;have hz1:w.heap.size < w1.heap.size:=(by have:=hb1.size;simp at this;omega))
   | (go_at_call 38;(with_reducible refine (rIsTime_v HI.out _).mono ?_);rintro e w2 ⟨rfl,hb2⟩;obtain ⟨hc2,hf2⟩:=bcell hb2;have hz2:=hb2.size;have hy2:w.heap.size < w2.heap.size:=(by omega))
   | (go_at_call 39;(with_reducible refine (rAsked_no (HB.out.below (bel)) HN.out true HA.out (by decide)).mono ?_);rintro e w3 ⟨rfl,hb3⟩))
  exact bodyPost_ret (v:=.tuple #[.slice none 0 0,.bool false,.int .i64 10]) (by simp [results,Tryz.results7,go_sem]) rfl ⟨rfl,bel⟩
theorem rPack_ok (hB:BookAt w b vr vg vm vs vc) (hN:∀ m∈b.ms,m.name.size<=1000000) (now:Int) (ht:openAl b (timedAsk now)=0) :
 Calls Tryz.prog 7 #[.agg #[vr,vg,vm,vs,vc],.int .i64 now] w fun e w'=>∃ a c,e=.returned (.tuple #[.slice a (planOf (packI b (loadsI b) now)).length c,.bool (packI b (loadsI b) now).isSome,.int .i64 0])/\IntsAt w' a (planOf (packI b (loadsI b) now))/\Below w.heap.size w w':=by
 obtain ⟨hk,hi,ha⟩:=timedAl_yes ht;obtain ⟨hn0,hn1⟩:=inB_time hi;have hO:=(bookAl_ok hk).1;have hml:=hO.ml;have hll:(loadsI b).length=b.ms.length:=loadsOf_length _ _;have HB:=Hh hB;have HN:=Hh hN;have H0:=Hh hk;have HI:=Hh hi;have HA:=Hh ha;have HLL:=Hh hll;have HLB:=Hh (loadsI_bd hk);have HL5:=Hh (show (loadsI b).length<=5 by omega);have hle:=planL_len (loads:=loadsI b) (by omega) (loadsI b) [];have hle2:(planL (loadsI b) [] (loadsI b)).length<=3125:=Nat.le_trans hle (by calc 5 ^ (loadsI b).length<=5 ^ 5:=Nat.pow_le_pow_right (by omega) (by omega)
  _=3125:=rfl)
 have HPL:=Hh (show planL (loadsI b) [] (loadsI b)=(plansI (loadsI b)).map Prod.fst from rfl);have hpln:(planL (loadsI b) [] (loadsI b)).length=(plansI (loadsI b)).length:=by rw [HPL.out,List.length_map]
 have HPLN:=Hh hpln;have HMEM:=Hh (fun k (h:k < (plansI (loadsI b)).length)=>plansI_mem (List.getElem_mem h));have hall:packK b now (plansI (loadsI b)).length=packI b (loadsI b) now:=by unfold packK packI;rw [List.take_length]
 have HALL:=Hh hall;obtain ⟨rfl,rfl,⟨ma,mc,rfl,_,_⟩,⟨sa,sc,rfl,_,_⟩,ra,rc,rfl,_,_⟩:=id hB;clear hB hN ht hk hi ha hO hll hle hpln hall
 go_enter Tryz.func7,Tryz.ntmps7
 go_wp2_with (first
  | (go_at_call 37;(with_reducible refine (rCheckBook_at (HB.out.below (bel)) HN.out H0.out).mono ?_);rintro e w1 ⟨rfl,hb1⟩;obtain ⟨hc1,hf1⟩:=bcell hb1;have hz1:w.heap.size < w1.heap.size:=(by have:=hb1.size;simp at this;omega))
  | (go_at_call 38;(with_reducible refine (rIsTime_v HI.out _).mono ?_);rintro e w2 ⟨rfl,hb2⟩;obtain ⟨hc2,hf2⟩:=bcell hb2;have hz2:=hb2.size;have hy2:w.heap.size < w2.heap.size:=(by omega))
  | (go_at_call 39;(with_reducible refine (rAsked_ok (HB.out.below (bel)) HN.out HA.out).mono ?_);rintro e w3 ⟨a3,c3,vs3,rfl,hrow3,hl3,hb3⟩;have HL:=Hh (ListI.of (lists_of_row hrow3 hl3));clear hrow3 hl3;obtain ⟨hc3,hf3⟩:=bcell hb3;have hz3:=hb3.size;have hy3:w.heap.size < w3.heap.size:=(by omega))
  | (go_at_call 40;(with_reducible refine (rLoads_at (HB.out.below (bel)) H0.out rfl HL.out rfl).mono ?_);rintro e w4 ⟨a4,c4,rfl,hi4,hb4⟩;have HI4:=Hh (intsV_parts hi4).2.1;clear hi4;obtain ⟨hc4,hf4⟩:=bcell hb4;have hz4:=hb4.size;have hy4:w.heap.size < w4.heap.size:=(by omega))
  | (go_at_call 41;(with_reducible refine (rPlans_all HL5.out (fun x hx=>(HLB.out x hx).1) HI4.out).mono ?_);rintro e w5 ⟨a5,c5,vs5,rfl,hrow5,hl5,hb5⟩;have HQ:=Hh (ListI.of (lists_of_row hrow5 hl5));clear hrow5 hl5;rw [HPLN.out];obtain ⟨hc5,hf5⟩:=bcell hb5;have hz5:=hb5.size;have hy5:w.heap.size < w5.heap.size:=(by omega)))
 have hbw:Below w.heap.size w w5:=bel;have hzw:w.heap.size < w5.heap.size:=by omega
 have nn:∀ k u,(#[.int .i64 b.room,.int .i64 b.gap,.slice ma b.ms.length mc,.slice sa b.ss.length sc,.slice ra b.rs.length rc]:Array Value)[k]? = some u->w5.cell? ⟨w.heap.size,k,none⟩=some u:=fun k u hk=>by
  rw [hc5 _ _ (by first | omega | (simp;omega)),hc4 _ _ (by first | omega | (simp;omega)),hc3 _ _ (by first | omega | (simp;omega)),hc2 _ _ (by first | omega | (simp;omega)),hc1 _ _ (by simp),World.cell?_alloc_at _ _ _ _ rfl];exact hk
 have n0:=nn 0 _ rfl;have n1:=nn 1 _ rfl;have n2:=nn 2 _ rfl;have n3:=nn 3 _ rfl;have n4:=nn 4 _ rfl;have HBW:=Hh hbw;have HIL:=Hh (HI4.out.below hb5);clear nn hbw hb1 hb2 hb3 hb4 hb5 hc1 hf1 hc2 hf2 hc3 hf3 hc4 hf4 hc5 hf5 HI4 HL;go_loopw [12,13] (fun t i wr=>∃ (k:Nat) (v:Int),k<=(plansI (loadsI b)).length/\i=.int .i64 k/\t=.int .i64 v/\Hid (BestK b now k v)/\Below w5.heap.size w5 wr) (fun _ i _=>(plansI (loadsI b)).length - (intOf i).toNat)
 case atStart=>exact ⟨0,-1,Nat.zero_le _,rfl,rfl,Hh (.inl ⟨rfl,rfl⟩:BestK b now 0 (-1)),Below.refl _ _⟩
 case round =>
  obtain ⟨k,v,hk,rfl,rfl,HBEST,hW⟩:=hrel;have hWs:=hW.size;have HW:=Hh hW;have HBX:=Hh (Below.next HBW.out hW);have HBr:=Hh (HB.out.below HBX.out);have HLr:=Hh (HIL.out.below hW);have m0:=(hW.cell (p:=⟨w.heap.size,0,none⟩) hzw).trans n0;have m1:=(hW.cell (p:=⟨w.heap.size,1,none⟩) hzw).trans n1;have m2:=(hW.cell (p:=⟨w.heap.size,2,none⟩) hzw).trans n2;have m3:=(hW.cell (p:=⟨w.heap.size,3,none⟩) hzw).trans n3;have m4:=(hW.cell (p:=⟨w.heap.size,4,none⟩) hzw).trans n4;have hzr:w.heap.size < wr.heap.size:=by omega
  by_cases hlt:k < (plansI (loadsI b)).length
  ·have hk2:(k:Int) < ((plansI (loadsI b)).length:Int):=by omega
   have hkl:k<=3125:=by have:=HPLN.out;omega
   have hq:∀ j (hj:j < (plansI (loadsI b)).length),∃ qb qo xa xc,a5=some ⟨qb,qo,none⟩/\qb < wr.heap.size/\wr.cell? ⟨qb,qo+j,none⟩=some (.slice xa (plansI (loadsI b))[j].1.length xc)/\IntsAt wr xa (plansI (loadsI b))[j].1:=fun j hj=>by
    obtain ⟨qb,qo,xa,xc,e1,e2,e3,e4⟩:=HQ.out j (by rw [HPLN.out];exact hj);have hge:(planL (loadsI b) [] (loadsI b))[j]'(by rw [HPLN.out];exact hj)=(plansI (loadsI b))[j].1:=by simp only [HPL.out,List.getElem_map]
    rw [hge] at e3 e4;exact ⟨qb,qo,xa,xc,e1,Nat.lt_of_lt_of_le e2 hWs,(hW.cell e2).trans e3,e4.below hW⟩
   have HQR:=Hh hq;obtain ⟨qb,qo,xa,xc,rfl,hqb,d0,hxi⟩:=hq k hlt;obtain ⟨hok,hxl⟩:=HMEM.out k hlt;have HSAME:=Hh (fun t (hb:BestK b now k t)=>hb.same hlt);have HTURN:=Hh (BestK.turn (b:=b) (now:=now) hlt);generalize (plansI (loadsI b))[k]=y at d0 hxi hok hxl HSAME HTURN;have HXr:=Hh hxi;have HOK:=Hh hok;have HXM:=Hh (show y.1.length=b.ms.length by rw [hxl];exact HLL.out);have HLX:=Hh (show (loadsI b).length=y.1.length from hxl.symm);have hy5:y.1.length<=5:=by have:=HL5.out;omega
   have HY5:=Hh hy5;clear hq hW hok hxl hxi
   cases hF:goodI b y.1 y.2 now with
   | false =>
    have HF:=Hh hF;clear hF;go_wp2
    (refine wp_region_bel (by kernel_rfl) (by kernel_rfl) ?_;(repeat (go_big_quiet_step ((go_at_call 42;with_reducible exact Calls.bel_of (rGoodOf_at (HBr.out.below (later_below _ _)) H0.out (HLr.out.below (later_below _ _)) (HXr.out.below (later_below _ _)) rfl rfl HLX.out HXM.out HLB.out HOK.out hn0 hn1 HF.out)))));refine wpQuiet_nil ?_;rintro _ ⟨xq,rfl⟩)
    go_wp2;go_roundw
    case rel=>exact ⟨k+1,v,by omega,by go_num,rfl,Hh (HSAME.out v HBEST.out (by unfold packStep;rw [HF.out];rfl)),Below.next HW.out (later_below _ _)⟩
    case measure=>simp [intOf];omega
   | true =>
    have HF:=Hh hF;clear hF;rcases HBEST.out with ⟨rfl,hst⟩ | ⟨j,z,rfl,hjk,hzj,hst⟩
    ·have HST:=Hh hst;clear hst;go_wp2
     (refine wp_region_bel (by kernel_rfl) (by kernel_rfl) ?_;(repeat (go_big_quiet_step ((go_at_call 42;with_reducible exact Calls.bel_of (rGoodOf_at (HBr.out.below (later_below _ _)) H0.out (HLr.out.below (later_below _ _)) (HXr.out.below (later_below _ _)) rfl rfl HLX.out HXM.out HLB.out HOK.out hn0 hn1 HF.out)))));refine wpQuiet_nil ?_;rintro _ ⟨xq,rfl⟩)
     go_wp2;go_roundw
     case rel=>exact ⟨k+1,k,by omega,by go_num,rfl,Hh (HTURN.out (by unfold packStep;rw [HF.out,HST.out];rfl)),Below.next HW.out (later_below _ _)⟩
     case measure=>simp [intOf];omega
    ·have hjl:j < (plansI (loadsI b)).length:=by omega
     obtain ⟨qb2,qo2,xa2,xc2,e2,-,d2,hxi2⟩:=HQR.out j hjl;cases e2;obtain ⟨hok2,hxl2⟩:=HMEM.out j hjl;have hzz:(plansI (loadsI b))[j]=z:=by rw [List.getElem?_eq_getElem hjl] at hzj;exact Option.some.inj hzj
     rw [hzz] at d2 hxi2 hok2 hxl2;have HX2:=Hh hxi2;have HOK2:=Hh hok2;have HLX2:=Hh (show (loadsI b).length=z.1.length from hxl2.symm);have hz5:z.1.length<=5:=by have:=HL5.out;omega
     have HZ5:=Hh hz5;have hj2:(j:Int) < ((plansI (loadsI b)).length:Int):=by omega
     have hj0:decide ((j:Int) < 0)=false:=by rw [decide_eq_false_iff_not];omega
     have HST:=Hh hst;clear hst hzj hzz hxi2 hok2 hxl2;by_cases hlen:y.2.length < z.2.length
     ·have hd:decide ((y.2.length:Int) < (z.2.length:Int))=true:=by rw [decide_eq_true_iff];omega
      have HLEN:=Hh hlen;clear hlen;go_wp2
      (refine wp_region_bel (by kernel_rfl) (by kernel_rfl) ?_;(repeat (go_big_quiet_step (first | (go_at_call 42;with_reducible exact Calls.bel_of (rGoodOf_at (HBr.out.below (later_below _ _)) H0.out (HLr.out.below (later_below _ _)) (HXr.out.below (later_below _ _)) rfl rfl HLX.out HXM.out HLB.out HOK.out hn0 hn1 HF.out)) | (go_at_call 43;with_reducible exact Calls.bel_of (tapesOf_at (HLr.out.below (later_below _ _)) (HXr.out.below (later_below _ _)) rfl rfl HLX.out (by have:=HY5.out;omega) HOK.out)) | (go_at_call 43;with_reducible exact Calls.bel_of (tapesOf_at (HLr.out.below (later_below _ _)) (HX2.out.below (later_below _ _)) rfl rfl HLX2.out (by have:=HZ5.out;omega) HOK2.out)))));refine wpQuiet_nil ?_;rintro _ ⟨xq,rfl⟩)
      go_wp2;go_roundw
      case rel=>exact ⟨k+1,k,by omega,by go_num,rfl,Hh (HTURN.out (by unfold packStep;rw [HF.out,HST.out];simp [HLEN.out])),Below.next HW.out (later_below _ _)⟩
      case measure=>simp [intOf];omega
     ·have hd:decide ((y.2.length:Int) < (z.2.length:Int))=false:=by rw [decide_eq_false_iff_not];omega
      have HLEN:=Hh hlen;clear hlen;go_wp2
      (refine wp_region_bel (by kernel_rfl) (by kernel_rfl) ?_;(repeat (go_big_quiet_step (first | (go_at_call 42;with_reducible exact Calls.bel_of (rGoodOf_at (HBr.out.below (later_below _ _)) H0.out (HLr.out.below (later_below _ _)) (HXr.out.below (later_below _ _)) rfl rfl HLX.out HXM.out HLB.out HOK.out hn0 hn1 HF.out)) | (go_at_call 43;with_reducible exact Calls.bel_of (tapesOf_at (HLr.out.below (later_below _ _)) (HXr.out.below (later_below _ _)) rfl rfl HLX.out (by have:=HY5.out;omega) HOK.out)) | (go_at_call 43;with_reducible exact Calls.bel_of (tapesOf_at (HLr.out.below (later_below _ _)) (HX2.out.below (later_below _ _)) rfl rfl HLX2.out (by have:=HZ5.out;omega) HOK2.out)))));refine wpQuiet_nil ?_;rintro _ ⟨xq,rfl⟩)
      go_wp2;go_roundw
      case rel=>exact ⟨k+1,j,by omega,by go_num,rfl,Hh (HSAME.out j HBEST.out (by unfold packStep;rw [HF.out,HST.out];simp [HLEN.out])),Below.next HW.out (later_below _ _)⟩
      case measure=>simp [intOf];omega
  ·obtain rfl:k=(plansI (loadsI b)).length:=by omega
   rcases HBEST.out with ⟨rfl,hst⟩ | ⟨j,z,rfl,hjk,hzj,hst⟩
   ·rw [HALL.out] at hst;have HST:=Hh hst;clear hst hW;go_wp2;exact bodyPost_ret (v:=.tuple #[.slice none 0 0,.bool false,.int .i64 0]) (by simp [results,Tryz.results7,go_sem]) rfl ⟨none,0,by rw [HST.out];rfl,by rw [HST.out];exact ints_nil,HBX.out⟩
   ·rw [HALL.out] at hst;have HST:=Hh hst;obtain ⟨qb,qo,xa,xc,e1,e2,e3,e4⟩:=HQ.out j (by rw [HPLN.out];exact hjk);have hge:(planL (loadsI b) [] (loadsI b))[j]'(by rw [HPLN.out];exact hjk)=z.1:=by
     rw [List.getElem?_eq_getElem hjk] at hzj;simp only [HPL.out,List.getElem_map];rw [Option.some.inj hzj]
    rw [hge] at e3 e4;subst e1;have d0:=(hW.cell e2).trans e3;have hqb:qb < wr.heap.size:=Nat.lt_of_lt_of_le e2 hWs;have HX:=Hh (e4.below hW);have hj2:(j:Int) < ((plansI (loadsI b)).length:Int):=by omega
    have hj0:decide ((j:Int) < 0)=false:=by rw [decide_eq_false_iff_not];omega
    clear hst hW hge hzj e2 e3 e4;go_wp2;exact bodyPost_ret (v:=.tuple #[.slice xa z.1.length xc,.bool true,.int .i64 0]) (by simp [results,Tryz.results7,go_sem]) rfl ⟨xa,xc,by rw [HST.out];rfl,by rw [HST.out];exact HX.out,HBX.out⟩
end
def latK (b:Bk) (k:Nat):Option Int:=((plansI (loadsI b)).take k).foldl (latestStep b) none
def LatR (st:Option Int) (v:Int):Prop:=match st with
 | none=>v=-1
 | some y=>v=y/\0<=y
theorem LatR.lo {st:Option Int} {v:Int} (h:LatR st v):-1<=v:=by
 cases st with
 | none=>have:v=-1:=h;omega
 | some y=>have:v=y/\0<=y:=h;omega
theorem LatR.isSome {st:Option Int} {v:Int} (h:LatR st v):st.isSome=!decide (v < 0):=by
 cases st with
 | none=>have:v=-1:=h;subst this;rfl
 | some y=>have h2:v=y/\0<=y:=h;simp;omega
theorem LatR.step {b:Bk} {st:Option Int} {v:Int} (h:LatR st v) (x:List Int × List Int):LatR (latestStep b st x) (if fitsI b x.2=true then max v (- lateI b x.1 x.2) else v):=by
 unfold latestStep
 cases hf:fitsI b x.2 with
 | false=>simpa using h
 | true =>
  simp only [Bool.true_and,if_true];generalize lateI b x.1 x.2=z
  cases st with
  | none =>
   have hv:v=-1:=h;subst hv;by_cases hz:z<=0
   ·simp only [hz,decide_true,Bool.and_self,if_true];show max (-1) (-z)=-z/\0<=-z;omega
   ·simp only [hz,decide_false,Bool.false_and];show max (-1) (-z)=-1;omega
  | some y =>
   obtain ⟨hv,hy⟩:v=y/\0<=y:=h;subst hv;by_cases hz:z<=0
   ·by_cases hyz:v < -z
    ·simp only [hz,hyz,decide_true,Bool.and_self,if_true];show max v (-z)=-z/\0<=-z;omega
    ·simp only [hz,hyz,decide_true,decide_false,Bool.and_false];show max v (-z)=v/\0<=v;omega
   ·simp only [hz,decide_false,Bool.false_and];show max v (-z)=v/\0<=v;omega
theorem latK_succ {b:Bk} {k:Nat} (h:k < (plansI (loadsI b)).length):latK b (k+1)=latestStep b (latK b k) (plansI (loadsI b))[k]:=by
 unfold latK;rw [List.take_succ_eq_append_getElem h,List.foldl_append];rfl
section
variable {b:Bk} {vr vg vm vs vc:Value} {w:World}
theorem rLatest_no (hB:BookAt w b vr vg vm vs vc) (hN:∀ m∈b.ms,m.name.size<=1000000) {t:Int} (ht:openAl b 0=t) (h0:t≠0) :
 Calls Tryz.prog 17 #[.agg #[vr,vg,vm,vs,vc]] w fun e w'=>e=.returned (.tuple #[.int .i64 0,.bool false,.int .i64 t])/\Below w.heap.size w w':=by
 rw [<- asked_open] at ht;have HB:=Hh hB;have HN:=Hh hN;have H0:=Hh ht;have HN0:=Hh h0;have hz3:(t != 0)=true:=by simpa using h0
 obtain ⟨rfl,rfl,⟨ma,mc,rfl,_,_⟩,⟨sa,sc,rfl,_,_⟩,ra,rc,rfl,_,_⟩:=id hB;clear hB hN ht h0
 go_enter Tryz.func17,Tryz.ntmps17
 go_wp2_with (go_at_call 39;(with_reducible refine (rAsked_no (HB.out.below (bel)) HN.out true H0.out HN0.out).mono ?_);rintro e w1 ⟨rfl,hb1⟩);exact bodyPost_ret (v:=.tuple #[.int .i64 0,.bool false,.int .i64 t]) (by simp [results,Tryz.results17,go_sem, *]) rfl ⟨rfl,bel⟩
theorem rLatest_ok (hB:BookAt w b vr vg vm vs vc) (hN:∀ m∈b.ms,m.name.size<=1000000) (ht:openAl b 0=0) :
 Calls Tryz.prog 17 #[.agg #[vr,vg,vm,vs,vc]] w fun e w'=>e=.returned (.tuple #[.int .i64 ((latestI b (loadsI b)).getD 0),.bool (latestI b (loadsI b)).isSome,.int .i64 0])/\Below w.heap.size w w':=by
 rw [<- asked_open] at ht;have ha:=ht;obtain ⟨hk,-,-⟩:=askedAl_ok ht;have hO:=(bookAl_ok hk).1;have hml:=hO.ml;have hll:(loadsI b).length=b.ms.length:=loadsOf_length _ _;have HB:=Hh hB;have HN:=Hh hN;have H0:=Hh hk;have HA:=Hh ha;have HLL:=Hh hll;have HLB:=Hh (loadsI_bd hk);have HL5:=Hh (show (loadsI b).length<=5 by omega);have hle:=planL_len (loads:=loadsI b) (by omega) (loadsI b) [];have hle2:(planL (loadsI b) [] (loadsI b)).length<=3125:=Nat.le_trans hle (by calc 5 ^ (loadsI b).length<=5 ^ 5:=Nat.pow_le_pow_right (by omega) (by omega)
  _=3125:=rfl)
 have HPL:=Hh (show planL (loadsI b) [] (loadsI b)=(plansI (loadsI b)).map Prod.fst from rfl);have hpln:(planL (loadsI b) [] (loadsI b)).length=(plansI (loadsI b)).length:=by rw [HPL.out,List.length_map]
 have HPLN:=Hh hpln;have HMEM:=Hh (fun k (h:k < (plansI (loadsI b)).length)=>plansI_mem (List.getElem_mem h));have hall:latK b (plansI (loadsI b)).length=latestI b (loadsI b):=by unfold latK latestI;rw [List.take_length]
 have HALL:=Hh hall;obtain ⟨rfl,rfl,⟨ma,mc,rfl,_,_⟩,⟨sa,sc,rfl,_,_⟩,ra,rc,rfl,_,_⟩:=id hB;clear hB hN ht hk ha hO hll hle hpln hall
 go_enter Tryz.func17,Tryz.ntmps17
 go_wp2_with (first
  | (go_at_call 39;(with_reducible refine (rAsked_ok (HB.out.below (bel)) HN.out HA.out).mono ?_);rintro e w3 ⟨a3,c3,vs3,rfl,hrow3,hl3,hb3⟩;have HL:=Hh (ListI.of (lists_of_row hrow3 hl3));clear hrow3 hl3;obtain ⟨hc3,hf3⟩:=bcell hb3;have hz3:w.heap.size < w3.heap.size:=(by have:=hb3.size;simp at this;omega))
  | (go_at_call 40;(with_reducible refine (rLoads_at (HB.out.below (bel)) H0.out rfl HL.out rfl).mono ?_);rintro e w4 ⟨a4,c4,rfl,hi4,hb4⟩;have HI4:=Hh (intsV_parts hi4).2.1;clear hi4;obtain ⟨hc4,hf4⟩:=bcell hb4;have hz4:=hb4.size;have hy4:w.heap.size < w4.heap.size:=(by omega))
  | (go_at_call 41;(with_reducible refine (rPlans_all HL5.out (fun x hx=>(HLB.out x hx).1) HI4.out).mono ?_);rintro e w5 ⟨a5,c5,vs5,rfl,hrow5,hl5,hb5⟩;have HQ:=Hh (ListI.of (lists_of_row hrow5 hl5));clear hrow5 hl5;rw [HPLN.out];obtain ⟨hc5,hf5⟩:=bcell hb5;have hz5:=hb5.size;have hy5:w.heap.size < w5.heap.size:=(by omega)))
 have hbw:Below w.heap.size w w5:=bel;have hzw:w.heap.size < w5.heap.size:=by omega
 have nn:∀ k u,(#[.int .i64 b.room,.int .i64 b.gap,.slice ma b.ms.length mc,.slice sa b.ss.length sc,.slice ra b.rs.length rc]:Array Value)[k]? = some u->w5.cell? ⟨w.heap.size,k,none⟩=some u:=fun k u hk=>by
  rw [hc5 _ _ (by first | omega | (simp;omega)),hc4 _ _ (by first | omega | (simp;omega)),hc3 _ _ (by simp),World.cell?_alloc_at _ _ _ _ rfl];exact hk
 have n0:=nn 0 _ rfl;have n1:=nn 1 _ rfl;have n2:=nn 2 _ rfl;have n3:=nn 3 _ rfl;have n4:=nn 4 _ rfl;have HBW:=Hh hbw;have HIL:=Hh (HI4.out.below hb5);clear nn hbw hb3 hb4 hb5 hc3 hf3 hc4 hf4 hc5 hf5 HI4 HL;go_loopw [9,10] (fun t i wr=>∃ (k:Nat) (v:Int),k<=(plansI (loadsI b)).length/\i=.int .i64 k/\t=.int .i64 v/\Hid (LatR (latK b k) v)/\Below w5.heap.size w5 wr) (fun _ i _=>(plansI (loadsI b)).length - (intOf i).toNat)
 case atStart=>exact ⟨0,-1,Nat.zero_le _,rfl,rfl,Hh (rfl:LatR none (-1)),Below.refl _ _⟩
 case round =>
  obtain ⟨k,v,hk,rfl,rfl,HLR,hW⟩:=hrel;have hWs:=hW.size;have HW:=Hh hW;have HBX:=Hh (Below.next HBW.out hW);have HBr:=Hh (HB.out.below HBX.out);have HLr:=Hh (HIL.out.below hW);have m0:=(hW.cell (p:=⟨w.heap.size,0,none⟩) hzw).trans n0;have m1:=(hW.cell (p:=⟨w.heap.size,1,none⟩) hzw).trans n1;have m2:=(hW.cell (p:=⟨w.heap.size,2,none⟩) hzw).trans n2;have m3:=(hW.cell (p:=⟨w.heap.size,3,none⟩) hzw).trans n3;have m4:=(hW.cell (p:=⟨w.heap.size,4,none⟩) hzw).trans n4;have hzr:w.heap.size < wr.heap.size:=by omega
  by_cases hlt:k < (plansI (loadsI b)).length
  ·have hk2:(k:Int) < ((plansI (loadsI b)).length:Int):=by omega
   have hkl:k<=3125:=by have:=HPLN.out;omega
   obtain ⟨qb,qo,xa,xc,rfl,hqb,e3,hxi⟩:=HQ.out k (by rw [HPLN.out];exact hlt);have hge:(planL (loadsI b) [] (loadsI b))[k]'(by rw [HPLN.out];exact hlt)=(plansI (loadsI b))[k].1:=by simp only [HPL.out,List.getElem_map]
   rw [hge] at e3 hxi;have d0:=(hW.cell hqb).trans e3;have hqr:qb < wr.heap.size:=Nat.lt_of_lt_of_le hqb hWs;have hxr:=hxi.below hW;obtain ⟨hok,hxl⟩:=HMEM.out k hlt;have hst:=(HLR.out).step (b:=b) (plansI (loadsI b))[k];rw [<- latK_succ hlt] at hst;generalize (plansI (loadsI b))[k]=y at d0 hxr hok hxl hst e3 hxi hge;have HST:=Hh hst;have HXr:=Hh hxr;have HOK:=Hh hok;have HXM:=Hh (show y.1.length=b.ms.length by rw [hxl];exact HLL.out);have HLX:=Hh (show (loadsI b).length=y.1.length from hxl.symm);have HY5:=Hh (show y.1.length<=50 by have:=HL5.out;omega);clear hW hok hxl hxi hxr e3 hge hst
   cases hF:fitsI b y.2 with
   | false =>
    have HF:=Hh hF;rw [if_neg (by rw [hF];decide)] at HST;clear hF;go_wp2
    (refine wp_region_bel (by kernel_rfl) (by kernel_rfl) ?_;(repeat (go_big_quiet_step ((go_at_call 56;with_reducible exact Calls.bel_of (rFits_at (HBr.out.below (later_below _ _)) H0.out (HLr.out.below (later_below _ _)) (HXr.out.below (later_below _ _)) rfl rfl HLX.out HY5.out HLB.out HOK.out HF.out)))));refine wpQuiet_nil ?_;rintro _ ⟨xq,rfl⟩)
    go_wp2;go_roundw
    case rel=>exact ⟨k+1,v,by omega,by go_num,rfl,HST,Below.next HW.out (later_below _ _)⟩
    case measure=>simp [intOf];omega
   | true =>
    have HF:=Hh hF;rw [if_pos hF] at HST;have HLT:=Hh (fun W (h:Below wr.heap.size wr W)=>rLatestOf_at (lc:=c4) (pc:=xc) (HBr.out.below h) H0.out (HLr.out.below h) (HXr.out.below h) rfl rfl HLX.out HXM.out HLB.out HOK.out rfl);generalize - lateI b y.1 y.2=z at HST HLT;clear hF;go_wp2
    (refine wp_region_bel (by kernel_rfl) (by kernel_rfl) ?_;(repeat (go_big_quiet_step ((go_at_call 56;with_reducible exact Calls.bel_of (rFits_at (HBr.out.below (later_below _ _)) H0.out (HLr.out.below (later_below _ _)) (HXr.out.below (later_below _ _)) rfl rfl HLX.out HY5.out HLB.out HOK.out HF.out)))));refine wpQuiet_nil ?_;rintro _ ⟨xq,rfl⟩)
    go_wp2;have hbl:=later_below wr xq;generalize later wr xq=X at hbl ⊢;have hXs:=hbl.size;have m0:=(hbl.cell (p:=⟨w.heap.size,0,none⟩) hzr).trans m0;have m1:=(hbl.cell (p:=⟨w.heap.size,1,none⟩) hzr).trans m1;have m2:=(hbl.cell (p:=⟨w.heap.size,2,none⟩) hzr).trans m2;have m3:=(hbl.cell (p:=⟨w.heap.size,3,none⟩) hzr).trans m3;have m4:=(hbl.cell (p:=⟨w.heap.size,4,none⟩) hzr).trans m4;have d0:=(hbl.cell hqr).trans d0;have hqx:qb < X.heap.size:=Nat.lt_of_lt_of_le hqr hXs;have hzx:w.heap.size < X.heap.size:=Nat.lt_of_lt_of_le hzr hXs;have HBL:=Hh hbl;clear hbl
    (refine wp_region_bel (by kernel_rfl) (by kernel_rfl) ?_;(repeat (go_big_quiet_step ((go_at_call 57;with_reducible exact Calls.bel_of (HLT.out _ (Below.next HBL.out (later_below _ _)))))));refine wpQuiet_nil ?_;rintro _ ⟨xq,rfl⟩)
    go_wp2;go_roundw
    case rel=>exact ⟨k+1,_,by omega,by go_num,rfl,HST,Below.next HW.out (Below.next HBL.out (later_below _ _))⟩
    case measure=>simp [intOf];omega
  ·obtain rfl:k=(plansI (loadsI b)).length:=by omega
   have hlr:=HLR.out;rw [HALL.out] at hlr;have hsm:=hlr.isSome;clear hW;by_cases hv:v < 0
   ·have hd:decide (v < 0)=true:=decide_eq_true hv;rw [hd] at hsm;have hst:latestI b (loadsI b)=none:=by simpa using hsm
    have HST:=Hh hst;clear hst hsm hlr hv;go_wp2;exact bodyPost_ret (v:=.tuple #[.int .i64 0,.bool false,.int .i64 0]) (by simp [results,Tryz.results17,go_sem]) rfl ⟨by rw [HST.out];rfl,HBX.out⟩
   ·have hd:decide (v < 0)=false:=by simpa using hv
    rw [hd] at hsm;have hst:latestI b (loadsI b)=some v:=by
     cases hh:latestI b (loadsI b) with
     | none=>rw [hh] at hsm;cases hsm
     | some y=>rw [hh] at hlr;rw [show v=y from hlr.1]
    have HST:=Hh hst;clear hst hsm hlr hv;go_wp2;exact bodyPost_ret (v:=.tuple #[.int .i64 v,.bool true,.int .i64 0]) (by simp [results,Tryz.results17,go_sem]) rfl ⟨by rw [HST.out];rfl,HBX.out⟩
end
end
section
open Go.RowKit Sp
end
section
open Go.RowKit Go.Maps Sp
section
variable {b:Bk} {vr vg vm vs vc:Value} {w:World}
theorem punch_many (hB:BookAt w b vr vg vm vs vc) (hN:∀ m∈b.ms,m.name.size<=1000000) (hK:KindsAt w) {pa:Option Addr} {pc:Nat} {plan:List Int} {pn:Nat} (hpl:pn=plan.length) (hP:IntsAt w pa plan) (tape:Int) (ht:openAl b (planAsk b.ms.length plan.length 0)=0) {o:List Int} (ho:planOk (loadsI b) plan=some o)
 (hin:inB tape 0 ((o.length:Int) - 1)=true) (hfew:5 < (punchI plan tape (missI b)).length) :
 Calls Tryz.prog 13 #[.agg #[vr,vg,vm,vs,vc],.slice pa pn pc,.int .i64 tape] w fun e w'=>e=.returned (.tuple #[.agg #[.slice none 0 0],.int .i64 2])/\Below w.heap.size w w':=by
 have HB:=Hh hB;have HN:=Hh hN;have HK:=Hh hK;have HP:=Hh hP;have HT:=Hh ht;have HOO:=Hh ho;have HPL:=Hh hpl;have HIN:=Hh hin;obtain ⟨hk,hpt,hps⟩:=openAl_ok ht;have hbo:=(bookAl_ok hk).1;have HO:=Hh hbo;obtain ⟨_,hpm⟩:=planAsk_ok hpt;have hml5:=hbo.ml;have HPM:=Hh hpm;have HBD:=Hh (planOk_bd ho (by omega) (loadsI_bd hk));have hol:=(planOk_bd ho (by omega) (loadsI_bd hk)).2;have HPC:=Hh (fun x (hx:x∈pasts b)=>pasts_came hbo hx);have hple:=pasts_le hbo;have hmi:=missI_bd hk;have hwo:IntKind.i64.wrap ((o.length:Int) - 1)=(o.length:Int) - 1:=wrapI (by omega) (by omega);have HWO:=Hh hwo;obtain ⟨rfl,rfl,⟨ma,mc,rfl,_,_⟩,⟨sa,sc,rfl,_,_⟩,ra,rc,rfl,_,_⟩:=id hB;clear hB hN hK hP ht hpl ho hk hpt hps hbo hpm hin
 go_enter Tryz.func13,Tryz.ntmps13
 go_wp2_with (first
  | (go_at_call 45;(with_reducible refine (planned_yes (HB.out.below (bel)) HN.out (HK.out.below (bel)) HPL.out (HP.out.below (bel)) 0 HT.out HOO.out).mono ?_);rintro e w3 ⟨RB,lc,tc,lc2,ta,la,rfl,hl3,ht3,hc3,hb3⟩;have HC3:=Hh hc3;clear hl3 ht3 hc3;have hz3:=hb3.size;(try simp at hz3))
  | (go_at_call 49;(with_reducible refine (inside_at HIN.out).mono ?_);rintro e w' ⟨rfl,rfl⟩)
  | (go_at_call 50;(with_reducible refine (missing_at (HB.out.below (bel)) HO.out (HC3.out.below (bel)) HPC.out (by omega)).mono ?_);rintro e w4 ⟨v4,rfl,hr4,hb4⟩;obtain ⟨a4,c4,rfl⟩:=ownsRow_slice hr4;have HP4:=Hh (show PartsAt w4 a4 (missI b) from parts_of_row hr4);have HG4:=Hh (row_ge hr4);rw [show (missL b (pasts b) (partsL b)).length=(missI b).length from rfl];clear hr4;have hz4:=hb4.size;(try simp at hz4)))
 have x1:w4.cell? ⟨w3.heap.size+1,0,none⟩=some (.slice none 0 0):=by
  refine (hb4.cell (p:=⟨w3.heap.size+1,0,none⟩) (by simp)).trans ?_;rw [World.cell?_alloc_at _ _ _ _ (by simp)];rfl
 have x2:w4.frozen? ⟨w3.heap.size+1,0,none⟩=false:=by
  refine (hb4.frozen (p:=⟨w3.heap.size+1,0,none⟩) (by simp)).trans ?_;rw [World.frozen?_alloc_at _ _ _ _ (by simp)]
 have y1:w4.cell? ⟨w.heap.size+1,0,none⟩=some (.slice none 0 0):=by
  refine (hb4.cell (p:=⟨w.heap.size+1,0,none⟩) (by simp;omega)).trans ?_;rw [World.cell?_alloc_past _ _ _ (by first | omega | (simp;done) | (simp;omega)),World.cell?_alloc_past _ _ _ (by first | omega | (simp;done) | (simp;omega))];refine (hb3.cell (p:=⟨w.heap.size+1,0,none⟩) (by simp)).trans ?_;rw [World.cell?_alloc_at _ _ _ _ (by simp)];rfl
 have y2:w4.frozen? ⟨w.heap.size+1,0,none⟩=false:=by
  refine (hb4.frozen (p:=⟨w.heap.size+1,0,none⟩) (by simp;omega)).trans ?_;rw [World.frozen?_alloc_past _ _ _ (by first | omega | (simp;done) | (simp;omega)),World.frozen?_alloc_past _ _ _ (by first | omega | (simp;done) | (simp;omega))];refine (hb3.frozen (p:=⟨w.heap.size+1,0,none⟩) (by simp)).trans ?_;rw [World.frozen?_alloc_at _ _ _ _ (by simp)]
 have hbw:Below w.heap.size w w4:=bel;have hP4:IntsAt w4 pa plan:=HP.out.below hbw;have HPP:=Hh hP4;have HPL2:=Hh (fun i (hi:i < plan.length)=>HP.out i hi);have HX:=Hh (⟨x1,x2⟩:_/\_);have HY:=Hh (⟨y1,y2⟩:_/\_);have hz9:w3.heap.size+1 < w4.heap.size:=by omega
 have hz10:w.heap.size+1 < w3.heap.size:=by omega
 obtain ⟨i0,hi,hz0,hz1,hz2⟩:=info_parts partInfo;clear hb4 hb3 hP4 x1 x2 y1 y2 hz4 hz3;go_loopw [39] (fun i wr=>∃ (k:Nat) (a:Option Addr) (c:Nat) (l:List Prt),k<=(missI b).length/\i=.int .i64 k/\Hid (l=punchI plan tape ((missI b).take k))/\wr.cell? ⟨w3.heap.size+1,0,none⟩=some (.slice a l.length c)/\wr.frozen? ⟨w3.heap.size+1,0,none⟩=false/\wr.ownsRow w4.heap.size 75 2 (.slice a l.length c) l.length (l.flatMap cellsQ)/\KS (fun k=>k < w4.heap.size/\k≠w3.heap.size+1) w4 wr) (fun i _=>(missI b).length - (intOf i).toNat)
 case atStart=>exact ⟨0,none,0,[],Nat.zero_le _,rfl,rfl,HX.out.1,HX.out.2,by simpa using World.ownsRow_nil _ _ _ _,KS.refl _ _⟩
 case round =>
  obtain ⟨k,a,c,l,hk,rfl,hl,hs1,hs2,hrow,hW⟩:=hrel;have hWs:=hW.size;have hl5:l.length<=20:=by rw [hl.out];exact Nat.le_trans (List.length_filter_le _ _) (by simp;omega)
  by_cases hlt:k < (missI b).length
  ·obtain ⟨lb,lo,rfl,hlb,e0,e1⟩:=HP4.out k hlt;have hge:=HG4.out _ rfl;simp at hge;have d0:=(hW.cell (x:=⟨lb,lo+k * 2,none⟩) hlb (by simp;omega)).trans e0;have d1:=(hW.cell (x:=⟨lb,lo+k * 2+1,none⟩) hlb (by simp;omega)).trans e1;obtain ⟨hp0,hp1,_⟩:=missI_part (List.getElem_mem hlt);have hts:=List.take_succ_eq_append_getElem hlt;have hsn:=punchI_snoc plan tape ((missI b).take k) (missI b)[k];rw [<- hts,<- hl.out] at hsn;generalize (missI b)[k]=p at d0 d1 hp0 hp1 hsn;obtain ⟨p1,p2⟩:=p;simp only at d0 d1 hp0 hp1;obtain ⟨q,rfl⟩:∃ q:Nat,p1=q:=⟨p1.toNat,by omega⟩;have hqn:q < plan.length:=by have:=HPM.out;omega
   have hqn2:(q:Int) < (pn:Int):=by have:=HPL.out;omega
   have hq0:(0:Int)<=(q:Int):=by omega
   obtain ⟨pb,po,rfl,hpb,p0⟩:=HPL2.out q hqn;have d2:wr.cell? ⟨pb,po+q,none⟩=some (.int .i64 plan[q]):=by
    refine (hW.cell (x:=⟨pb,po+q,none⟩) (by simp;omega) (by simp;omega)).trans ((hbw.cell (p:=⟨pb,po+q,none⟩) hpb).trans p0)
   have hon:onTape plan tape ((q:Int),p2)=decide (plan[q]=tape):=by
    unfold onTape;simp only [Int.toNat_natCast,List.getD_eq_getElem?_getD,List.getElem?_eq_getElem hqn,Option.getD_some]
   rw [hon] at hsn;generalize plan[q]=pq at d2 hsn;have hlb2:lb < wr.heap.size:=by omega
   have hpb2:pb < wr.heap.size:=by omega
   have hs9:w3.heap.size+1 < wr.heap.size:=by omega
   have HROW:=Hh hrow;have HW:=Hh hW;have HL:=Hh hl;clear e0 e1 hp0 hp1 hts hon hrow hW hl hge p0;by_cases hon2:pq=tape
   ·have hd:(pq == tape)=true:=by simpa using hon2
    rw [if_pos (by simpa using hon2)] at hsn;have HSN:=Hh hsn;subst hon2;clear hsn;go_wp2_with (at_builtin;go_loud (refine wpList_append_own _ rfl _ _ 38 rfl w4.heap.size 75 i0 (.agg #[.int .i64 0,.int .i64 0]) 2 16 Tryz.underlying38 hi hz0 hz1 hz2 rfl (by decide) _ _ _ rfl ((HROW.out.alloc _).alloc _) ⟨wr.heap.size+1,0,none⟩ 1 1 [.int .i64 q,.int .i64 p2] rfl rfl (cells_new' _ _ _ (by simp)) (by simp [Value.oneCell']) (by unfold maxLen;omega) (by omega) (by simp;omega) ?_;intro v' w5 hown' hgrow _;obtain ⟨g',cap',rfl⟩:=ownsRow_succ hown';have hks:=grow_ks ((HROW.out.alloc _).alloc _) hgrow;have q1:=(hks.cell (x:=⟨w3.heap.size+1,0,none⟩) (by simp;omega) (by simp;omega));have q2:=(hks.frozen (x:=⟨w3.heap.size+1,0,none⟩) (by simp;omega) (by simp;omega));rw [World.cell?_alloc_past _ _ _ (by simp;omega),World.cell?_alloc_past _ _ _ (by omega),hs1] at q1;rw [World.frozen?_alloc_past _ _ _ (by simp;omega),World.frozen?_alloc_past _ _ _ (by omega),hs2] at q2));have h8:KS (fun k=>k < w4.heap.size) wr w5:=((KS.alloc (fun k=>k < w4.heap.size) wr _).trans (KS.alloc _ _ _)).trans hks;have h9:KS (fun k=>k≠w3.heap.size+1) w5 (w5.setCell ⟨w3.heap.size+1,0,none⟩ (.slice (some ⟨g',0,none⟩) (l.length+1) cap')):=KS.setCell (by simp) _ _;have hl8:(l ++ [((q:Int),p2)]).length=l.length+1:=by simp
    have hf8:(l ++ [((q:Int),p2)]).flatMap cellsQ=l.flatMap cellsQ ++ [.int .i64 q,.int .i64 p2]:=by rw [List.flatMap_append];rfl
    go_roundw
    case rel =>
     refine ⟨k+1,some ⟨g',0,none⟩,cap',l ++ [((q:Int),p2)],by omega,by go_num,HSN.out.symm,?_,?_,?_,?_⟩
     ·rw [hl8];exact World.cell?_setCell_same' _ _ _ (by rw [q1];rfl)
     ·rw [World.frozen?_setCell];exact q2
     ·rw [hl8,hf8];exact ownsRow_ks hown' h9 (fun k hk=>by show k≠_;omega)
     ·exact HW.out.trans ((h8.mono fun k _ h=>h.1).trans (h9.mono fun k _ h=>h.2))
    case measure=>simp [intOf];omega
   ·have hd:(pq == tape)=false:=by simpa using hon2
    rw [if_neg (by simpa using hon2),List.append_nil] at hsn;have HSN:=Hh hsn;clear hsn;go_wp2;go_roundw
    case rel =>
     have h8:=KS.alloc (fun _=>True) wr (.cells #[.int .i64 q,.int .i64 p2] 75);exact ⟨k+1,a,c,l,by omega,by go_num,HSN.out.symm,(h8.cell (x:=⟨w3.heap.size+1,0,none⟩) (by simp;omega) trivial).trans hs1,(h8.frozen (x:=⟨w3.heap.size+1,0,none⟩) (by simp;omega) trivial).trans hs2,ownsRow_ks HROW.out h8 (fun _ _=>trivial),HW.out.trans (h8.mono fun _ _ _=>trivial)⟩
    case measure=>simp [intOf];omega
  ·obtain rfl:k=(missI b).length:=by omega
   have hl2:=hl.out;rw [List.take_length] at hl2;have hlen5:5 < l.length:=by rw [hl2];exact hfew
   have hs9:w3.heap.size+1 < wr.heap.size:=by omega
   have hs10:w.heap.size+1 < wr.heap.size:=by omega
   have y1:=(hW.cell (x:=⟨w.heap.size+1,0,none⟩) (by simp;omega) (by simp;omega)).trans HY.out.1;have y2:=(hW.frozen (x:=⟨w.heap.size+1,0,none⟩) (by simp;omega) (by simp;omega)).trans HY.out.2;have HW:=Hh hW;clear hrow hW hl hl2;go_wp2;have hB9:Below w.heap.size w (wr.setCell ⟨w.heap.size+1,0,none⟩ (.slice none 0 0)):=by
    have h1:=HW.out.toBelow (n:=w.heap.size) (by omega) (fun k hk=>by omega);exact Below.wr (hbw.trans h1) (by simp) _
   have hc9:(wr.setCell ⟨w.heap.size+1,0,none⟩ (.slice none 0 0)).cell? ⟨w.heap.size+1,0,none⟩=some (.slice none 0 0):=World.cell?_setCell_same' _ _ _ (by rw [y1];rfl);exact bodyPost_ret (v:=.tuple #[.agg #[.slice none 0 0],.int .i64 2]) (by simp [results,Tryz.results13,go_sem,hc9]) rfl ⟨rfl,hB9⟩
end
attribute [local go_sem] Oper.semAt_some
section
variable {b:Bk} {vr vg vm vs vc:Value} {w:World}
end
end
end Go.Proofs.YtgagoahfdnnpkaaGreatDoor
