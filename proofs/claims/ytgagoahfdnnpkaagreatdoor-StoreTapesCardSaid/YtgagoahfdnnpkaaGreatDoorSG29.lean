/- StoreTapes -/
import Derived.Test.YtgagoahfdnnpkaaGreatDoorSG28
set_option maxHeartbeats 8000000
set_option maxRecDepth 100000
set_option linter.all false
namespace Go.Proofs.YtgagoahfdnnpkaaGreatDoor
section
open Go.RowKit Go.Maps Sp
section
variable {b:Bk} {vr vg vm vs vc:Value} {w:World} {la pa:Option Addr} {lc pc n m:Nat} {loads plan o:List Int}
theorem gap_bd (hk:bookAl b=0):0<=b.gap/\b.gap<=99:=by
 have h:=(bookAl_parts hk).1;unfold numbersAl at h;split at h
 ·rename_i h2
  simp [inB] at h2;omega
 ·cases h
theorem rEnds_at (hB:BookAt w b vr vg vm vs vc) (hk:bookAl b=0) (hL:IntsAt w la loads) (hP:IntsAt w pa plan) (hn:n=loads.length) (hm:m=plan.length) (hl:loads.length=plan.length) (hpl:plan.length<=50) (hb:∀ x∈loads,0<=x/\x<=1000) (ho:planOk loads plan=some o) {now:Int} (h0:0<=now) (h1:now<=999) :
 Calls Tryz.prog 48 #[.agg #[vr,vg,vm,vs,vc],.slice la n lc,.slice pa m pc,.int .i64 now] w (NumsV w (endsI b.gap now o)):=by
 subst hn hm;obtain ⟨hg0,hg1⟩:=gap_bd hk;obtain ⟨hob,hol⟩:=planOk_bd ho hpl hb;obtain ⟨-,-,-,hoh,-⟩:=planOk_inv hl ho;have HB:=Hh hB;have HL:=Hh hL;have HP:=Hh hP;have HO:=Hh ho;have HLB:=Hh hb;have HOH:=Hh hoh;have HBD:=Hh (fun k hk=>endAt_bd (gap:=b.gap) (now:=now) (tapes:=o) ⟨hg0,by omega⟩ ⟨h0,by omega⟩ hob k hk);have HSU:=Hh (fun k hk=>endAt_succ b.gap now o (k:=k) hk);have HES:=Hh (endsTo_succ b.gap now o);have HEL:=Hh (endsTo_length b.gap now o);have HOB:=Hh hob;have HE0:=Hh (endAt_zero b.gap now o);obtain ⟨i0,hi0,hz0,hz1,hz2⟩:=info_parts intInfo;obtain ⟨rfl,rfl,⟨ma,mc,rfl,_,_⟩,⟨sa,sc,rfl,_,_⟩,ra,rc,rfl,_,_⟩:=id hB;have HLL:=Hh hl;clear hB hk hL hP hb ho hoh hob hl
 go_enter Tryz.func48,Tryz.ntmps48
 go_wp2;obtain ⟨W0,hW0⟩:∃ W0,W0=w.alloc (.cells #[.int .i64 b.room,.int .i64 b.gap,.slice ma b.ms.length mc,.slice sa b.ss.length sc,.slice ra b.rs.length rc] 26):=⟨_,rfl⟩;rw [<- hW0];have hb0:Below w.heap.size w W0:=by rw [hW0];(exact bel)
 have hz:w.heap.size < W0.heap.size:=by rw [hW0];simp
 have c1:W0.cell? ⟨w.heap.size,1,none⟩=some (.int .i64 b.gap):=by rw [hW0,World.cell?_alloc_at _ _ _ _ rfl];rfl
 have HB0:=Hh hb0;clear hW0 hb0;go_loopw [3,9,10] (fun t v i wr=>∃ (k:Nat) (a:Option Addr) (c:Nat),k<=o.length/\i=.int .i64 k/\t=.int .i64 (endAt b.gap now o k)/\v=.slice a k c/\wr.ownsRow W0.heap.size 3 1 (.slice a k c) k ((endsTo b.gap now o k).map (Value.int .i64))/\Below W0.heap.size W0 wr) (fun _ _ i _=>o.length - (intOf i).toNat)
 case atStart=>exact ⟨0,none,0,Nat.zero_le _,rfl,by rw [HE0.out],rfl,by simpa [endsTo] using World.ownsRow_nil _ _ _ _,Below.refl _ _⟩
 case round =>
  obtain ⟨k,a,c,hk,rfl,rfl,rfl,hrow,hW⟩:=hrel;have hWs:=hW.size;have hbw:=Below.next HB0.out hW;have HBW:=Hh hbw;have HW:=Hh hW;have HROW:=Hh hrow;have hbd:=HBD.out k hk;have d1:=(hW.cell (p:=⟨w.heap.size,1,none⟩) hz).trans c1;have hzr:w.heap.size < wr.heap.size:=by omega
  by_cases hlt:k < o.length
  ·have hsu:=HSU.out k hlt;have hes:=HES.out k;have hbd2:=HBD.out (k+1) (by omega);have hok:=HOB.out _ (List.getElem_mem hlt);have hoh:=HOH.out k;rw [List.getD_eq_getElem?_getD,List.getElem?_eq_getElem hlt,Option.getD_some] at hoh;generalize o[k]=x at hsu hok hoh;have HH:=Hh hoh.symm;have HES2:=Hh hes;generalize endAt b.gap now o k=y at hbd hsu ⊢;generalize hy2:endAt b.gap now o (k+1)=y2 at hbd2 hsu HES2;have HY2:=Hh hy2.symm;have hk2:(k:Int) < (o.length:Int):=by omega
   have hw1:IntKind.i64.wrap (y+b.gap)=y+b.gap:=wrapI (by omega) (by omega);have hw2:IntKind.i64.wrap (y+b.gap+x)=y2:=by rw [wrapI (by omega) (by omega)];omega
   clear hrow hW hbw hoh hes hsu hy2;go_wp2_with (go_at_call 43;(with_reducible refine (tapesOf_at (HL.out.below HBW.out) (HP.out.below HBW.out) rfl rfl HLL.out (by omega) HO.out).mono ?_);rintro e w1 ⟨rfl,hb1⟩);have d1:=(hb1.cell (p:=⟨w.heap.size,1,none⟩) hzr).trans d1;have hzw1:w.heap.size < w1.heap.size:=Nat.lt_of_lt_of_le hzr hb1.size;have HB1:=Hh hb1;have hW1:=hb1.size;clear hb1;go_quiet ((go_at_call 80;with_reducible exact Calls.quiet_of_same (held_at (HL.out.below (Below.next (Below.next HBW.out HB1.out) (bel))) (HP.out.below (Below.next (Below.next HBW.out HB1.out) (bel))) rfl rfl HLL.out (by omega) HLB.out (k:Int) HH.out)));obtain ⟨X,hX⟩:∃ X,w1.drewN nq=X:=⟨_,rfl⟩;have hbX:Below wr.heap.size wr X:=Below.next HB1.out (by rw [<- hX];(exact bel));rw [hX];have HROWX:=Hh (ownsRow_below HROW.out hbX);have HBX:=Hh (Below.next HW.out hbX);have hXs:=hbX.size;have hzX:w.heap.size < X.heap.size:=by omega
   have hk100:k<=100:=by omega
   clear hX hbX HROW d1;go_wp2_with (at_builtin;go_loud (refine wpList_append_own _ rfl _ _ 27 rfl W0.heap.size 3 i0 (.int .i64 0) 1 8 Tryz.underlying27 hi0 hz0 hz1 hz2 rfl (by decide) _ _ _ rfl (HROWX.out.alloc _) ⟨X.heap.size,0,none⟩ 1 1 [.int .i64 y2] rfl rfl (cells_new _ _ _) (by simp [Value.oneCell']) (by unfold maxLen;omega) (by omega) (by simp;omega) ?_;intro v' w5 hown' hgrow _;obtain ⟨g',cap',rfl⟩:=ownsRow_succ hown';have hb5:=below_own (HROWX.out.alloc (.cells #[.int .i64 y2] 3)) hgrow (by simp;omega)));have hb6:Below W0.heap.size W0 w5:=(HBX.out.alloc (by omega) _).trans hb5;have HB6:=Hh hb6;have HOW:=Hh hown';clear hb5 hb6 hown' hgrow;go_roundw
   case rel=>exact ⟨k+1,some ⟨g',0,none⟩,cap',by omega,by go_num,by rw [HY2.out],rfl,by rw [HES2.out,List.map_append];exact HOW.out,HB6.out⟩
   case measure=>simp [intOf];omega
  ·obtain rfl:k=o.length:=by omega
   have hBw:=hbw;clear hrow hW hbw;go_wp2_with (go_at_call 43;(with_reducible refine (tapesOf_at (HL.out.below HBW.out) (HP.out.below HBW.out) rfl rfl HLL.out (by omega) HO.out).mono ?_);rintro e w1 ⟨rfl,hb1⟩);have HBX:=Hh (Below.next hBw hb1);have HBX1:=Hh hb1;clear hb1;go_wp2;go_ret;exact ⟨a,c,by rw [endsI_length];rfl,by rw [endsI_length];exact IntsV.of (l:=endsI b.gap now o) (ownsRow_below HROW.out (by have:=HBX1.out;exact this)),HBX.out⟩
end
section
variable {b:Bk} {vr vg vm vs vc:Value} {w:World} {la pa:Option Addr} {lc pc n m:Nat} {loads plan o:List Int}
theorem room_bd (hk:bookAl b=0):1<=b.room/\b.room<=20:=by
 have h:=(bookAl_parts hk).1;unfold numbersAl at h;split at h
 ·rename_i h2
  simp [inB] at h2;omega
 ·cases h
theorem fits_held (hl:loads.length=plan.length) (ho:planOk loads plan=some o) {t:Nat} {x:Int} (hx:heldL (plan.zip loads) t=x) (h0:1<=b.room) (h:b.room < x):fitsI b o=false:=by
 obtain ⟨-,-,-,hoh,-⟩:=planOk_inv hl ho;have h1:=hoh t;rw [hx] at h1;have ht:t < o.length:=by
  apply Classical.byContradiction;intro hc;rw [List.getD_eq_getElem?_getD,List.getElem?_eq_none (by omega)] at h1;simp at h1;omega
 rw [List.getD_eq_getElem?_getD,List.getElem?_eq_getElem ht,Option.getD_some] at h1
 cases hf:fitsI b o with
 | false=>rfl
 | true =>
  unfold fitsI at hf;have:=List.all_eq_true.1 hf _ (List.getElem_mem ht);simp at this;omega
theorem fits_all (hl:loads.length=plan.length) (ho:planOk loads plan=some o) (h:∀ t:Nat,t < plan.length->heldL (plan.zip loads) t<=b.room):fitsI b o=true:=by
 obtain ⟨hf,ho1,ho2,hoh,-⟩:=planOk_inv hl ho;unfold fitsI;rw [List.all_eq_true];intro x hx;obtain ⟨i,hi,rfl⟩:=List.mem_iff_getElem.1 hx;have h1:=hoh i;rw [List.getD_eq_getElem?_getD,List.getElem?_eq_getElem hi,Option.getD_some] at h1;rw [h1];have hil:i < plan.length:=by
  obtain ⟨j,hj,e⟩:=List.mem_iff_getElem.1 (ho2 i hi);have hz:(plan[j],loads[j]'(by omega))∈plan.zip loads:=List.mem_iff_getElem.2 ⟨j,by rw [List.length_zip];omega,by simp⟩;have:=hf _ hz;unfold fitP at this;simp only at this;omega
 simpa using h i hil
theorem rFits_at (hB:BookAt w b vr vg vm vs vc) (hk:bookAl b=0) (hL:IntsAt w la loads) (hP:IntsAt w pa plan) (hn:n=loads.length) (hm:m=plan.length) (hl:loads.length=plan.length) (hpl:plan.length<=50) (hb:∀ x∈loads,0<=x/\x<=1000) (ho:planOk loads plan=some o) {v:Bool} (hv:fitsI b o=v) :
 Calls Tryz.prog 56 #[.agg #[vr,vg,vm,vs,vc],.slice la n lc,.slice pa m pc] w fun e w'=>e=.returned (.bool v)/\Below w.heap.size w w':=by
 subst hn hm;obtain ⟨hr0,hr1⟩:=room_bd hk;have HL:=Hh hL;have HP:=Hh hP;have HO:=Hh ho;have HLB:=Hh hb;have HV:=Hh hv;have HLL:=Hh hl;obtain ⟨rfl,rfl,⟨ma,mc,rfl,_,_⟩,⟨sa,sc,rfl,_,_⟩,ra,rc,rfl,_,_⟩:=id hB;clear hB hk hL hP hb ho hl hv
 go_enter Tryz.func56,Tryz.ntmps56
 go_wp2;obtain ⟨W0,hW0⟩:∃ W0,W0=w.alloc (.cells #[.int .i64 b.room,.int .i64 b.gap,.slice ma b.ms.length mc,.slice sa b.ss.length sc,.slice ra b.rs.length rc] 26):=⟨_,rfl⟩;rw [<- hW0];have hb0:Below w.heap.size w W0:=by rw [hW0];(exact bel)
 have hz:w.heap.size < W0.heap.size:=by rw [hW0];simp
 have c1:W0.cell? ⟨w.heap.size,0,none⟩=some (.int .i64 b.room):=by rw [hW0,World.cell?_alloc_at _ _ _ _ rfl];rfl
 have HB0:=Hh hb0;clear hW0 hb0;go_loopw [7] (fun i wr=>∃ k:Nat,k<=plan.length/\i=.int .i64 k/\Hid (∀ t:Nat,t < k->heldL (plan.zip loads) t<=b.room)/\Below W0.heap.size W0 wr) (fun i _=>plan.length - (intOf i).toNat)
 case atStart=>exact ⟨0,Nat.zero_le _,rfl,(fun t ht=>absurd ht (Nat.not_lt_zero _)),Below.refl _ _⟩
 case round =>
  obtain ⟨k,hk,rfl,HF,hW⟩:=hrel;have hWs:=hW.size;have HBW:=Hh (Below.next HB0.out hW);have HW:=Hh hW;have d1:=(hW.cell (p:=⟨w.heap.size,0,none⟩) hz).trans c1;have hzr:w.heap.size < wr.heap.size:=by omega
  by_cases hlt:k < plan.length
  ·have hk2:(k:Int) < (plan.length:Int):=by omega
   obtain ⟨x,hx⟩:∃ x,heldL (plan.zip loads) k=x:=⟨_,rfl⟩;have HH:=Hh hx;clear hW hx;by_cases hr:b.room < x
   ·have HR:=Hh (show fitsI b o=false from fits_held HLL.out HO.out HH.out hr0 hr);have hd:decide (b.room < x)=true:=decide_eq_true hr;clear hr;go_wp2;go_quiet ((go_at_call 80;with_reducible exact Calls.quiet_of_same (held_at (HL.out.below (Below.next HBW.out (bel))) (HP.out.below (Below.next HBW.out (bel))) rfl rfl HLL.out (by omega) HLB.out (k:Int) HH.out)));go_wp2;go_ret;exact ⟨by rw [<- HV.out,HR.out];rfl,Below.next HBW.out (bel)⟩
   ·have hd:decide (b.room < x)=false:=by simpa using hr
    have HLE:=Hh hr;clear hr;go_wp2;go_quiet ((go_at_call 80;with_reducible exact Calls.quiet_of_same (held_at (HL.out.below (Below.next HBW.out (bel))) (HP.out.below (Below.next HBW.out (bel))) rfl rfl HLL.out (by omega) HLB.out (k:Int) HH.out)));go_wp2;go_roundw
    case rel =>
     refine ⟨k+1,by omega,by go_num,?_,Below.next HW.out (bel)⟩;show ∀ t:Nat,t < k+1->_;intro t ht;by_cases e:t=k
     ·subst e;rw [HH.out];exact HLE.out
     ·exact HF.out t (by omega)
    case measure=>simp [intOf];omega
  ·obtain rfl:k=plan.length:=by omega
   have HT:=Hh (fits_all HLL.out HO.out HF.out);clear hW;go_wp2;go_ret;exact ⟨by rw [<- HV.out,HT.out];rfl,HBW.out⟩
end
theorem lateGo_le (E:List Int):∀ (ks:List Int) (ms:List Msg) (t x:Int),lateGo E ks ms t<=x↔t<=x/\∀ i (h:i < ks.length) (h2:i < ms.length),0<=ks[i]->E.getD ks[i].toNat 0 - ms[i].due<=x
 | [],ms,t,x=>by unfold lateGo;simp
 | k::ks,[],t,x=>by unfold lateGo;simp
 | k::ks,m::ms,t,x=>by
  unfold lateGo;rw [lateGo_le E ks ms];constructor
  ·rintro ⟨h1,h2⟩;refine ⟨by split at h1 <;> omega,fun i hi hi2 h0=>?_⟩
   cases i with
   | zero =>
    simp only [List.getElem_cons_zero] at h0 ⊢;rw [if_pos h0] at h1;omega
   | succ i=>exact h2 i (by simpa using hi) (by simpa using hi2) h0
  ·rintro ⟨h1,h2⟩;refine ⟨?_,fun i hi hi2 h0=>h2 (i+1) (by simp;omega) (by simp;omega) h0⟩;split
   ·rename_i h0
    have:=h2 0 (by simp) (by simp) h0;simp only [List.getElem_cons_zero] at this;omega
   ·exact h1
theorem lateGo_snoc (E:List Int):∀ (ks:List Int) (ms:List Msg) (t k:Int) (h:ks.length < ms.length),lateGo E (ks ++ [k]) ms t=if 0<=k then max (lateGo E ks ms t) (E.getD k.toNat 0 - ms[ks.length].due) else lateGo E ks ms t
 | [],[],t,k,h=>by simp at h
 | [],m::ms,t,k,h=>by
  show lateGo E [k] (m::ms) t=_;unfold lateGo lateGo;rfl
 | k1::ks,[],t,k,h=>by simp at h
 | k1::ks,m::ms,t,k,h=>by
  show lateGo E (k1::(ks ++ [k])) (m::ms) t=_;rw [lateGo,lateGo_snoc E ks ms _ k (by simpa using h)];show _=if 0<=k then max (lateGo E (k1::ks) (m::ms) t) _ else lateGo E (k1::ks) (m::ms) t;rw [lateGo];rfl
theorem endAt_now (gap now:Int) (o:List Int) (k:Nat):endAt gap now o k=now+endAt gap 0 o k:=by unfold endAt;omega
theorem ends_now (gap now:Int) (o:List Int) {k:Nat} (h:k < o.length):(endsI gap now o).getD k 0=now+(endsI gap 0 o).getD k 0:=by
 rw [List.getD_eq_getElem?_getD,List.getD_eq_getElem?_getD,List.getElem?_eq_getElem (by rw [endsI_length];exact h),List.getElem?_eq_getElem (by rw [endsI_length];exact h),Option.getD_some,Option.getD_some];unfold endsI endsTo;simp only [List.getElem_map,List.getElem_range];exact endAt_now ..
theorem plan_on {loads plan o:List Int} (hl:loads.length=plan.length) (ho:planOk loads plan=some o) {i:Nat} (hi:i < plan.length) (h0:0<=plan[i]):plan[i].toNat < o.length:=by
 obtain ⟨-,h1,-⟩:=planOk_inv hl ho;have h2:plan[i]<=mostL (-1) plan:=by
  obtain ⟨l1,l2,e,hl1⟩:∃ l1 l2,plan=l1 ++ plan[i]::l2/\l1.length=i:=⟨plan.take i,plan.drop (i+1),by rw [<- List.drop_eq_getElem_cons hi,List.take_append_drop],by rw [List.length_take];omega⟩;have hm:∀ (l:List Int) (m x:Int),x∈l->x<=mostL m l:=by
   intro l
   induction l with
   | nil=>intro m x hx;cases hx
   | cons y l ih =>
    intro m x hx;show x<=mostL (max m y) l;rcases List.mem_cons.1 hx with rfl | hx
    ·have:=mostL_le (max m x) l;omega
    ·exact ih _ _ hx
  exact hm _ _ _ (List.getElem_mem hi)
 omega
def onTime (b:Bk) (plan o:List Int) (now:Int):Prop:=∀ i (h:i < plan.length) (h2:i < b.ms.length),0<=plan[i]->(endsI b.gap now o).getD plan[i].toNat 0<=b.ms[i].due
theorem good_iff {b:Bk} {loads plan o:List Int} {now:Int} (hl:loads.length=plan.length) (hm:plan.length=b.ms.length) (ho:planOk loads plan=some o) (h0:0<=now) (h1:now<=999):goodI b plan o now=true↔onTime b plan o now/\fitsI b o=true:=by
 have hlate:lateI b plan o+now<=0↔onTime b plan o now:=by
  have h:=lateGo_le (endsI b.gap 0 o) plan b.ms (-999) (-now);unfold lateI;constructor
  ·intro h2;have h3:=(h.1 (by omega)).2;intro i hi hi2 hp;have h4:=h3 i hi hi2 hp;rw [ends_now _ _ _ (plan_on hl ho hi hp)];omega
  ·intro h2;have h5:lateGo (endsI b.gap 0 o) plan b.ms (-999)<=-now:=h.2 ⟨by omega,fun i hi hi2 hp=>by
    have h4:=h2 i hi hi2 hp
    rw [ends_now _ _ _ (plan_on hl ho hi hp)] at h4
    omega⟩
   omega
 unfold goodI;rw [Bool.and_eq_true,Bool.or_eq_true,decide_eq_true_eq,decide_eq_true_eq,hlate];constructor
 ·rintro ⟨h2,h3 | h3⟩
  ·exact ⟨h3,h2⟩
  ·refine ⟨fun i hi hi2 hp=>?_,h2⟩;have:=plan_on hl ho hi hp;rw [h3] at this;simp at this
 ·rintro ⟨h2,h3⟩;exact ⟨h3,.inl h2⟩
section
variable {b:Bk} {vr vg vm vs vc:Value} {w:World} {la pa:Option Addr} {lc pc n m:Nat} {loads plan o:List Int}
theorem rGoodOf_at (hB:BookAt w b vr vg vm vs vc) (hk:bookAl b=0) (hL:IntsAt w la loads) (hP:IntsAt w pa plan) (hn:n=loads.length) (hm:m=plan.length) (hl:loads.length=plan.length) (hpm:plan.length=b.ms.length) (hb:∀ x∈loads,0<=x/\x<=1000) (ho:planOk loads plan=some o) {now:Int} (h0:0<=now) (h1:now<=999) {v:Bool} (hv:goodI b plan o now=v) :
 Calls Tryz.prog 42 #[.agg #[vr,vg,vm,vs,vc],.slice la n lc,.slice pa m pc,.int .i64 now] w fun e w'=>e=.returned (.bool v)/\Below w.heap.size w w':=by
 subst hn hm;have hml:=(bookAl_ok hk).1.ml;have HB:=Hh hB;have HK:=Hh hk;have HL:=Hh hL;have HP:=Hh hP;have HO:=Hh ho;have HLB:=Hh hb;have HLL:=Hh hl;have HV:=Hh hv;have HPM:=Hh hpm;have HGI:=Hh (good_iff hl hpm ho h0 h1);have HON:=Hh (fun i (hi:i < plan.length) h0=>plan_on hl ho hi h0);have hel:(endsI b.gap now o).length=o.length:=endsI_length ..;have HEL:=Hh hel;obtain ⟨rfl,rfl,⟨ma,mc,rfl,hM,_⟩,⟨sa,sc,rfl,_,_⟩,ra,rc,rfl,_,_⟩:=id hB;have HM:=Hh hM;clear hB hk hL hP hb ho hl hv hpm hel hM
 go_enter Tryz.func42,Tryz.ntmps42
 go_wp2_with (go_at_call 48;(with_reducible refine (rEnds_at (HB.out.below (bel)) HK.out (HL.out.below (bel)) (HP.out.below (bel)) rfl rfl HLL.out (by have:=HPM.out;omega) HLB.out HO.out h0 h1).mono ?_);rintro e w1 ⟨ea,ec,rfl,he1,hb1⟩;obtain ⟨hc1,hf1⟩:=bcell hb1;have hzw:w.heap.size < w1.heap.size:=(by have:=hb1.size;simp at this;omega));have hbw:Below w.heap.size w w1:=bel;have nn:∀ k u,(#[.int .i64 b.room,.int .i64 b.gap,.slice ma b.ms.length mc,.slice sa b.ss.length sc,.slice ra b.rs.length rc]:Array Value)[k]? = some u->w1.cell? ⟨w.heap.size,k,none⟩=some u:=fun k u hk=>by
  rw [hb1.cell (p:=⟨w.heap.size,k,none⟩) (by simp),World.cell?_alloc_at _ _ _ _ rfl];exact hk
 have n0:=nn 0 _ rfl;have n1:=nn 1 _ rfl;have n2:=nn 2 _ rfl;have n3:=nn 3 _ rfl;have n4:=nn 4 _ rfl;have HE:=Hh (intsV_parts he1).2.1;have HBW:=Hh hbw;clear nn he1 hbw hb1 hc1 hf1;go_loopw [10] (fun i wr=>∃ k:Nat,k<=plan.length/\i=.int .i64 k/\Hid (∀ j (hj:j < plan.length) (hj2:j < b.ms.length),j < k->0<=plan[j]->(endsI b.gap now o).getD plan[j].toNat 0<=b.ms[j].due)/\Below w1.heap.size w1 wr) (fun i _=>plan.length - (intOf i).toNat)
 case atStart=>exact ⟨0,Nat.zero_le _,rfl,(fun j _ _ hj=>absurd hj (Nat.not_lt_zero _)),Below.refl _ _⟩
 case round =>
  obtain ⟨k,hk,rfl,HF,hW⟩:=hrel;have hWs:=hW.size;have HW:=Hh hW;have HBX:=Hh (Below.next HBW.out hW);have m0:=(hW.cell (p:=⟨w.heap.size,0,none⟩) hzw).trans n0;have m1:=(hW.cell (p:=⟨w.heap.size,1,none⟩) hzw).trans n1;have m2:=(hW.cell (p:=⟨w.heap.size,2,none⟩) hzw).trans n2;have m3:=(hW.cell (p:=⟨w.heap.size,3,none⟩) hzw).trans n3;have m4:=(hW.cell (p:=⟨w.heap.size,4,none⟩) hzw).trans n4;have hzr:w.heap.size < wr.heap.size:=by omega
  by_cases hlt:k < plan.length
  ·have hlm:k < b.ms.length:=by have:=HPM.out;omega
   have hk2:(k:Int) < (plan.length:Int):=by omega
   have hk3:(k:Int) < (b.ms.length:Int):=by omega
   obtain ⟨pb,po,rfl,hpb,e0⟩:=HP.out k hlt;have d0:=(HBX.out.cell (p:=⟨pb,po+k,none⟩) hpb).trans e0;have hpr:pb < wr.heap.size:=Nat.lt_of_lt_of_le hpb HBX.out.size;have hon:=HON.out k hlt;have HNX:=Hh (show ∀ (hx:0<=plan[k]->(endsI b.gap now o).getD plan[k].toNat 0<=b.ms[k].due),∀ j (hj:j < plan.length) (hj2:j < b.ms.length),j < k+1->0<=plan[j]->(endsI b.gap now o).getD plan[j].toNat 0<=b.ms[j].due from fun hx j hj hj2 hjk=>by
    by_cases e:j=k
    ·subst e;exact hx
    ·exact HF.out j hj hj2 (by omega))
   have HNO:=Hh (show ∀ (hx:0<=plan[k]) (h2:b.ms[k].due < (endsI b.gap now o).getD plan[k].toNat 0),goodI b plan o now=false from fun hx h2=>by
    cases hg:goodI b plan o now with
    | false=>rfl
    | true=>have:=(HGI.out.1 hg).1 k hlt hlm hx;omega)
   obtain ⟨mb,mo,rfl,hmb,f0,f1,f2⟩:=HM.out k hlm;have dm:=(HBX.out.cell (p:=⟨mb,mo+k * 3+2,none⟩) hmb).trans f2;have hmr:mb < wr.heap.size:=Nat.lt_of_lt_of_le hmb HBX.out.size;generalize b.ms[k].due=u at dm HNX HNO f2;generalize plan[k]=y at d0 hon HNX HNO e0;clear hW e0 f0 f1 f2;by_cases hy:0<=y
   ·obtain ⟨q,rfl⟩:∃ q:Nat,y=q:=⟨y.toNat,by omega⟩;have hq:=hon hy;rw [Int.toNat_natCast] at hq;have hqe:q < (endsI b.gap now o).length:=by rw [HEL.out];exact hq
    obtain ⟨eb,eo,rfl,heb,g0⟩:=HE.out q hqe;have de:=(HW.out.cell (p:=⟨eb,eo+q,none⟩) heb).trans g0;have her:eb < wr.heap.size:=Nat.lt_of_lt_of_le heb hWs;have hge:(endsI b.gap now o).getD q 0=(endsI b.gap now o)[q]:=by rw [List.getD_eq_getElem?_getD,List.getElem?_eq_getElem hqe,Option.getD_some]
    rw [Int.toNat_natCast,hge] at HNX HNO;have hql:(q:Int) < ((endsI b.gap now o).length:Int):=by omega
    generalize (endsI b.gap now o)[q]=z at de HNX HNO g0;clear g0 hge hon;by_cases hz:u < z
    ·have HG:=Hh (HNO.out hy hz);have hd:decide (u < z)=true:=decide_eq_true hz;clear hz;go_wp2;go_quiet (fail);go_wp2;go_ret;exact ⟨by rw [<- HV.out,HG.out];rfl,Below.next HBX.out (bel)⟩
    ·have HG:=Hh (HNX.out fun _=>by omega);have hd:decide (u < z)=false:=by simpa using hz
     clear hz;go_wp2;go_quiet (fail);go_wp2;go_roundw
     case rel=>exact ⟨k+1,by omega,by go_num,HG,Below.next HW.out (bel)⟩
     case measure=>simp [intOf];omega
   ·have HG:=Hh (HNX.out fun h=>absurd h hy);have hd:decide (0<=y)=false:=by simpa using hy
    clear hy hon;go_wp2;go_quiet (fail);go_wp2;go_roundw
    case rel=>exact ⟨k+1,by omega,by go_num,HG,Below.next HW.out (bel)⟩
    case measure=>simp [intOf];omega
  ·obtain rfl:k=plan.length:=by omega
   have hfv:fitsI b o=v:=by
    have hot:onTime b plan o now:=fun i hi hi2 hp=>HF.out i hi hi2 hi hp;have h2:=HGI.out;rw [HV.out] at h2
    cases v with
    | true=>exact (h2.1 rfl).2
    | false =>
     cases hf:fitsI b o with
     | false=>rfl
     | true=>exact absurd (h2.2 ⟨hot,hf⟩) (by simp)
   have HFV:=Hh hfv;clear hW hfv;go_wp2_with (go_at_call 56;(with_reducible refine (rFits_at (HB.out.below HBX.out) HK.out (HL.out.below HBX.out) (HP.out.below HBX.out) rfl rfl HLL.out (by have:=HPM.out;omega) HLB.out HO.out HFV.out).mono ?_);rintro e w2 ⟨rfl,hb2⟩);go_ret;exact ⟨rfl,Below.next HBX.out hb2⟩
end
section
variable {b:Bk} {vr vg vm vs vc:Value} {w:World} {la pa:Option Addr} {lc pc n m:Nat} {loads plan o:List Int}
theorem rLatestOf_at (hB:BookAt w b vr vg vm vs vc) (hk:bookAl b=0) (hL:IntsAt w la loads) (hP:IntsAt w pa plan) (hn:n=loads.length) (hm:m=plan.length) (hl:loads.length=plan.length) (hpm:plan.length=b.ms.length) (hb:∀ x∈loads,0<=x/\x<=1000) (ho:planOk loads plan=some o) {v:Int} (hv:- lateI b plan o=v) :
 Calls Tryz.prog 57 #[.agg #[vr,vg,vm,vs,vc],.slice la n lc,.slice pa m pc] w fun e w'=>e=.returned (.int .i64 v)/\Below w.heap.size w w':=by
 subst hn hm;have hml:=(bookAl_ok hk).1.ml;have HB:=Hh hB;have HK:=Hh hk;have HL:=Hh hL;have HP:=Hh hP;have HO:=Hh ho;have HLB:=Hh hb;have HLL:=Hh hl;have HV:=Hh hv;have HPM:=Hh hpm;obtain ⟨hg0,hg1⟩:=gap_bd hk;have HEB:=Hh (endsI_bd (gap:=b.gap) (now:=0) ⟨hg0,by omega⟩ ⟨by omega,by omega⟩ (planOk_bd ho (by omega) hb).1 (planOk_bd ho (by omega) hb).2);have HDU:=Hh (nightOk hk).due;have HON:=Hh (fun i (hi:i < plan.length) h0=>plan_on hl ho hi h0);have hel:(endsI b.gap 0 o).length=o.length:=endsI_length ..;have HEL:=Hh hel;obtain ⟨rfl,rfl,⟨ma,mc,rfl,hM,_⟩,⟨sa,sc,rfl,_,_⟩,ra,rc,rfl,_,_⟩:=id hB;have HM:=Hh hM;clear hB hk hL hP hb ho hl hv hpm hel hM
 go_enter Tryz.func57,Tryz.ntmps57
 go_wp2_with (go_at_call 48;(with_reducible refine (rEnds_at (HB.out.below (bel)) HK.out (HL.out.below (bel)) (HP.out.below (bel)) rfl rfl HLL.out (by have:=HPM.out;omega) HLB.out HO.out (Int.le_refl 0) (by omega)).mono ?_);rintro e w1 ⟨ea,ec,rfl,he1,hb1⟩;obtain ⟨hc1,hf1⟩:=bcell hb1;have hzw:w.heap.size < w1.heap.size:=(by have:=hb1.size;simp at this;omega));have hbw:Below w.heap.size w w1:=bel;have nn:∀ k u,(#[.int .i64 b.room,.int .i64 b.gap,.slice ma b.ms.length mc,.slice sa b.ss.length sc,.slice ra b.rs.length rc]:Array Value)[k]? = some u->w1.cell? ⟨w.heap.size,k,none⟩=some u:=fun k u hk=>by
  rw [hb1.cell (p:=⟨w.heap.size,k,none⟩) (by simp),World.cell?_alloc_at _ _ _ _ rfl];exact hk
 have n0:=nn 0 _ rfl;have n1:=nn 1 _ rfl;have n2:=nn 2 _ rfl;have n3:=nn 3 _ rfl;have n4:=nn 4 _ rfl;have HE:=Hh (intsV_parts he1).2.1;have HBW:=Hh hbw;clear nn he1 hbw hb1 hc1 hf1;go_loopw [8,9] (fun t i wr=>∃ k:Nat,k<=plan.length/\i=.int .i64 k/\t=.int .i64 (- lateGo (endsI b.gap 0 o) (plan.take k) b.ms (-999))/\Below w1.heap.size w1 wr) (fun _ i _=>plan.length - (intOf i).toNat)
 case atStart=>exact ⟨0,Nat.zero_le _,rfl,by rw [List.take_zero];unfold lateGo;rfl,Below.refl _ _⟩
 case round =>
  obtain ⟨k,hk,rfl,rfl,hW⟩:=hrel;have hWs:=hW.size;have HW:=Hh hW;have HBX:=Hh (Below.next HBW.out hW);have m0:=(hW.cell (p:=⟨w.heap.size,0,none⟩) hzw).trans n0;have m1:=(hW.cell (p:=⟨w.heap.size,1,none⟩) hzw).trans n1;have m2:=(hW.cell (p:=⟨w.heap.size,2,none⟩) hzw).trans n2;have m3:=(hW.cell (p:=⟨w.heap.size,3,none⟩) hzw).trans n3;have m4:=(hW.cell (p:=⟨w.heap.size,4,none⟩) hzw).trans n4;have hzr:w.heap.size < wr.heap.size:=by omega
  by_cases hlt:k < plan.length
  ·have hlm:k < b.ms.length:=by have:=HPM.out;omega
   have hk2:(k:Int) < (plan.length:Int):=by omega
   have hk3:(k:Int) < (b.ms.length:Int):=by omega
   obtain ⟨pb,po,rfl,hpb,e0⟩:=HP.out k hlt;have d0:=(HBX.out.cell (p:=⟨pb,po+k,none⟩) hpb).trans e0;have hpr:pb < wr.heap.size:=Nat.lt_of_lt_of_le hpb HBX.out.size;have hon:=HON.out k hlt;have hsn:=lateGo_snoc (endsI b.gap 0 o) (plan.take k) b.ms (-999) plan[k] (by rw [List.length_take];omega);rw [<- List.take_succ_eq_append_getElem hlt] at hsn;have hkl:(plan.take k).length=k:=by rw [List.length_take];omega
   simp only [hkl] at hsn;obtain ⟨mb,mo,rfl,hmb,f0,f1,f2⟩:=HM.out k hlm;have dm:=(HBX.out.cell (p:=⟨mb,mo+k * 3+2,none⟩) hmb).trans f2;have hmr:mb < wr.heap.size:=Nat.lt_of_lt_of_le hmb HBX.out.size;have hdu:=HDU.out _ (List.getElem_mem hlm);generalize b.ms[k].due=u at dm hsn hdu f2;generalize plan[k]=y at d0 hon hsn e0;generalize lateGo (endsI b.gap 0 o) (plan.take k) b.ms (-999)=s at hsn ⊢;have HSN:=Hh hsn;clear hW e0 f0 f1 f2 hsn hkl;by_cases hy:0<=y
   ·obtain ⟨q,rfl⟩:∃ q:Nat,y=q:=⟨y.toNat,by omega⟩;have hq:=hon hy;rw [Int.toNat_natCast] at hq;have hqe:q < (endsI b.gap 0 o).length:=by rw [HEL.out];exact hq
    obtain ⟨eb,eo,rfl,heb,g0⟩:=HE.out q hqe;have de:=(HW.out.cell (p:=⟨eb,eo+q,none⟩) heb).trans g0;have her:eb < wr.heap.size:=Nat.lt_of_lt_of_le heb hWs;have hge:(endsI b.gap 0 o).getD q 0=(endsI b.gap 0 o)[q]:=by rw [List.getD_eq_getElem?_getD,List.getElem?_eq_getElem hqe,Option.getD_some]
    have hzb:=HEB.out _ (List.getElem_mem hqe);rw [if_pos hy,Int.toNat_natCast,hge] at HSN;have hql:(q:Int) < ((endsI b.gap 0 o).length:Int):=by omega
    generalize (endsI b.gap 0 o)[q]=z at de HSN g0 hzb;have hws:IntKind.i64.wrap (u - z)=u - z:=wrapI (by omega) (by omega);clear g0 hge hon hq;go_wp2;go_quiet (fail);go_wp2;go_roundw
    case rel=>exact ⟨k+1,by omega,by go_num,by rw [HSN.out];congr 1;omega,Below.next HW.out (bel)⟩
    case measure=>simp [intOf];omega
   ·rw [if_neg hy] at HSN;have hd:decide (0<=y)=false:=by simpa using hy
    clear hy hon;go_wp2;go_roundw
    case rel=>exact ⟨k+1,by omega,by go_num,by rw [HSN.out],HW.out⟩
    case measure=>simp [intOf];omega
  ·obtain rfl:k=plan.length:=by omega
   have hlv:- lateGo (endsI b.gap 0 o) (plan.take plan.length) b.ms (-999)=v:=by rw [List.take_length];exact HV.out
   rw [hlv];clear hW hlv;go_wp2;go_ret;exact ⟨rfl,HBX.out⟩
end
def planL (loads pre rest:List Int):List (List Int):=(plansFrom loads pre rest).map Prod.fst
theorem planL_nil (loads pre:List Int):planL loads pre []=if tapesV loads pre < 0 then [] else [pre]:=by
 unfold planL plansFrom tapesV
 cases planOk loads pre with
 | none=>rfl
 | some o =>
  simp only [List.map_cons,List.map_nil];rw [if_neg (by omega)]
theorem planL_zero (loads pre rest:List Int):planL loads pre (0::rest)=planL loads (pre ++ [-1]) rest:=by
 unfold planL;rw [plansFrom,if_pos rfl];simp
theorem planL_step (loads pre rest:List Int) {ld:Int} (h:ld≠0):planL loads pre (ld::rest)=(List.range loads.length).flatMap fun (k:Nat)=>planL loads (pre ++ [(k:Int)]) rest:=by
 unfold planL;rw [plansFrom,if_neg h,List.flatMap_map,List.map_flatMap]
theorem flat_len {f:Nat->List (List Int)} {M:Nat} (h:∀ i,(f i).length<=M):∀ k,((List.range k).flatMap f).length<=k * M
 | 0=>by simp
 | k+1=>by
  rw [flat_succ,List.length_append,Nat.succ_mul];have:=flat_len h k;have:=h k;omega
theorem planL_len {loads:List Int} (h5:loads.length<=5):∀ (rest pre:List Int),(planL loads pre rest).length<=5 ^ rest.length
 | [],pre=>by rw [planL_nil];split <;> simp
 | ld::rest,pre=>by
  have ih:=fun p=>planL_len h5 rest p;rw [List.length_cons,Nat.pow_succ];by_cases h:ld=0
  ·subst h;rw [planL_zero];have:=ih (pre ++ [-1]);omega
  ·rw [planL_step _ _ _ h];have h1:=flat_len (f:=fun k=>planL loads (pre ++ [(k:Int)]) rest) (fun i=>ih _) loads.length;have h2:loads.length * 5 ^ rest.length<=5 * 5 ^ rest.length:=Nat.mul_le_mul_right _ h5;omega
section
variable {w:World} {la pa:Option Addr} {lc pc n m:Nat} {loads pre:List Int}
theorem rPlans_leaf (hL:IntsAt w la loads) (hP:IntsV w (.slice pa pre.length pc) pre) (hl:pre.length=loads.length) (h5:loads.length<=5) (h0:∀ x∈loads,0<=x) :
 Calls Tryz.prog 41 #[.slice la loads.length lc,.slice pa pre.length pc] w (PastsOut w (planL loads pre [])):=by
 rw [planL_nil];have HL:=Hh hL;have HP:=Hh hP;have HI:=Hh (intsV_parts hP).2.1;have HLL:=Hh hl;have H0:=Hh h0;have heq:((pre.length:Int) == (loads.length:Int))=true:=by rw [beq_iff_eq];omega
 have h5p:pre.length<=1000:=by omega
 obtain ⟨v,hv⟩:∃ v,tapesV loads pre=v:=⟨_,rfl⟩;rw [hv];have HV:=Hh hv;clear hL hP hl h0 hv;by_cases hn:v < 0
 ·rw [if_pos hn];have hd:decide (v < 0)=true:=decide_eq_true hn;clear hn
  go_enter Tryz.func41,Tryz.ntmps41
  go_wp2_with (go_at_call 43;(with_reducible refine (tapesOf_v HL.out HI.out rfl rfl HLL.out.symm h5p H0.out HV.out).mono ?_);rintro e w1 ⟨rfl,hb1⟩);go_ret;exact ⟨none,0,[],rfl,World.ownsRow_nil _ _ _ _,ListsV.nil _,bel⟩
 ·rw [if_neg hn];have hd:decide (v < 0)=false:=by simpa using hn
  clear hn
  go_enter Tryz.func41,Tryz.ntmps41
  go_wp2_with (go_at_call 43;(with_reducible refine (tapesOf_v HL.out HI.out rfl rfl HLL.out.symm h5p H0.out HV.out).mono ?_);rintro e w1 ⟨rfl,hb1⟩);go_ret;have hbw:Below w.heap.size w w1:=bel;exact ⟨some ⟨w1.heap.size,0,none⟩,1,[.slice pa pre.length pc],rfl,World.ownsRow_lit w1 #[.slice pa pre.length pc] 1 hbw.size (by decide) rfl,ListsV.single ((HP.out.below hbw).below (bal _ _)),bel⟩
end
theorem want {P:Program} {X:World} {ops:Array Oper} {o:Oper} {a:Act} {K:Act->World->Prop} {Q:Exit->Act->World->Prop} (hgd:o.guard=none) (h:if Region.wanted o (yielded ops a.tmps)=true then Oper.wp P o a X K Q else True):Oper.wp P o a X K Q:=by
 rwa [if_pos (by simp [Region.wanted,hgd])] at h
theorem wpl_appW {P:Program} {X:World} {ops:Array Oper} {rest:List Oper} {o:Oper} {a:Act} {Q:Exit->Act->World->Prop} (W:World) (hgd:o.guard=none) (s x:Operand) (t:TypeId)
 (ho:o.op=.call { callee:=.builtin .append,args:=#[s,x],argTypes:=#[t,t] }) (e:TypeId) {z:Value} {bytes:Nat} (ht:P.underlying t=some (.slice e)) (hi:(P.info? e).map (fun i=>(i.zero,i.size,i.bytes))=some (some z,1,bytes)) (hzs:z.cells.size=1) (hby:bytes<=100)
 (v:Value) (n:Nat) (xs:List Value) (hs:a.eval s=v) (sa:Option Addr) (m c:Nat) (news:List Value) (hx:a.eval x=.slice sa m c) (hl:news.length=m) (h1:∀ u∈news,u.oneCell'=true)
 (r:Nat) (hr:n+m=r) (hnm:r<=1000000) (hW:Below W.heap.size W X) (hown:X.ownsRow W.heap.size e 1 v n xs) (hnews:Src1 X sa c news)
 (h:∀ a' c' w',w'.ownsRow W.heap.size e 1 (.slice a' r c') r (xs ++ news)->KS (fun k=>v.ownBlock≠some k) X w'->Below W.heap.size W w'->wpList P ops Q rest (a.put o.dst (.slice a' r c')) w'):wpList P ops Q (o::rest) a X :=
 wpList_plain hgd fun K hK=>want (ops:=ops) hgd (step_appW W hgd s x t ho e ht hi hzs hby v n xs hs sa m c news hx hl h1 r hr hnm hW hown hnews fun a' c' w' q1 q2 q3=>hK _ _ (h a' c' w' q1 q2 q3))
theorem ints_one (l:List Int):∀ u∈l.map (Value.int .i64),u.oneCell'=true:=fun u hu=>by obtain ⟨z,_,rfl⟩:=List.mem_map.1 hu;rfl
section
variable {w:World} {la pa:Option Addr} {lc pc n m:Nat} {loads pre:List Int}
theorem rPlans_zero (hL:IntsAt w la loads) (hP:IntsV w (.slice pa pre.length pc) pre) (hlt:pre.length < loads.length) (h5:loads.length<=5) (hz:loads[pre.length]=0) {R:List (List Int)}
 (hin:∀ W a c,Below w.heap.size w W->IntsV W (.slice a (pre.length+1) c) (pre ++ [-1])->Calls Tryz.prog 41 #[.slice la loads.length lc,.slice a (pre.length+1) c] W (PastsOut W R)) :
 Calls Tryz.prog 41 #[.slice la loads.length lc,.slice pa pre.length pc] w (PastsOut w R):=by
 obtain ⟨lb,lo,rfl,hlb,e0⟩:=hL pre.length hlt;rw [hz] at e0;obtain ⟨_,hI,hPz,hPc⟩:=intsV_parts hP;have HPB:=Hh (show ∀ ad,pa=some ad->ad.block < w.heap.size from fun ad e=>(ownBlock_row hP ad.block (by rw [e];rfl)).2);have HSRC:=Hh (ints_src hI hPz);have HIN:=Hh hin;have heq:((pre.length:Int) == (loads.length:Int))=false:=by rw [beq_eq_false_iff_ne];omega
 have hp1:(pre.length:Int) < (loads.length:Int):=by omega
 have HONE:=Hh (ints_one pre);have HLN:=Hh (show (pre.map (Value.int .i64)).length=pre.length by simp);clear hL hP hI hPz hin hz
 go_enter Tryz.func41,Tryz.ntmps41
 go_wp2_with (first
  | (at_builtin;refine wpl_appW w rfl _ _ 27 rfl 3 Tryz.underlying27 intInfo rfl (by omega) (.slice (some ⟨w.heap.size,0,none⟩) 0 0) 0 [] rfl pa pre.length pc (pre.map (Value.int .i64)) rfl HLN.out HONE.out pre.length (by omega) (by omega) ?_ ?_ ?_ ?_;(focus ((exact bel)));exact own_lit rfl (Nat.le_refl _);exact (HSRC.out).ks (KS.all (show Below w.heap.size w _ from bel) (fun _=>True)) (fun ad e=>⟨HPB.out ad e,trivial⟩);intro a2 c2 w2 hown2 hks2 hbw2;have hs2:=hbw2.size)
  | (at_builtin;refine wpl_appW w rfl _ _ 27 rfl 3 Tryz.underlying27 intInfo rfl (by omega) (.slice a2 pre.length c2) pre.length ([] ++ pre.map (Value.int .i64)) rfl (some ⟨w2.heap.size,0,none⟩) 1 1 [.int .i64 (-1)] rfl rfl (by simp [Value.oneCell']) (pre.length+1) rfl (by omega) ?_ ?_ ?_ ?_;(focus ((exact bel)));exact hown2.alloc _;exact src_new w2 [.int .i64 (-1)] 3 rfl 1;intro a4 c4 w4 hown4 hks4 hbw4)
  | (go_at_call 41;(with_reducible refine (HIN.out w4 a4 c4 hbw4 (intsV_pre hown4)).mono ?_);rintro e w5 ⟨a5,c5,vs5,rfl,hrow5,hl5,hb5⟩))
 go_ret;exact ⟨a5,c5,vs5,rfl,hrow5.mono hbw4.size,hl5,Below.next hbw4 hb5⟩
end
section
variable {w:World} {la pa:Option Addr} {lc pc n m:Nat} {loads pre:List Int}
theorem rPlans_step (hL:IntsAt w la loads) (hP:IntsV w (.slice pa pre.length pc) pre) (hplt:pre.length < loads.length) (h5:loads.length<=5) (hz:loads[pre.length]≠0) {f:Nat->List (List Int)} (hfl:∀ i,(f i).length<=3125)
 (hin:∀ k:Nat,k < loads.length->∀ W a c,Below w.heap.size w W->IntsV W (.slice a (pre.length+1) c) (pre ++ [(k:Int)])->Calls Tryz.prog 41 #[.slice la loads.length lc,.slice a (pre.length+1) c] W (PastsOut W (f k))) :
 Calls Tryz.prog 41 #[.slice la loads.length lc,.slice pa pre.length pc] w (PastsOut w ((List.range loads.length).flatMap f)):=by
 obtain ⟨lb,lo,rfl,hlb,e0⟩:=hL pre.length hplt;obtain ⟨-,hI,hPz,hPc⟩:=intsV_parts hP;have HLAT:=Hh (show ∀ ad,pa=some ad->ad.block < w.heap.size from fun ad e=>(ownBlock_row hP ad.block (by rw [e];rfl)).2);have HI:=Hh hI;have HZ:=Hh hPz;have HFEW2:=Hh (show ∀ k,k<=6->((List.range k).flatMap f).length<=20000 from fun k hk=>by have:=flat_len hfl k;have:k * 3125<=6 * 3125:=Nat.mul_le_mul_right _ hk;omega);have heq:((pre.length:Int) == (loads.length:Int))=false:=by rw [beq_eq_false_iff_ne];omega
 have hp1:(pre.length:Int) < (loads.length:Int):=by omega
 have hp0:(0:Int)<=(pre.length:Int):=by omega
 have hp5:pre.length < 5:=by omega
 generalize loads[pre.length]=x at e0 hz;have hxz:(x == 0)=false:=by rw [beq_eq_false_iff_ne];exact hz
 generalize hpn:pre.length=pn at heq hp1 hp0 hp5 e0 hin;have HPN:=Hh hpn;have HIN2:=Hh hin;clear hL hP hI hPz hPc hz hin hpn hplt hfl
 go_enter Tryz.func41,Tryz.ntmps41
 go_wp2;go_loopw [5,6] (fun v i wr=>∃ (k:Nat) (a:Option Addr) (c:Nat) (vs:List Value),k<=loads.length/\i=.int .i64 k/\v=.slice a ((List.range k).flatMap f).length c/\wr.ownsRow w.heap.size 27 1 (.slice a ((List.range k).flatMap f).length c) ((List.range k).flatMap f).length vs/\ListsV wr vs ((List.range k).flatMap f)/\Below w.heap.size w wr) (fun _ i _=>loads.length - (intOf i).toNat)
 case atStart=>exact ⟨0,none,0,[],Nat.zero_le _,rfl,rfl,World.ownsRow_nil _ _ _ _,ListsV.nil _,Below.refl _ _⟩
 case round =>
  obtain ⟨k,a,c,vs,hk,rfl,rfl,hrow,hlv,hW⟩:=hrel;have hWs:=hW.size;have hbw:=hW;have HROW:=Hh hrow;have HLV:=Hh hlv;by_cases hlt:k < loads.length
  ·have hfl:=flat_succ f k;have hf1:=HFEW2.out (k+1) (by omega);rw [hfl,List.length_append] at hf1;have HFL:=Hh hfl;clear hrow hlv hfl;have hcall:=HIN2.out k hlt;have HCALL:=Hh hcall;have hsrc:Src1 wr pa pc (pre.map (Value.int .i64)):=(ints_src (HI.out.below hbw) HZ.out);have HSRC:=Hh hsrc;have HBW:=Hh hbw;have HLEN:=Hh (show (pre.map (Value.int .i64)).length=pn by rw [List.length_map];exact HPN.out);have HONE:=Hh (show ∀ u∈pre.map (Value.int .i64),u.oneCell'=true from fun u hu=>by obtain ⟨x,_,rfl⟩:=List.mem_map.1 hu;rfl);have HLT:=Hh (show ∀ ad,pa=some ad->ad.block < wr.heap.size from fun ad e=>Nat.lt_of_lt_of_le (HLAT.out ad e) hbw.size);clear hcall hsrc;generalize hout:(List.range k).flatMap f=out at hf1 HROW HLV HFL;generalize hnew:f k=new at hf1 HFL HCALL;have HO1:=Hh hout;have HNW:=Hh hnew;clear hout hnew;go_wp2_with (first
    | (at_builtin;refine wpl_appW wr rfl _ _ 27 rfl 3 Tryz.underlying27 intInfo rfl (by omega) (.slice (some ⟨wr.heap.size,0,none⟩) 0 0) 0 [] rfl pa pn pc (pre.map (Value.int .i64)) rfl HLEN.out HONE.out pn (by omega) (by omega) ?_ ?_ ?_ ?_;(focus ((exact bel)));exact own_lit rfl (Nat.le_refl _);exact (HSRC.out).ks (KS.all (show Below wr.heap.size wr _ from bel) (fun _=>True)) (fun ad e=>⟨HLT.out ad e,trivial⟩);intro a2 c2 w2 hown2 hks2 hbw2;have hs2:=hbw2.size)
    | (at_builtin;refine wpl_appW wr rfl _ _ 27 rfl 3 Tryz.underlying27 intInfo rfl (by omega) (.slice a2 pn c2) pn ([] ++ pre.map (Value.int .i64)) rfl (some ⟨w2.heap.size,0,none⟩) 1 1 [.int .i64 k] rfl rfl (by simp [Value.oneCell']) (pn+1) rfl (by omega) ?_ ?_ ?_ ?_;(focus ((exact bel)));exact hown2.alloc _;exact src_new w2 [.int .i64 k] 3 rfl 1;intro a4 c4 w4 hown4 hks4 hbw4;clear hks4)
    | (go_at_call 41;(with_reducible refine (HCALL.out w4 a4 c4 (Below.next HBW.out hbw4) (intsV_pre hown4)).mono ?_);rintro e w5 ⟨a5,c5,vs5,rfl,hrow5,hl5,hb5⟩;have hbr5:Below wr.heap.size wr w5:=Below.next hbw4 hb5;have hown5:=ownsRow_below HROW.out hbr5)
    | (at_builtin;refine wpl_appW w rfl _ _ 92 rfl 27 Tryz.underlying92 listInfo rfl (by omega) (.slice a out.length c) out.length vs rfl a5 new.length c5 vs5 rfl hl5.1 hl5.one (out.length+new.length) rfl (by omega) ?_ ?_ ?_ ?_;exact Below.next HBW.out hbr5;exact hown5;exact src_row hrow5;intro a6 c6 w6 hown6 hks6 hbw6))
   all_goals
    have hl6:=((HLV.out.below hbr5).append hl5).keep hown5 (by decide) hks6;rw [<- HFL.out] at hl6;have hlen6:out.length+new.length=((List.range (k+1)).flatMap f).length:=by rw [HFL.out,List.length_append]
    rw [hlen6] at hown6;have HL6:=Hh hl6;have HR6:=Hh hown6;have HE6:=Hh hlen6;have HB6:=Hh hbw6;clear hl6 hown6 hlen6 hks6;go_wp2;go_roundw
    case rel=>exact ⟨k+1,a6,c6,_,by omega,by go_num,by rw [HE6.out],HR6.out,HL6.out,HB6.out⟩
    case measure=>simp [intOf];omega
  ·obtain rfl:k=loads.length:=by omega
   clear hrow hlv;go_wp2;go_ret;exact ⟨a,c,vs,rfl,HROW.out,HLV.out,hbw⟩
theorem rPlans_at (h5:loads.length<=5) (h0:∀ x∈loads,0<=x):∀ (rest pre:List Int) (w:World) (pa:Option Addr) (pc:Nat),IntsAt w la loads->loads.drop pre.length=rest->pre.length<=loads.length->IntsV w (.slice pa pre.length pc) pre ->
 Calls Tryz.prog 41 #[.slice la loads.length lc,.slice pa pre.length pc] w (PastsOut w (planL loads pre rest))
 | [],pre,w,pa,pc,hL,hs,hle,hP=>by
  have hl:pre.length=loads.length:=by
   apply Classical.byContradiction;intro h;have:=congrArg List.length hs;rw [List.length_drop,List.length_nil] at this;omega
  exact rPlans_leaf hL hP hl h5 h0
 | ld::rest,pre,w,pa,pc,hL,hs,hle,hP=>by
  have hlt:pre.length < loads.length:=by
   apply Classical.byContradiction;intro h;rw [List.drop_eq_nil_of_le (by omega)] at hs;cases hs
  have hd:=List.drop_eq_getElem_cons hlt;rw [hs] at hd;obtain ⟨h1,h2⟩:=List.cons.inj hd;have hrest:rest.length<=5:=by rw [h2,List.length_drop];omega
  have hrec:∀ (k:Int) W a c,Below w.heap.size w W->IntsV W (.slice a (pre.length+1) c) (pre ++ [k])->Calls Tryz.prog 41 #[.slice la loads.length lc,.slice a (pre.length+1) c] W (PastsOut W (planL loads (pre ++ [k]) rest)):=fun k W a c hW hV=>by
   have:=rPlans_at h5 h0 rest (pre ++ [k]) W a c (hL.below hW) (by rw [List.length_append];exact h2.symm) (by rw [List.length_append];simp;omega) (by rw [List.length_append];exact hV);rw [List.length_append] at this;exact this
  by_cases hz:ld=0
  ·subst hz;rw [planL_zero];exact rPlans_zero hL hP hlt h5 h1.symm fun W a c hW hV=>hrec (-1) W a c hW hV
  ·rw [planL_step _ _ _ hz];exact rPlans_step hL hP hlt h5 (by rw [<- h1];exact hz) (f:=fun k=>planL loads (pre ++ [(k:Int)]) rest) (fun i=>Nat.le_trans (planL_len h5 rest _) (Nat.pow_le_pow_right (by decide) hrest)) fun k hk W a c hW hV=>hrec k W a c hW hV
end
theorem asked_open (b:Bk):askedAl b true=openAl b 0:=by
 unfold askedAl openAl;by_cases h:bookAl b=0 <;> simp [h]
theorem plannedAl_cases {b:Bk} {plan:List Int} {now t:Int} (ht:plannedAl b plan now=t) (h0:t≠0) :
 bookAl b=t\/(bookAl b=0/\inB now 0 999=false/\t=1)\/(bookAl b=0/\inB now 0 999=true/\plan.length≠b.ms.length/\t=2)\/(bookAl b=0/\inB now 0 999=true/\plan.length=b.ms.length/\askedAl b true=10/\t=10) \/
 (bookAl b=0/\inB now 0 999=true/\plan.length=b.ms.length/\askedAl b true=0/\planOk (loadsI b) plan=none/\t=6):=by
 rw [asked_open];unfold plannedAl openAl planAsk timedAsk at *;by_cases h1:bookAl b=0
 ·by_cases h2:inB now 0 999=true
  ·by_cases h3:plan.length=b.ms.length
   ·by_cases h4:pasts b=[]
    ·simp [h1,h2,h3,h4] at ht ⊢;first | exact ht.symm | exact .inr ht.symm
    ·by_cases h5:planOk (loadsI b) plan=none
     ·simp [h1,h2,h3,h4,h5] at ht ⊢;first | exact ht.symm | exact .inr ht.symm
     ·simp [h1,h2,h3,h4,h5] at ht;exact absurd ht.symm h0
   ·simp [h1,h2,h3] at ht ⊢;first | exact ht.symm | exact .inr ht.symm
  ·have h2':inB now 0 999=false:=by simpa using h2
   simp [h1,h2'] at ht ⊢;first | exact ht.symm | exact .inr ht.symm
 ·simp [h1] at ht;exact .inl ht
theorem plannedAl_yes {b:Bk} {plan:List Int} {now:Int} (h:plannedAl b plan now=0):bookAl b=0/\inB now 0 999=true/\plan.length=b.ms.length/\askedAl b true=0/\∃ o,planOk (loadsI b) plan=some o:=by
 obtain ⟨h1,h2⟩:=plannedAl_ok h;rw [asked_open];unfold openAl planAsk timedAsk at *;by_cases k1:bookAl b=0
 ·by_cases k2:inB now 0 999=true
  ·by_cases k3:plan.length=b.ms.length
   ·by_cases k4:pasts b=[]
    ·simp [k1,k2,k3,k4] at h1
    ·simp [k1,k2,k3,k4];exact h2
   ·simp [k1,k2,k3] at h1
  ·have k2':inB now 0 999=false:=by simpa using k2
   simp [k1,k2'] at h1
 ·simp [k1] at h1
theorem tapesV_none {loads plan:List Int} (h:planOk loads plan=none):tapesV loads plan=-1:=by unfold tapesV;rw [h]
theorem tapesV_some {loads plan o:List Int} (h:planOk loads plan=some o):tapesV loads plan=(o.length:Int):=by unfold tapesV;rw [h]
section
variable {b:Bk} {vr vg vm vs vc:Value} {w:World}
theorem rIsTime_v {t:Int} {v:Bool} (h:inB t 0 999=v) (w:World):Calls Tryz.prog 38 #[.int .i64 t] w fun e w'=>e=.returned (.bool v)/\Below w.heap.size w w':=by
 subst h;exact rIsTime_at t
theorem rPlanned_no (hB:BookAt w b vr vg vm vs vc) (hN:∀ m∈b.ms,m.name.size<=1000000) {pa:Option Addr} {pc:Nat} {plan:List Int} {pn:Nat} (hpl:pn=plan.length) (hp6:plan.length<=1000) (hP:IntsAt w pa plan) (now:Int) {t:Int} (ht:plannedAl b plan now=t) (h0:t≠0) :
 Calls Tryz.prog 47 #[.agg #[vr,vg,vm,vs,vc],.slice pa pn pc,.int .i64 now] w fun e w'=>e=.returned (.tuple #[.slice none 0 0,.int .i64 t])/\Below w.heap.size w w':=by
 subst hpl;have HB:=Hh hB;have HN:=Hh hN;have HP:=Hh hP;have hz3:(t != 0)=true:=by simpa using h0
 have hcs:=plannedAl_cases ht h0;obtain ⟨rfl,rfl,⟨ma,mc,rfl,_,_⟩,⟨sa,sc,rfl,_,_⟩,ra,rc,rfl,_,_⟩:=id hB;clear hB hN hP ht;rcases hcs with hk | ⟨hk,hi,rfl⟩ | ⟨hk,hi,hl,rfl⟩ | ⟨hk,hi,hl,ha,rfl⟩ | ⟨hk,hi,hl,ha,hn,rfl⟩
 ·have H0:=Hh hk;clear hk h0
  go_enter Tryz.func47,Tryz.ntmps47
  go_wp2_with (go_at_call 37;(with_reducible refine (rCheckBook_at (HB.out.below (bel)) HN.out H0.out).mono ?_);rintro e w1 ⟨rfl,hb1⟩;obtain ⟨hc1,hf1⟩:=bcell hb1;have hz1:w.heap.size < w1.heap.size:=(by have:=hb1.size;simp at this;omega));exact bodyPost_ret (v:=.tuple #[.slice none 0 0,.int .i64 t]) (by simp [results,Tryz.results47,go_sem, *]) rfl ⟨rfl,bel⟩
 ·have H0:=Hh hk;have HI:=Hh hi;clear hk h0 hi hz3
  go_enter Tryz.func47,Tryz.ntmps47
  go_wp2_with (first
   | (go_at_call 37;(with_reducible refine (rCheckBook_at (HB.out.below (bel)) HN.out H0.out).mono ?_);rintro e w1 ⟨rfl,hb1⟩;obtain ⟨hc1,hf1⟩:=bcell hb1;have hz1:w.heap.size < w1.heap.size:=(by have:=hb1.size;simp at this;omega))
   | (go_at_call 38;(with_reducible refine (rIsTime_v HI.out _).mono ?_);rintro e w2 ⟨rfl,hb2⟩))
  exact bodyPost_ret (v:=.tuple #[.slice none 0 0,.int .i64 1]) (by simp [results,Tryz.results47,go_sem]) rfl ⟨rfl,bel⟩
 ·have H0:=Hh hk;have HI:=Hh hi;have hne:((plan.length:Int) != (b.ms.length:Int))=true:=by simpa using fun h=>hl (by omega)
  clear hk h0 hi hz3 hl
  go_enter Tryz.func47,Tryz.ntmps47
  go_wp2_with (first
   | (go_at_call 37;(with_reducible refine (rCheckBook_at (HB.out.below (bel)) HN.out H0.out).mono ?_);rintro e w1 ⟨rfl,hb1⟩;obtain ⟨hc1,hf1⟩:=bcell hb1;have hz1:w.heap.size < w1.heap.size:=(by have:=hb1.size;simp at this;omega))
   | (go_at_call 38;(with_reducible refine (rIsTime_v HI.out _).mono ?_);rintro e w2 ⟨rfl,hb2⟩;obtain ⟨hc2,hf2⟩:=bcell hb2;have hz2:=hb2.size;have hy2:w.heap.size < w2.heap.size:=(by omega)))
  exact bodyPost_ret (v:=.tuple #[.slice none 0 0,.int .i64 2]) (by simp [results,Tryz.results47,go_sem]) rfl ⟨rfl,bel⟩
 ·have H0:=Hh hk;have HI:=Hh hi;have HA:=Hh ha;have hne:((plan.length:Int) != (b.ms.length:Int))=false:=by rw [hl];simp
  clear hk h0 hi hz3 hl ha
  go_enter Tryz.func47,Tryz.ntmps47
  go_wp2_with (first
   | (go_at_call 37;(with_reducible refine (rCheckBook_at (HB.out.below (bel)) HN.out H0.out).mono ?_);rintro e w1 ⟨rfl,hb1⟩;obtain ⟨hc1,hf1⟩:=bcell hb1;have hz1:w.heap.size < w1.heap.size:=(by have:=hb1.size;simp at this;omega))
   | (go_at_call 38;(with_reducible refine (rIsTime_v HI.out _).mono ?_);rintro e w2 ⟨rfl,hb2⟩;obtain ⟨hc2,hf2⟩:=bcell hb2;have hz2:=hb2.size;have hy2:w.heap.size < w2.heap.size:=(by omega))
   | (go_at_call 39;(with_reducible refine (rAsked_no (HB.out.below (bel)) HN.out true HA.out (by decide)).mono ?_);rintro e w3 ⟨rfl,hb3⟩))
  exact bodyPost_ret (v:=.tuple #[.slice none 0 0,.int .i64 10]) (by simp [results,Tryz.results47,go_sem]) rfl ⟨rfl,bel⟩
 ·have H0:=Hh hk;have HI:=Hh hi;have HA:=Hh ha;have HLL:=Hh (show (loadsI b).length=plan.length by rw [hl];exact loadsOf_length _ _);have HLB:=Hh (fun x hx=>(loadsI_bd hk x hx).1);have HTV:=Hh (tapesV_none hn);have HP6:=Hh hp6;have hne:((plan.length:Int) != (b.ms.length:Int))=false:=by rw [hl];simp
  clear hk h0 hi hz3 hl ha hn
  go_enter Tryz.func47,Tryz.ntmps47
  go_wp2_with (first
   | (go_at_call 37;(with_reducible refine (rCheckBook_at (HB.out.below (bel)) HN.out H0.out).mono ?_);rintro e w1 ⟨rfl,hb1⟩;obtain ⟨hc1,hf1⟩:=bcell hb1;have hz1:w.heap.size < w1.heap.size:=(by have:=hb1.size;simp at this;omega))
   | (go_at_call 38;(with_reducible refine (rIsTime_v HI.out _).mono ?_);rintro e w2 ⟨rfl,hb2⟩;obtain ⟨hc2,hf2⟩:=bcell hb2;have hz2:=hb2.size;have hy2:w.heap.size < w2.heap.size:=(by omega))
   | (go_at_call 39;(with_reducible refine (rAsked_ok (HB.out.below (bel)) HN.out HA.out).mono ?_);rintro e w3 ⟨a3,c3,vs3,rfl,hrow3,hl3,hb3⟩;have HL:=Hh (ListI.of (lists_of_row hrow3 hl3));clear hrow3 hl3;obtain ⟨hc3,hf3⟩:=bcell hb3;have hz3:=hb3.size;have hy3:w.heap.size < w3.heap.size:=(by omega))
   | (go_at_call 40;(with_reducible refine (rLoads_at (HB.out.below (bel)) H0.out rfl HL.out rfl).mono ?_);rintro e w4 ⟨a4,c4,rfl,hi4,hb4⟩;have HI4:=Hh (intsV_parts hi4).2.1;clear hi4)
   | (go_at_call 43;(with_reducible refine (tapesOf_v HI4.out (HP.out.below (bel)) rfl rfl HLL.out HP6.out HLB.out HTV.out).mono ?_);rintro e w5 ⟨rfl,hb5⟩))
  exact bodyPost_ret (v:=.tuple #[.slice none 0 0,.int .i64 6]) (by simp [results,Tryz.results47,go_sem]) rfl ⟨rfl,bel⟩
theorem rPlanned_ok (hB:BookAt w b vr vg vm vs vc) (hN:∀ m∈b.ms,m.name.size<=1000000) {pa:Option Addr} {pc:Nat} {plan:List Int} {pn:Nat} (hpl:pn=plan.length) (hp6:plan.length<=1000) (hP:IntsAt w pa plan) (now:Int) (ht:plannedAl b plan now=0) :
 Calls Tryz.prog 47 #[.agg #[vr,vg,vm,vs,vc],.slice pa pn pc,.int .i64 now] w fun e w'=>∃ a c,e=.returned (.tuple #[.slice a (loadsI b).length c,.int .i64 0])/\IntsAt w' a (loadsI b)/\Below w.heap.size w w':=by
 subst hpl;have HB:=Hh hB;have HN:=Hh hN;have HP:=Hh hP;obtain ⟨hk,hi,hl,ha,o,ho⟩:=plannedAl_yes ht;obtain ⟨rfl,rfl,⟨ma,mc,rfl,_,_⟩,⟨sa,sc,rfl,_,_⟩,ra,rc,rfl,_,_⟩:=id hB;have H0:=Hh hk;have HI:=Hh hi;have HA:=Hh ha;have HLL:=Hh (show (loadsI b).length=plan.length by rw [hl];exact loadsOf_length _ _);have HLB:=Hh (fun x hx=>(loadsI_bd hk x hx).1);have HTV:=Hh (tapesV_some ho);have HP6:=Hh hp6;have hne:((plan.length:Int) != (b.ms.length:Int))=false:=by rw [hl];simp
 have hol:decide ((o.length:Int) < 0)=false:=by rw [decide_eq_false_iff_not];omega
 clear hB hN hP ht hk hi hl ha ho
 go_enter Tryz.func47,Tryz.ntmps47
 go_wp2_with (first
  | (go_at_call 37;(with_reducible refine (rCheckBook_at (HB.out.below (bel)) HN.out H0.out).mono ?_);rintro e w1 ⟨rfl,hb1⟩;obtain ⟨hc1,hf1⟩:=bcell hb1;have hz1:w.heap.size < w1.heap.size:=(by have:=hb1.size;simp at this;omega))
  | (go_at_call 38;(with_reducible refine (rIsTime_v HI.out _).mono ?_);rintro e w2 ⟨rfl,hb2⟩;obtain ⟨hc2,hf2⟩:=bcell hb2;have hz2:=hb2.size;have hy2:w.heap.size < w2.heap.size:=(by omega))
  | (go_at_call 39;(with_reducible refine (rAsked_ok (HB.out.below (bel)) HN.out HA.out).mono ?_);rintro e w3 ⟨a3,c3,vs3,rfl,hrow3,hl3,hb3⟩;have HL:=Hh (ListI.of (lists_of_row hrow3 hl3));clear hrow3 hl3;obtain ⟨hc3,hf3⟩:=bcell hb3;have hz3:=hb3.size;have hy3:w.heap.size < w3.heap.size:=(by omega))
  | (go_at_call 40;(with_reducible refine (rLoads_at (HB.out.below (bel)) H0.out rfl HL.out rfl).mono ?_);rintro e w4 ⟨a4,c4,rfl,hi4,hb4⟩;have HI4:=Hh (intsV_parts hi4).2.1;clear hi4)
  | (go_at_call 43;(with_reducible refine (tapesOf_v HI4.out (HP.out.below (bel)) rfl rfl HLL.out HP6.out HLB.out HTV.out).mono ?_);rintro e w5 ⟨rfl,hb5⟩))
 exact bodyPost_ret (v:=.tuple #[.slice a4 (loadsI b).length c4,.int .i64 0]) (by simp [results,Tryz.results47,go_sem]) rfl ⟨a4,c4,rfl,HI4.out.below hb5,bel⟩
end
end
end Go.Proofs.YtgagoahfdnnpkaaGreatDoor
