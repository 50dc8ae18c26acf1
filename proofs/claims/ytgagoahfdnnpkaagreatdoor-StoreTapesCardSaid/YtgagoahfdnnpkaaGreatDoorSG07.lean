/- StoreTapes -/
import Derived.Test.YtgagoahfdnnpkaaGreatDoorSG06
import Derived.Deep.OwnRows
set_option maxHeartbeats 6000000
set_option maxRecDepth 100000
set_option linter.all false
namespace Go.Proofs.YtgagoahfdnnpkaaGreatDoor
section
open Go.RowKit Go.Maps Sp
theorem tapeStep_len {n:Int} {out o:List Int} {k ld:Int} (h:tapeStep n out k ld=some o):out.length<=o.length/\k < (o.length:Int):=by
 unfold tapeStep at h;split at h
 ·cases h
 ·split at h
  ·cases h;omega
  ·cases h;rw [List.length_set,List.length_append,List.length_replicate];omega
theorem tapesGo_len {n:Int}:∀ (l:List (Int × Int)) (out o:List Int) (_:tapesGo n out l=some o),out.length<=o.length/\∀ x∈l,x.1 < (o.length:Int)
 | [],out,o,h=>by cases h;exact ⟨Nat.le_refl _,by simp⟩
 | (k,ld)::l,out,o,h=>by
  rw [tapesGo_cons] at h
  cases h1:tapeStep n out k ld with
  | none=>rw [h1] at h;cases h
  | some o1 =>
   rw [h1] at h;obtain ⟨h2,h3⟩:=tapeStep_len h1;obtain ⟨h4,h5⟩:=tapesGo_len l o1 o h;refine ⟨by omega,fun x hx=>?_⟩;rcases List.mem_cons.1 hx with rfl | hx
   ·show k < _;omega
   ·exact h5 x hx
theorem planOk_lt {loads plan o:List Int} (h:planOk loads plan=some o) (hl:loads.length=plan.length):∀ k∈plan,k < (o.length:Int):=by
 unfold planOk tapesI at h
 cases h1:tapesGo plan.length [] (plan.zip loads) with
 | none=>rw [h1] at h;cases h
 | some o1 =>
  rw [h1] at h;have h:(if 0∈o1 then none else some o1)=some o:=h;split at h
  ·cases h
  ·cases h;intro k hk;obtain ⟨i,hi,rfl⟩:=List.getElem_of_mem hk;refine (tapesGo_len _ _ _ h1).2 (plan[i],loads[i]) ?_;exact List.mem_iff_getElem.2 ⟨i,by rw [List.length_zip];omega,by rw [List.getElem_zip]⟩
section
variable {b:Bk} {vr vg vm vs vc:Value} {w:World}
theorem late1_at {B:Nat} {room:Int} (h:w.cell? ⟨B,0,none⟩=some (.int .i64 room)) (n:Int) :
 Calls Tryz.prog 86 #[.int .i64 n,.pointer (some ⟨B,0,none⟩)] w fun e w'=>e=.returned (.bool (decide (room < n)))/\w'=w:=by
 have hlt:=lt_of_cell h
 go_enter Tryz.func86,Tryz.ntmps86
 go_wp2;go_ret;exact ⟨by simp,rfl⟩
theorem idxInt_at {B:Nat} {room:Int} (h:w.cell? ⟨B,0,none⟩=some (.int .i64 room)) {a:Option Addr} {c:Nat} {l:List Int} {n:Nat} (hn:n=l.length) (hI:IntsAt w a l) (hl:l.length<=1000000) :
 Calls Tryz.prog 105 #[.slice a n c,.func (.func 86) #[] #[.pointer (some ⟨B,0,none⟩)]] w fun e w'=>(∃ i:Int,e=.returned (.int .i64 i)/\decide (0<=i)=l.any fun x=>decide (room < x))/\w'=w:=by
 have HI:=Hh hI;have H:=Hh h;have HN:=Hh hn;have hn2:n<=1000000:=by omega
 clear hI h hn hl
 go_enter Tryz.func105,Tryz.ntmps105
 go_wp2;go_loop [8] (fun i=>∃ (k:Nat),k<=n/\i=.int .i64 k/\Hid (∀ j (h:j < l.length),j < k->l[j]<=room)) (fun i=>n - (intOf i).toNat)
 case atStart=>exact ⟨0,Nat.zero_le _,rfl,fun j _ hj=>absurd hj (Nat.not_lt_zero _)⟩
 case round =>
  obtain ⟨k,hk,rfl,hG⟩:=hrel;by_cases hlt:k < n
  ·have hkl:k < l.length:=by rw [<- HN.out];exact hlt
   obtain ⟨sb,so,rfl,hsb,d0⟩:=HI.out k hkl;by_cases hx:room < l[k]
   ·have HX:Hid ((l.any fun x=>decide (room < x))=true):=List.any_eq_true.2 ⟨l[k],List.getElem_mem hkl,decide_eq_true hx⟩;generalize l[k]=x at d0 hx;go_wp2_with (go_at_call 86;(with_reducible refine (late1_at H.out x).mono ?_);rintro e w1 ⟨rfl,rfl⟩);go_ret;exact ⟨⟨_,rfl,by rw [HX.out];simp⟩,rfl⟩
   ·have HG:Hid (∀ j (h:j < l.length),j < k+1->l[j]<=room):=fun j h hj=>by
     by_cases hjk:j < k
     ·exact hG.out j h hjk
     ·obtain rfl:j=k:=by omega
      exact Int.not_lt.1 hx
    clear hG;generalize l[k]=x at d0 hx;go_wp2_with (go_at_call 86;(with_reducible refine (late1_at H.out x).mono ?_);rintro e w1 ⟨rfl,rfl⟩);go_round
    case rel=>exact ⟨k+1,by omega,by go_num,HG⟩
    case measure=>simp [intOf];omega
  ·have HX:Hid ((l.any fun x=>decide (room < x))=false):=List.any_eq_false.2 fun x hx=>by
    obtain ⟨j,hj,rfl⟩:=List.getElem_of_mem hx;have:=hG.out j hj (by have:=HN.out;omega);simpa using this
   clear hG;go_wp2;go_ret;exact ⟨⟨_,rfl,by rw [HX.out];rfl⟩,rfl⟩
theorem over_at {B:Nat} {room:Int} (h:w.cell? ⟨B,0,none⟩=some (.int .i64 room)) {a:Option Addr} {c:Nat} {l:List Int} {n:Nat} (hn:n=l.length) (hI:IntsAt w a l) (hl:l.length<=1000000) :
 Calls Tryz.prog 85 #[.slice a n c,.func (.func 86) #[] #[.pointer (some ⟨B,0,none⟩)]] w fun e w'=>e=.returned (.bool (l.any fun x=>decide (room < x)))/\w'=w:=by
 have hx:=idxInt_at (c:=c) h hn hI hl;have HX:=Hh hx;clear h hn hI hl hx
 go_enter Tryz.func85,Tryz.ntmps85
 go_wp2_with (go_at_call 105;(with_reducible refine HX.out.mono ?_);rintro e w1 ⟨⟨i,rfl,hi⟩,rfl⟩;have HI:=Hh hi;clear hi);go_ret;refine ⟨?_,rfl⟩;rw [<- HI.out];rfl
theorem fits_not (b:Bk) (tapes:List Int):(!tapes.any fun x=>decide (b.room < x))=fitsI b tapes:=by
 unfold fitsI;rw [List.not_any_eq_all_not];congr 1;funext x;by_cases h:b.room < x
 ·simp [h]
 ·simp [h];omega
theorem lateGo_cons {ends:List Int} {k:Int} {ks:List Int} {m:Msg} {ms:List Msg} {t:Int}:lateGo ends (k::ks) (m::ms) t=lateGo ends ks ms (if 0<=k then max t (ends.getD k.toNat 0 - m.due) else t):=rfl
theorem late_at (hB:BookAt w b vr vg vm vs vc) (hD:∀ m∈b.ms,0<=m.due/\m.due<=999) (hg:0<=b.gap/\b.gap<=100) (ls:Value) (hls:ls.oneCell'=true) {pa:Option Addr} {pc pn:Nat} {plan:List Int} (hP:IntsAt w pa plan) (hpn:pn=plan.length) (hpm:plan.length=b.ms.length)
 {ta:Option Addr} {tc tn:Nat} {tapes:List Int} (hT:IntsAt w ta tapes) (htn:tn=tapes.length) (htl:tapes.length<=100) (htb:∀ x∈tapes,0<=x/\x<=100000) (hpt:∀ k∈plan,k < (tapes.length:Int)) (hml:b.ms.length<=50) :
 Calls Tryz.prog 55 #[.agg #[vr,vg,vm,vs,vc,ls],.slice pa pn pc,.slice ta tn tc] w fun e w'=>e=.returned (.tuple #[.int .i64 (lateI b plan tapes),.bool (fitsI b tapes)])/\Below w.heap.size w w':=by
 have hen:=fun (w':World) (hb:Below w.heap.size w w')=>ends_at (tc:=tc) (hB.below hb) ls hls (hT.below hb) htl htb hg (now:=0) (by omega);rw [<- htn] at hen;have HEN:=Hh hen;have HEB:=Hh (endsI_bd hg (now:=0) (by omega) htb htl);have HEL:=Hh (endsI_length b.gap 0 tapes);have HD:=Hh hD;have HP:=Hh hP;have HT:=Hh hT;have HPN:=Hh hpn;have HTN:=Hh htn;have HPM:=Hh hpm;have HPT:=Hh hpt;have HF:=Hh (fits_not b tapes);have hpn50:pn<=50:=by omega
 have htn100:tn<=100:=by omega
 have HLT:Hid (lateGo (endsI b.gap 0 tapes) plan b.ms (-999)=lateI b plan tapes):=rfl;generalize lateI b plan tapes=L at HLT;generalize endsI b.gap 0 tapes=E at HEN HEB HEL HLT;generalize fitsI b tapes=F at HF;obtain ⟨rfl,rfl,⟨ma,mc,rfl,hM,_⟩,⟨sa,sc,rfl,_,_⟩,ra,rc,rfl,_,_⟩:=id hB;have HM:=Hh hM;clear hM hB hen hD hP hT hpn htn hpm hpt htb htl hml
 go_enter Tryz.func55,Tryz.ntmps55
 go_wp2_with fail;obtain ⟨W0,hW0⟩:∃ W0,W0=w.alloc (.cells #[.int .i64 b.room,.int .i64 b.gap,.slice ma b.ms.length mc,.slice sa b.ss.length sc,.slice ra b.rs.length rc,ls] 85):=⟨_,rfl⟩;rw [<- hW0];have hb0:Below w.heap.size w W0:=by rw [hW0];(exact bel)
 have g0:W0.cell? ⟨w.heap.size,0,none⟩=some (.int .i64 b.room):=by rw [hW0,World.cell?_alloc_at _ _ _ _ rfl];rfl
 have g2:W0.cell? ⟨w.heap.size,2,none⟩=some (.slice ma b.ms.length mc):=by rw [hW0,World.cell?_alloc_at _ _ _ _ rfl];rfl
 have hsz0:w.heap.size < W0.heap.size:=by rw [hW0];simp
 clear hW0;refine (HEN.out _ hb0).mono ?_;rintro e w1 ⟨ea,ec,rfl,hrow,hb1⟩;have HE1:=Hh (ints_of_row hrow);have g0':=(hb1.cell (p:=⟨w.heap.size,0,none⟩) hsz0).trans g0;have g2':=(hb1.cell (p:=⟨w.heap.size,2,none⟩) hsz0).trans g2;have hsz1:w.heap.size < w1.heap.size:=Nat.lt_of_lt_of_le hsz0 hb1.size;have hbw1:Below w.heap.size w w1:=Below.next hb0 hb1;have HP1:=Hh (HP.out.below hbw1);have HM1:=Hh (HM.out.below hbw1);have HT1:=Hh (HT.out.below hbw1);clear hrow g0 g2;go_wp2;go_loopw [9,17] (fun v i wr=>∃ (k:Nat) (t:Int),k<=pn/\i=.int .i64 k/\v=.int .i64 t/\-999<=t/\t<=20000000/\Hid (lateGo E (plan.drop k) (b.ms.drop k) t=L)/\Below w1.heap.size w1 wr) (fun _ i _=>pn - (intOf i).toNat)
 case atStart=>exact ⟨0,-999,Nat.zero_le _,rfl,rfl,by omega,by omega,HLT.out,Below.refl _ _⟩
 case round =>
  obtain ⟨k,t,hk,rfl,rfl,ht0,ht1,hgo,hW⟩:=hrel;have hWs:=hW.size;by_cases hlt:k < pn
  ·have hkp:k < plan.length:=by rw [<- HPN.out];exact hlt
   have hkm:k < b.ms.length:=by rw [<- HPM.out];exact hkp
   obtain ⟨pb,po,rfl,hpb,e0⟩:=HP1.out k hkp;obtain ⟨mb,mo,rfl,hmb,m0,m1,m2⟩:=HM1.out k hkm;have d0:=(hW.cell hpb).trans e0;have d2:=(hW.cell hmb).trans m2;have hpb2:pb < wr.heap.size:=Nat.lt_of_lt_of_le hpb hW.size;have hmb2:mb < wr.heap.size:=Nat.lt_of_lt_of_le hmb hW.size;have s2:=(hW.cell (p:=⟨w.heap.size,2,none⟩) hsz1).trans g2';have hsz2:w.heap.size < wr.heap.size:=by omega
   have hpt:=HPT.out _ (List.getElem_mem hkp);have hdue:=HD.out _ (List.getElem_mem hkm);have hgo2:=hgo.out;rw [List.drop_eq_getElem_cons hkp,List.drop_eq_getElem_cons hkm,lateGo_cons] at hgo2;generalize plan[k]=p at d0 hpt hgo2;generalize b.ms[k]=mm at d2 hdue hgo2;clear e0 m0 m1 m2 hgo;by_cases hp0:0<=p
   ·obtain ⟨q,rfl⟩:∃ q:Nat,p=q:=⟨p.toNat,by omega⟩;rw [if_pos hp0,Int.toNat_natCast] at hgo2;have hqE:q < E.length:=by rw [HEL.out];omega
    obtain ⟨eb,eo,rfl,heb,x0⟩:=HE1.out q hqE;have dx:=(hW.cell heb).trans x0;have heb2:eb < wr.heap.size:=Nat.lt_of_lt_of_le heb hW.size;have hEq:E.getD q 0=E[q]:=by simp [List.getD,List.getElem?_eq_getElem hqE]
    have hEb:=HEB.out _ (List.getElem_mem hqE);rw [hEq] at hgo2;generalize E[q]=y at dx hgo2 hEb;have HGO:=Hh hgo2;have e1:IntKind.i64.wrap (y - mm.due)=y - mm.due:=IntWalk.i64_in _ (by omega);generalize mm.due=du at *;clear hgo2 hEq x0;go_wp2;go_quiet (fail);go_wp2;go_roundw
    case rel=>exact ⟨k+1,max t (y - du),by omega,by go_num,rfl,by omega,by omega,HGO.out,bel⟩
    case measure=>simp [intOf];omega
   ·rw [if_neg hp0] at hgo2;have HGO:=Hh hgo2;clear hgo2;go_wp2;go_roundw
    case rel=>exact ⟨k+1,t,by omega,by go_num,rfl,by omega,by omega,HGO.out,bel⟩
    case measure=>simp [intOf];omega
  ·obtain rfl:k=pn:=by omega
   have hgo2:=hgo.out;rw [List.drop_of_length_le (by rw [<- HPN.out];omega)] at hgo2;have HGO:=Hh (show t=L from hgo2);have s0:=(hW.cell (p:=⟨w.heap.size,0,none⟩) hsz1).trans g0';have HT2:=Hh (HT1.out.below hW);clear hgo2 hgo;go_wp2_with (go_at_call 85;(with_reducible refine (over_at s0 HTN.out HT2.out (by have:=HTN.out;omega)).mono ?_);rintro e w5 ⟨rfl,rfl⟩);exact bodyPost_ret (v:=.tuple #[.int .i64 t,.bool (!tapes.any fun x=>decide (b.room < x))]) (by simp [results,Tryz.results55,go_sem]) rfl ⟨by rw [HGO.out,HF.out],bel⟩
end
theorem lateGo_bd {ends:List Int} (hE:∀ x∈ends,0<=x/\x<=20000000):∀ (ks:List Int) (ms:List Msg) (t:Int) (_:∀ m∈ms,0<=m.due/\m.due<=999) (_:-999<=t/\t<=20000000),-999<=lateGo ends ks ms t/\lateGo ends ks ms t<=20000000
 | [],_,t,_,h=>h
 | _::_,[],t,_,h=>h
 | k::ks,m::ms,t,hm,h=>by
  rw [lateGo_cons];refine lateGo_bd hE ks ms _ (fun x hx=>hm x (by simp [hx])) ?_;split
  ·have h1:=hm m (by simp);have h2:0<=ends.getD k.toNat 0/\ends.getD k.toNat 0<=20000000:=by
    rw [List.getD_eq_getElem?_getD]
    cases hg:ends[k.toNat]? with
    | none=>simp
    | some y=>simpa using hE y (List.mem_of_getElem? hg)
   omega
  ·exact h
theorem lateI_bd {b:Bk} {plan tapes:List Int} (hD:∀ m∈b.ms,0<=m.due/\m.due<=999) (hg:0<=b.gap/\b.gap<=100) (htl:tapes.length<=100) (htb:∀ x∈tapes,0<=x/\x<=100000):-999<=lateI b plan tapes/\lateI b plan tapes<=20000000 :=
 lateGo_bd (endsI_bd hg (by omega) htb htl) _ _ _ hD (by omega)
section
variable {b:Bk} {vr vg vm vs vc:Value} {w:World}
theorem good_at (hB:BookAt w b vr vg vm vs vc) (hD:∀ m∈b.ms,0<=m.due/\m.due<=999) (hg:0<=b.gap/\b.gap<=100) (ls:Value) (hls:ls.oneCell'=true) {pa:Option Addr} {pc pn:Nat} {plan:List Int} (hP:IntsAt w pa plan) (hpn:pn=plan.length) (hpm:plan.length=b.ms.length)
 {ta:Option Addr} {tc tn:Nat} {tapes:List Int} (hT:IntsAt w ta tapes) (htn:tn=tapes.length) (htl:tapes.length<=100) (htb:∀ x∈tapes,0<=x/\x<=100000) (hpt:∀ k∈plan,k < (tapes.length:Int)) (hml:b.ms.length<=50) {now:Int} (hnow:0<=now/\now<=1000) {r:Bool} (hr:goodI b plan tapes now=r) :
 Calls Tryz.prog 35 #[.agg #[vr,vg,vm,vs,vc,ls],.slice pa pn pc,.slice ta tn tc,.int .i64 now] w fun e w'=>e=.returned (.bool r)/\Below w.heap.size w w':=by
 have hla:=fun (w':World) (hb:Below w.heap.size w w')=>late_at (pc:=pc) (tc:=tc) (hB.below hb) hD hg ls hls (hP.below hb) hpn hpm (hT.below hb) htn htl htb hpt hml;have hbd:=lateI_bd (plan:=plan) hD hg htl htb;have hte:tapes=[]↔tn=0:=by rw [htn,List.length_eq_zero_iff]
 have hr2:(fitsI b tapes && (decide (lateI b plan tapes+now<=0) || decide (tn=0)))=r:=by
  rw [<- hr];unfold goodI;congr 2;exact decide_eq_decide.2 hte.symm
 generalize lateI b plan tapes=L at hla hbd hr2;generalize fitsI b tapes=F at hla hr2;have HLA:=Hh hla;have hw:IntKind.i64.wrap (L+now)=L+now:=IntWalk.i64_in _ (by omega);obtain ⟨rfl,rfl,⟨ma,mc,rfl,_,_⟩,⟨sa,sc,rfl,_,_⟩,ra,rc,rfl,_,_⟩:=id hB;clear hB hD hP hT hpn hpm htn htl htb hpt hml hr hla hte;cases F
 ·simp only [Bool.false_and] at hr2;subst hr2
  go_enter Tryz.func35,Tryz.ntmps35
  go_wp2_with (go_at_call 55;(with_reducible refine (HLA.out _ (bel)).mono ?_);rintro e w1 ⟨rfl,hb1⟩);go_ret;exact ⟨rfl,bel⟩
 ·simp only [Bool.true_and] at hr2;by_cases h1:L+now<=0
  ·simp only [h1,decide_true,Bool.true_or] at hr2;subst hr2
   go_enter Tryz.func35,Tryz.ntmps35
   go_wp2_with (go_at_call 55;(with_reducible refine (HLA.out _ (bel)).mono ?_);rintro e w1 ⟨rfl,hb1⟩);go_ret;exact ⟨rfl,bel⟩
  ·simp only [h1,decide_false,Bool.false_or] at hr2;have HR:=Hh hr2;clear hr2
   go_enter Tryz.func35,Tryz.ntmps35
   go_wp2_with (go_at_call 55;(with_reducible refine (HLA.out _ (bel)).mono ?_);rintro e w1 ⟨rfl,hb1⟩);go_ret;refine ⟨?_,bel⟩;rw [<- HR.out];by_cases h0:tn=0
   ·simp [h0]
   ·simp [h0];omega
end
section
variable {vr vg vm vs vc:Value}
theorem IntsAt.ks {A B:World} {g o:Nat} {l:List Int} {p:Nat->Prop} (h:IntsAt A (some ⟨g,o,none⟩) l) (hk:KS p A B) (hp:p g):IntsAt B (some ⟨g,o,none⟩) l:=fun i hi=>by
 obtain ⟨b',o',e,hlt,hc⟩:=h i hi;cases e;exact ⟨g,o,rfl,Nat.lt_of_lt_of_le hlt hk.size,(hk.cell (x:=⟨g,o+i,none⟩) hlt hp).trans hc⟩
structure PSt (LB:Nat) (loads:List Int) (vr vg vm vs vc:Value) (lc n s l:Nat) (A:World) (cl:List Int):Prop where
 ldi:IntsAt A (some ⟨LB,0,none⟩) loads
 lbs:LB < s
 five:Five A s vr vg vm vs vc
 ld:A.cell? ⟨s,5,none⟩=some (.slice (some ⟨LB,0,none⟩) n lc)
 yv:A.cell? ⟨s+1,0,none⟩=some (.func (.yield l) #[] #[])
 c:∀ k,k < n->A.cell? ⟨s+1+1,k,none⟩=some (.int .i64 (cl.getD k 0))
 fz:∀ k,k < n->A.frozen? ⟨s+1+1,k,none⟩=false
 pv:A.cell? ⟨s+1+1+1,0,none⟩=some (.slice (some ⟨s+1+1,0,none⟩) n n)
 nx:A.cell? ⟨s+1+1+1+1,0,none⟩=some (.func (.func 73) #[] #[.pointer (some ⟨s+1+1+1,0,none⟩),.pointer (some ⟨s,0,none⟩),.pointer (some ⟨s+1,0,none⟩),.pointer (some ⟨s+1+1+1+1,0,none⟩)])
 len:cl.length=n
 lt:s+1+1+1+1 < A.heap.size
variable {LB lc n:Nat} {loads:List Int}
theorem PSt.keep {A B:World} {s l:Nat} {cl:List Int} {p:Nat->Prop} (h:PSt LB loads vr vg vm vs vc lc n s l A cl) (hk:KS p A B) (hp0:p LB) (hps:∀ k,s<=k->k<=s+1+1+1+1->p k):PSt LB loads vr vg vm vs vc lc n s l B cl:=by
 have hlt:=h.lt;have e:∀ r o,s<=r->r<=s+1+1+1+1->B.cell? ⟨r,o,none⟩=A.cell? ⟨r,o,none⟩:=fun r o h1 h2=>hk.cell (x:=⟨r,o,none⟩) (by simp;omega) (hps r h1 h2);have ef:∀ r o,s<=r->r<=s+1+1+1+1->B.frozen? ⟨r,o,none⟩=A.frozen? ⟨r,o,none⟩:=fun r o h1 h2=>hk.frozen (x:=⟨r,o,none⟩) (by simp;omega) (hps r h1 h2);obtain ⟨hldi,hlbs,⟨f0,f1,f2,f3,f4,f5⟩,hld,hy,hc,hfz,hpv,hn,hl,_⟩:=h;refine ⟨hldi.ks hk hp0,hlbs,⟨?_,?_,?_,?_,?_,Nat.lt_of_lt_of_le f5 hk.size⟩,?_,?_,fun k hk4=>?_,fun k hk4=>?_,?_,?_,hl,Nat.lt_of_lt_of_le hlt hk.size⟩
 ·rw [e _ _ (by omega) (by omega)];exact f0
 ·rw [e _ _ (by omega) (by omega)];exact f1
 ·rw [e _ _ (by omega) (by omega)];exact f2
 ·rw [e _ _ (by omega) (by omega)];exact f3
 ·rw [e _ _ (by omega) (by omega)];exact f4
 ·rw [e _ _ (by omega) (by omega)];exact hld
 ·rw [e _ _ (by omega) (by omega)];exact hy
 ·rw [e _ _ (by omega) (by omega)];exact hc k hk4
 ·rw [ef _ _ (by omega) (by omega)];exact hfz k hk4
 ·rw [e _ _ (by omega) (by omega)];exact hpv
 ·rw [e _ _ (by omega) (by omega)];exact hn
theorem PSt.next {A B:World} {s l:Nat} {cl:List Int} (h:PSt LB loads vr vg vm vs vc lc n s l A cl) (hk:Below A.heap.size A B):PSt LB loads vr vg vm vs vc lc n s l B cl :=
 h.keep (KS.all hk (fun _=>True)) trivial (fun _ _ _=>trivial)
theorem PSt.drew {A:World} {s l:Nat} {cl:List Int} (h:PSt LB loads vr vg vm vs vc lc n s l A cl):PSt LB loads vr vg vm vs vc lc n s l A.drew cl :=
 h.keep (KS.drew (fun _=>True) _) trivial (fun _ _ _=>trivial)
theorem PSt.set {A:World} {s l:Nat} {cl:List Int} (h:PSt LB loads vr vg vm vs vc lc n s l A cl) {i:Nat} (hi:i < n) (v:Int):PSt LB loads vr vg vm vs vc lc n s l (A.setCell ⟨s+1+1,i,none⟩ (.int .i64 v)) (cl.set i v):=by
 have hk:KS (fun k=>k≠s+1+1) A (A.setCell ⟨s+1+1,i,none⟩ (.int .i64 v)):=KS.setCell (by simp) _ _;have hlt:=h.lt;have e:∀ r o,r≠s+1+1->r < A.heap.size->(A.setCell ⟨s+1+1,i,none⟩ (.int .i64 v)).cell? ⟨r,o,none⟩=A.cell? ⟨r,o,none⟩:=fun r o h1 h2=>hk.cell (x:=⟨r,o,none⟩) h2 h1;obtain ⟨hldi,hlbs,⟨f0,f1,f2,f3,f4,f5⟩,hld,hy,hc,hfz,hpv,hn,hl,_⟩:=h;refine ⟨hldi.ks hk (by omega),hlbs,⟨?_,?_,?_,?_,?_,Nat.lt_of_lt_of_le f5 hk.size⟩,?_,?_,fun k hk4=>?_,fun k hk4=>?_,?_,?_,by simpa using hl,Nat.lt_of_lt_of_le hlt hk.size⟩
 ·rw [e _ _ (by omega) (by omega)];exact f0
 ·rw [e _ _ (by omega) (by omega)];exact f1
 ·rw [e _ _ (by omega) (by omega)];exact f2
 ·rw [e _ _ (by omega) (by omega)];exact f3
 ·rw [e _ _ (by omega) (by omega)];exact f4
 ·rw [e _ _ (by omega) (by omega)];exact hld
 ·rw [e _ _ (by omega) (by omega)];exact hy
 ·by_cases hki:k=i
  ·subst hki;rw [World.cell?_setCell_same' _ _ _ (by rw [hc k hk4];rfl)];simp [List.getD,hl,hk4]
  ·rw [World.cell?_setCell_other (h:=fun e=>hki (by injection e with _ e _;exact e.symm))];rw [hc k hk4];simp [List.getD,List.getElem?_set_ne (Ne.symm hki)]
 ·rw [World.frozen?_setCell];exact hfz k hk4
 ·rw [e _ _ (by omega) (by omega)];exact hpv
 ·rw [e _ _ (by omega) (by omega)];exact hn
theorem PSt.ints {A:World} {s l:Nat} {cl:List Int} (h:PSt LB loads vr vg vm vs vc lc n s l A cl):IntsAt A (some ⟨s+1+1,0,none⟩) cl:=fun i hi=>by
 have hlt:=h.lt;refine ⟨s+1+1,0,rfl,by omega,?_⟩;rw [Nat.zero_add,h.c i (by rw [<- h.len];exact hi)];simp [List.getD,List.getElem?_eq_getElem hi]
def PlanOut (LB:Nat) (loads:List Int) (vr vg vm vs vc:Value) (lc n s l i:Nat) (cl:List Int) (J Jx:List (List Int × List Int)->World->Prop) (done:List (List Int × List Int)) (e:Ending) (B:World):Prop :=
 (∃ cl',e=.returned (.bool true)/\PSt LB loads vr vg vm vs vc lc n s l B cl'/\cl'.take i=cl.take i/\J done B)\/(e=.returned (.bool false)/\∃ pre,Jx pre B)
abbrev planArgs (i s:Nat):Array Value:=#[.int .i64 i,.pointer (some ⟨s+1+1+1,0,none⟩),.pointer (some ⟨s,0,none⟩),.pointer (some ⟨s+1,0,none⟩),.pointer (some ⟨s+1+1+1+1,0,none⟩)]
theorem row_base {w:World} {base e size n c:Nat} {a:Option Addr} {xs:List Value} (h:w.ownsRow base e size (.slice a n c) n xs):∀ y,a=some y->base<=y.block:=fun y hy=>by
 obtain ⟨_,⟨h2,_⟩ | ⟨g,cap,cur,e1,e2,_⟩⟩:=h
 ·cases h2;cases hy
 ·cases e1;cases hy;exact e2
def encPl (s n:Nat) (x:List Int × List Int) (args:Array Value) (A:World):Prop :=
 ∃ a c tn,args=#[.slice (some ⟨s+1+1,0,none⟩) n n,.slice a tn c]/\tn=x.2.length/\x.1.length=n/\IntsAt A (some ⟨s+1+1,0,none⟩) x.1/\IntsAt A a x.2/\(∀ y,a=some y->s+1+1+1+1 < y.block)/\s+1+1+1+1 < A.heap.size
theorem plan_leaf_no (hlb:∀ x∈loads,0<=x/\x<=1000) (hn:loads.length=n) (hn50:n<=50) {s l:Nat} {A:World} {cl:List Int} (hA:PSt LB loads vr vg vm vs vc lc n s l A cl)
 {J Jx:List (List Int × List Int)->World->Prop} {own:Nat->Prop} (hJ:∀ pre A B,J pre A->KS (fun k=>¬ own k) A B->J pre B) {done:List (List Int × List Int)} (hj:J done A) (hno:planOk loads cl=none) :
 CallsIn Fence.wide 0 Tryz.prog 73 (planArgs n s) A (PlanOut LB loads vr vg vm vs vc lc n s l n cl J Jx done):=by
 refine callsIn_wide.2 ?_;have htp:=tapes_at (vr:=vr) (vg:=vg) (vm:=vm) (vs:=vs) (vc:=vc) (lc:=lc) (pc:=n) hA.ldi hlb hA.ints (pn:=n) (ln:=n) hA.len.symm hA.len.symm (by rw [hn,hA.len]) (by rw [hA.len];exact hn50);have HTP:=Hh htp;obtain ⟨f0,f1,f2,f3,f4,f5⟩:=hA.five;have f6:=hA.ld;have hpv:=hA.pv;have hlt:=hA.lt;have hA3:s+1+1+1 < A.heap.size:=by omega
 have HA:=Hh hA;have HJ:=Hh hJ;have HJ0:=Hh hj;have HNO:=Hh hno;clear hlb hn hA hJ hj hno htp;unfold planArgs
 go_enter Tryz.func73,Tryz.ntmps73
 go_wp2_with (go_at_call 74;(with_reducible refine HTP.out.mono ?_);rintro e w1 ⟨ta,tc,o,ok,rfl,hrow,hb1,hok⟩;rw [HNO.out] at hok;cases ok;rotate_left;(simp at hok);clear hok hrow);go_ret;exact .inl ⟨_,rfl,HA.out.next hb1,rfl,HJ.out _ _ _ HJ0.out (KS.all hb1 _)⟩
end
section
variable {vr vg vm vs vc:Value} {LB lc n:Nat} {loads:List Int}
theorem plan_leaf_yes (hlb:∀ x∈loads,0<=x/\x<=1000) (hn:loads.length=n) (hn50:n<=50) {s l:Nat} {A:World} {cl t:List Int} (hA:PSt LB loads vr vg vm vs vc lc n s l A cl)
 {J Jx:List (List Int × List Int)->World->Prop} {own:Nat->Prop} (hJ:∀ pre A B,J pre A->KS (fun k=>¬ own k) A B->J pre B) {done:List (List Int × List Int)} (hj:J done A) (hyes:planOk loads cl=some t)
 {p:Nat->Prop} (hp0:p LB) (hps:∀ k,s<=k->k<=s+1+1+1+1->p k)
 (hY:∀ args A,encPl s n (cl,t) args A->J done A->YieldAt Fence.wide 0 Tryz.prog l args A fun e B=>(e=.returned (.bool true)/\J (done ++ [(cl,t)]) B/\KS p A B)\/(e=.returned (.bool false)/\Jx (done ++ [(cl,t)]) B)) :
 CallsIn Fence.wide 0 Tryz.prog 73 (planArgs n s) A (PlanOut LB loads vr vg vm vs vc lc n s l n cl J Jx (done ++ [(cl,t)])):=by
 have htp:=tapes_at (vr:=vr) (vg:=vg) (vm:=vm) (vs:=vs) (vc:=vc) (lc:=lc) (pc:=n) hA.ldi hlb hA.ints (pn:=n) (ln:=n) hA.len.symm hA.len.symm (by rw [hn,hA.len]) (by rw [hA.len];exact hn50);have HTP:=Hh htp;obtain ⟨f0,f1,f2,f3,f4,f5⟩:=hA.five;have f6:=hA.ld;have hpv:=hA.pv;have hlt:=hA.lt;have hyv:=hA.yv;have hA3:s+1+1+1 < A.heap.size:=by omega
 have hA1:s+1 < A.heap.size:=by omega
 have HA:=Hh hA;have HJ:=Hh hJ;have HJ0:=Hh hj;have HYES:=Hh hyes;have hY2:=fun (w1:World) (hb1:Below A.heap.size A w1) (ta:Option Addr) (tc:Nat) (hi:IntsAt w1 ta t) (hb:∀ y,ta=some y->A.heap.size<=y.block)=>hY #[.slice (some ⟨s+1+1,0,none⟩) n n,.slice ta t.length tc] w1 ⟨ta,tc,t.length,rfl,rfl,HA.out.len,HA.out.ints.below hb1,hi,fun y hy=>Nat.lt_of_lt_of_le HA.out.lt (hb y hy),Nat.lt_of_lt_of_le HA.out.lt hb1.size⟩ (HJ.out _ _ _ HJ0.out (KS.all hb1 _));have HY:=Hh hY2;have HP0:=Hh hp0;have HPS:=Hh hps;clear hlb hn hA hJ hj hyes htp hY hY2 hp0 hps;unfold planArgs
 (refine callsIn_of_wp Tryz.func73 rfl trivial ?_ rfl;simp only [Tryz.ntmps73,List.size_toArray,List.length_cons,List.length_nil,Nat.reduceAdd,Nat.reduceSub,Array.replicate_succ,Array.replicate_zero,List.push_toArray,List.append_toArray,List.nil_append,List.cons_append])
 gi_wp2_with (gi_at_call 74;(with_reducible refine (callsIn_wide.2 HTP.out).mono ?_);rintro e w1 ⟨ta,tc,o,ok,rfl,hrow,hb1,hok⟩;rw [HYES.out] at hok;(cases ok;(simp at hok));obtain rfl:t=o:=(by simpa using hok);clear hok;obtain ⟨hcc,hcf⟩:=bcell hb1;have hz1:=hb1.size;obtain ⟨fn,tmps,assign,body,hy,hR⟩:=HY.out w1 hb1 ta tc (ints_of_row hrow) (row_base hrow);have HR:=Hh hR;clear hR hrow)
 refine HR.out.mono ?_;rintro e W' (⟨rfl,hj',hk'⟩ | ⟨rfl,hjx⟩)
 ·gi_wp2
  go_ret;exact .inl ⟨_,rfl,(HA.out.next hb1).keep hk' HP0.out HPS.out,rfl,hj'⟩
 ·gi_wp2
  go_ret;exact .inr ⟨rfl,_,hjx⟩
end
def tries (n:Nat) (ld:Int):List Int:=if ld=0 then [(-1:Int)] else (List.range n).map fun (k:Nat)=>(k:Int)
def restP (loads pre:List Int) (ks rest:List Int) (j:Nat):List (List Int × List Int):=(ks.drop j).flatMap fun k=>plansFrom loads (pre ++ [k]) rest
theorem plansFrom_cons (loads pre:List Int) (ld:Int) (rest:List Int):plansFrom loads pre (ld::rest)=restP loads pre (tries loads.length ld) rest 0:=rfl
theorem restP_succ (loads pre ks rest:List Int) {j:Nat} (h:j < ks.length):restP loads pre ks rest j=plansFrom loads (pre ++ [ks[j]]) rest ++ restP loads pre ks rest (j+1):=by
 unfold restP;rw [List.drop_eq_getElem_cons h,List.flatMap_cons]
theorem restP_end (loads pre ks rest:List Int) {j:Nat} (h:ks.length<=j):restP loads pre ks rest j=[]:=by
 unfold restP;rw [List.drop_of_length_le h];rfl
section
variable {vr vg vm vs vc:Value} {LB lc n:Nat} {loads:List Int}
theorem plan_next (hlb:∀ x∈loads,0<=x/\x<=1000) (hn:loads.length=n) (hn50:n<=50) {s l:Nat}
 {J Jx:List (List Int × List Int)->World->Prop} (hJ:∀ pre A B,J pre A->KS (fun k=>¬ (k=s+1+1)) A B->J pre B)
 {p:Nat->Prop} (hp0:p LB) (hps:∀ k,s<=k->k<=s+1+1+1+1->p k) {xs:List (List Int × List Int)}
 (hY:∀ done x args A,(∃ suf,xs=done ++ x::suf)->encPl s n x args A->J done A->YieldAt Fence.wide 0 Tryz.prog l args A fun e B=>(e=.returned (.bool true)/\J (done ++ [x]) B/\KS p A B)\/(e=.returned (.bool false)/\Jx (done ++ [x]) B)) :
 ∀ (m i:Nat),i+m=n->∀ (A:World) (cl:List Int) (done suf:List (List Int × List Int)),PSt LB loads vr vg vm vs vc lc n s l A cl->J done A->xs=done ++ plansFrom loads (cl.take i) (loads.drop i) ++ suf ->
  CallsIn Fence.wide 0 Tryz.prog 73 (planArgs i s) A (PlanOut LB loads vr vg vm vs vc lc n s l i cl J Jx (done ++ plansFrom loads (cl.take i) (loads.drop i)))
 | 0,i,hi,A,cl,done,suf,hA,hj,hx=>by
  obtain rfl:i=n:=by omega
  rw [List.drop_of_length_le (by omega),List.take_of_length_le (by rw [hA.len];omega),plansFrom] at hx ⊢
  cases hp:planOk loads cl with
  | none =>
   simp only [hp,List.append_nil] at hx ⊢;exact plan_leaf_no hlb hn hn50 hA hJ hj hp
  | some t =>
   simp only [hp] at hx ⊢;exact plan_leaf_yes hlb hn hn50 hA hJ hj hp hp0 hps fun args A' he hj'=>hY done (cl,t) args A' ⟨suf,by simpa using hx⟩ he hj'
 | m+1,i,hi,A,cl,done,suf,hA,hj,hx=>by
  have ih:=plan_next hlb hn hn50 hJ hp0 hps hY m (i+1) (by omega);have hin:i < n:=by omega
  have hil:i < loads.length:=by omega
  have dl:=hA.ldi.cells i hil;rw [Nat.zero_add,show loads.getD i 0=loads[i] by simp [List.getD,List.getElem?_eq_getElem hil]] at dl;rw [List.drop_eq_getElem_cons hil,plansFrom_cons,hn] at hx ⊢;generalize hld:loads[i]=ld at *;have hA0:=hA.lt;obtain ⟨f0,f1,f2,f3,f4,f5⟩:=hA.five;have f6:=hA.ld;have hpv:=hA.pv;have ki:=hA.c i hin;have kf:=hA.fz i hin;have hlb2:LB < A.heap.size:=by have:=hA.lbs;have:=hA.lt;omega
  have hA2:s+1+1 < A.heap.size:=by omega
  have hA3:s+1+1+1 < A.heap.size:=by omega
  have hii:(i:Int) < n:=by omega
  have hii0:(0:Int)<=i:=by omega
  have hne:((i:Int) == (n:Int))=false:=by simp;omega
  have hne2:¬ (i:Int)=(n:Int):=by omega
  have hne3:¬ i=n:=by omega
  have e1:IntKind.i64.wrap ((i:Int)+1)=(i:Int)+1:=IntWalk.i64_in _ (by omega);obtain ⟨ks,hks⟩:∃ ks,tries n ld=ks:=⟨_,rfl⟩;rw [hks] at hx ⊢;have HA:=Hh hA;have HJ:=Hh hJ;have HJ0:=Hh hj;have HX:=Hh hx;have IH:=Hh ih;have HP0:=Hh hp0;have HPS:=Hh hps;generalize hci:cl.getD i 0=ci at ki;obtain ⟨f,tt,hf,ht,hkl,hka,hf1,ht1,hft⟩:∃ f tt:Int,f=(if ld=0 then -1 else 0)/\tt=(if ld=0 then 0 else (n:Int))/\ks.length=(tt - f).toNat/\(∀ j (h:j < ks.length),ks[j]=f+j)/\-1<=f/\tt<=n/\f<=tt:=by
   refine ⟨_,_,rfl,rfl,?_,?_,?_,?_,?_⟩
   ·rw [<- hks];unfold tries;split <;> simp
   ·intro j h;subst hks;unfold tries at h ⊢;by_cases h0:ld=0
    ·simp only [h0,if_true] at h ⊢;simp at h;subst h;rfl
    ·simp only [h0,if_false] at h ⊢;simp
   ·split <;> omega
   ·split <;> omega
   ·split <;> omega
  have HKA:=Hh hka;have HKL:=Hh hkl;clear hlb hn hA hJ hj hx ih hp0 hps hY hld hks hci hka hkl;by_cases h0:ld=0
  ·rw [if_pos h0] at hf ht;subst h0 hf ht;unfold planArgs
   (refine callsIn_of_wp Tryz.func73 rfl trivial ?_ rfl;simp only [Tryz.ntmps73,List.size_toArray,List.length_cons,List.length_nil,Nat.reduceAdd,Nat.reduceSub,Array.replicate_succ,Array.replicate_zero,List.push_toArray,List.append_toArray,List.nil_append,List.cons_append])
   gi_wp2
   gi_big_quiet_th (fail)
   gi_wp2
   have hst0:=(HA.out.keep (KS.drewN (fun _=>True) _ nq) trivial (fun _ _ _=>trivial)).set hin (-1);have hks0:KS (fun k=>¬ (k=s+1+1)) A ((A.drewN nq).setCell ⟨s+1+1,i,none⟩ (.int .i64 (-1))):=(KS.drewN _ _ _).trans (KS.setCell (by simp) _ _);have hj0:=HJ.out _ _ _ HJ0.out hks0;have htk0:(cl.set i (-1)).take i=cl.take i:=set_take _;have hg0:(cl.set i (-1)).getD i 0=-1:=by simp [List.getD,HA.out.len,hin]
   have HST0:=Hh hst0;have HJ1:=Hh hj0;have HTK0:=Hh htk0;have HG0:=Hh hg0;have hT0:(-1:Int)<=0:=by omega
   clear hst0 hks0 hj0 htk0 hg0 f0 f1 f2 f3 f4 f5 f6 hpv ki kf dl
   gi_loopw [6] (fun v wr=>∃ (cl':List Int) (j:Nat) (x:Int) (part:List (List Int × List Int)),v=.bool false/\PSt LB loads vr vg vm vs vc lc n s l wr cl'/\cl'.take i=cl.take i/\Hid (cl'.getD i 0=x)/\Hid (x=-1+j)/\-1<=x/\x<=0/\j<=ks.length/\Hid (part ++ restP loads (cl.take i) ks (loads.drop (i+1)) j=restP loads (cl.take i) ks (loads.drop (i+1)) 0)/\J (done ++ part) wr)
    (fun _ wr=>(0 - intOf ((wr.cell? ⟨s+1+1,i,none⟩).getD undef)).toNat)
   case atStart=>exact ⟨_,0,-1,[],rfl,HST0.out,HTK0.out,HG0.out,(by show (-1:Int)=-1+(0:Nat);rfl),by omega,by omega,Nat.zero_le _,rfl,by simpa using HJ1.out⟩
   case round =>
    obtain ⟨cl',j,x,part,rfl,hA',htk,hgi,hxj,hx0,hx1,hjl,hpart,hj'⟩:=hrel;have k':=hA'.c i hin;have kf':=hA'.fz i hin;rw [hgi.out] at k';have hB1:=hA'.lt;have hB2:s+1+1 < wr.heap.size:=by omega
    have hB3:s+1+1+1 < wr.heap.size:=by omega
    have hnx:=hA'.nx;have hpv:=hA'.pv;have hlen':=hA'.len;have e2:IntKind.i64.wrap (x+1)=x+1:=IntWalk.i64_in _ (by omega);have HA':=Hh hA';have HJ':=Hh hj';have HTK:=Hh htk;have HLEN:=Hh hlen';clear hA' hj' htk hlen';by_cases hle:x < 0
    ·have hjlt:j < ks.length:=by have:=hxj.out;have:=HKL.out;omega
     gi_wp2
     have hpart2:=hpart.out;rw [restP_succ _ _ _ _ hjlt,HKA.out j hjlt,<- hxj.out,<- List.append_assoc] at hpart2;have htk1:cl'.take (i+1)=cl.take i ++ [x]:=by rw [take_of_getD (by rw [HLEN.out];omega),HTK.out,hgi.out]
     have ihc:=IH.out wr cl' (done ++ part) (restP loads (cl.take i) ks (loads.drop (i+1)) (j+1) ++ suf) HA'.out HJ'.out (by rw [HX.out,htk1,<- hpart2];simp only [List.append_assoc]);rw [htk1] at ihc;rw [show planArgs (i+1) s=#[.int .i64 ((i:Int)+1),.pointer (some ⟨s+1+1+1,0,none⟩),.pointer (some ⟨s,0,none⟩),.pointer (some ⟨s+1,0,none⟩),.pointer (some ⟨s+1+1+1+1,0,none⟩)] from by simp [planArgs]] at ihc;refine ihc.mono ?_;rintro e B (⟨cl'',rfl,hA'',htk'',hj''⟩ | ⟨rfl,pre,hjx⟩)
     ·have m':=hA''.c i hin;have mf:=hA''.fz i hin;have hgi'':cl''.getD i 0=x:=by rw [getD_of_take htk'' (Nat.lt_succ_self i),hgi.out]
      rw [hgi''] at m';have hC1:=hA''.lt;have hC2:s+1+1 < B.heap.size:=by omega
      have hC3:s+1+1+1 < B.heap.size:=by omega
      have hpv2:=hA''.pv;have HA'':=Hh hA'';have HTK'':=Hh htk'';have HJ'':=Hh hj'';have HPART:=Hh hpart2;have HXJ:=Hh (show x+1=-1+((j+1:Nat):Int) by have:=hxj.out;omega);clear hA'' htk'' hj'' hgi'' ihc htk1 hpart2 hpv hnx
      gi_wp2
      go_roundw
      case rel =>
       refine ⟨cl''.set i (x+1),j+1,x+1,part ++ plansFrom loads (cl.take i ++ [x]) (loads.drop (i+1)),rfl,HA''.out.set hin _,?_,?_,HXJ.out,by omega,by omega,by omega,HPART.out,?_⟩
       ·rw [set_take,<- HTK.out];have:=congrArg (List.take i) HTK''.out;simpa [List.take_take] using this
       ·simp only [Hid,List.getD];rw [List.getElem?_set_self (by rw [HA''.out.len];omega)];simp
       ·rw [<- List.append_assoc];exact HJ.out _ _ _ HJ''.out (KS.setCell (by simp) _ _)
      case measure =>
       rw [World.cell?_setCell_same' _ _ _ (by rw [m'];rfl),k'];simp [intOf];omega
     ·gi_wp2
      go_ret;exact .inr ⟨rfl,pre,hjx⟩
    ·have hpart2:=hpart.out;rw [restP_end _ _ _ _ (by have:=hxj.out;have:=HKL.out;omega),List.append_nil] at hpart2;have HPART:=Hh hpart2;clear hpart2
     gi_wp2
     go_ret;exact .inl ⟨cl',rfl,HA'.out,HTK.out,by rw [<- HPART.out];exact HJ'.out⟩
  ·rw [if_neg h0] at hf ht;have h0':(ld == 0)=false:=by simpa using h0
   subst hf ht;unfold planArgs
   (refine callsIn_of_wp Tryz.func73 rfl trivial ?_ rfl;simp only [Tryz.ntmps73,List.size_toArray,List.length_cons,List.length_nil,Nat.reduceAdd,Nat.reduceSub,Array.replicate_succ,Array.replicate_zero,List.push_toArray,List.append_toArray,List.nil_append,List.cons_append])
   gi_wp2
   gi_big_quiet_th (fail)
   gi_wp2
   have hst0:=(HA.out.keep (KS.drewN (fun _=>True) _ nq) trivial (fun _ _ _=>trivial)).set hin (0);have hks0:KS (fun k=>¬ (k=s+1+1)) A ((A.drewN nq).setCell ⟨s+1+1,i,none⟩ (.int .i64 (0))):=(KS.drewN _ _ _).trans (KS.setCell (by simp) _ _);have hj0:=HJ.out _ _ _ HJ0.out hks0;have htk0:(cl.set i (0)).take i=cl.take i:=set_take _;have hg0:(cl.set i (0)).getD i 0=0:=by simp [List.getD,HA.out.len,hin]
   have HST0:=Hh hst0;have HJ1:=Hh hj0;have HTK0:=Hh htk0;have HG0:=Hh hg0;have hT0:(0:Int)<=(n:Int):=by omega
   clear hst0 hks0 hj0 htk0 hg0 f0 f1 f2 f3 f4 f5 f6 hpv ki kf dl
   gi_loopw [6] (fun v wr=>∃ (cl':List Int) (j:Nat) (x:Int) (part:List (List Int × List Int)),v=.bool false/\PSt LB loads vr vg vm vs vc lc n s l wr cl'/\cl'.take i=cl.take i/\Hid (cl'.getD i 0=x)/\Hid (x=0+j)/\-1<=x/\x<=(n:Int)/\j<=ks.length/\Hid (part ++ restP loads (cl.take i) ks (loads.drop (i+1)) j=restP loads (cl.take i) ks (loads.drop (i+1)) 0)/\J (done ++ part) wr)
    (fun _ wr=>((n:Int) - intOf ((wr.cell? ⟨s+1+1,i,none⟩).getD undef)).toNat)
   case atStart=>exact ⟨_,0,0,[],rfl,HST0.out,HTK0.out,HG0.out,(by show (0:Int)=0+(0:Nat);rfl),by omega,by omega,Nat.zero_le _,rfl,by simpa using HJ1.out⟩
   case round =>
    obtain ⟨cl',j,x,part,rfl,hA',htk,hgi,hxj,hx0,hx1,hjl,hpart,hj'⟩:=hrel;have k':=hA'.c i hin;have kf':=hA'.fz i hin;rw [hgi.out] at k';have hB1:=hA'.lt;have hB2:s+1+1 < wr.heap.size:=by omega
    have hB3:s+1+1+1 < wr.heap.size:=by omega
    have hnx:=hA'.nx;have hpv:=hA'.pv;have hlen':=hA'.len;have e2:IntKind.i64.wrap (x+1)=x+1:=IntWalk.i64_in _ (by omega);have HA':=Hh hA';have HJ':=Hh hj';have HTK:=Hh htk;have HLEN:=Hh hlen';clear hA' hj' htk hlen';by_cases hle:x < (n:Int)
    ·have hjlt:j < ks.length:=by have:=hxj.out;have:=HKL.out;omega
     gi_wp2
     have hpart2:=hpart.out;rw [restP_succ _ _ _ _ hjlt,HKA.out j hjlt,<- hxj.out,<- List.append_assoc] at hpart2;have htk1:cl'.take (i+1)=cl.take i ++ [x]:=by rw [take_of_getD (by rw [HLEN.out];omega),HTK.out,hgi.out]
     have ihc:=IH.out wr cl' (done ++ part) (restP loads (cl.take i) ks (loads.drop (i+1)) (j+1) ++ suf) HA'.out HJ'.out (by rw [HX.out,htk1,<- hpart2];simp only [List.append_assoc]);rw [htk1] at ihc;rw [show planArgs (i+1) s=#[.int .i64 ((i:Int)+1),.pointer (some ⟨s+1+1+1,0,none⟩),.pointer (some ⟨s,0,none⟩),.pointer (some ⟨s+1,0,none⟩),.pointer (some ⟨s+1+1+1+1,0,none⟩)] from by simp [planArgs]] at ihc;refine ihc.mono ?_;rintro e B (⟨cl'',rfl,hA'',htk'',hj''⟩ | ⟨rfl,pre,hjx⟩)
     ·have m':=hA''.c i hin;have mf:=hA''.fz i hin;have hgi'':cl''.getD i 0=x:=by rw [getD_of_take htk'' (Nat.lt_succ_self i),hgi.out]
      rw [hgi''] at m';have hC1:=hA''.lt;have hC2:s+1+1 < B.heap.size:=by omega
      have hC3:s+1+1+1 < B.heap.size:=by omega
      have hpv2:=hA''.pv;have HA'':=Hh hA'';have HTK'':=Hh htk'';have HJ'':=Hh hj'';have HPART:=Hh hpart2;have HXJ:=Hh (show x+1=0+((j+1:Nat):Int) by have:=hxj.out;omega);clear hA'' htk'' hj'' hgi'' ihc htk1 hpart2 hpv hnx
      gi_wp2
      go_roundw
      case rel =>
       refine ⟨cl''.set i (x+1),j+1,x+1,part ++ plansFrom loads (cl.take i ++ [x]) (loads.drop (i+1)),rfl,HA''.out.set hin _,?_,?_,HXJ.out,by omega,by omega,by omega,HPART.out,?_⟩
       ·rw [set_take,<- HTK.out];have:=congrArg (List.take i) HTK''.out;simpa [List.take_take] using this
       ·simp only [Hid,List.getD];rw [List.getElem?_set_self (by rw [HA''.out.len];omega)];simp
       ·rw [<- List.append_assoc];exact HJ.out _ _ _ HJ''.out (KS.setCell (by simp) _ _)
      case measure =>
       rw [World.cell?_setCell_same' _ _ _ (by rw [m'];rfl),k'];simp [intOf];omega
     ·gi_wp2
      go_ret;exact .inr ⟨rfl,pre,hjx⟩
    ·have hpart2:=hpart.out;rw [restP_end _ _ _ _ (by have:=hxj.out;have:=HKL.out;omega),List.append_nil] at hpart2;have HPART:=Hh hpart2;clear hpart2
     gi_wp2
     go_ret;exact .inl ⟨cl',rfl,HA'.out,HTK.out,by rw [<- HPART.out];exact HJ'.out⟩
end
theorem made_cell (w:World) (n:Nat) (t:TypeId) {m k:Nat} (hm:m=w.heap.size) (hk:k < n):(w.alloc (.cells (madeCells #[.int .i64 0] n) t)).cell? ⟨m,k,none⟩=some (.int .i64 0):=by
 rw [World.cell?_alloc_at _ _ _ _ hm];show (madeCells #[.int .i64 0] n)[k]? = _;simp [madeCells,hk,Nat.mod_one]
section
variable {vr vg vm vs vc:Value} {LB lc n:Nat} {loads:List Int}
theorem plans_iter {W:World} (hL:IntsAt W (some ⟨LB,0,none⟩) loads) (hLB:LB < W.heap.size) (hlb:∀ x∈loads,0<=x/\x<=1000) (hn:loads.length=n) (hn50:n<=50)
 {p:Nat->Prop} (hp0:p LB) (hps:∀ k,W.heap.size<=k->k<=W.heap.size+1+1+1+1->p k) :
 Iter Tryz.prog 34 (.agg #[vr,vg,vm,vs,vc,.slice (some ⟨LB,0,none⟩) n lc]) (encPl W.heap.size n) (plansI loads) (fun k=>k=W.heap.size+1+1) p W:=by
 intro l J Jx hJ hJx hY h0;have hnx:=plan_next (vr:=vr) (vg:=vg) (vm:=vm) (vs:=vs) (vc:=vc) (lc:=lc) hlb hn hn50 hJ hp0 hps (xs:=plansI loads) (fun done x args A hs he hj=>hY done x args A hs he hj) n 0 (by omega);have HNX:=Hh hnx;have HJ:=Hh hJ;have H0:=Hh h0;have HL:=Hh hL;have hmk:=run_make_row' (P:=Tryz.prog) 27 3 (.int .i64 0) 8 Tryz.underlying27 intInfo rfl .i64 .i64 n (by omega) (by omega);clear hL hlb hn hJ hJx hY h0 hnx hp0 hps;refine callsIn_wide.2 ?_
 go_enter Tryz.func34,Tryz.ntmps34
 go_wp2_with fail;obtain ⟨W1,hW1⟩:∃ W1,W1=((((W.alloc (.cells #[vr,vg,vm,vs,vc,.slice (some ⟨LB,0,none⟩) n lc] 85)).alloc (.cells #[.func (.yield l) #[] #[]] 33)).alloc (.cells (madeCells #[.int .i64 0] n) 3)).alloc (.cells #[.slice (some ⟨W.heap.size+1+1,0,none⟩) n n] 27)).alloc
  (.cells #[.func (.func 73) #[] #[.pointer (some ⟨W.heap.size+1+1+1,0,none⟩),.pointer (some ⟨W.heap.size,0,none⟩),.pointer (some ⟨W.heap.size+1,0,none⟩),.pointer (some ⟨W.heap.size+1+1+1+1,0,none⟩)]] 91):=⟨_,rfl⟩
 rw [<- hW1];have hb1:Below W.heap.size W W1:=by rw [hW1];(exact bel)
 have h6:∀ k,k < 6->W1.cell? ⟨W.heap.size,k,none⟩=(W.alloc (.cells #[vr,vg,vm,vs,vc,.slice (some ⟨LB,0,none⟩) n lc] 85)).cell? ⟨W.heap.size,k,none⟩:=fun k _=>by
  rw [hW1,World.cell?_alloc_past _ _ _ (by first | (simp;done) | (simp;omega)),World.cell?_alloc_past _ _ _ (by first | (simp;done) | (simp;omega)),World.cell?_alloc_past _ _ _ (by first | (simp;done) | (simp;omega)),World.cell?_alloc_past _ _ _ (by first | (simp;done) | (simp;omega))]
 have hst:PSt LB loads vr vg vm vs vc lc n W.heap.size l W1 (List.replicate n 0):=by
  refine ⟨HL.out.below hb1,hLB,?_,?_,?_,fun k hk=>?_,fun k hk=>?_,?_,?_,by simp,by rw [hW1];simp⟩
  ·exact ⟨(h6 0 (by omega)).trans (by simp),(h6 1 (by omega)).trans (by simp),(h6 2 (by omega)).trans (by simp),(h6 3 (by omega)).trans (by simp),(h6 4 (by omega)).trans (by simp),by rw [hW1];first | (simp;done) | (simp;omega)⟩
  ·exact (h6 5 (by omega)).trans (by simp)
  ·rw [hW1,World.cell?_alloc_past _ _ _ (by first | (simp;done) | (simp;omega)),World.cell?_alloc_past _ _ _ (by first | (simp;done) | (simp;omega)),World.cell?_alloc_past _ _ _ (by simp),World.cell?_alloc_at _ _ _ _ (by simp)];rfl
  ·rw [hW1,World.cell?_alloc_past _ _ _ (by first | (simp;done) | (simp;omega)),World.cell?_alloc_past _ _ _ (by simp),made_cell _ _ _ (by simp) hk];simp [List.getD,List.getElem?_replicate,hk]
  ·rw [hW1,World.frozen?_alloc_past _ _ _ (by first | (simp;done) | (simp;omega)),World.frozen?_alloc_past _ _ _ (by simp),World.frozen?_alloc_at _ _ _ _ (by simp)]
  ·rw [hW1,World.cell?_alloc_past _ _ _ (by simp),World.cell?_alloc_at _ _ _ _ (by simp)];rfl
  ·rw [hW1,World.cell?_alloc_at _ _ _ _ (by simp)];rfl
 have hcall:=callsIn_wide.1 (HNX.out W1 (List.replicate n 0) [] [] hst (HJ.out _ _ _ H0.out (KS.all hb1 _)) (by simp [plansI]));rw [show planArgs 0 W.heap.size=#[.int .i64 0,.pointer (some ⟨W.heap.size+1+1+1,0,none⟩),.pointer (some ⟨W.heap.size,0,none⟩),.pointer (some ⟨W.heap.size+1,0,none⟩),.pointer (some ⟨W.heap.size+1+1+1+1,0,none⟩)] from rfl] at hcall;have HC:=Hh hcall;clear hcall hst hb1 hW1;refine HC.out.mono ?_;rintro e B (⟨cl',rfl,_,_,hj⟩ | ⟨rfl,pre,hjx⟩)
 ·go_wp2
  go_end0
  exact ⟨⟨_,rfl⟩,.inl (by simpa [plansI] using hj)⟩
 ·go_wp2
  go_end0
  exact ⟨⟨_,rfl⟩,.inr ⟨pre,hjx⟩⟩
end
end
end Go.Proofs.YtgagoahfdnnpkaaGreatDoor
