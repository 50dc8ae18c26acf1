/- StoreTapes -/
import Derived.Test.YtgagoahfdnnpkaaGreatDoorSG08
set_option maxHeartbeats 2000000
set_option maxRecDepth 100000
set_option linter.all false
namespace Go.Proofs.YtgagoahfdnnpkaaGreatDoor
section
open Go.RowKit Go.Maps Sp
theorem rIs_no1 (vr vg:Value) (ma:Option Addr) (ml mc:Nat) (se re:Value) (m g:Int) (w:World) (hl:ml<=1000000) (h:inB m 0 ((ml:Int) - 1)=false) :
 Calls Tryz.prog 100 #[.agg #[vr,vg,.slice ma ml mc,se,re],.agg #[.int .i64 m,.int .i64 g]] w fun e w'=>e=.returned (.bool false)/\Below w.heap.size w w':=by
 have H:=Hh h;clear h
 go_enter Tryz.func100,Tryz.ntmps100
 go_wp2;go_quiet ((go_at_call 102;with_reducible exact Calls.quiet_of_same (there_at hl H.out)));go_wp2;go_ret;exact ⟨rfl,bel⟩
theorem rIs_at1 (vr vg:Value) (mb mo:Nat) (ml mc:Nat) (se re:Value) (m g gr:Int) (w:World) (hl:ml<=1000000) (h:inB m 0 ((ml:Int) - 1)=true) (hm1:0<=m) (hm2:m < ml)
 (hg1:0<=gr) (hg2:gr<=1000) (hlt:mb < w.heap.size) (hc:w.cell? ⟨mb,mo+m.toNat * 3+1,none⟩=some (.int .i64 gr)) {t:Bool} (h2:inB g 0 (gr - 1)=t) :
 Calls Tryz.prog 100 #[.agg #[vr,vg,.slice (some ⟨mb,mo,none⟩) ml mc,se,re],.agg #[.int .i64 m,.int .i64 g]] w fun e w'=>e=.returned (.bool t)/\Below w.heap.size w w':=by
 have hgr:0<=gr/\gr<=1000000:=by omega
 have H:=Hh h;clear h;have H2:=Hh h2;clear h2
 go_enter Tryz.func100,Tryz.ntmps100
 go_wp2;go_quiet ((first | (go_at_call 102;with_reducible exact Calls.quiet_of_same (there_at hl H.out)) | (go_at_call 102;with_reducible exact Calls.quiet_of_same (thereI_at hgr H2.out))));go_wp2;go_ret;exact ⟨rfl,bel⟩
theorem rIs_at {b:Bk} {vr vg vm vs vc:Value} {p:Prt} {w:World} {t:Bool} (hB:BookAt w b vr vg vm vs vc) (hG:∀ m∈b.ms,0<=m.groups/\m.groups<=1000) (h:isPart b p=t) :
 Calls Tryz.prog 100 #[.agg #[vr,vg,vm,vs,vc],.agg #[.int .i64 p.1,.int .i64 p.2]] w fun e w'=>e=.returned (.bool t)/\Below w.heap.size w w':=by
 obtain ⟨ma,mc,rfl,hM,hl⟩:=hB.ms;unfold isPart at h;cases h1:inB p.1 0 ((b.ms.length:Int) - 1)
 ·simp only [h1,Bool.false_and] at h;subst h;exact rIs_no1 _ _ _ _ _ _ _ _ _ _ hl h1
 ·simp only [h1,Bool.true_and] at h;have h1':=h1;simp only [inB,decide_eq_true_eq] at h1';have hi:p.1.toNat < b.ms.length:=by omega
  obtain ⟨mb,mo,rfl,hlt,_,hc,_⟩:=hM _ hi;rw [List.getElem?_eq_getElem hi] at h;have:=hG _ (List.getElem_mem hi);exact rIs_at1 _ _ _ _ _ _ _ _ _ _ _ _ hl h1 h1'.1 (by omega) this.1 this.2 hlt hc h
theorem eqPart (a b c d:Int) (w:World):(binOp .eql 75 (.agg #[.int .i64 a,.int .i64 b]) (.agg #[.int .i64 c,.int .i64 d])).run Tryz.prog w=.ok (.bool (a == c && b == d)) w:=by
 have u3:=Tryz.underlying3;have hS:Tryz.prog.underlying 75=some (.struct (Tryz.prog.fieldsOf 75)):=by kernel_rfl
 have hp:Tryz.prog.stoodInHeld 75=false:=by kernel_rfl
 rw [run_eql_struct,show (10000:Nat)=9999+1 from rfl,run_equalIn_agg w 9999 75 _ _ hS hp];simp only [Program.fieldsOf,Tryz.underlying75];go_simp;by_cases h1:a=c <;> by_cases h2:b=d <;> simp [h1,h2]
theorem has_at {pa:Option Addr} {pc n:Nat} {l:List Prt} {p:Prt} {w:World} {t:Bool} (hP:PartsAt w pa l) (hn:n=l.length) (hl:l.length<=1000000) (h:decide (p∈l)=t) :
 Calls Tryz.prog 101 #[.slice pa n pc,.agg #[.int .i64 p.1,.int .i64 p.2]] w fun e w'=>e=.returned (.bool t)/\Below w.heap.size w w':=by
 subst hn;obtain ⟨pm,pg⟩:=p;have H:=Hh h;clear h;have HP:=Hh hP;clear hP
 go_enter Tryz.func101,Tryz.ntmps101
 go_wp2;obtain ⟨W0,hW0⟩:∃ W0,W0=w.alloc (.cells #[.int .i64 pm,.int .i64 pg] 75):=⟨_,rfl⟩;rw [<- hW0];have hb0:Below w.heap.size w W0:=by rw [hW0];(exact bel)
 have c0:W0.cell? ⟨w.heap.size,0,none⟩=some (.int .i64 pm):=by rw [hW0,World.cell?_alloc_at _ _ _ _ rfl];rfl
 have c1:W0.cell? ⟨w.heap.size,1,none⟩=some (.int .i64 pg):=by rw [hW0,World.cell?_alloc_at _ _ _ _ rfl];rfl
 have hs0:w.heap.size < W0.heap.size:=by rw [hW0];simp
 clear hW0;go_loopw [5] (fun i wr=>∃ k:Nat,k<=l.length/\i=.int .i64 k/\Hid ((pm,pg) ∉ l.take k)/\Below W0.heap.size W0 wr) (fun i _=>l.length - (intOf i).toNat)
 case atStart=>exact ⟨0,Nat.zero_le _,rfl,by simp [Hid],Below.refl _ _⟩
 case round =>
  obtain ⟨k,hk,rfl,hno,hW⟩:=hrel;have hWs:=hW.size;by_cases hlt:k < l.length
  ·obtain ⟨lb,lo,rfl,hlb,e0,e1⟩:=HP.out k hlt;have hb1:=Below.next hb0 hW;have d0:=(hb1.cell hlb).trans e0;have d1:=(hb1.cell hlb).trans e1;have x0:=(hW.cell (p:=⟨w.heap.size,0,none⟩) hs0).trans c0;have x1:=(hW.cell (p:=⟨w.heap.size,1,none⟩) hs0).trans c1;have hlb2:lb < wr.heap.size:=Nat.lt_of_lt_of_le hlb hb1.size;have hx2:w.heap.size < wr.heap.size:=by omega
   have htk:=List.take_succ_eq_append_getElem hlt;have hin:l[k]∈l:=List.getElem_mem hlt;generalize l[k]=q at d0 d1 htk hin;obtain ⟨qm,qg⟩:=q;simp only at d0 d1;have HTK:=Hh htk;have HIN:=Hh hin;clear htk e0 e1 c0 c1 hin;by_cases hq:qm=pm/\qg=pg
   ·obtain ⟨rfl,rfl⟩:=hq;have heq:=fun w=>(eqPart qm qg qm qg w).trans (by simp:_=Result.ok (Value.bool true) w);have ht:t=true:=by rw [<- H.out];simpa using HIN.out
    subst ht;go_wp2;go_quiet (fail);go_wp2;go_ret;exact ⟨rfl,bel⟩
   ·have heq:=fun w=>(eqPart qm qg pm pg w).trans (show _=Result.ok (Value.bool false) w by
     have:(qm == pm && qg == pg)=false:=by simpa using hq
     rw [this])
    have hn2:(pm,pg) ∉ l.take (k+1):=by
     rw [HTK.out];simp only [List.mem_append,List.mem_singleton,Prod.mk.injEq,not_or];exact ⟨hno.out,fun h=>hq ⟨h.1.symm,h.2.symm⟩⟩
    have HN:=Hh hn2;clear hq hn2;go_wp2;go_quiet (fail);go_wp2;go_roundw
    case rel=>exact ⟨k+1,by omega,by go_num,HN.out,bel⟩
    case measure=>simp [intOf];omega
  ·have ht:t=false:=by
    have:=hno.out;rw [List.take_of_length_le (by omega)] at this;rw [<- H.out];simpa using this
   subst ht;go_wp2;go_ret;exact ⟨rfl,bel⟩
theorem lesser_at {w:World} {la ma:Option Addr} {ln mn lc mc:Nat} {l m:List Int} (hL:IntsAt w la l) (hM:IntsAt w ma m) (hln:ln=l.length) (hmn:mn=m.length) (hl:l.length<=1000000) (hm:m.length<=1000000) {t:Bool} (ht:lesserI l m=t) :
 Calls Tryz.prog 44 #[.slice la ln lc,.slice ma mn mc] w fun e w'=>e=.returned (.bool t)/\Below w.heap.size w w':=by
 subst hln hmn;have HT:=Hh ht;have HL:=Hh hL;have HM:=Hh hM;clear ht hL hM
 go_enter Tryz.func44,Tryz.ntmps44
 go_wp2;go_loopw [5] (fun i wr=>∃ (k:Nat),k<=l.length/\k<=m.length/\i=.int .i64 k/\Hid (lesserI (l.drop k) (m.drop k)=t)/\Below w.heap.size w wr) (fun i _=>l.length - (intOf i).toNat)
 case atStart=>exact ⟨0,Nat.zero_le _,Nat.zero_le _,rfl,HT.out,Below.refl _ _⟩
 case round =>
  obtain ⟨k,hk,hkm,rfl,hc,hW⟩:=hrel;have hc:=hc.out;by_cases hlt:k < l.length
  ·obtain ⟨lb,lo,rfl,hlb,e0⟩:=HL.out k hlt;have e0:=(hW.cell hlb).trans e0;have hlb2:lb < wr.heap.size:=Nat.lt_of_lt_of_le hlb hW.size;rw [List.drop_eq_getElem_cons hlt] at hc;by_cases hlm:k < m.length
   ·obtain ⟨mb,mo,rfl,hmb,e1⟩:=HM.out k hlm;have e1:=(hW.cell hmb).trans e1;have hmb2:mb < wr.heap.size:=Nat.lt_of_lt_of_le hmb hW.size;rw [List.drop_eq_getElem_cons hlm] at hc;unfold lesserI at hc;generalize l[k]=x at hc e0;generalize m[k]=y at hc e1;by_cases h1:x=y
    ·rw [if_pos h1] at hc;have HC:=Hh hc;subst h1;clear hc;go_wp2;go_quiet (fail);go_wp2;go_roundw
     case rel=>exact ⟨k+1,by omega,by omega,by go_num,HC.out,bel⟩
     case measure=>simp [intOf];omega
    ·rw [if_neg h1] at hc;have HC:=Hh hc;have hne:(x == y)=false:=by simpa using h1
     clear hc;go_wp2;go_quiet (fail);go_wp2;go_quiet (fail);go_wp2;go_ret;exact ⟨by rw [<- HC.out];rfl,bel⟩
   ·have hmk:m.drop k=[]:=List.drop_eq_nil_of_le (by omega);rw [hmk] at hc;unfold lesserI at hc;subst hc;clear hmk;go_wp2;go_ret;exact ⟨by first | rfl | (simp;done) | (simp;omega),hW⟩
  ·obtain rfl:k=l.length:=by omega
   rw [List.drop_length] at hc;by_cases hlm:l.length < m.length
   ·rw [List.drop_eq_getElem_cons hlm] at hc;unfold lesserI at hc;subst hc;go_wp2;go_ret;exact ⟨by first | rfl | (simp;done) | (simp;omega),hW⟩
   ·rw [List.drop_eq_nil_of_le (by omega)] at hc;unfold lesserI at hc;subst hc;go_wp2;go_ret;exact ⟨by first | rfl | (simp;done) | (simp;omega),hW⟩
theorem lesser_same:∀ {l m:List Int},(!lesserI l m && !lesserI m l)=decide (l=m)
 | [],[]=>by simp [lesserI]
 | [],_::_=>by simp [lesserI]
 | _::_,[]=>by simp [lesserI]
 | x::l,y::m=>by
  unfold lesserI;by_cases h:x=y
  ·subst h;rw [if_pos rfl,if_pos rfl,lesser_same];simp
  ·rw [if_neg h,if_neg (Ne.symm h)];have:¬ (x::l=y::m):=fun e=>h (List.cons.inj e).1;simp only [this,decide_false,Bool.and_eq_false_iff,Bool.not_eq_false',decide_eq_true_eq];omega
theorem sameNums_at {w:World} {la ma:Option Addr} {ln mn lc mc:Nat} {l m:List Int} (hL:IntsAt w la l) (hM:IntsAt w ma m) (hln:ln=l.length) (hmn:mn=m.length) (hl:l.length<=1000000) (hm:m.length<=1000000) {t:Bool} (ht:decide (l=m)=t) :
 Calls Tryz.prog 8 #[.slice la ln lc,.slice ma mn mc] w fun e w'=>e=.returned (.bool t)/\Below w.heap.size w w':=by
 rw [<- lesser_same] at ht;have h1:=fun (w':World) (hb:Below w.heap.size w w')=>lesser_at (lc:=lc) (mc:=mc) (hL.below hb) (hM.below hb) hln hmn hl hm rfl;have h2:=fun (w':World) (hb:Below w.heap.size w w')=>lesser_at (lc:=mc) (mc:=lc) (hM.below hb) (hL.below hb) hmn hln hm hl rfl;generalize lesserI l m=x at ht h1;generalize lesserI m l=y at ht h2;have H1:=Hh h1;have H2:=Hh h2;clear h1 h2 hL hM hln hmn hl hm;subst ht;cases x
 all_goals
  go_enter Tryz.func8,Tryz.ntmps8
  go_wp2_with (first
   | (go_at_call 44;(with_reducible refine (H1.out _ (bel)).mono ?_);rintro e w1 ⟨rfl,hb1⟩)
   | (go_at_call 44;(with_reducible refine (H2.out _ (bel)).mono ?_);rintro e w2 ⟨rfl,hb2⟩))
  go_ret;exact ⟨by simp,bel⟩
theorem bytes_ext {a b:ByteArray} (h:a.data.toList=b.data.toList):a=b:=by
 cases a;cases b;simp only at h;rw [Array.toList_inj.1 h]
def nameL (m:Msg):List UInt8:=m.name.data.toList
theorem rMessages_at {b:Bk} {vr vg vm vs vc:Value} {w:World} (hB:BookAt w b vr vg vm vs vc) (hN:∀ m∈b.ms,m.name.size<=1000000) {t:Int} (h:msgsAl b=t) :
 Calls Tryz.prog 75 #[.agg #[vr,vg,vm,vs,vc]] w fun e w'=>e=.returned (.int .i64 t)/\Below w.heap.size w w':=by
 obtain ⟨ma,mc,rfl,hM,hl⟩:=hB.ms;unfold msgsAl at h;by_cases h5:5 < b.ms.length
 ·rw [if_pos h5] at h;subst h
  go_enter Tryz.func75,Tryz.ntmps75
  go_wp2;go_ret;exact ⟨rfl,bel⟩
 ·rw [if_neg h5] at h;have H:=Hh h;clear h hB;have HM:=Hh hM;clear hM;have HN:=Hh hN;clear hN
  go_enter Tryz.func75,Tryz.ntmps75
  go_wp2;obtain ⟨W0,hW0⟩:∃ W0,W0=w.alloc (.cells #[vr,vg,.slice ma b.ms.length mc,vs,vc] 26):=⟨_,rfl⟩;rw [<- hW0];have hb0:Below w.heap.size w W0:=by rw [hW0];(exact bel)
  have n2:W0.cell? ⟨w.heap.size,2,none⟩=some (.slice ma b.ms.length mc):=by rw [hW0,World.cell?_alloc_at _ _ _ _ rfl];rfl
  have hs0:w.heap.size < W0.heap.size:=by rw [hW0];simp
  clear hW0;go_loopw [3] (fun i wr=>∃ (k:Nat) (seen:List (List UInt8)),k<=b.ms.length/\i=.int .i64 k/\Hid (goM seen (b.ms.drop k)=t)/\Hid (∀ x,x∈seen↔∃ j,∃ h:j < b.ms.length,j < k/\nameL b.ms[j]=x)/\Below W0.heap.size W0 wr) (fun i _=>b.ms.length - (intOf i).toNat)
  case atStart=>exact ⟨0,[],Nat.zero_le _,rfl,by simpa [Hid] using H.out,by intro x;simp,Below.refl _ _⟩
  case round =>
   obtain ⟨k,seen,hk,rfl,hG,hS,hW⟩:=hrel;have hWs:=hW.size;obtain ⟨wo,rfl⟩:∃ x,x=wr:=⟨_,rfl⟩;have hbw:=Below.next hb0 hW;have m2:=(hW.cell (p:=⟨w.heap.size,2,none⟩) hs0).trans n2;have hx2:w.heap.size < wo.heap.size:=by omega
   by_cases hlt:k < b.ms.length
   ·obtain ⟨mb,mo,rfl,hmb,h0,h1,h2⟩:=HM.out k hlt;have c0:=(hbw.cell hmb).trans h0;have c1:=(hbw.cell hmb).trans h1;have c2:=(hbw.cell hmb).trans h2;have hmb2:mb < wo.heap.size:=Nat.lt_of_lt_of_le hmb hbw.size;clear h0 h1 h2;have hG':=hG.out;rw [List.drop_eq_getElem_cons hlt,goM] at hG';clear hG;have hnm:b.ms[k].name.size<=1000000:=HN.out _ (List.getElem_mem hlt);generalize hm:b.ms[k]=m at c0 c1 c2 hG' hnm;obtain ⟨nm,gr,du⟩:=m;dsimp only at c0 c1 c2 hG' hnm;have HMK:=Hh hm;clear hm;cases hn:isName nm.data.toList
    ·have H1:=Hh hn;simp only [hn,if_true] at hG';subst hG';clear hn;go_wp2_with (go_at_call 99;(with_reducible refine (rIsName_at _ _ hnm H1.out).mono ?_);rintro e w' ⟨rfl,rfl⟩);go_ret;exact ⟨rfl,bel⟩
    ·have H1:=Hh hn;simp only [hn,if_false,Bool.true_eq_false] at hG';have HG:=Hh hG';clear hn hG';go_wp2_with (go_at_call 99;(with_reducible refine (rIsName_at _ _ hnm H1.out).mono ?_);rintro e w' ⟨rfl,rfl⟩);obtain ⟨W1,hW1⟩:∃ W1,W1=wo.alloc (.cells #[.string nm,.int .i64 gr,.int .i64 du] 48):=⟨_,rfl⟩;rw [<- hW1];have hb1:Below wo.heap.size wo W1:=by rw [hW1];(exact bel)
     have hs1:wo.heap.size < W1.heap.size:=by rw [hW1];simp
     have g0:W1.cell? ⟨wo.heap.size,0,none⟩=some (.string nm):=by rw [hW1,World.cell?_alloc_at _ _ _ _ rfl];rfl
     have g1:W1.cell? ⟨wo.heap.size,1,none⟩=some (.int .i64 gr):=by rw [hW1,World.cell?_alloc_at _ _ _ _ rfl];rfl
     have g2:W1.cell? ⟨wo.heap.size,2,none⟩=some (.int .i64 du):=by rw [hW1,World.cell?_alloc_at _ _ _ _ rfl];rfl
     clear hW1;go_loopw [5] (fun i wr=>∃ (j:Nat),j<=k/\i=.int .i64 j/\Hid (∀ i,∀ h:i < b.ms.length,i < j->b.ms[i].name≠nm)/\Below W1.heap.size W1 wr) (fun i _=>k - (intOf i).toNat)
     case atStart=>exact ⟨0,Nat.zero_le _,rfl,(fun i h hi=>absurd hi (Nat.not_lt_zero _)),Below.refl _ _⟩
     case round =>
      obtain ⟨j,hj,rfl,hne,hX⟩:=hrel;have hXs:=hX.size;have hbx:=Below.next hb1 hX;have hbx2:=Below.next hbw hbx;have x0:=(hX.cell (p:=⟨wo.heap.size,0,none⟩) hs1).trans g0;have x1:=(hX.cell (p:=⟨wo.heap.size,1,none⟩) hs1).trans g1;have x2:=(hX.cell (p:=⟨wo.heap.size,2,none⟩) hs1).trans g2;have hxl:wo.heap.size < wr.heap.size:=by omega
      have y2:=(hbx.cell (p:=⟨w.heap.size,2,none⟩) hx2).trans m2;have hyl:w.heap.size < wr.heap.size:=by omega
      by_cases hjt:j < k
      ·have hjl:j < b.ms.length:=by omega
       obtain ⟨_,_,he,hjb,q0,_,_⟩:=HM.out j hjl;cases he;have p0:=(hbx2.cell hjb).trans q0;have hjb2:mb < wr.heap.size:=by omega
       have hname:b.ms[j].name=nm->nm.data.toList∈seen:=fun e=>(hS.out _).2 ⟨j,hjl,hjt,by unfold nameL;rw [e]⟩;have hne':∀ h:j < b.ms.length,b.ms[j].name=b.ms[j].name:=fun _=>rfl;clear q0 hne';have hstep:b.ms[j].name≠nm->∀ i,∀ h:i < b.ms.length,i < j+1->b.ms[i].name≠nm:=fun h i hi hij=>by
        by_cases hij2:i < j
        ·exact hne.out i hi hij2
        ·obtain rfl:i=j:=by omega
         exact h
       generalize b.ms[j].name=nj at p0 hname hstep;by_cases hq:nj=nm
       ·have hmem:=hname hq;have hG2:=HG.out;rw [if_pos hmem] at hG2;subst hG2;subst hq;clear hname hstep hmem;go_wp2;go_quiet (fail);go_wp2;go_ret;exact ⟨rfl,bel⟩
       ·have HS2:=Hh (hstep hq);have hbq:(nj.toList == nm.toList)=false:=by
         rw [ByteArray.toList_eq,ByteArray.toList_eq,beq_eq_false_iff_ne];exact fun e=>hq (bytes_ext e)
        clear hname hstep;go_wp2;go_quiet (fail);go_wp2;go_roundw
        case rel=>exact ⟨j+1,by omega,by go_num,HS2.out,bel⟩
        case measure=>simp [intOf];omega
      ·obtain rfl:j=k:=by omega
       have hmem:nm.data.toList ∉ seen:=fun h=>by
        obtain ⟨i,hi,hij,e⟩:=(hS.out _).1 h;exact hne.out i hi hij (bytes_ext e)
       have hG2:=HG.out;rw [if_neg hmem] at hG2;have hseen:∀ x,x∈nm.data.toList::seen↔∃ i,∃ h:i < b.ms.length,i < j+1/\nameL b.ms[i]=x:=fun x=>by
        rw [List.mem_cons,hS.out];constructor
        ·rintro (rfl | ⟨i,hi,hij,e⟩)
         ·exact ⟨j,hlt,by omega,by rw [HMK.out];rfl⟩
         ·exact ⟨i,hi,by omega,e⟩
        ·rintro ⟨i,hi,hij,e⟩;by_cases hij2:i < j
         ·exact .inr ⟨i,hi,hij2,e⟩
         ·obtain rfl:i=j:=by omega
          refine .inl ?_;rw [<- e,HMK.out];rfl
       have HSEEN:=Hh hseen;clear hmem hseen;by_cases hgb:inB gr 1 4=false
       ·have H2:=Hh hgb;simp only [hgb,true_or,if_true] at hG2;subst hG2;clear hgb;go_wp2_with (go_at_call 51;(with_reducible refine (rin_at H2.out).mono ?_);rintro e w' ⟨rfl,rfl⟩);go_ret;exact ⟨rfl,bel⟩
       ·have hgb:=(Bool.not_eq_false _).mp hgb;have H2:=Hh hgb;by_cases hd:inB du 0 999=false
        ·have H3:=Hh hd;simp only [hd,or_true,if_true] at hG2;subst hG2;clear hgb hd;go_wp2_with (first | (go_at_call 51;(with_reducible refine (rin_at H2.out).mono ?_);rintro e w' ⟨rfl,rfl⟩) | (go_at_call 51;(with_reducible refine (rin_at H3.out).mono ?_);rintro e w' ⟨rfl,rfl⟩));go_ret;exact ⟨rfl,bel⟩
        ·have hd:=(Bool.not_eq_false _).mp hd;have H3:=Hh hd;simp only [hgb,hd,Bool.true_eq_false,or_self,if_false] at hG2;have HG3:=Hh hG2;clear hgb hd hG2;go_wp2_with (first | (go_at_call 51;(with_reducible refine (rin_at H2.out).mono ?_);rintro e w' ⟨rfl,rfl⟩) | (go_at_call 51;(with_reducible refine (rin_at H3.out).mono ?_);rintro e w' ⟨rfl,rfl⟩));go_roundw
         case rel=>exact ⟨j+1,nm.data.toList::seen,by omega,by go_num,HG3.out,HSEEN.out,Below.next hW hbx⟩
         case measure=>simp [intOf];omega
   ·have:goM seen (b.ms.drop k)=t:=hG.out;rw [List.drop_eq_nil_of_le (by omega)] at this;simp only [goM] at this;subst this;go_wp2;go_ret;exact ⟨rfl,bel⟩
theorem PartsAt.take {w:World} {a:Option Addr} {l:List Prt} (h:PartsAt w a l) (k:Nat):PartsAt w a (l.take k):=fun i hi=>by
 have hi':i < l.length:=by simp at hi;omega
 have:=h i hi'
 rwa [List.getElem_take]
theorem rSessions_at {b:Bk} {vr vg vm vs vc:Value} {w:World} (hB:BookAt w b vr vg vm vs vc) (hG:∀ m∈b.ms,0<=m.groups/\m.groups<=1000) {t:Int} (h:sessAl b=t) :
 Calls Tryz.prog 76 #[.agg #[vr,vg,vm,vs,vc]] w fun e w'=>e=.returned (.int .i64 t)/\Below w.heap.size w w':=by
 obtain ⟨sa,sc,rfl,hM,hl⟩:=hB.ss;unfold sessAl at h;by_cases h4:4 < b.ss.length
 ·rw [if_pos h4] at h;subst h
  go_enter Tryz.func76,Tryz.ntmps76
  go_wp2;go_ret;exact ⟨rfl,bel⟩
 ·rw [if_neg h4] at h;have H:=Hh h;clear h;have HB:=Hh hB;clear hB;have HG:=Hh hG;clear hG;clear hM
  go_enter Tryz.func76,Tryz.ntmps76
  go_wp2;obtain ⟨W0,hW0⟩:∃ W0,W0=w.alloc (.cells #[vr,vg,vm,.slice sa b.ss.length sc,vc] 26):=⟨_,rfl⟩;rw [<- hW0];have five:=Five.new w vr vg vm (.slice sa b.ss.length sc) vc 26;rw [<- hW0] at five;have hb0:Below w.heap.size w W0:=by rw [hW0];(exact bel)
  have hB0:=HB.out.below hb0;have HS:Hid (SessAt W0 sa b.ss):=by obtain ⟨_,_,e,h,_⟩:=hB0.ss;cases e;exact h
  have HB0:=Hh hB0;clear hW0 hB0;obtain ⟨n0,n1,n2,n3,n4,nl⟩:=five;go_loopw [3] (fun i wr=>∃ (k:Nat),k<=b.ss.length/\i=.int .i64 k/\Hid (goS b (b.ss.drop k)=t)/\Below W0.heap.size W0 wr) (fun i _=>b.ss.length - (intOf i).toNat)
  case atStart=>exact ⟨0,Nat.zero_le _,rfl,H.out,Below.refl _ _⟩
  case round =>
   obtain ⟨k,hk,rfl,hG0,hW⟩:=hrel;obtain ⟨wo,rfl⟩:∃ wo:World,wo=wr:=⟨_,rfl⟩;have hWs:=hW.size;have m0:=(hW.cell (p:=⟨w.heap.size,0,none⟩) nl).trans n0;have m1:=(hW.cell (p:=⟨w.heap.size,1,none⟩) nl).trans n1;have m2:=(hW.cell (p:=⟨w.heap.size,2,none⟩) nl).trans n2;have m3:=(hW.cell (p:=⟨w.heap.size,3,none⟩) nl).trans n3;have m4:=(hW.cell (p:=⟨w.heap.size,4,none⟩) nl).trans n4;have ml:w.heap.size < wo.heap.size:=by omega
   by_cases hlt:k < b.ss.length
   ·obtain ⟨sb,so,rfl,hsb,pa,pc,h0,hpc,hpl,hP⟩:=HS.out k hlt;have c0:=(hW.cell hsb).trans h0;have hsb2:sb < wo.heap.size:=Nat.lt_of_lt_of_le hsb hW.size;have hP0:=Hh (hP.below hW);clear hP;have hG':=hG0.out;rw [List.drop_eq_getElem_cons hlt,goS] at hG';clear hG0 h0;generalize hs:b.ss[k]=s at c0 hG' hpc hpl hP0;have HSS:=Hh hs;clear hs;by_cases h5:5 < s.length
    ·rw [if_pos h5] at hG';subst hG';go_wp2;go_ret;exact ⟨rfl,Below.next hb0 hW⟩
    ·rw [if_neg h5] at hG';have HG1:=Hh hG';clear hG';go_wp2;have HBo:=Hh (HB0.out.below hW);clear n0 n1 n2 n3 n4;go_loopw [5] (fun i wr=>∃ (j:Nat) (seen:List Prt),j<=s.length/\i=.int .i64 j/\Hid (goP b seen (s.drop j)=goP b [] s)/\Hid (∀ x,x∈seen↔x∈s.take j)/\Below wo.heap.size wo wr) (fun i _=>s.length - (intOf i).toNat)
     case atStart=>exact ⟨0,[],Nat.zero_le _,rfl,by simp [Hid],by intro x;simp,Below.refl _ _⟩
     case round =>
      obtain ⟨j,seen,hj,rfl,hQ,hSE,hX⟩:=hrel;have hXs:=hX.size;have l0:=(hX.cell (p:=⟨w.heap.size,0,none⟩) ml).trans m0;have l1:=(hX.cell (p:=⟨w.heap.size,1,none⟩) ml).trans m1;have l2:=(hX.cell (p:=⟨w.heap.size,2,none⟩) ml).trans m2;have l3:=(hX.cell (p:=⟨w.heap.size,3,none⟩) ml).trans m3;have l4:=(hX.cell (p:=⟨w.heap.size,4,none⟩) ml).trans m4;have ll:w.heap.size < wr.heap.size:=by omega
      by_cases hltj:j < s.length
      ·obtain ⟨pb,po,rfl,hpb,p0,p1⟩:=hP0.out j hltj;have d0:=(hX.cell hpb).trans p0;have d1:=(hX.cell hpb).trans p1;have hpb2:pb < wr.heap.size:=by omega
       have hQ':=hQ.out;rw [List.drop_eq_getElem_cons hltj,goP] at hQ';have htk:=List.take_succ_eq_append_getElem hltj;clear hQ p0 p1;have HPT:=Hh ((hP0.out.below hX).take j);have hjpc:(j:Int)<=pc:=by omega
       have hj0:(0:Int)<=j:=by omega
       have hln:j=(s.take j).length:=by simp;omega
       have HLN:=Hh hln;have hll:(s.take j).length<=1000000:=by simp;omega
       generalize hp:s[j]=p at d0 d1 hQ' htk;obtain ⟨pm,pg⟩:=p;dsimp only at d0 d1;have HTK:=Hh htk;have HBr:=Hh (HBo.out.below hX);clear hp htk hln;cases hi:isPart b (pm,pg)
       ·have H1:=Hh hi;simp only [hi,if_true] at hQ';have hG2:=HG1.out;rw [<- hQ',if_pos (by decide)] at hG2;subst hG2;clear hi hQ';go_wp2
        (refine wp_region_bel (by kernel_rfl) (by kernel_rfl) ?_;(repeat (go_big_quiet_step ((go_at_call 100;with_reducible exact Calls.bel_of (rIs_at (p:=(pm,pg)) (HBr.out.below (later_below _ _)) HG.out H1.out)))));refine wpQuiet_nil ?_;rintro _ ⟨xq,rfl⟩)
        go_wp2;go_ret;exact ⟨rfl,Below.next (Below.next (Below.next hb0 hW) hX) (later_below _ _)⟩
       ·have H1:=Hh hi;simp only [hi,Bool.true_eq_false,if_false] at hQ';clear hi;by_cases hmem:(pm,pg)∈seen
        ·have HR:=Hh (show decide ((pm,pg)∈s.take j)=true by simpa using (hSE.out _).1 hmem);simp only [hmem,if_true] at hQ';have hG2:=HG1.out;rw [<- hQ',if_pos (by decide)] at hG2;subst hG2;clear hmem hQ';go_wp2
         (refine wp_region_bel (by kernel_rfl) (by kernel_rfl) ?_;(repeat (go_big_quiet_step ((go_at_call 100;with_reducible exact Calls.bel_of (rIs_at (p:=(pm,pg)) (HBr.out.below (later_below _ _)) HG.out H1.out)))));refine wpQuiet_nil ?_;rintro _ ⟨xq,rfl⟩)
         go_wp2;have hx5:Below wr.heap.size wr (later wr xq):=later_below _ _;generalize later wr xq=W5 at hx5 ⊢;have d0:=(hx5.cell hpb2).trans d0;have d1:=(hx5.cell hpb2).trans d1;have hpb5:pb < W5.heap.size:=Nat.lt_of_lt_of_le hpb2 hx5.size;have HP5:=Hh (HPT.out.below hx5);go_wp2
         (refine wp_region_bel (by kernel_rfl) (by kernel_rfl) ?_;(repeat (go_big_quiet_step ((go_at_call 101;with_reducible exact Calls.bel_of (has_at (p:=(pm,pg)) (HP5.out.below (later_below _ _)) HLN.out hll HR.out)))));refine wpQuiet_nil ?_;rintro _ ⟨xq,rfl⟩)
         go_wp2;go_ret;exact ⟨rfl,Below.next (Below.next (Below.next (Below.next hb0 hW) hX) hx5) (later_below _ _)⟩
        ·have HR:=Hh (show decide ((pm,pg)∈s.take j)=false by simpa using fun h=>hmem ((hSE.out _).2 h));simp only [hmem,if_false] at hQ';have HQ:=Hh hQ';have hse2:∀ x,x∈(pm,pg)::seen↔x∈s.take (j+1):=fun x=>by
          rw [HTK.out,List.mem_cons,hSE.out,List.mem_append,List.mem_singleton,or_comm]
         have HSE2:=Hh hse2;clear hmem hQ' hse2;go_wp2
         (refine wp_region_bel (by kernel_rfl) (by kernel_rfl) ?_;(repeat (go_big_quiet_step ((go_at_call 100;with_reducible exact Calls.bel_of (rIs_at (p:=(pm,pg)) (HBr.out.below (later_below _ _)) HG.out H1.out)))));refine wpQuiet_nil ?_;rintro _ ⟨xq,rfl⟩)
         go_wp2;have hx5:Below wr.heap.size wr (later wr xq):=later_below _ _;generalize later wr xq=W5 at hx5 ⊢;have d0:=(hx5.cell hpb2).trans d0;have d1:=(hx5.cell hpb2).trans d1;have hpb5:pb < W5.heap.size:=Nat.lt_of_lt_of_le hpb2 hx5.size;have HP5:=Hh (HPT.out.below hx5);go_wp2
         (refine wp_region_bel (by kernel_rfl) (by kernel_rfl) ?_;(repeat (go_big_quiet_step ((go_at_call 101;with_reducible exact Calls.bel_of (has_at (p:=(pm,pg)) (HP5.out.below (later_below _ _)) HLN.out hll HR.out)))));refine wpQuiet_nil ?_;rintro _ ⟨xq,rfl⟩)
         go_wp2;go_roundw
         case rel=>exact ⟨j+1,(pm,pg)::seen,by omega,by go_num,HQ.out,HSE2.out,Below.next (Below.next hX hx5) (later_below _ _)⟩
         case measure=>simp [intOf];omega
      ·have hQ':goP b seen (s.drop j)=goP b [] s:=hQ.out;rw [List.drop_eq_nil_of_le (by omega)] at hQ';simp only [goP] at hQ';have hG2:=HG1.out;rw [<- hQ',if_neg (by decide)] at hG2;have HG2:=Hh hG2;clear hQ' hG2 hQ;go_wp2;go_roundw
       case rel=>exact ⟨k+1,by omega,by go_num,HG2.out,Below.next hW hX⟩
       case measure=>simp [intOf];omega
   ·have:goS b (b.ss.drop k)=t:=hG0.out;rw [List.drop_eq_nil_of_le (by omega)] at this;simp only [goS] at this;subst this;go_wp2;go_ret;exact ⟨rfl,Below.next hb0 hW⟩
section
variable {b:Bk} {vr vg vm vs vc:Value} {w:World}
theorem rRec_no (vr vg vm vs vc:Value) (k a rb m:Int) (w:World) (h:inB k 0 5=false) :
 Calls Tryz.prog 77 #[.agg #[vr,vg,vm,vs,vc],.agg #[.int .i64 k,.int .i64 a,.int .i64 rb,.int .i64 m]] w fun e w'=>e=.returned (.int .i64 1)/\Below w.heap.size w w':=by
 have hk:k < 0\/(0<=k/\5 < k):=by unfold inB at h;simp only [decide_eq_false_iff_not] at h;omega
 rcases hk with hk | ⟨hk0,hk5⟩
 all_goals
  go_enter Tryz.func77,Tryz.ntmps77
  go_wp2;go_ret;exact ⟨rfl,bel⟩
theorem rRec_0 (hB:BookAt w b vr vg vm vs vc) (hG:∀ m∈b.ms,0<=m.groups/\m.groups<=1000) (a rb m:Int) {t:Int} (h:recAl b ⟨0,a,rb,m⟩=t) :
 Calls Tryz.prog 77 #[.agg #[vr,vg,vm,vs,vc],.agg #[.int .i64 0,.int .i64 a,.int .i64 rb,.int .i64 m]] w fun e w'=>e=.returned (.int .i64 t)/\Below w.heap.size w w':=by
 obtain ⟨rfl,rfl,⟨ma,mc,rfl,hM,hml⟩,⟨sa,sc,rfl,hS,hsl⟩,ra,rc,rfl,_,_⟩:=id hB;have HB:=Hh hB;have HG:=Hh hG;have HM:=Hh hM;have HS:=Hh hS;clear hB hG hM hS;unfold recAl at h;simp only [inB,usesB,usesMany,most] at h;by_cases hb:rb=0
 case neg =>
  have ht:t=1:=by rw [<- h];simp [hb]
  subst ht;clear h;have hb2:(rb != 0)=true:=by simpa using hb
  go_enter Tryz.func77,Tryz.ntmps77
  go_wp2;go_ret;exact ⟨rfl,bel⟩
 subst hb;by_cases hm:m=0
 case neg =>
  have ht:t=1:=by rw [<- h];simp [hm]
  subst ht;clear h;have hm2:(m != 0)=true:=by simpa using hm
  go_enter Tryz.func77,Tryz.ntmps77
  go_wp2;go_ret;exact ⟨rfl,bel⟩
 subst hm;cases hin:inB a 0 ((b.ss.length:Int) - 1)
 case false =>
  have ht:t=6:=by rw [<- h];simp only [inB] at hin;simp [hin]
  subst ht;have HIN:=Hh hin;clear h hin
  go_enter Tryz.func77,Tryz.ntmps77
  go_wp2_with (go_at_call 102;(with_reducible refine (there_at hsl HIN.out).mono ?_);rintro e w' ⟨rfl,rfl⟩);go_ret;exact ⟨rfl,bel⟩
 have ha:0<=a/\a.toNat < b.ss.length:=by unfold inB at hin;simp only [decide_eq_true_eq] at hin;omega
 obtain ⟨n,rfl⟩:∃ n:Nat,a=n:=⟨a.toNat,by omega⟩;have hn:n < b.ss.length:=by omega
 have hn0:(0:Int)<=n:=by omega
 obtain ⟨sb,so,rfl,hsb,pa,pc,h0,hpc,hpl,_⟩:=HS.out n hn;have hgs:((b.ss[(n:Int).toNat]?).elim 0 List.length:Nat)=b.ss[n].length:=by rw [Int.toNat_natCast,List.getElem?_eq_getElem hn];rfl
 rw [hgs] at h;generalize b.ss[n]=s at h0 hpc hpl h;have ht:t=if inB 0 0 (s.length:Int) then 0 else 1:=by
  rw [<- h];simp only [inB] at hin;have hle:(n:Int)<=((b.ss.length:Nat):Int) - 1:=by omega
  simp [hin,inB,hle]
 clear h hgs;have HIN:=Hh hin;clear hin;cases hi2:inB 0 0 (s.length:Int)
 all_goals
  have HI2:=Hh hi2;rw [hi2] at ht;simp only [if_true,if_false,Bool.false_eq_true] at ht;subst ht;clear hi2
  go_enter Tryz.func77,Tryz.ntmps77
  go_wp2_with (first | (go_at_call 102;(with_reducible refine (there_at hsl HIN.out).mono ?_);rintro e w' ⟨rfl,rfl⟩) | (go_at_call 51;(with_reducible refine (rin_at HI2.out).mono ?_);rintro e w' ⟨rfl,rfl⟩));go_ret;exact ⟨rfl,bel⟩
theorem rRec_1 (hB:BookAt w b vr vg vm vs vc) (hG:∀ m∈b.ms,0<=m.groups/\m.groups<=1000) (a rb m:Int) {t:Int} (h:recAl b ⟨1,a,rb,m⟩=t) :
 Calls Tryz.prog 77 #[.agg #[vr,vg,vm,vs,vc],.agg #[.int .i64 1,.int .i64 a,.int .i64 rb,.int .i64 m]] w fun e w'=>e=.returned (.int .i64 t)/\Below w.heap.size w w':=by
 obtain ⟨rfl,rfl,⟨ma,mc,rfl,hM,hml⟩,⟨sa,sc,rfl,hS,hsl⟩,ra,rc,rfl,_,_⟩:=id hB;have HB:=Hh hB;have HG:=Hh hG;have HM:=Hh hM;have HS:=Hh hS;clear hB hG hM hS;unfold recAl at h;simp only [inB,usesB,usesMany,most] at h;by_cases hb:rb=0
 case neg =>
  have ht:t=1:=by rw [<- h];simp [hb]
  subst ht;clear h;have hb2:(rb != 0)=true:=by simpa using hb
  go_enter Tryz.func77,Tryz.ntmps77
  go_wp2;go_ret;exact ⟨rfl,bel⟩
 subst hb;by_cases hm:m=0
 case neg =>
  have ht:t=1:=by rw [<- h];simp [hm]
  subst ht;clear h;have hm2:(m != 0)=true:=by simpa using hm
  go_enter Tryz.func77,Tryz.ntmps77
  go_wp2;go_ret;exact ⟨rfl,bel⟩
 subst hm;cases hin:inB a 0 ((b.ss.length:Int) - 1)
 case false =>
  have ht:t=6:=by rw [<- h];simp only [inB] at hin;simp [hin]
  subst ht;have HIN:=Hh hin;clear h hin
  go_enter Tryz.func77,Tryz.ntmps77
  go_wp2_with (go_at_call 102;(with_reducible refine (there_at hsl HIN.out).mono ?_);rintro e w' ⟨rfl,rfl⟩);go_ret;exact ⟨rfl,bel⟩
 have ha:0<=a/\a.toNat < b.ss.length:=by unfold inB at hin;simp only [decide_eq_true_eq] at hin;omega
 obtain ⟨n,rfl⟩:∃ n:Nat,a=n:=⟨a.toNat,by omega⟩;have hn:n < b.ss.length:=by omega
 have hn0:(0:Int)<=n:=by omega
 obtain ⟨sb,so,rfl,hsb,pa,pc,h0,hpc,hpl,_⟩:=HS.out n hn;have hgs:((b.ss[(n:Int).toNat]?).elim 0 List.length:Nat)=b.ss[n].length:=by rw [Int.toNat_natCast,List.getElem?_eq_getElem hn];rfl
 rw [hgs] at h;generalize b.ss[n]=s at h0 hpc hpl h;have ht:t=if inB 0 0 (s.length:Int) then 0 else 1:=by
  rw [<- h];simp only [inB] at hin;have hle:(n:Int)<=((b.ss.length:Nat):Int) - 1:=by omega
  simp [hin,inB,hle]
 clear h hgs;have HIN:=Hh hin;clear hin;cases hi2:inB 0 0 (s.length:Int)
 all_goals
  have HI2:=Hh hi2;rw [hi2] at ht;simp only [if_true,if_false,Bool.false_eq_true] at ht;subst ht;clear hi2
  go_enter Tryz.func77,Tryz.ntmps77
  go_wp2_with (first | (go_at_call 102;(with_reducible refine (there_at hsl HIN.out).mono ?_);rintro e w' ⟨rfl,rfl⟩) | (go_at_call 51;(with_reducible refine (rin_at HI2.out).mono ?_);rintro e w' ⟨rfl,rfl⟩));go_ret;exact ⟨rfl,bel⟩
theorem rRec_2 (hB:BookAt w b vr vg vm vs vc) (hG:∀ m∈b.ms,0<=m.groups/\m.groups<=1000) (a rb m:Int) {t:Int} (h:recAl b ⟨2,a,rb,m⟩=t) :
 Calls Tryz.prog 77 #[.agg #[vr,vg,vm,vs,vc],.agg #[.int .i64 2,.int .i64 a,.int .i64 rb,.int .i64 m]] w fun e w'=>e=.returned (.int .i64 t)/\Below w.heap.size w w':=by
 obtain ⟨rfl,rfl,⟨ma,mc,rfl,hM,hml⟩,⟨sa,sc,rfl,hS,hsl⟩,ra,rc,rfl,_,_⟩:=id hB;have HB:=Hh hB;have HG:=Hh hG;have HM:=Hh hM;have HS:=Hh hS;clear hB hG hM hS;unfold recAl at h;simp only [inB,usesB,usesMany,most] at h;by_cases hb:rb=0
 case neg =>
  have ht:t=1:=by rw [<- h];simp [hb]
  subst ht;clear h;have hb2:(rb != 0)=true:=by simpa using hb
  go_enter Tryz.func77,Tryz.ntmps77
  go_wp2;go_ret;exact ⟨rfl,bel⟩
 subst hb;cases hin:inB a 0 ((b.ss.length:Int) - 1)
 case false =>
  have ht:t=6:=by rw [<- h];simp only [inB] at hin;simp [hin]
  subst ht;have HIN:=Hh hin;clear h hin
  go_enter Tryz.func77,Tryz.ntmps77
  go_wp2_with (go_at_call 102;(with_reducible refine (there_at hsl HIN.out).mono ?_);rintro e w' ⟨rfl,rfl⟩);go_ret;exact ⟨rfl,bel⟩
 have ha:0<=a/\a.toNat < b.ss.length:=by unfold inB at hin;simp only [decide_eq_true_eq] at hin;omega
 obtain ⟨n,rfl⟩:∃ n:Nat,a=n:=⟨a.toNat,by omega⟩;have hn:n < b.ss.length:=by omega
 have hn0:(0:Int)<=n:=by omega
 obtain ⟨sb,so,rfl,hsb,pa,pc,h0,hpc,hpl,_⟩:=HS.out n hn;have hgs:((b.ss[(n:Int).toNat]?).elim 0 List.length:Nat)=b.ss[n].length:=by rw [Int.toNat_natCast,List.getElem?_eq_getElem hn];rfl
 rw [hgs] at h;generalize b.ss[n]=s at h0 hpc hpl h;have ht:t=if inB m 0 (s.length:Int) then 0 else 1:=by
  rw [<- h];simp only [inB] at hin;have hle:(n:Int)<=((b.ss.length:Nat):Int) - 1:=by omega
  simp [hin,inB,hle]
 clear h hgs;have HIN:=Hh hin;clear hin;cases hi2:inB m 0 (s.length:Int)
 all_goals
  have HI2:=Hh hi2;rw [hi2] at ht;simp only [if_true,if_false,Bool.false_eq_true] at ht;subst ht;clear hi2
  go_enter Tryz.func77,Tryz.ntmps77
  go_wp2_with (first | (go_at_call 102;(with_reducible refine (there_at hsl HIN.out).mono ?_);rintro e w' ⟨rfl,rfl⟩) | (go_at_call 51;(with_reducible refine (rin_at HI2.out).mono ?_);rintro e w' ⟨rfl,rfl⟩));go_ret;exact ⟨rfl,bel⟩
theorem rRec_3 (hB:BookAt w b vr vg vm vs vc) (hG:∀ m∈b.ms,0<=m.groups/\m.groups<=1000) (a rb m:Int) {t:Int} (h:recAl b ⟨3,a,rb,m⟩=t) :
 Calls Tryz.prog 77 #[.agg #[vr,vg,vm,vs,vc],.agg #[.int .i64 3,.int .i64 a,.int .i64 rb,.int .i64 m]] w fun e w'=>e=.returned (.int .i64 t)/\Below w.heap.size w w':=by
 obtain ⟨rfl,rfl,⟨ma,mc,rfl,hM,hml⟩,⟨sa,sc,rfl,hS,hsl⟩,ra,rc,rfl,_,_⟩:=id hB;have HB:=Hh hB;have HG:=Hh hG;have HM:=Hh hM;have HS:=Hh hS;clear hB hG hM hS;unfold recAl at h;simp only [inB,usesB,usesMany,most] at h;by_cases hb:rb=0
 case neg =>
  have ht:t=1:=by rw [<- h];simp [hb]
  subst ht;clear h;have hb2:(rb != 0)=true:=by simpa using hb
  go_enter Tryz.func77,Tryz.ntmps77
  go_wp2;go_ret;exact ⟨rfl,bel⟩
 subst hb;cases hin:inB a 0 ((b.ss.length:Int) - 1)
 case false =>
  have ht:t=6:=by rw [<- h];simp only [inB] at hin;simp [hin]
  subst ht;have HIN:=Hh hin;clear h hin
  go_enter Tryz.func77,Tryz.ntmps77
  go_wp2_with (go_at_call 102;(with_reducible refine (there_at hsl HIN.out).mono ?_);rintro e w' ⟨rfl,rfl⟩);go_ret;exact ⟨rfl,bel⟩
 have ha:0<=a/\a.toNat < b.ss.length:=by unfold inB at hin;simp only [decide_eq_true_eq] at hin;omega
 obtain ⟨n,rfl⟩:∃ n:Nat,a=n:=⟨a.toNat,by omega⟩;have hn:n < b.ss.length:=by omega
 have hn0:(0:Int)<=n:=by omega
 obtain ⟨sb,so,rfl,hsb,pa,pc,h0,hpc,hpl,_⟩:=HS.out n hn;have hgs:((b.ss[(n:Int).toNat]?).elim 0 List.length:Nat)=b.ss[n].length:=by rw [Int.toNat_natCast,List.getElem?_eq_getElem hn];rfl
 rw [hgs] at h;generalize b.ss[n]=s at h0 hpc hpl h;have ht:t=if inB m 0 (s.length:Int) then 0 else 1:=by
  rw [<- h];simp only [inB] at hin;have hle:(n:Int)<=((b.ss.length:Nat):Int) - 1:=by omega
  simp [hin,inB,hle]
 clear h hgs;have HIN:=Hh hin;clear hin;cases hi2:inB m 0 (s.length:Int)
 all_goals
  have HI2:=Hh hi2;rw [hi2] at ht;simp only [if_true,if_false,Bool.false_eq_true] at ht;subst ht;clear hi2
  go_enter Tryz.func77,Tryz.ntmps77
  go_wp2_with (first | (go_at_call 102;(with_reducible refine (there_at hsl HIN.out).mono ?_);rintro e w' ⟨rfl,rfl⟩) | (go_at_call 51;(with_reducible refine (rin_at HI2.out).mono ?_);rintro e w' ⟨rfl,rfl⟩));go_ret;exact ⟨rfl,bel⟩
theorem rRec_4 (hB:BookAt w b vr vg vm vs vc) (hG:∀ m∈b.ms,0<=m.groups/\m.groups<=1000) (a rb m:Int) {t:Int} (h:recAl b ⟨4,a,rb,m⟩=t) :
 Calls Tryz.prog 77 #[.agg #[vr,vg,vm,vs,vc],.agg #[.int .i64 4,.int .i64 a,.int .i64 rb,.int .i64 m]] w fun e w'=>e=.returned (.int .i64 t)/\Below w.heap.size w w':=by
 obtain ⟨rfl,rfl,⟨ma,mc,rfl,hM,hml⟩,⟨sa,sc,rfl,hS,hsl⟩,ra,rc,rfl,_,_⟩:=id hB;have HB:=Hh hB;have HG:=Hh hG;have HM:=Hh hM;have HS:=Hh hS;clear hB hG hM hS;unfold recAl at h;simp only [inB,usesB,usesMany,most] at h;cases hin:isPart b (a,rb)
 case false =>
  have ht:t=6:=by rw [<- h];simp [hin]
  subst ht;have HIN:=Hh hin;clear h hin
  go_enter Tryz.func77,Tryz.ntmps77
  go_wp2_with (go_at_call 100;(with_reducible refine (rIs_at (p:=(a,rb)) (HB.out.below (bel)) HG.out HIN.out).mono ?_);rintro e w1 ⟨rfl,hb1⟩);go_ret;exact ⟨rfl,bel⟩
 have ht:t=if inB m 0 (b.ss.length:Int) then 0 else 1:=by rw [<- h];simp [hin,inB]
 have HIN:=Hh hin;clear h hin;cases hi2:inB m 0 (b.ss.length:Int)
 all_goals
  have HI2:=Hh hi2;rw [hi2] at ht;simp only [if_true,if_false,Bool.false_eq_true] at ht;subst ht;clear hi2
  go_enter Tryz.func77,Tryz.ntmps77
  go_wp2_with (first | (go_at_call 100;(with_reducible refine (rIs_at (p:=(a,rb)) (HB.out.below (bel)) HG.out HIN.out).mono ?_);rintro e w1 ⟨rfl,hb1⟩;obtain ⟨hc1,hf1⟩:=bcell hb1;have hz1:=hb1.size;(try simp at hz1)) | (go_at_call 51;(with_reducible refine (rin_at HI2.out).mono ?_);rintro e w' ⟨rfl,rfl⟩));go_ret;exact ⟨rfl,bel⟩
theorem rRec_5 (hB:BookAt w b vr vg vm vs vc) (hG:∀ m∈b.ms,0<=m.groups/\m.groups<=1000) (a rb m:Int) {t:Int} (h:recAl b ⟨5,a,rb,m⟩=t) :
 Calls Tryz.prog 77 #[.agg #[vr,vg,vm,vs,vc],.agg #[.int .i64 5,.int .i64 a,.int .i64 rb,.int .i64 m]] w fun e w'=>e=.returned (.int .i64 t)/\Below w.heap.size w w':=by
 obtain ⟨rfl,rfl,⟨ma,mc,rfl,hM,hml⟩,⟨sa,sc,rfl,hS,hsl⟩,ra,rc,rfl,_,_⟩:=id hB;have HB:=Hh hB;have HG:=Hh hG;have HM:=Hh hM;have HS:=Hh hS;clear hB hG hM hS;unfold recAl at h;simp only [inB,usesB,usesMany,most] at h;by_cases hb:rb=0
 case neg =>
  have ht:t=1:=by rw [<- h];simp [hb]
  subst ht;clear h;have hb2:(rb != 0)=true:=by simpa using hb
  go_enter Tryz.func77,Tryz.ntmps77
  go_wp2;go_ret;exact ⟨rfl,bel⟩
 subst hb;cases hin:inB a 0 ((b.ms.length:Int) - 1)
 case false =>
  have ht:t=6:=by rw [<- h];simp only [inB] at hin;simp [hin]
  subst ht;have HIN:=Hh hin;clear h hin
  go_enter Tryz.func77,Tryz.ntmps77
  go_wp2_with (go_at_call 102;(with_reducible refine (there_at hml HIN.out).mono ?_);rintro e w' ⟨rfl,rfl⟩);go_ret;exact ⟨rfl,bel⟩
 have ha:0<=a/\a.toNat < b.ms.length:=by unfold inB at hin;simp only [decide_eq_true_eq] at hin;omega
 obtain ⟨n,rfl⟩:∃ n:Nat,a=n:=⟨a.toNat,by omega⟩;have hn:n < b.ms.length:=by omega
 have hn0:(0:Int)<=n:=by omega
 obtain ⟨mb,mo,rfl,hmb,_,h0,_⟩:=HM.out n hn;have hgs:((b.ms[(n:Int).toNat]?).elim 0 Msg.groups)=b.ms[n].groups:=by rw [Int.toNat_natCast,List.getElem?_eq_getElem hn];rfl
 rw [hgs] at h;generalize b.ms[n].groups=gr at h0 h;have ht:t=if inB m 0 gr then 0 else 1:=by
  rw [<- h];simp only [inB] at hin;have hle:(n:Int)<=((b.ms.length:Nat):Int) - 1:=by omega
  simp [hin,inB,hle]
 clear h hgs;have HIN:=Hh hin;clear hin;cases hi2:inB m 0 gr
 all_goals
  have HI2:=Hh hi2;rw [hi2] at ht;simp only [if_true,if_false,Bool.false_eq_true] at ht;subst ht;clear hi2
  go_enter Tryz.func77,Tryz.ntmps77
  go_wp2_with (first | (go_at_call 102;(with_reducible refine (there_at hml HIN.out).mono ?_);rintro e w' ⟨rfl,rfl⟩) | (go_at_call 51;(with_reducible refine (rin_at HI2.out).mono ?_);rintro e w' ⟨rfl,rfl⟩));go_ret;exact ⟨rfl,bel⟩
theorem rRec_at (hB:BookAt w b vr vg vm vs vc) (hG:∀ m∈b.ms,0<=m.groups/\m.groups<=1000) (r:Rec) {t:Int} (h:recAl b r=t) :
 Calls Tryz.prog 77 #[.agg #[vr,vg,vm,vs,vc],.agg #[.int .i64 r.k,.int .i64 r.a,.int .i64 r.b,.int .i64 r.m]] w fun e w'=>e=.returned (.int .i64 t)/\Below w.heap.size w w':=by
 obtain ⟨k,a,rb,m⟩:=r;by_cases hk:inB k 0 5=false
 ·have ht:t=1:=by rw [<- h];unfold recAl;simp [hk]
  subst ht;exact rRec_no _ _ _ _ _ _ _ _ _ _ hk
 ·have hk2:k=0\/k=1\/k=2\/k=3\/k=4\/k=5:=by unfold inB at hk;simp only [decide_eq_false_iff_not,Classical.not_not] at hk;omega
  rcases hk2 with rfl | rfl | rfl | rfl | rfl | rfl
  ·exact rRec_0 hB hG a rb m h
  ·exact rRec_1 hB hG a rb m h
  ·exact rRec_2 hB hG a rb m h
  ·exact rRec_3 hB hG a rb m h
  ·exact rRec_4 hB hG a rb m h
  ·exact rRec_5 hB hG a rb m h
end
section
variable {b:Bk} {vr vg vm vs vc:Value} {w:World}
theorem rCheckBook_at (hB:BookAt w b vr vg vm vs vc) (hN:∀ m∈b.ms,m.name.size<=1000000) {t:Int} (h:bookAl b=t) :
 Calls Tryz.prog 37 #[.agg #[vr,vg,vm,vs,vc]] w fun e w'=>e=.returned (.int .i64 t)/\Below w.heap.size w w':=by
 obtain ⟨rfl,rfl,⟨ma,mc,rfl,hM,hml⟩,⟨sa,sc,rfl,hS,hsl⟩,ra,rc,rfl,hR,hrl⟩:=id hB;have HB:=Hh hB;have HN:=Hh hN;have HR:=Hh hR;clear hB hM hS hN hR;unfold bookAl at h;by_cases hnm:numbersAl b=0
 case neg =>
  have h1:t=1:=by
   rw [if_pos hnm] at h;rw [<- h];unfold numbersAl at hnm ⊢;split at hnm
   ·exact absurd rfl hnm
   ·rename_i hh;rw [if_neg hh]
  subst h1;have hor:inB b.room 1 20=false\/(inB b.room 1 20=true/\inB b.gap 0 99=false):=by
   unfold numbersAl at hnm;cases h1:inB b.room 1 20
   ·exact .inl rfl
   ·cases h2:inB b.gap 0 99
    ·exact .inr ⟨rfl,rfl⟩
    ·rw [h1,h2] at hnm;simp at hnm
  clear h hnm;rcases hor with h1 | ⟨h1,h2⟩
  ·have H1:=Hh h1;clear h1
   go_enter Tryz.func37,Tryz.ntmps37
   go_wp2_with (go_at_call 51;(with_reducible refine (rin_at H1.out).mono ?_);rintro e w' ⟨rfl,rfl⟩);go_ret;exact ⟨rfl,bel⟩
  ·have H1:=Hh h1;have H2:=Hh h2;clear h1 h2
   go_enter Tryz.func37,Tryz.ntmps37
   go_wp2_with (first | (go_at_call 51;(with_reducible refine (rin_at H1.out).mono ?_);rintro e w' ⟨rfl,rfl⟩) | (go_at_call 51;(with_reducible refine (rin_at H2.out).mono ?_);rintro e w' ⟨rfl,rfl⟩));go_ret;exact ⟨rfl,bel⟩
 rw [if_neg (by simpa using hnm)] at h;have hnn:inB b.room 1 20=true/\inB b.gap 0 99=true:=by
  unfold numbersAl at hnm;cases h1:inB b.room 1 20
  ·rw [h1] at hnm;simp at hnm
  ·cases h2:inB b.gap 0 99
   ·rw [h1,h2] at hnm;simp at hnm
   ·exact ⟨rfl,rfl⟩
 have H1:=Hh hnn.1;have H2:=Hh hnn.2;clear hnm hnn;by_cases hms:msgsAl b=0
 case neg =>
  rw [if_pos hms] at h;have HMS:=Hh h;have hz3:(t != 0)=true:=by rw [<- h];simpa using hms
  clear h hms
  go_enter Tryz.func37,Tryz.ntmps37
  go_wp2_with (first
   | (go_at_call 51;(with_reducible refine (rin_at H1.out).mono ?_);rintro e w' ⟨rfl,rfl⟩)
   | (go_at_call 51;(with_reducible refine (rin_at H2.out).mono ?_);rintro e w' ⟨rfl,rfl⟩)
   | (go_at_call 75;(with_reducible refine (rMessages_at (HB.out.below (bel)) HN.out HMS.out).mono ?_);rintro e w1 ⟨rfl,hb1⟩))
  go_ret;exact ⟨rfl,bel⟩
 rw [if_neg (by simpa using hms)] at h;have HMS:=Hh hms;have HG:=Hh (msgsAl_ok hms);clear hms;by_cases hss:sessAl b=0
 case neg =>
  rw [if_pos hss] at h;have HSS:=Hh h;have hz3:(t != 0)=true:=by rw [<- h];simpa using hss
  clear h hss
  go_enter Tryz.func37,Tryz.ntmps37
  go_wp2_with (first
   | (go_at_call 51;(with_reducible refine (rin_at H1.out).mono ?_);rintro e w' ⟨rfl,rfl⟩)
   | (go_at_call 51;(with_reducible refine (rin_at H2.out).mono ?_);rintro e w' ⟨rfl,rfl⟩)
   | (go_at_call 75;(with_reducible refine (rMessages_at (HB.out.below (bel)) HN.out HMS.out).mono ?_);rintro e w1 ⟨rfl,hb1⟩;obtain ⟨hc1,hf1⟩:=bcell hb1;have hz1:w.heap.size < w1.heap.size:=(by have:=hb1.size;simp at this;omega))
   | (go_at_call 76;(with_reducible refine (rSessions_at (HB.out.below (bel)) HG.out HSS.out).mono ?_);rintro e w2 ⟨rfl,hb2⟩))
  go_ret;exact ⟨rfl,bel⟩
 rw [if_neg (by simpa using hss)] at h;have HSS:=Hh hss;clear hss;have HR2:=Hh h;clear h;have hz0:((0:Int) != 0)=false:=rfl;have key:∀ (v:Prop),v->v:=fun _ h=>h
 go_enter Tryz.func37,Tryz.ntmps37
 go_wp2_with (first
  | (go_at_call 51;(with_reducible refine (rin_at H1.out).mono ?_);rintro e w' ⟨rfl,rfl⟩)
  | (go_at_call 51;(with_reducible refine (rin_at H2.out).mono ?_);rintro e w' ⟨rfl,rfl⟩)
  | (go_at_call 75;(with_reducible refine (rMessages_at (HB.out.below (bel)) HN.out HMS.out).mono ?_);rintro e w1 ⟨rfl,hb1⟩;obtain ⟨hc1,hf1⟩:=bcell hb1;have hz1:w.heap.size < w1.heap.size:=(by have:=hb1.size;simp at this;omega))
  | (go_at_call 76;(with_reducible refine (rSessions_at (HB.out.below (bel)) HG.out HSS.out).mono ?_);rintro e w2 ⟨rfl,hb2⟩;obtain ⟨hc2,hf2⟩:=bcell hb2;have hz2:w.heap.size < w2.heap.size:=(by have:=hb2.size;omega)))
 ·have hr:=HR2.out;unfold recsAl at hr;rw [if_pos (by omega)] at hr;subst hr;go_ret;exact ⟨rfl,bel⟩
 ·have hbw:Below w.heap.size w w2:=bel;have nn:∀ k u,(#[.int .i64 b.room,.int .i64 b.gap,.slice ma b.ms.length mc,.slice sa b.ss.length sc,.slice ra b.rs.length rc]:Array Value)[k]? = some u->w2.cell? ⟨w.heap.size,k,none⟩=some u:=fun k u hk=>by
   rw [hc2 _ _ hz1,hc1 _ _ (by simp),World.cell?_alloc_at _ _ _ _ rfl];exact hk
  have n0:=nn 0 _ rfl;have n1:=nn 1 _ rfl;have n2:=nn 2 _ rfl;have n3:=nn 3 _ rfl;have n4:=nn 4 _ rfl;have hr:=HR2.out;unfold recsAl at hr;rw [if_neg (by omega)] at hr;have HR3:=Hh hr;clear nn hc1 hf1 hc2 hf2 hr hb1 hb2 hz1;go_loopw [5] (fun i wr=>∃ (k:Nat),k<=b.rs.length/\i=.int .i64 k/\Hid (goR b (b.rs.drop k)=t)/\Below w2.heap.size w2 wr) (fun i _=>b.rs.length - (intOf i).toNat)
  case atStart=>exact ⟨0,Nat.zero_le _,rfl,HR3.out,Below.refl _ _⟩
  case round =>
   obtain ⟨k,hk,rfl,hG0,hW⟩:=hrel;have hWs:=hW.size;have m0:=(hW.cell (p:=⟨w.heap.size,0,none⟩) hz2).trans n0;have m1:=(hW.cell (p:=⟨w.heap.size,1,none⟩) hz2).trans n1;have m2:=(hW.cell (p:=⟨w.heap.size,2,none⟩) hz2).trans n2;have m3:=(hW.cell (p:=⟨w.heap.size,3,none⟩) hz2).trans n3;have m4:=(hW.cell (p:=⟨w.heap.size,4,none⟩) hz2).trans n4;have hx2:w.heap.size < wr.heap.size:=by omega
   have hbr:=Below.next hbw hW;have hg0:=hG0.out;by_cases hlt:k < b.rs.length
   ·obtain ⟨rb,ro,rfl,hrb,e0,e1,e2,e3⟩:=HR.out k hlt;have e0:=(hbr.cell hrb).trans e0;have e1:=(hbr.cell hrb).trans e1;have e2:=(hbr.cell hrb).trans e2;have e3:=(hbr.cell hrb).trans e3;have hrb2:rb < wr.heap.size:=Nat.lt_of_lt_of_le hrb hbr.size;rw [List.drop_eq_getElem_cons hlt,goR] at hg0;generalize b.rs[k]=r at e0 e1 e2 e3 hg0;obtain ⟨rk,rA,rB,rm⟩:=r;simp only at e0 e1 e2 e3;have HBr:=Hh (HB.out.below hbr);have hg1:=fun (x:Int) (hx:recAl b ⟨rk,rA,rB,rm⟩=x)=>hx;by_cases hra:recAl b ⟨rk,rA,rB,rm⟩=0
    ·rw [if_neg (by simpa using hra)] at hg0;have HRA:=Hh hra;have HG0:=Hh hg0;clear hra hg0 hg1;go_wp2
     (refine wp_region_bel (by kernel_rfl) (by kernel_rfl) ?_;(repeat (go_big_quiet_step ((go_at_call 77;with_reducible exact Calls.bel_of (rRec_at (HBr.out.below (later_below _ _)) HG.out ⟨rk,rA,rB,rm⟩ HRA.out)))));refine wpQuiet_nil ?_;rintro _ ⟨xq,rfl⟩)
     go_wp2;go_roundw
     case rel=>exact ⟨k+1,by omega,by go_num,HG0.out,Below.next hW (later_below _ _)⟩
     case measure=>simp [intOf];omega
    ·rw [if_pos hra] at hg0;have HRA:=Hh hg0;have hz3:(t != 0)=true:=by rw [<- hg0];simpa using hra
     clear hra hg0 hg1;go_wp2
     (refine wp_region_bel (by kernel_rfl) (by kernel_rfl) ?_;(repeat (go_big_quiet_step ((go_at_call 77;with_reducible exact Calls.bel_of (rRec_at (HBr.out.below (later_below _ _)) HG.out ⟨rk,rA,rB,rm⟩ HRA.out)))));refine wpQuiet_nil ?_;rintro _ ⟨xq,rfl⟩)
     go_wp2;go_ret;exact ⟨rfl,Below.next hbr (later_below _ _)⟩
   ·rw [List.drop_eq_nil_of_le (by omega)] at hg0;simp only [goR] at hg0;subst hg0;go_wp2;go_ret;exact ⟨rfl,hbr⟩
end
end
end Go.Proofs.YtgagoahfdnnpkaaGreatDoor
