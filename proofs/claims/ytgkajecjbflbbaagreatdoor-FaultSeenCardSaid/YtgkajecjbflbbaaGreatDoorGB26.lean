/- the fault laws -/
import Derived.Test.YtgkajecjbflbbaaGreatDoorGB25
import Derived.Test.YtgkajecjbflbbaaGreatDoorGB22
set_option maxHeartbeats 4000000
set_option maxRecDepth 100000
set_option linter.all false
namespace Go.Proofs.YtgkajecjbflbbaaGreatDoor
namespace Mt
open Go Go.RowKit Go.Maps
attribute [local go_sem] Oper.semAt_some
def cmpI:List Int->List Int->Int
 | [],[]=>0
 | [],_::_=>-1
 | _::_,[]=>1
 | a::l,b::m=>if a < b then -1 else if a > b then 1 else cmpI l m
def cmp1 (x y:Int):Int:=if x < y then -1 else if x > y then 1 else 0
theorem isNaN_at (w:World) (x:Int):Calls Mz.prog 183 #[.int .i64 x] w fun e w'=>e=.returned (.bool false)/\w'=w:=by
 go_enter (mz_func (i:=183) rfl Tryz.func183),Tryz.ntmps183
 go_wp2;go_ret;exact ⟨by simp,rfl⟩
theorem cmp1_at (w:World) (x y:Int) {r:Int} (h:cmp1 x y=r):Calls Mz.prog 171 #[.int .i64 x,.int .i64 y] w fun e w'=>e=.returned (.int .i64 r)/\w'=w:=by
 unfold cmp1 at h;by_cases h1:x < y
 ·rw [if_pos h1] at h;subst h
  go_enter (mz_func (i:=171) rfl Tryz.func171),Tryz.ntmps171
  go_wp2_with (go_at_call 183;(with_reducible refine (isNaN_at _ _).mono ?_);rintro e w' ⟨rfl,rfl⟩);go_ret;exact ⟨rfl,rfl⟩
 ·rw [if_neg h1] at h;by_cases h2:x > y
  ·rw [if_pos h2] at h;subst h;have h3:y < x:=h2
   go_enter (mz_func (i:=171) rfl Tryz.func171),Tryz.ntmps171
   go_wp2_with (go_at_call 183;(with_reducible refine (isNaN_at _ _).mono ?_);rintro e w' ⟨rfl,rfl⟩);go_ret;exact ⟨rfl,rfl⟩
  ·rw [if_neg h2] at h;subst h;have h3:¬ y < x:=h2
   go_enter (mz_func (i:=171) rfl Tryz.func171),Tryz.ntmps171
   go_wp2_with (go_at_call 183;(with_reducible refine (isNaN_at _ _).mono ?_);rintro e w' ⟨rfl,rfl⟩);go_ret;exact ⟨rfl,rfl⟩
section
variable {w:World} {la ma:Option Addr} {lc mc:Nat} {l m:List Int}
theorem compare_at (hL:IntsAt w la l) (hM:IntsAt w ma m) (hl:l.length<=1000000) (hm:m.length<=1000000) {t:Int} (ht:cmpI l m=t) :
 Calls Mz.prog 150 #[.slice la l.length lc,.slice ma m.length mc] w fun e w'=>e=.returned (.int .i64 t)/\w'=w:=by
 have HT:=Hh ht;have HL:=Hh hL;have HM:=Hh hM;clear ht hL hM
 go_enter (mz_func (i:=150) rfl Tryz.func150),Tryz.ntmps150
 go_wp2;go_loop [11] (fun i=>∃ (k:Nat),k<=l.length/\k<=m.length/\i=.int .i64 k/\cmpI (l.drop k) (m.drop k)=t) (fun i=>l.length - (intOf i).toNat)
 case atStart=>exact ⟨0,Nat.zero_le _,Nat.zero_le _,rfl,HT.out⟩
 case round =>
  obtain ⟨k,hk,hkm,rfl,hc⟩:=hrel;by_cases hlt:k < l.length
  ·obtain ⟨lb,lo,rfl,hlb,e0⟩:=HL.out k hlt;rw [List.drop_eq_getElem_cons hlt] at hc;by_cases hlm:k < m.length
   ·obtain ⟨mb,mo,rfl,hmb,e1⟩:=HM.out k hlm;rw [List.drop_eq_getElem_cons hlm] at hc;unfold cmpI at hc;generalize l[k]=x at hc e0;generalize m[k]=y at hc e1;by_cases h1:x < y
    ·rw [if_pos h1] at hc;have HC:=Hh hc;have HX:=Hh (show cmp1 x y=-1 by unfold cmp1;rw [if_pos h1]);clear hc h1;go_wp2_with (go_at_call 171;(with_reducible refine (cmp1_at _ _ _ HX.out).mono ?_);rintro e w' ⟨rfl,rfl⟩);go_ret;exact ⟨by rw [<- HC.out];rfl,rfl⟩
    ·rw [if_neg h1] at hc;by_cases h2:x > y
     ·rw [if_pos h2] at hc;have HC:=Hh hc;have HX:=Hh (show cmp1 x y=1 by unfold cmp1;rw [if_neg h1,if_pos h2]);clear hc h1 h2;go_wp2_with (go_at_call 171;(with_reducible refine (cmp1_at _ _ _ HX.out).mono ?_);rintro e w' ⟨rfl,rfl⟩);go_ret;exact ⟨by rw [<- HC.out];rfl,rfl⟩
     ·rw [if_neg h2] at hc;have HC:=Hh hc;have HX:=Hh (show cmp1 x y=0 by unfold cmp1;rw [if_neg h1,if_neg h2]);clear hc h1 h2;go_wp2_with (go_at_call 171;(with_reducible refine (cmp1_at _ _ _ HX.out).mono ?_);rintro e w' ⟨rfl,rfl⟩);go_round
      case rel=>exact ⟨k+1,by omega,by omega,by go_num,HC.out⟩
      case measure=>simp [intOf];omega
   ·have hmk:m.drop k=[]:=List.drop_eq_nil_of_le (by omega);rw [hmk] at hc;unfold cmpI at hc;have HC:=Hh hc;clear hc hmk;go_wp2;go_ret;exact ⟨by rw [<- HC.out];rfl,rfl⟩
  ·obtain rfl:k=l.length:=by omega
   rw [List.drop_length] at hc;by_cases hlm:l.length < m.length
   ·rw [List.drop_eq_getElem_cons hlm] at hc;unfold cmpI at hc;have HC:=Hh hc;clear hc;go_wp2;go_ret;exact ⟨by rw [<- HC.out];rfl,rfl⟩
   ·rw [List.drop_eq_nil_of_le (by omega)] at hc;unfold cmpI at hc;have HC:=Hh hc;clear hc;go_wp2;go_ret;exact ⟨by rw [<- HC.out];rfl,rfl⟩
theorem clone_at (h:IntsAt w la l) (hl:l.length<=1000000):Calls Mz.prog 115 #[.slice la l.length lc] w (IntsRet w l):=by
 cases la with
 | none =>
  obtain rfl:l=[]:=by
   cases l with
   | nil=>rfl
   | cons x l=>obtain ⟨b,o,e,_⟩:=h 0 (by simp);cases e
  have hnil:=fun W=>Lib.run_eql_slice_nil (P:=Mz.prog) W 26 3 none 0 lc 0 0 (mzu Tryz.underlying26);simp only [Option.isNone_none] at hnil
  go_enter (mz_func (i:=115) rfl Tryz.func115),Tryz.ntmps115
  go_wp2;go_ret;exact ⟨none,0,rfl,fun i hi=>absurd hi (Nat.not_lt_zero _),Below.refl _ _⟩
 | some ad =>
  have HS:=Hh (show ∀ W,Below w.heap.size w W->∀ j u,(l.map (Value.int .i64))[j]? = some u->W.cell? (ad.add j)=some u from fun W hb j u hj=>by
   obtain ⟨_,h2⟩:=ints_src (c:=lc) (h.below hb) (fun e=>by cases e)
   obtain ⟨ad',e,h3⟩:=h2 j u hj
   cases e
   exact h3)
  have H1:=Hh (show ∀ u∈l.map (Value.int .i64),u.oneCell'=true from fun u hu=>by obtain ⟨z,_,rfl⟩:=List.mem_map.1 hu;rfl);have hnil:=fun W=>Lib.run_eql_slice_nil (P:=Mz.prog) W 26 3 (some ad) l.length lc 0 0 (mzu Tryz.underlying26);simp only [Option.isNone_some] at hnil;obtain ⟨i0,hi,hz0,hz1,hz2⟩:=info_parts mz_intInfo;clear h
  go_enter (mz_func (i:=115) rfl Tryz.func115),Tryz.ntmps115
  go_wp2_with (at_builtin;go_loud (refine wpList_append_own _ rfl _ _ 26 rfl w.heap.size 3 i0 _ 1 8 (mzu Tryz.underlying26) hi hz0 hz1 hz2 rfl (by decide) (.slice (some ⟨w.heap.size,0,none⟩) 0 0) 0 [] rfl (own_lit rfl (Nat.le_refl _)) ad l.length lc (l.map (Value.int .i64)) rfl (by simp) (HS.out _ (Below.al (Below.refl _ _) _)) H1.out (by unfold maxLen;omega) (by omega) (by simp) ?_;intro v' w1 hown hgrow _;obtain ⟨a',c',rfl⟩:=ownsRow_slice hown));simp only [Nat.zero_add,List.nil_append] at hown;have hb:Below w.heap.size w w1:=KS.to_below ((KS.alloc (fun k=>k < w.heap.size) w _).trans (KS.grown (r:=w.heap.size) hgrow (by simp))) (Nat.le_refl _);exact bodyPost_ret (v:=.slice a' l.length c') (by simp [results,Tryz.results115,go_sem, *]) rfl ⟨a',c',rfl,ints_row hown,hb⟩
end
attribute [local go_sem] Oper.semAt_some
def pickTo (l:List Int) (mask:Nat):Nat->List Int
 | 0=>[]
 | k+1=>if mask.testBit k then pickTo l mask k ++ [l.getD k 0] else pickTo l mask k
theorem pickTo_le (l:List Int) (mask:Nat):∀ k,(pickTo l mask k).length<=k
 | 0=>Nat.le_refl _
 | k+1=>by
  have:=pickTo_le l mask k;unfold pickTo;split
  ·simp;omega
  ·omega
theorem pickTo_mem (l:List Int) (mask:Nat):∀ k,k<=l.length->∀ x∈pickTo l mask k,x∈l
 | 0,_,x,h=>by cases h
 | k+1,hk,x,h=>by
  unfold pickTo at h;split at h
  ·rcases List.mem_append.1 h with h | h
   ·exact pickTo_mem l mask k (by omega) x h
   ·rw [List.mem_singleton] at h;subst h;have:k < l.length:=by omega
    simp [List.getD,this]
  ·exact pickTo_mem l mask k (by omega) x h
def leastStep (good:List Int->Bool) (l found:List Int) (mask:Nat):List Int :=
 if found.length < (pickTo l mask l.length).length\/((pickTo l mask l.length).length=found.length/\0<=cmpI (pickTo l mask l.length) found) then found
 else if good (pickTo l mask l.length)=true then pickTo l mask l.length else found
def leastI (good:List Int->Bool) (l:List Int):List Int:=(List.range (2 ^ l.length)).foldl (leastStep good l) l
theorem bit_cond6:∀ k:Fin 64,∀ j:Fin 6,(bits .and .i64 (((k.1:Nat):Int) / 2 ^ j.1) 1 == 1)=k.1.testBit j.1:=by decide +kernel
section
variable {w:World} {a:Option Addr} {l:List Int} {c:Nat} {f:FuncId} {caps:Array Value} {good:List Int->Bool}
theorem least_at (hI:IntsAt w a l) (h6:l.length<=6) (hcall:EntC f)
 (hf:∀ (some:List Int) (W:World) (pa:Option Addr) (pc:Nat),Below w.heap.size w W->IntsAt W pa some->some.length<=l.length->(∀ x∈some,x∈l)->Calls Mz.prog f (#[.slice pa some.length pc] ++ caps) W fun e w'=>e=.returned (.bool (good some))/\Below W.heap.size W w') :
 Calls Mz.prog 99 #[.slice a l.length c,.func (.func f) #[] caps] w (IntsRet w (leastI good l)):=by
 have HI:=Hh hI;have HF:=Hh hf;clear hI hf
 go_enter (mz_func (i:=99) rfl Tryz.func99),Tryz.ntmps99
 go_wp2
 go_step3
 go_wp2_with (go_at_call 115;(with_reducible refine (clone_at HI.out (by omega)).mono ?_);rintro e w1 ⟨fa,fc,rfl,hfi,hb1⟩;have HFI:=Hh hfi;clear hfi)
 go_step3
 go_wp2;obtain ⟨N,hN2⟩:∃ N:Nat,N=2 ^ l.length:=⟨_,rfl⟩;have hN64:N<=64:=by rw [hN2];exact Nat.pow_le_pow_right (by decide) h6
 have hw2:wrap64 ((2:Int) ^ l.length)=(N:Int):=by
  have:((2:Int) ^ l.length)=(N:Int):=by rw [hN2];exact (Int.natCast_pow 2 _).symm
  rw [this];unfold wrap64;omega
 rw [hw2];have HN2:=Hh hN2;clear hw2 hN2;go_loopw [5,15] (fun v i wr=>∃ (k:Nat) (fa:Option Addr) (fc:Nat) (fd:List Int),k<=N/\i=.int .i64 k/\v=.slice fa fd.length fc/\Hid (fd=(List.range k).foldl (leastStep good l) l)/\IntsAt wr fa fd/\fd.length<=6/\Below w1.heap.size w1 wr) (fun _ i _=>N - (intOf i).toNat)
 case atStart=>exact ⟨0,fa,fc,l,Nat.zero_le _,rfl,rfl,rfl,HFI.out,h6,Below.refl _ _⟩
 case round =>
  obtain ⟨k,fa,fc,fd,hk,rfl,rfl,hfd,hfa,hfl,hW⟩:=hrel;have hWs:=hW.size;obtain ⟨wo,rfl⟩:∃ x,x=wr:=⟨_,rfl⟩;have hb1s:=hb1.size;have HFA:=Hh hfa;have HW:=Hh hW;have HBW:=Hh (Below.next hb1 hW);clear hfa hW;by_cases hlt:k < N
  ·have HST:=Hh (show (List.range (k+1)).foldl (leastStep good l) l=leastStep good l fd k by rw [List.range_succ,List.foldl_append,hfd.out];rfl);clear hfd;go_wp2;go_loopw [7,20] (fun v i wr=>∃ (j:Nat) (xa:Option Addr) (xc:Nat),j<=l.length/\i=.int .i64 j/\v=.slice xa (pickTo l k j).length xc/\wr.ownsRow wo.heap.size 3 1 (.slice xa (pickTo l k j).length xc) (pickTo l k j).length ((pickTo l k j).map (Value.int .i64))/\Below wo.heap.size wo wr) (fun _ i _=>l.length - (intOf i).toNat)
   case atStart=>exact ⟨0,none,0,Nat.zero_le _,rfl,rfl,by simpa [pickTo] using World.ownsRow_nil _ _ _ _,Below.refl _ _⟩
   case round =>
    obtain ⟨j,xa,xc,hj,rfl,rfl,hrow,hX⟩:=hrel;have hXs:=hX.size;obtain ⟨wx,rfl⟩:∃ x,x=wr:=⟨_,rfl⟩;have hpl:=pickTo_le l k j;have HROW:=Hh hrow;have HXB:=Hh hX;clear hrow hX;by_cases hjt:j < l.length
    ·obtain ⟨ib,io,rfl,hib,hi0⟩:=(HI.out.below (Below.next HBW.out HXB.out)) j hjt;have hps:pickTo l k (j+1)=if k.testBit j then pickTo l k j ++ [l[j]] else pickTo l k j:=by rw [pickTo];simp [List.getD,hjt]
     generalize l[j]=y at hi0 hps;have hbc:=bit_cond6 ⟨k,by omega⟩ ⟨j,by omega⟩;simp only at hbc;cases htb:k.testBit j
     ·rw [htb] at hbc hps;simp only [Bool.false_eq_true,if_false] at hps;have HPS:=Hh hps;clear hps htb;go_wp2;go_roundw
      case rel=>exact ⟨j+1,xa,xc,hjt,by go_num,by rw [HPS.out],by rw [HPS.out];exact HROW.out,HXB.out⟩
      case measure=>simp [intOf];omega
     ·rw [htb] at hbc hps;simp only [if_true] at hps;have HPS:=Hh hps;have HLN:=Hh (show (pickTo l k (j+1)).length=(pickTo l k j).length+1 by rw [hps];simp);clear hps htb;go_wp2_with (at_builtin;go_loud (refine wpl_append1 rfl _ _ 26 rfl wo.heap.size 3 (mzu Tryz.underlying26) mz_intInfo rfl (by omega) (.slice xa (pickTo l k j).length xc) (pickTo l k j).length _ rfl HROW.out (by omega) (by omega) _ (n:=wx.heap.size) rfl rfl (by simp [Value.oneCell']) ?_;intro g cap w6 hown6 hb6));have hown7:w6.ownsRow wo.heap.size 3 1 (.slice (some ⟨g,0,none⟩) (pickTo l k (j+1)).length cap) (pickTo l k (j+1)).length ((pickTo l k (j+1)).map (Value.int .i64)):=by
       rw [HLN.out,HPS.out,List.map_append];exact hown6
      have HOWN:=Hh hown7;clear hown6 hown7;go_roundw
      case rel=>exact ⟨j+1,_,_,hjt,by go_num,by rw [HLN.out],HOWN.out,Below.trans HXB.out hb6⟩
      case measure=>simp [intOf];omega
    ·obtain rfl:j=l.length:=by omega
     obtain ⟨sk,hsk⟩:∃ sk,pickTo l k l.length=sk:=⟨_,rfl⟩;have hmem:∀ x∈sk,x∈l:=by rw [<- hsk];exact pickTo_mem l k l.length (Nat.le_refl _)
     rw [hsk] at HROW hpl ⊢;have HSK:=Hh hsk;have HXI:=Hh (ints_row HROW.out);have HCF:=Hh (HF.out sk wx xa xc (Below.next HBW.out HXB.out) HXI.out hpl hmem);obtain ⟨gd,hgd⟩:∃ gd,good sk=gd:=⟨_,rfl⟩;have HGD:=Hh hgd;clear hsk hmem hgd HROW;by_cases h1:fd.length < sk.length
     ·have HS3:=Hh (show (List.range (k+1)).foldl (leastStep good l) l=fd by rw [HST.out];unfold leastStep;rw [HSK.out,if_pos (.inl h1)]);have h1I:(fd.length:Int) < (sk.length:Int):=by omega
      go_wp2;go_roundw
      case rel=>exact ⟨k+1,fa,fc,fd,hlt,by go_num,rfl,HS3.out.symm,HFA.out.below HXB.out,hfl,Below.trans HW.out (HXB.out.mono hWs)⟩
      case measure=>simp [intOf];omega
     ·have h1I:¬ (fd.length:Int) < (sk.length:Int):=by omega
      by_cases h2:sk.length=fd.length
      ·have h2b:((sk.length:Int) == (fd.length:Int))=true:=beq_iff_eq.2 (by omega);have h2d:decide ((sk.length:Int)=(fd.length:Int))=true:=decide_eq_true (by omega);have H2:=Hh h2;clear h2;have hcmp:=compare_at (lc:=xc) (mc:=fc) (HXI.out) (HFA.out.below HXB.out) (by omega) (by omega) rfl;have HCMP:=Hh hcmp;clear hcmp;by_cases h3:0<=cmpI sk fd
       ·have HS3:=Hh (show (List.range (k+1)).foldl (leastStep good l) l=fd by rw [HST.out];unfold leastStep;rw [HSK.out,if_pos (.inr ⟨H2.out,h3⟩)]);go_wp2_with (go_at_call 150;(with_reducible refine HCMP.out.mono ?_);rintro e w2 ⟨rfl,hw2⟩;subst hw2);go_roundw
        case rel=>exact ⟨k+1,fa,fc,fd,hlt,by go_num,rfl,HS3.out.symm,HFA.out.below HXB.out,hfl,Below.trans HW.out (HXB.out.mono hWs)⟩
        case measure=>simp [intOf];omega
       ·have HNC:=Hh (show ¬ (fd.length < sk.length\/(sk.length=fd.length/\0<=cmpI sk fd)) from fun h=>h.elim h1 (fun h=>h3 h.2));have h3I:¬ 0<=cmpI sk fd:=h3;cases gd
        ·have HS3:=Hh (show (List.range (k+1)).foldl (leastStep good l) l=fd by rw [HST.out];unfold leastStep;rw [HSK.out,if_neg HNC.out,HGD.out,if_neg (by simp)]);go_wp2_with (first | (go_at_call 150;(with_reducible refine HCMP.out.mono ?_);rintro e w2 ⟨rfl,hw2⟩;subst hw2) | ((with_reducible refine (HCF.out).mono ?_);rintro e w3 ⟨rfl,hb3⟩;rw [HGD.out]));go_roundw
         case rel=>exact ⟨k+1,fa,fc,fd,hlt,by go_num,rfl,HS3.out.symm,((HFA.out.below HXB.out).below hb3),hfl,Below.trans HW.out ((Below.next HXB.out hb3).mono hWs)⟩
         case measure=>simp [intOf];omega
        ·have HS3:=Hh (show (List.range (k+1)).foldl (leastStep good l) l=sk by rw [HST.out];unfold leastStep;rw [HSK.out,if_neg HNC.out,HGD.out,if_pos rfl]);go_wp2_with (first | (go_at_call 150;(with_reducible refine HCMP.out.mono ?_);rintro e w2 ⟨rfl,hw2⟩;subst hw2) | ((with_reducible refine (HCF.out).mono ?_);rintro e w3 ⟨rfl,hb3⟩;rw [HGD.out]));go_roundw
         case rel=>exact ⟨k+1,xa,xc,sk,hlt,by go_num,rfl,HS3.out.symm,(HXI.out.below hb3),by omega,Below.trans HW.out ((Below.next HXB.out hb3).mono hWs)⟩
         case measure=>simp [intOf];omega
      ·have h2I:¬ (sk.length:Int)=(fd.length:Int):=by omega
       have h2b:((sk.length:Int) == (fd.length:Int))=false:=beq_eq_false_iff_ne.2 (by omega);have HNC:=Hh (show ¬ (fd.length < sk.length\/(sk.length=fd.length/\0<=cmpI sk fd)) from fun h=>h.elim h1 (fun h=>h2 h.1));cases gd
       ·have HS3:=Hh (show (List.range (k+1)).foldl (leastStep good l) l=fd by rw [HST.out];unfold leastStep;rw [HSK.out,if_neg HNC.out,HGD.out,if_neg (by simp)]);go_wp2_with ((with_reducible refine (HCF.out).mono ?_);rintro e w3 ⟨rfl,hb3⟩;rw [HGD.out]);go_roundw
        case rel=>exact ⟨k+1,fa,fc,fd,hlt,by go_num,rfl,HS3.out.symm,((HFA.out.below HXB.out).below hb3),hfl,Below.trans HW.out ((Below.next HXB.out hb3).mono hWs)⟩
        case measure=>simp [intOf];omega
       ·have HS3:=Hh (show (List.range (k+1)).foldl (leastStep good l) l=sk by rw [HST.out];unfold leastStep;rw [HSK.out,if_neg HNC.out,HGD.out,if_pos rfl]);go_wp2_with ((with_reducible refine (HCF.out).mono ?_);rintro e w3 ⟨rfl,hb3⟩;rw [HGD.out]);go_roundw
        case rel=>exact ⟨k+1,xa,xc,sk,hlt,by go_num,rfl,HS3.out.symm,(HXI.out.below hb3),by omega,Below.trans HW.out ((Below.next HXB.out hb3).mono hWs)⟩
        case measure=>simp [intOf];omega
  ·obtain rfl:k=N:=by omega
   have hfd2:=hfd.out;rw [HN2.out] at hfd2;have HFD:=Hh (show fd=leastI good l from hfd2);clear hfd hfd2;go_wp2;exact bodyPost_ret (v:=.slice fa fd.length fc) (by simp [results,Tryz.results99,go_sem, *]) rfl ⟨fa,fc,by rw [HFD.out],by rw [<- HFD.out];exact HFA.out,HBW.out⟩
end
attribute [local go_sem] Oper.semAt_some
section
variable {b:Fbk} {vm vd vt:Value} {w:World}
theorem batchC_at {ra pa:Option Addr} {rc pc rd:Nat} {rows:List R6} {ts:List Int} (hR:RowsAt w ra rows) (hl:rows.length<=1000) (hT:IntsAt w pa ts) (htl:ts.length<=1000) (ht6:∀ x∈ts,0<=x/\x < 6) (hc:w.cell? ⟨rd,0,none⟩=some (.slice ra rows.length rc)) :
 Calls Mz.prog 100 (#[.slice pa ts.length pc] ++ #[.pointer (some ⟨rd,0,none⟩)]) w fun e w'=>e=.returned (.bool (tellsI rows ts))/\Below w.heap.size w w':=by
 have HT:=Hh (tells_at (c:=rc) (pc:=pc) hR hl hT htl ht6 rfl);show Calls Mz.prog _ #[.slice pa ts.length pc,.pointer (some ⟨rd,0,none⟩)] w _;clear hR hT ht6
 go_enter (mz_func (i:=100) rfl Tryz.func100),Tryz.ntmps100
 go_wp2_with (go_at_call 101;(with_reducible refine HT.out.mono ?_);rintro e w1 ⟨rfl,hb1⟩);go_ret;exact ⟨rfl,hb1⟩
def batchI (b:Fbk):List Int:=leastI (tellsI (rowsI b (histsI b))) (unmadeI b.tests)
theorem batchApi_ok (hB:FBookAt w b vm vd vt) (hN:∀ m∈b.devs,m.name.size<=1000000) (hA:ActsAt w) (h:openAl b 0=0) :
 Calls Mz.prog 30 #[.agg #[vm,vd,vt]] w fun e w'=>∃ a c,e=.returned (.tuple #[.slice a (batchI b).length c,.int .i64 0])/\IntsAt w' a (batchI b)/\Below w.heap.size w w':=by
 have HB:=Hh hB;have HN:=Hh hN;have HA:=Hh hA;have H:=Hh h;obtain ⟨hd6,hle⟩:=bk6 (openAl_ok h).1;have g1:=(openAl_ok h).1;have h6:=(testsAl_ok (bookAl_ok g1).2).1;have HP:=Hh (paths_in g1);have hrl:(rowsI b (histsI b)).length<=1000:=by
  have:=rowsTo_len b (histsI b) (histsI b).length;rw [List.take_length] at this;omega
 have HUL:=Hh (show ∀ x∈unmadeI b.tests,0<=x/\x < 6 from fun x hx=>by have:=unmade_lt x hx;omega);have hunl:(unmadeI b.tests).length<=6:=Nat.le_trans (unmadeTo_le _ _) h6;obtain ⟨rfl,⟨da,dc,rfl,_,_⟩,ta,tc,rfl,_,_⟩:=hB;clear hN h hA g1
 go_enter (mz_func (i:=30) rfl Tryz.func30),Tryz.ntmps30
 go_wp2_with (first
  | (go_at_call 64;(with_reducible refine (open_ok (HB.out.below (bel)) HN.out (HA.out.below (bel)) (fun _ _=>mz_call84 _ _) nothingC H.out).mono ?_);rintro e w1 ⟨la,lc,rfl,hst,hb1⟩;have HST:=Hh hst;have HB1:=Hh (show Below w.heap.size w w1 from bel);clear hst)
  | (go_at_call 85;(with_reducible refine (rows_at (HB.out.below (Below.al HB1.out _)) (HA.out.below (Below.al HB1.out _)) (HST.out.below (Below.al (Below.refl _ _) _)) (fun s hs=>hists_lt hs) HP.out h6 hle).mono ?_);rintro e w2 ⟨ra,rc,rfl,hi2,hb2⟩;have HI:=Hh hi2;obtain ⟨hc2,hf2⟩:=bcell hb2;have hz2:w1.heap.size < w2.heap.size:=(by have:=hb2.size;simp at this;omega);have HB2:=Hh (show Below w.heap.size w w2 from Below.next (Below.al HB1.out _) hb2);clear hi2)
  | (go_at_call 87;(with_reducible refine (unmade_at (HB.out.below (Below.al HB2.out _))).mono ?_);rintro e w3 ⟨ua,uc,rfl,hu3,hb3⟩;have HU:=Hh hu3;have HB3:=Hh (show Below w.heap.size w w3 from Below.next (Below.al HB2.out _) hb3);have hz3:w2.heap.size < w3.heap.size:=(by have:=hb3.size;simp at this;omega);have y3:=(hb3.cell (p:=⟨w2.heap.size,0,none⟩) (by simp)).trans (cell_last rfl);have HRR:=Hh ((HI.out.below (Below.al (Below.refl _ _) _)).below hb3);clear hu3)
  | (go_at_call 99;(with_reducible refine (least_at (good:=tellsI (rowsI b (histsI b))) HU.out hunl (fun _ _=>mz_call100 _ _) (fun some W pa pc hW hsi hsl hsm=>batchC_at (HRR.out.below hW) hrl hsi (by omega) (fun x hx=>HUL.out x (hsm x hx)) ((hW.cell (p:=⟨w2.heap.size,0,none⟩) hz3).trans y3))).mono ?_);rintro e w4 ⟨a4,c4,rfl,hi4,hb4⟩;have HI4:=Hh hi4;clear hi4))
 exact bodyPost_ret (v:=.tuple #[.slice a4 (batchI b).length c4,.int .i64 0]) (by simp [results,Tryz.results30,go_sem,batchI, *]) rfl ⟨a4,c4,rfl,HI4.out,Below.next HB3.out hb4⟩
end
attribute [local go_sem] Oper.semAt_some
def waits (all:List Int) (done:Nat) (s:Nat->Nat):Nat->Bool
 | 0=>false
 | k+1=>waits all done s k || (decide (s (all.getD k 0).toNat≠0) && !done.testBit k)
def waitI (l:List (Nat->Nat)) (all:List Int) (done:Nat):Nat:=l.countP fun s=>waits all done s all.length
theorem waits_from {all:List Int} {done:Nat} {s:Nat->Nat}:∀ {n k:Nat},k < n->(decide (s (all.getD k 0).toNat≠0) && !done.testBit k)=true->waits all done s n=true
 | n+1,k,hk,h=>by
  unfold waits;by_cases e:k=n
  ·subst e;rw [h];simp
  ·rw [waits_from (by omega) h];rfl
theorem bit_zero6:∀ k:Fin 64,∀ j:Fin 6,(bits .and .i64 (((k.1:Nat):Int) / 2 ^ j.1) 1 == 0)=!k.1.testBit j.1:=by decide +kernel
section
variable {w:World} {a pa:Option Addr} {l:List (Nat->Nat)} {all:List Int} {c pc done r1 r2:Nat}
theorem waiting_at (hS:StatesAt w a l) (hl:l.length<=1000) (hI:IntsAt w pa all) (h6:all.length<=6) (hx:∀ x∈all,0<=x/\x < 6) (hd:done < 64) (h1:w.cell? ⟨r1,0,none⟩=some (.slice a l.length c)) (h2:w.cell? ⟨r2,0,none⟩=some (.slice pa all.length pc)) (hr1:r1 < w.heap.size) (hr2:r2 < w.heap.size) :
 Calls Mz.prog 113 (#[.int .i64 (done:Int)] ++ #[.pointer (some ⟨r1,0,none⟩),.pointer (some ⟨r2,0,none⟩)]) w fun e w'=>e=.returned (.int .i64 (waitI l all done:Int))/\Below w.heap.size w w':=by
 have HS:=Hh hS;have HI:=Hh hI;have HX:=Hh hx;show Calls Mz.prog _ #[.int .i64 (done:Int),.pointer (some ⟨r1,0,none⟩),.pointer (some ⟨r2,0,none⟩)] w _;clear hS hI hx
 go_enter (mz_func (i:=113) rfl Tryz.func113),Tryz.ntmps113
 go_wp2;go_loopw [5,12] (fun v i wr=>∃ k:Nat,k<=l.length/\i=.int .i64 k/\v=.int .i64 ((l.take k).countP (fun s=>waits all done s all.length):Nat)/\Below w.heap.size w wr) (fun _ i _=>l.length - (intOf i).toNat)
 case atStart=>exact ⟨0,Nat.zero_le _,rfl,by simp,Below.refl _ _⟩
 case round =>
  obtain ⟨k,hk,rfl,rfl,hW⟩:=hrel;have hWs:=hW.size;obtain ⟨wo,rfl⟩:∃ x,x=wr:=⟨_,rfl⟩;have hcl:(l.take k).countP (fun s=>waits all done s all.length)<=k:=Nat.le_trans List.countP_le_length (by rw [List.length_take];omega);by_cases hlt:k < l.length
  ·obtain ⟨sb,so,rfl,hsb,hsc⟩:=(HS.out.below hW) k hlt;have hct:=countP_take (p:=fun s=>waits all done s all.length) hlt;generalize l[k]=s at hsc hct;have d0:=hsc 0 (by omega);have d1:=hsc 1 (by omega);have d2:=hsc 2 (by omega);have d3:=hsc 3 (by omega);have d4:=hsc 4 (by omega);have d5:=hsc 5 (by omega);simp only [Nat.add_zero] at d0;have m2:=fun o=>((Below.al hW o).cell (p:=⟨r2,0,none⟩) hr2).trans h2;have hr2o:r2 < wo.heap.size:=by omega
   generalize hN:(l.take k).countP (fun s=>waits all done s all.length)=N at hcl hct;have HCT:=Hh hct;have HW:=Hh hW;have HN:=Hh hN;clear hsc hct hW hN;go_wp2;obtain ⟨W1,hW1⟩:∃ W1,W1=wo.alloc (.cells #[.int .i64 (s 0:Int),.int .i64 (s 1:Int),.int .i64 (s 2:Int),.int .i64 (s 3:Int),.int .i64 (s 4:Int),.int .i64 (s 5:Int)] 96):=⟨_,rfl⟩;rw [<- hW1];have HB1:=Hh (show Below w.heap.size w W1 by rw [hW1];exact Below.al HW.out _);have HSB:=Hh (show ∀ j,j < 6->W1.cell? ⟨wo.heap.size,j,none⟩=some (.int .i64 (s j:Int)) from fun j hj=>by rw [hW1,World.cell?_alloc_at _ _ _ _ rfl];exact statesV_get s hj);have hs1:wo.heap.size < W1.heap.size:=by rw [hW1];simp
   clear hW1 d0 d1 d2 d3 d4 d5 m2;go_loopw [5,18] (fun v i wr=>∃ m:Nat,m<=all.length/\i=.int .i64 m/\v=.int .i64 (N:Int)/\waits all done s m=false/\wr=W1) (fun _ i _=>all.length - (intOf i).toNat)
   case atStart=>exact ⟨0,Nat.zero_le _,rfl,rfl,rfl,rfl⟩
   case round =>
    obtain ⟨m,hm,rfl,rfl,hwt,rfl⟩:=hrel;by_cases hmt:m < all.length
    ·obtain ⟨ib,io,rfl,hib,hi0⟩:=(HI.out.below HB1.out) m hmt;obtain ⟨tv,htv⟩:∃ tv,all[m]=tv:=⟨_,rfl⟩;have hgd:all.getD m 0=tv:=by rw [<- htv];simp [List.getD,hmt]
     rw [htv] at hi0;have htb:=HX.out all[m] (List.getElem_mem hmt);rw [htv] at htb;obtain ⟨tn,rfl⟩:∃ tn:Nat,tv=(tn:Int):=⟨tv.toNat,by omega⟩;have htn:tn < 6:=by omega
     have htI:(tn:Int) < 6:=by omega
     have u0:=HSB.out tn htn;have hbz:=bit_zero6 ⟨done,hd⟩ ⟨m,by omega⟩;simp only at hbz;have hws:waits all done s (m+1)=(decide (s tn≠0) && !done.testBit m):=by rw [waits,hwt,hgd];simp
     have HGD:=Hh hgd;clear htv hgd;by_cases hz:s tn=0
     ·have hw2:waits all done s (m+1)=false:=by rw [hws,hz];simp
      have hzI:((s tn:Nat):Int)=0:=by omega
      rw [hzI] at u0;have HW2:=Hh hw2;clear hws hw2 hwt hz hzI;go_wp2;go_roundw
      case rel=>exact ⟨m+1,hmt,by go_num,rfl,HW2.out,by first | rfl | trivial⟩
      case measure=>simp [intOf];omega
     ·have hzI:¬ ((s tn:Nat):Int)=0:=by omega
      have hzb:(((s tn:Nat):Int) != 0)=true:=by simpa using hz
      cases htbb:done.testBit m
      ·rw [htbb] at hbz hws;simp only [Bool.not_false] at hbz;have HT:=Hh (show waits all done s all.length=true from waits_from hmt (by rw [HGD.out,Int.toNat_natCast];simp [hz,htbb]));have hwr:IntKind.i64.wrap ((N:Int)+1)=(N:Int)+1:=IntWalk.i64_in _ (by omega);clear hws hwt;go_wp2;go_roundw
       case rel=>exact ⟨k+1,hlt,by go_num,by rw [HCT.out,HT.out];simp,HB1.out⟩
       case measure=>simp [intOf];omega
      ·rw [htbb] at hbz hws;simp only [Bool.not_true] at hbz;have hw2:waits all done s (m+1)=false:=by rw [hws];simp
       have HW2:=Hh hw2;clear hws hw2 hwt;go_wp2;go_roundw
       case rel=>exact ⟨m+1,hmt,by go_num,rfl,HW2.out,by first | rfl | trivial⟩
       case measure=>simp [intOf];omega
    ·obtain rfl:m=all.length:=by omega
     have HT:=Hh hwt;clear hwt;go_wp2;go_roundw
     case rel=>exact ⟨k+1,hlt,by go_num,by rw [HCT.out,HT.out];simp,HB1.out⟩
     case measure=>simp [intOf];omega
  ·obtain rfl:k=l.length:=by omega
   have HW:=Hh hW;clear hW;go_wp2;go_ret;exact ⟨by rw [List.take_length];rfl,HW.out⟩
end
attribute [local go_sem] Oper.semAt_some
noncomputable def repStep (R:Nat->Bst) (tm:Int->Int) (n:Int) (d:Nat) (all:List Int) (cur:Bst) (i:Nat):Bst :=
 if d.testBit i then cur else betterI cur ⟨(i:Int),tm (all.getD i 0) * n+(R (d ||| 1 <<< i)).c,true⟩
noncomputable def repCell (R:Nat->Bst) (tm:Int->Int) (n:Int) (d:Nat) (all:List Int):Bst:=(List.range all.length).foldl (repStep R tm n d all) ⟨0,0,false⟩
noncomputable def repT (tm:Int->Int) (N:Nat->Int) (all:List Int) (full:Nat):Nat->Nat->Bst
 | 0,d=>if d=full then ⟨-1,0,true⟩ else ⟨0,0,false⟩
 | k+1,d=>if d+(k+1)=full then repCell (repT tm N all full k) tm (N d) d all else repT tm N all full k d
noncomputable def ordR (T:Nat->Bst) (all:List Int) (full:Nat):Nat->Nat->List Int
 | 0,_=>[]
 | k+1,d=>if d < full then all.getD (T d).v.toNat 0::ordR T all full k (d ||| 1 <<< (T d).v.toNat) else []
theorem or_up:∀ m:Fin 7,∀ d:Fin 64,∀ i:Fin 6,d.1 < 2 ^ m.1->i.1 < m.1->d.1.testBit i.1=false->d.1 < d.1 ||| 1 <<< i.1/\(d.1 ||| 1 <<< i.1) < 2 ^ m.1:=by decide +kernel
theorem or_bits:∀ d:Fin 64,∀ i:Fin 6,bits .or .i64 ((d.1:Nat):Int) (wrap64 (1 * 2 ^ i.1))=((d.1 ||| 1 <<< i.1:Nat):Int):=by decide +kernel
theorem bit_free:∀ m:Fin 7,∀ d:Fin 64,d.1+1 < 2 ^ m.1->∃ i:Fin 6,i.1 < m.1/\d.1.testBit i.1=false:=by decide +kernel
section
variable {R:Nat->Bst} {tm:Int->Int} {n:Int} {d full:Nat} {all:List Int}
theorem repStep_set {cur:Bst} {i:Nat} (h:d.testBit i=true):repStep R tm n d all cur i=cur:=by simp [repStep,h]
theorem repStep_not {cur:Bst} {i:Nat} (h:d.testBit i=false):repStep R tm n d all cur i=betterI cur ⟨(i:Int),tm (all.getD i 0) * n+(R (d ||| 1 <<< i)).c,true⟩:=by simp [repStep,h]
theorem rep_inv {M C:Int} (h6:all.length<=6) (hd:d < 2 ^ all.length) (htm:∀ x∈all,0<=tm x * n/\tm x * n<=M) (hC:0<=C) (hM:0<=M) (hR:∀ e,d < e->e < 2 ^ all.length->0<=(R e).c/\(R e).c<=C):∀ k,k<=all.length ->
 (0<=((List.range k).foldl (repStep R tm n d all) ⟨0,0,false⟩).c/\((List.range k).foldl (repStep R tm n d all) ⟨0,0,false⟩).c<=M+C) /\
 (((List.range k).foldl (repStep R tm n d all) ⟨0,0,false⟩).f=false->∀ i,i < k->d.testBit i=true) /\
 (((List.range k).foldl (repStep R tm n d all) ⟨0,0,false⟩).f=true->∃ i:Nat,i < k/\((List.range k).foldl (repStep R tm n d all) ⟨0,0,false⟩).v=i/\d.testBit i=false)
 | 0,_=>⟨⟨by simp,by simp;omega⟩,fun _ i hi=>absurd hi (by omega),fun h=>by simp at h⟩
 | k+1,hk=>by
  have ih:=rep_inv h6 hd htm hC hM hR k (by omega);rw [List.range_succ,List.foldl_append,List.foldl_cons,List.foldl_nil];generalize (List.range k).foldl (repStep R tm n d all) ⟨0,0,false⟩=cur at ih ⊢;obtain ⟨⟨i1,i2⟩,i3,i4⟩:=ih;have h64:d < 64:=Nat.lt_of_lt_of_le hd (Nat.le_trans (Nat.pow_le_pow_right (by decide) h6) (by decide));cases hb:d.testBit k
  ·rw [repStep_not hb];have ho:=or_up ⟨all.length,by omega⟩ ⟨d,h64⟩ ⟨k,by omega⟩ hd (by show k < all.length;omega) hb;simp only at ho;have hr:=hR _ ho.1 ho.2;have ht:=htm (all.getD k 0) (by simp [List.getD,show k < all.length by omega]);unfold betterI;split
   ·refine ⟨⟨?_,?_⟩,fun h=>by simp at h,fun _=>⟨k,by omega,rfl,hb⟩⟩
    ·show 0<=tm (all.getD k 0) * n+(R (d ||| 1 <<< k)).c;omega
    ·show tm (all.getD k 0) * n+(R (d ||| 1 <<< k)).c<=M+C;omega
   ·rename_i hn
    have hf:cur.f=true:=by
     cases hh:cur.f
     ·exact absurd (.inl hh) hn
     ·rfl
    exact ⟨⟨i1,i2⟩,fun h=>by rw [hf] at h;simp at h,fun h=>by obtain ⟨i,a,b,c⟩:=i4 h;exact ⟨i,by omega,b,c⟩⟩
  ·rw [repStep_set hb];refine ⟨⟨i1,i2⟩,fun h i hi=>?_,fun h=>by obtain ⟨i,a,b,c⟩:=i4 h;exact ⟨i,by omega,b,c⟩⟩;rcases Nat.lt_succ_iff_lt_or_eq.1 hi with hi | rfl
   ·exact i3 h i hi
   ·exact hb
end
section
variable {tm:Int->Int} {N:Nat->Int} {all:List Int} {full:Nat} {M:Int}
theorem repT_bd (h6:all.length<=6) (hf:full+1=2 ^ all.length) (hM:0<=M) (htm:∀ d x,x∈all->0<=tm x * N d/\tm x * N d<=M):∀ k d,d<=full->0<=(repT tm N all full k d).c/\(repT tm N all full k d).c<=M * k
 | 0,d,hd=>by
  unfold repT;split <;> simp
 | k+1,d,hd=>by
  have e:M * ((k+1:Nat):Int)=M * k+M:=by rw [Int.natCast_add,Int.mul_add];simp
  unfold repT;split
  ·have h:=(rep_inv (R:=repT tm N all full k) (n:=N d) (M:=M) (C:=M * k) (d:=d) h6 (by omega) (fun x hx=>htm d x hx) (Int.mul_nonneg hM (by omega)) hM (fun e _ h2=>repT_bd h6 hf hM htm k e (by omega)) all.length (Nat.le_refl _)).1;rw [e];show 0<=(repCell _ _ _ _ _).c/\_;unfold repCell;omega
  ·have:=repT_bd h6 hf hM htm k d hd;rw [e];omega
theorem repT_pick (h6:all.length<=6) (hf:full+1=2 ^ all.length) (hM:0<=M) (htm:∀ d x,x∈all->0<=tm x * N d/\tm x * N d<=M):∀ k d,d < full->full<=d+k->∃ i:Nat,i < all.length/\(repT tm N all full k d).v=i/\d.testBit i=false
 | 0,d,hd,hk=>absurd hk (by omega)
 | k+1,d,hd,hk=>by
  unfold repT;split
  ·have h:=(rep_inv (R:=repT tm N all full k) (n:=N d) (M:=M) (C:=M * k) (d:=d) h6 (by omega) (fun x hx=>htm d x hx) (Int.mul_nonneg hM (by omega)) hM (fun e _ h2=>repT_bd h6 hf hM htm k e (by omega)) all.length (Nat.le_refl _)).2;show ∃ i:Nat,i < all.length/\(repCell _ _ _ _ _).v=i/\_;unfold repCell;cases hh:((List.range all.length).foldl (repStep (repT tm N all full k) tm (N d) d all) ⟨0,0,false⟩).f
   ·have h64:d < 64:=by
     have:2 ^ all.length<=64:=Nat.le_trans (Nat.pow_le_pow_right (by decide) h6) (by decide);omega
    obtain ⟨i,hi,hb⟩:=bit_free ⟨all.length,by omega⟩ ⟨d,h64⟩ (by show d+1 < 2 ^ all.length;omega);have:=h.1 hh i.1 hi;rw [hb] at this;simp at this
   ·exact h.2 hh
  ·rename_i hn
   exact repT_pick h6 hf hM htm k d hd (by omega)
end
def TabAt (w:World) (B n:Nat) (T:Nat->Bst):Prop:=∀ d,d < n->(w.cell? ⟨B,d * 3,none⟩=some (.int .i64 (T d).v)/\w.cell? ⟨B,d * 3+1,none⟩=some (.int .i64 (T d).c)/\w.cell? ⟨B,d * 3+2,none⟩=some (.bool (T d).f)) /\
 w.frozen? ⟨B,d * 3,none⟩=false/\w.frozen? ⟨B,d * 3+1,none⟩=false/\w.frozen? ⟨B,d * 3+2,none⟩=false
def updT (T:Nat->Bst) (d:Nat) (x:Bst):Nat->Bst:=fun e=>if e=d then x else T e
theorem TabAt.below {w w':World} {B n:Nat} {T:Nat->Bst} {m:Nat} (h:TabAt w B n T) (hm:B < m) (hb:Below m w w'):TabAt w' B n T:=fun d hd=>by
 obtain ⟨⟨a,b,c⟩,e,f,g⟩:=h d hd;exact ⟨⟨(hb.cell hm).trans a,(hb.cell hm).trans b,(hb.cell hm).trans c⟩,(hb.frozen hm).trans e,(hb.frozen hm).trans f,(hb.frozen hm).trans g⟩
theorem TabAt.set {w:World} {B n:Nat} {T:Nat->Bst} (h:TabAt w B n T) {d:Nat} (hd:d < n) (x:Bst) :
 TabAt (((w.setCell ⟨B,d * 3,none⟩ (.int .i64 x.v)).setCell ⟨B,d * 3+1,none⟩ (.int .i64 x.c)).setCell ⟨B,d * 3+2,none⟩ (.bool x.f)) B n (updT T d x) /\
 KS (fun k=>k≠B) w (((w.setCell ⟨B,d * 3,none⟩ (.int .i64 x.v)).setCell ⟨B,d * 3+1,none⟩ (.int .i64 x.c)).setCell ⟨B,d * 3+2,none⟩ (.bool x.f)):=by
 refine ⟨fun e he=>?_,((KS.setCell (by simp) _ _).trans (KS.setCell (by simp) _ _)).trans (KS.setCell (by simp) _ _)⟩;obtain ⟨⟨a,b,c⟩,f,g,i⟩:=h e he;obtain ⟨⟨a',b',c'⟩,_⟩:=h d hd;simp only [World.frozen?_setCell];refine ⟨?_,f,g,i⟩;by_cases hed:e=d
 ·subst hed;simp only [updT,if_true];refine ⟨?_,?_,?_⟩
  ·rw [World.cell?_setCell_other (h:=by simp),World.cell?_setCell_other (h:=by simp),World.cell?_setCell_same' _ _ _ (by rw [a'];rfl)]
  ·rw [World.cell?_setCell_other (h:=by simp),World.cell?_setCell_same' _ _ _ (by rw [World.cell?_setCell_other (h:=by simp),b'];rfl)]
  ·rw [World.cell?_setCell_same' _ _ _ (by rw [World.cell?_setCell_other (h:=by simp),World.cell?_setCell_other (h:=by simp),c'];rfl)]
 ·have hu:updT T d x e=T e:=by simp [updT,hed]
  rw [hu];refine ⟨?_,?_,?_⟩ <;> (rw [World.cell?_setCell_other (h:=by first | (simp;done) | (simp;omega)),World.cell?_setCell_other (h:=by first | (simp;done) | (simp;omega)),World.cell?_setCell_other (h:=by first | (simp;done) | (simp;omega))];assumption)
def bests (n:Nat):Array Value:=madeCells #[.int .i64 0,.int .i64 0,.bool false] (n * 3)
theorem bestInfo:(Mz.prog.info? 138).map (fun i=>(i.zero,i.size,i.bytes))=some (some (.agg #[.int .i64 0,.int .i64 0,.bool false]),3,24):=by
 show (Tryz.prog.info? 138).map _=_
 kernel_rfl
theorem make_bests {n:Nat} (hn:n<=64) (w:World):(Instr.makeSlice 157 (.int .i64 (n:Int)) (.int .i64 (n:Int))).run Mz.prog w=.ok (.slice (some ⟨w.heap.size,0,none⟩) n n) (w.alloc (.cells (bests n) 138)):=by
 obtain ⟨i0,hi,hz,hsz,hb⟩:=info_parts bestInfo;have h:=run_makeSlice (P:=Mz.prog) w 157 138 i0 (.agg #[.int .i64 0,.int .i64 0,.bool false]) (mzu Tryz.underlying157) hi hz .i64 .i64 n n (by omega) (Int.le_refl _) (by rw [hsz];simp;omega) (by rw [hb];omega) (by omega);rw [hsz] at h;simp only [Int.toNat_natCast] at h;exact h
theorem bests_tab {n:Nat} (w:World):TabAt (w.alloc (.cells (bests n) 138)) w.heap.size n (fun _=>⟨0,0,false⟩):=fun d hd=>by
 have q:∀ k u,(bests n)[k]? = some u->(w.alloc (.cells (bests n) 138)).cell? ⟨w.heap.size,k,none⟩=some u:=fun k u hk=>by rw [World.cell?_alloc_at _ _ _ _ rfl];exact hk
 have qf:∀ k,(w.alloc (.cells (bests n) 138)).frozen? ⟨w.heap.size,k,none⟩=false:=fun k=>by rw [World.frozen?_alloc_at _ _ _ _ rfl]
 have g:∀ j,j < 3->(bests n)[d * 3+j]? = some ((#[.int .i64 0,.int .i64 0,.bool false]:Array Value).getD j (.int .i64 0)):=fun j hj=>by
  unfold bests madeCells;rw [Array.getElem?_map,Array.getElem?_range];have:d * 3+j < n * 3:=by omega
  have e:(d * 3+j) % 3=j:=by omega
  rw [if_pos this];rw [Option.map_some];show some ((#[.int .i64 0,.int .i64 0,.bool false]:Array Value)[(d * 3+j) % 3]!)=_;rw [e];congr 1;rcases j with _ | _ | _ | j
  ·rfl
  ·rfl
  ·rfl
  ·omega
 exact ⟨⟨q _ _ (g 0 (by omega)),q _ _ (g 1 (by omega)),q _ _ (g 2 (by omega))⟩,qf _,qf _,qf _⟩
end Mt
end Go.Proofs.YtgkajecjbflbbaaGreatDoor
