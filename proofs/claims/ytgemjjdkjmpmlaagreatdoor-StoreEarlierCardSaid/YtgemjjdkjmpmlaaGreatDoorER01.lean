/- Leads to StoreEarlier of chapter 6: W2 W3 PK0 ER1 ER2 ER3 ER4. -/
import Derived.Test.YtgemjjdkjmpmlaaGreatDoorER00
set_option maxHeartbeats 16000000
set_option maxRecDepth 100000
set_option linter.all false
namespace Go.Proofs.YtgemjjdkjmpmlaaGreatDoor
open Go.RowKit Go.Maps Sp
structure Pair (B:Nat) (e:TypeId) (v1:Value) (n1:Nat) (x1:List Value) (v2:Value) (n2:Nat) (x2:List Value) (w:World):Prop where
 o1:w.ownsRow B e 1 v1 n1 x1
 o2:w.ownsRow B e 1 v2 n2 x2
 ap:∀ g,v1.ownBlock=some g→v2.ownBlock≠some g
section
variable {w w':World} {B n1 n2 m:Nat} {e:TypeId} {v1 v2 v:Value} {x1 x2 xs:List Value}
theorem Pair.swap (t:Pair B e v1 n1 x1 v2 n2 x2 w):Pair B e v2 n2 x2 v1 n1 x1 w:=⟨t.o2,t.o1,fun g h k=>t.ap g k h⟩
theorem Pair.ks (t:Pair B e v1 n1 x1 v2 n2 x2 w) (hk:KS (fun _=>True) w w'):Pair B e v1 n1 x1 v2 n2 x2 w':=⟨row_keep' t.o1 hk fun _ _=>trivial,row_keep' t.o2 hk fun _ _=>trivial,t.ap⟩
theorem Pair.app2 (t:Pair B e v1 n1 x1 v2 n2 x2 w) (ho:w'.ownsRow B e 1 v m xs) (hg:w.grownBy w' v2.ownBlock) (hat:v.ownBlock=v2.ownBlock∨v.ownBlock=some w.heap.size):Pair B e v1 n1 x1 v m xs w':=by
 have hk:KS (fun k=>v2.ownBlock≠some k) w w':=KS.own hg fun g hg=>by simp [hg]
 refine ⟨row_keep' t.o1 hk fun g hg e=>t.ap g hg e,ho,fun g hg e=>?_⟩
 rcases hat with h | h
 ·rw [h] at e;exact t.ap g hg e
 ·rw [h] at e
  cases e
  have:=(ownBlock_row t.o1 _ hg).2
  omega
theorem wpl_pair {P:Program} {w:World} {ops:Array Oper} {rest:List Oper} {o:Oper} {a:Act} {Q:Exit→Act→World→Prop} (hgd:o.guard=none) (s x:Operand) (t:TypeId)
 (ho:o.op=.call { callee:=.builtin .append,args:=#[s,x],argTypes:=#[t,t] })
 (base:Nat) (e:TypeId) {z:Value} {bytes:Nat} (ht:P.underlying t=some (.slice e)) (hi:(P.info? e).map (fun i=>(i.zero,i.size,i.bytes))=some (some z,1,bytes)) (hzs:z.cells.size=1) (hby:bytes≤100)
 (v:Value) (k:Nat) (xs:List Value) (hs:a.eval s=v) {v1:Value} {n1:Nat} {x1:List Value} (hP:Pair base e v1 n1 x1 v k xs w) (hbase:base≤w.heap.size) (hk:k≤1000000) (u:Value)
 {n:Nat} (hn:n=w.heap.size) (hx:a.eval x=.slice (some ⟨n,0,none⟩) 1 1) (h1:u.oneCell'=true)
 (h:∀ g cap w',Pair base e v1 n1 x1 (.slice (some ⟨g,0,none⟩) (k+1) cap) (k+1) (xs ++ [u]) w'→Below base w w'→wpList P ops Q rest (a.put o.dst (.slice (some ⟨g,0,none⟩) (k+1) cap)) w') :
 wpList P ops Q (o::rest) a (w.alloc (.cells #[u] e)):=by
 subst hn
 obtain ⟨i,hi,hz,hsz,hb⟩:=info_parts hi
 have hp2:Pair base e v1 n1 x1 v k xs (w.alloc (.cells #[u] e)):=hP.ks (KS.alloc _ _ _)
 have hle:base≤(w.alloc (.cells #[u] e)).heap.size:=by simp;omega
 refine wpList_append_own_at (w.alloc (.cells #[u] e)) hgd s x t ho base e i z 1 bytes ht hi hz hsz hb hzs (by decide) v k xs hs hp2.o2 ⟨w.heap.size,0,none⟩ 1 1 [u] hx rfl (cells_new w [u] e) (by simpa using h1) (by unfold maxLen;omega) (by have:=Nat.mul_le_mul (show k+1≤1000001 by omega) hby;omega) hle ?_
 intro v' w' hown' hg _ hat
 have hp3:=hp2.app2 hown' hg hat
 obtain ⟨g',cap',rfl⟩:=ownsRow_succ hown'
 exact h g' cap' w' hp3 (((Below.refl base w).alloc hbase _).trans (below_own hp2.o2 hg hle))
end
def mapTo (f:Int→Int) (k:Nat) (l:List Int):List Int:=(l.take k).map f ++ l.drop k
theorem mapTo_length (f:Int→Int) (k:Nat) (l:List Int):(mapTo f k l).length=l.length:=by simp [mapTo];omega
theorem mapTo_at (f:Int→Int) (l:List Int) (k:Nat) (h:k < l.length):((mapTo f k l).map (Value.int .i64))[k]? = some (.int .i64 l[k]):=by
 unfold mapTo
 rw [List.map_append,List.getElem?_append_right (by simp;omega)]
 simp [List.length_take,Nat.min_eq_left (Nat.le_of_lt h),h]
theorem mapTo_succ (f:Int→Int) (l:List Int) (k:Nat) (h:k < l.length):mapTo f (k+1) l=(l.take k).map f ++ (f l[k]::l.drop (k+1)):=by
 unfold mapTo
 rw [List.take_succ_eq_append_getElem h,List.map_append,List.append_assoc]
 rfl
theorem mapTo_set (f:Int→Int) (l:List Int) (k:Nat) (h:k < l.length):((mapTo f k l).map (Value.int .i64)).set k (.int .i64 (f l[k]))=(mapTo f (k+1) l).map (Value.int .i64):=by
 rw [← List.map_set]
 congr 1
 unfold mapTo
 rw [List.take_succ_eq_append_getElem h,List.map_append,List.set_append_right _ _ (by simp;omega)]
 simp only [List.length_map,List.length_take,Nat.min_eq_left (Nat.le_of_lt h),Nat.sub_self,List.append_assoc,List.map_cons,List.map_nil,List.singleton_append]
 rw [List.drop_eq_getElem_cons h]
 rfl
theorem mapTo_same (f:Int→Int) (l:List Int) (k:Nat) (h:k < l.length) (e:f l[k]=l[k]):mapTo f (k+1) l=mapTo f k l:=by
 rw [mapTo_succ f l k h,e,← List.drop_eq_getElem_cons h]
 rfl
theorem planGo_few (p loads:List Int) (k:Nat):(planGo p loads k).1.length=k∧(planGo p loads k).2≤k:=⟨(planGo_v p loads k).len,(planGo_v p loads k).few⟩
section
variable {w:World} {la ka:Option Addr} {lc kc n m:Nat} {l p:List Int}
theorem plan_at (hL:IntsAt w la l) (hn:n=l.length) (hl:l.length≤1000) (hU:U16sAt w ka p) (hm:m=p.length) :
 Calls Tryz.prog 33 #[.slice la n lc,.slice ka m kc] w (NumsRet w (planP p l)):=by
 subst hn hm
 have HL:=Hh hL
 have HU:=Hh hU
 clear hL hU
 go_enter Tryz.func33,Tryz.ntmps33
 go_wp2
 go_loopw [5,6,7,8] (fun v f i _ wr=>∃ (k q:Nat) (a fa:Option Addr) (c fc:Nat) (xs:List Value),k≤l.length∧i=.int .i64 k∧q=(planGo p l k).2∧v=.slice a k c∧f=.slice fa q fc∧Hid (Pair w.heap.size 3 (.slice a k c) k ((planGo p l k).1.map (Value.int .i64)) (.slice fa q fc) q xs wr)∧Below w.heap.size w wr) (fun _ _ i _ _=>l.length - (intOf i).toNat)
 case atStart=>exact ⟨0,0,none,none,0,0,[],Nat.zero_le _,rfl,rfl,rfl,rfl,(⟨World.ownsRow_nil _ _ _ _,World.ownsRow_nil _ _ _ _,fun g h=>by cases h⟩:Pair _ _ _ _ _ _ _ _ _),Below.refl _ _⟩
 case round =>
  obtain ⟨k,q,a,fa,c,fc,xs,hk,rfl,hq,rfl,rfl,HPR,hW⟩:=hrel
  have hWs:=hW.size
  have hqk:q≤k:=by rw [hq];exact (planGo_few p l k).2
  by_cases hlt:k < l.length
  ·obtain ⟨lb,lo,rfl,hlb,e0⟩:=HL.out k hlt
   have d0:=(hW.cell hlb).trans e0
   have hlb2:lb < wr.heap.size:=Nat.lt_of_lt_of_le hlb hWs
   have hld:l.getD k 0=l[k]:=by rw [List.getD_eq_getElem?_getD,List.getElem?_eq_getElem hlt,Option.getD_some]
   have hsn:planGo p l (k+1)=if l[k]=0 then ((planGo p l k).1 ++ [-1],q) else ((planGo p l k).1 ++ [choiceI p k % ((q:Int)+1)],if choiceI p k % ((q:Int)+1)=(q:Int) then q+1 else q):=by
    rw [← hld,hq];rfl
   generalize l[k]=x at d0 hsn e0
   have HQ:=Hh hq
   clear e0 hld hq
   by_cases hx:x=0
   ·subst hx
    rw [if_pos rfl] at hsn
    have HSN:=Hh hsn
    clear hsn
    go_wp2_with (at_builtin;go_loud (refine wpl_pair rfl _ _ 30 rfl w.heap.size 3 Tryz.underlying30 intInfo rfl (by decide) (.slice a k c) k _ rfl HPR.out.swap hWs (by omega) (.int .i64 (-1)) rfl rfl rfl ?_;intro g' cap' w5 hp5 hb5))
    have HP5:=Hh hp5.swap
    have HB5:=Hh (hW.trans hb5)
    clear hp5 hb5
    go_roundw
    case rel=>exact ⟨k+1,q,some ⟨g',0,none⟩,fa,cap',fc,xs,by omega,by go_num,by rw [HSN.out],rfl,rfl,by rw [HSN.out,List.map_append];exact HP5,HB5.out⟩
    case measure=>simp [intOf];omega
   ·have hx0:(x == 0)=false:=by rw [beq_eq_false_iff_ne];exact hx
    rw [if_neg hx] at hsn
    obtain ⟨hc0,hc1⟩:=choiceI_bd HU.out k
    have hm0:=Int.emod_nonneg (choiceI p k) (show ((q:Int)+1)≠0 by omega)
    have hm1:=Int.emod_lt_of_pos (choiceI p k) (show 0 < ((q:Int)+1) by omega)
    have htm:(choiceI p k).tmod ((q:Int)+1)=choiceI p k % ((q:Int)+1):=Int.tmod_eq_emod_of_nonneg hc0
    have HCH:Hid (∀ w',Below w.heap.size w w'→Calls Tryz.prog 65 #[.slice ka p.length kc,.int .i64 k] w' fun e w2=>e=.returned (.int .i64 (choiceI p k))∧w2=w'):=fun w' h=>choice_at (HU.out.below h) rfl k rfl
    generalize choiceI p k=cv at hc0 hc1 hm0 hm1 htm hsn HCH
    have hw1:IntKind.i64.wrap ((q:Int)+1)=(q:Int)+1:=wrapI (by omega) (by omega)
    have hw2:IntKind.i64.wrap (cv % ((q:Int)+1))=cv % ((q:Int)+1):=wrapI (by omega) (by omega)
    have hnz:((q:Int)+1 == 0)=false:=by rw [beq_eq_false_iff_ne];omega
    have hnz2:¬ ((q:Int)+1=0):=by omega
    by_cases hcq:cv % ((q:Int)+1)=(q:Int)
    ·have hcq1:(cv % ((q:Int)+1) == (q:Int))=true:=by rw [beq_iff_eq];exact hcq
     rw [if_pos hcq] at hsn
     have HSN:=Hh hsn
     have HCQ:=Hh hcq
     clear hsn hcq hx
     go_wp2_with (first
      | (go_at_call 65;(with_reducible refine (HCH.out _ (by assumption)).mono ?_);rintro e w1 ⟨rfl,rfl⟩)
      | (at_builtin;go_loud (refine wpl_pair rfl _ _ 30 rfl w.heap.size 3 Tryz.underlying30 intInfo rfl (by decide) (.slice fa q fc) q xs rfl HPR.out hWs (by omega) (.int .i64 (cv % ((q:Int)+1))) rfl rfl rfl ?_;intro g1 cap1 w5 hp9 hb5;have HP5:=Hh hp9;have HP5s:=hb5.size;clear hp9))
      | (at_builtin;go_loud (refine wpl_pair rfl _ _ 30 rfl w.heap.size 3 Tryz.underlying30 intInfo rfl (by decide) (.slice a k c) k _ rfl HP5.out.swap (by omega) (by omega) (.int .i64 (cv % ((q:Int)+1))) rfl rfl rfl ?_;intro g2 cap2 w6 hp9 hb6;have HP6:=Hh hp9;have HP6s:=hb6.size;clear hp9)))
     have HB6:=Hh ((hW.trans hb5).trans hb6)
     clear hb5 hb6
     go_roundw
     case rel=>exact ⟨k+1,q+1,some ⟨g2,0,none⟩,some ⟨g1,0,none⟩,cap2,cap1,_,by omega,by go_num,by rw [HSN.out],rfl,rfl,by rw [HSN.out,List.map_append];exact HP6.out.swap,HB6.out⟩
     case measure=>simp [intOf];omega
    ·have hcq1:(cv % ((q:Int)+1) == (q:Int))=false:=by rw [beq_eq_false_iff_ne];exact hcq
     rw [if_neg hcq] at hsn
     have HSN:=Hh hsn
     have HCQ:=Hh hcq
     clear hsn hcq hx
     go_wp2_with (first
      | (go_at_call 65;(with_reducible refine (HCH.out _ (by assumption)).mono ?_);rintro e w1 ⟨rfl,rfl⟩)
      | (at_builtin;go_loud (refine wpl_pair rfl _ _ 30 rfl w.heap.size 3 Tryz.underlying30 intInfo rfl (by decide) (.slice a k c) k _ rfl HPR.out.swap hWs (by omega) (.int .i64 (cv % ((q:Int)+1))) rfl rfl rfl ?_;intro g2 cap2 w6 hp9 hb6;have HP6:=Hh hp9;have HP6s:=hb6.size;clear hp9)))
     have HB6:=Hh (hW.trans hb6)
     clear hb6
     go_roundw
     case rel=>exact ⟨k+1,q,some ⟨g2,0,none⟩,fa,cap2,fc,xs,by omega,by go_num,by rw [HSN.out],rfl,rfl,by rw [HSN.out,List.map_append];exact HP6.out.swap,HB6.out⟩
     case measure=>simp [intOf];omega
  ·obtain rfl:k=l.length:=by omega
   obtain ⟨hc0,hc1⟩:=choiceI_bd HU.out l.length
   have htm:(choiceI p l.length).tmod 2=choiceI p l.length % 2:=Int.tmod_eq_emod_of_nonneg hc0
   have HCH:Hid (∀ w',Below w.heap.size w w'→Calls Tryz.prog 65 #[.slice ka p.length kc,.int .i64 (l.length:Int)] w' fun e w2=>e=.returned (.int .i64 (choiceI p l.length))∧w2=w'):=fun w' h=>choice_at (HU.out.below h) rfl l.length rfl
   have hpv:=planGo_v p l l.length
   have hpp:planP p l=if choiceI p l.length % 2=1 then (planGo p l l.length).1.map (turnK q) else (planGo p l l.length).1:=by rw [hq];rfl
   have hbd:∀ x∈(planGo p l l.length).1,-1≤x∧x < (q:Int):=fun x hx=>by
    obtain ⟨i,hi,rfl⟩:=List.mem_iff_getElem.1 hx
    obtain ⟨h5,h6⟩:=hpv.at' i hi
    rw [← hq] at h6
    by_cases hz:l.getD i 0=0
    ·rw [h5 hz];omega
    ·have:=h6 hz;omega
   have hol:=hpv.len
   have HROW:=Hh HPR.out.o1
   generalize (planGo p l l.length).1=out at HROW hpp hbd hol
   generalize choiceI p l.length=cv at hc0 hc1 htm HCH hpp
   have hm0:=Int.emod_nonneg cv (show (2:Int)≠0 by omega)
   have hm1:=Int.emod_lt_of_pos cv (show (0:Int) < 2 by omega)
   have hw2:IntKind.i64.wrap (cv % 2)=cv % 2:=wrapI (by omega) (by omega)
   have HPP:=Hh hpp
   have HBD:=Hh hbd
   have HOL:=Hh hol
   clear hq hpv hpp hbd hol HPR
   by_cases h2:cv % 2=1
   ·have h21:(cv % 2 == 1)=true:=by rw [beq_iff_eq];exact h2
    have HPP2:=Hh (HPP.out.trans (if_pos h2))
    clear h2
    go_wp2_with (go_at_call 65;(with_reducible refine (HCH.out _ (by assumption)).mono ?_);rintro e w1 ⟨rfl,rfl⟩)
    go_loopw [9] (fun i wr=>∃ k:Nat,k≤l.length∧i=.int .i64 k∧wr.ownsRow w.heap.size 3 1 (.slice a l.length c) l.length ((mapTo (turnK q) k out).map (Value.int .i64))∧Below w.heap.size w wr) (fun i _=>l.length - (intOf i).toNat)
    case atStart=>exact ⟨0,Nat.zero_le _,rfl,by simpa [mapTo] using HROW.out,hW⟩
    case round =>
     obtain ⟨k,hk,rfl,hrow,hW⟩:=hrel
     by_cases hlt:k < l.length
     ·have hko:k < out.length:=by rw [HOL.out];exact hlt
      obtain ⟨g,rfl,hg,hgl,hc0⟩:=row_cell hrow k (by rw [List.length_map,mapTo_length];exact hko)
      rw [mapTo_at _ out k hko] at hc0
      have hfr:=row_free hrow k
      have hset:=ownsRow_put hrow (k:=k) (.int .i64 (turnK q out[k]))
      rw [mapTo_set _ out k hko] at hset
      have hbx:=HBD.out _ (List.getElem_mem hko)
      by_cases hx:0≤out[k]
      ·have HSET:=Hh hset
       have htu:turnK q out[k]=(q:Int) - 1 - out[k]:=by unfold turnK;rw [if_pos hx]
       rw [htu] at HSET
       generalize out[k]=x at hc0 hbx HSET hx
       have hge:decide ((0:Int)≤x)=true:=by simp [hx]
       have hwa:IntKind.i64.wrap ((q:Int) - 1)=(q:Int) - 1:=wrapI (by omega) (by omega)
       have hwb:IntKind.i64.wrap ((q:Int) - 1 - x)=(q:Int) - 1 - x:=wrapI (by omega) (by omega)
       clear hset hrow htu
       go_wp2
       go_roundw
       case rel=>exact ⟨k+1,by omega,by go_num,HSET.out,by refine Below.setCell hW ?_ _;exact hg⟩
       case measure=>simp [intOf];omega
      ·have hsame:=mapTo_same (turnK q) out k hko (by unfold turnK;rw [if_neg hx])
       rw [← hsame] at hrow
       have HR:=Hh hrow
       generalize out[k]=x at hc0 hx
       have hge:decide ((0:Int)≤x)=false:=by simp [hx]
       clear hset hrow hsame
       go_wp2
       go_roundw
       case rel=>exact ⟨k+1,by omega,by go_num,HR.out,hW⟩
       case measure=>simp [intOf];omega
     ·obtain rfl:k=l.length:=by omega
      have e:mapTo (turnK q) l.length out=planP p l:=by rw [HPP2.out];unfold mapTo;rw [← HOL.out];simp
      rw [e] at hrow
      have HR:=Hh hrow
      clear hrow e
      go_wp2
      go_ret
      exact ⟨a,c,by rw [planP_len];rfl,ints_of_row (show wr.ownsRow w.heap.size 3 1 (.slice a (planP p l).length c) (planP p l).length ((planP p l).map (Value.int .i64)) by rw [planP_len];exact HR.out),hW⟩
   ·have h21:(cv % 2 == 1)=false:=by rw [beq_eq_false_iff_ne];exact h2
    have HPP2:=Hh (HPP.out.trans (if_neg h2))
    clear h2
    go_wp2_with (go_at_call 65;(with_reducible refine (HCH.out _ (by assumption)).mono ?_);rintro e w1 ⟨rfl,rfl⟩)
    go_ret
    exact ⟨a,c,by rw [planP_len];rfl,ints_of_row (show World.ownsRow _ w.heap.size 3 1 (.slice a (planP p l).length c) (planP p l).length ((planP p l).map (Value.int .i64)) by rw [planP_len,HPP2.out];exact HROW.out),hW⟩
end
section
variable {w:World} {la pa:Option Addr} {lc pc n m:Nat} {loads plan o:List Int}
theorem fit_parts {n:Nat} {k x:Int} (h:fitP n (k,x)):decide (k < -1)=false∧decide ((n:Int)≤k)=false∧(!(decide (k < 0) == (x == 0)))=false:=by
 unfold fitP at h
 simp only at h
 refine ⟨by rw [decide_eq_false_iff_not];omega,by rw [decide_eq_false_iff_not];omega,?_⟩
 by_cases hx:x=0
 ·have:k=-1:=by omega
  simp [hx,this]
 ·have:¬ k < 0:=by omega
  simp [hx,this]
theorem tapesOf_at (hL:IntsAt w la loads) (hP:IntsAt w pa plan) (hn:n=loads.length) (hm:m=plan.length) (hl:loads.length=plan.length) (hpl:plan.length≤1000) (ho:planOk loads plan=some o) :
 Calls Tryz.prog 34 #[.slice la n lc,.slice pa m pc] w fun e w'=>e=.returned (.int .i64 o.length)∧Below w.heap.size w w':=by
 subst hn hm
 obtain ⟨hf,ho1,ho2,_,_⟩:=planOk_inv hl ho
 have HF:=Hh hf
 have HO2:=Hh ho2
 have HO1:=Hh ho1
 have HL:=Hh hL
 have HP:=Hh hP
 have hlb:∀ k,k≤plan.length→-1≤mostL (-1) (plan.take k)∧mostL (-1) (plan.take k)≤(plan.length:Int):=fun k hk=>by
  refine ⟨mostL_le _ _,?_⟩
  rcases mostL_in (-1) (plan.take k) with h | h
  ·omega
  ·have hx:=List.mem_of_mem_take h
   obtain ⟨i,hi,e⟩:=List.mem_iff_getElem.1 hx
   have hz:(plan[i],loads[i]'(by omega))∈plan.zip loads:=List.mem_iff_getElem.2 ⟨i,by rw [List.length_zip];omega,by simp⟩
   have:=hf _ hz
   unfold fitP at this
   simp only at this
   omega
 have HLB:=Hh hlb
 have HLN:=Hh hl
 clear hL hP hf ho ho1 ho2 hlb hl
 go_enter Tryz.func34,Tryz.ntmps34
 go_wp2
 go_loopw [5,6] (fun v i wr=>∃ k:Nat,k≤plan.length∧i=.int .i64 k∧v=.int .i64 (mostL (-1) (plan.take k))∧Below w.heap.size w wr) (fun _ i _=>plan.length - (intOf i).toNat)
 case atStart=>exact ⟨0,Nat.zero_le _,rfl,rfl,Below.refl _ _⟩
 case round =>
  obtain ⟨k,hk,rfl,rfl,hW⟩:=hrel
  have hWs:=hW.size
  by_cases hlt:k < plan.length
  ·have hlt2:k < loads.length:=by rw [HLN.out];exact hlt
   obtain ⟨lb,lo,rfl,hlb,e0⟩:=HL.out k hlt2
   obtain ⟨pb,po,rfl,hpb,f0⟩:=HP.out k hlt
   have d0:=(hW.cell hlb).trans e0
   have d1:=(hW.cell hpb).trans f0
   have hlb2:lb < wr.heap.size:=Nat.lt_of_lt_of_le hlb hWs
   have hpb2:pb < wr.heap.size:=Nat.lt_of_lt_of_le hpb hWs
   have hz:(plan[k],loads[k])∈plan.zip loads:=List.mem_iff_getElem.2 ⟨k,by rw [List.length_zip,HLN.out,Nat.min_self];exact hlt,by simp⟩
   obtain ⟨q1,q2,q3⟩:=fit_parts (HF.out _ hz)
   have hsn:mostL (-1) (plan.take (k+1))=max (mostL (-1) (plan.take k)) plan[k]:=by rw [List.take_succ_eq_append_getElem hlt,mostL_snoc]
   generalize loads[k]=x at d0 q3 e0
   generalize plan[k]=y at d1 q1 q2 q3 hsn f0
   have HSN:=Hh hsn
   clear e0 f0 hsn hz
   generalize mostL (-1) (plan.take k)=z at HSN
   go_wp2
   go_quiet (fail)
   go_wp2
   go_roundw
   case rel=>exact ⟨k+1,by omega,by go_num,by rw [HSN.out],bel⟩
   case measure=>simp [intOf];omega
  ·obtain rfl:k=plan.length:=by omega
   have hbd:=HLB.out plan.length (Nat.le_refl _)
   rw [List.take_length] at hbd ⊢
   have ho1:=HO1.out
   generalize mostL (-1) plan=z at hbd ho1
   go_wp2
   go_loopw [7] (fun i wr=>∃ k:Nat,(k:Int)≤z+1∧i=.int .i64 k∧Below w.heap.size w wr) (fun i _=>(z+1 - intOf i).toNat)
   case atStart=>exact ⟨0,by omega,rfl,hW⟩
   case round =>
    obtain ⟨k,hk,rfl,hW⟩:=hrel
    have hWs:=hW.size
    by_cases hlt:(k:Int)≤z
    ·have hin:=Hh (show decide ((k:Int)∈plan)=true by rw [decide_eq_true_iff];exact HO2.out k (by omega))
     go_wp2_with (go_at_call 61;(with_reducible refine (hasNum_at (HP.out.below hW) rfl (by omega) hin.out).mono ?_);rintro e w1 ⟨rfl,rfl⟩)
     go_roundw
     case rel=>exact ⟨k+1,by omega,by go_num,hW⟩
     case measure=>simp [intOf];omega
    ·have hkz:(k:Int)=z+1:=by omega
     have hw:IntKind.i64.wrap (z+1)=(o.length:Int):=by rw [wrapI (by omega) (by omega)];omega
     go_wp2
     go_ret
     exact ⟨rfl,hW⟩
end
end Go.Proofs.YtgemjjdkjmpmlaaGreatDoor
namespace Go.Proofs.YtgemjjdkjmpmlaaGreatDoor
open Go.RowKit Go.Maps Sp Mt Go.Conc
section
variable {w w1:World} {B n:Nat} {b:Bk} {vr vg vm vs vc:Value} {ka:Option Addr} {ks:List Int}
structure PkSt (w:World) (B:Nat) (b:Bk) (vr vg vm vs vc:Value):Prop where
 c0:w.cell? ⟨B,0,none⟩=some vr
 c1:w.cell? ⟨B,1,none⟩=some vg
 c2:w.cell? ⟨B,2,none⟩=some vm
 c3:w.cell? ⟨B,3,none⟩=some vs
 c4:w.cell? ⟨B,4,none⟩=some vc
 bk:BookAt w b vr vg vm vs vc
 kd:KindsAt w
theorem PkSt.of {l:List Int} {la:Option Addr} (h:LawAt w B b l vr vg vm vs vc la) (hs:SmallB b):PkSt w B b vr vg vm vs vc:=⟨h.c0,h.c1,h.c2,h.c3,h.c4,h.raw.book hs,h.kd⟩
theorem PkSt.old (h:PkSt w B b vr vg vm vs vc) (t:Old w w1):PkSt w1 B b vr vg vm vs vc:=⟨t.cell2 h.c0,t.cell2 h.c1,t.cell2 h.c2,t.cell2 h.c3,t.cell2 h.c4,t.book h.bk,t.kinds h.kd⟩
theorem PkSt.twin (h:PkSt w B b vr vg vm vs vc) (t:Twin n w w1):PkSt w1 B b vr vg vm vs vc:=⟨(t.cell _).trans h.c0,(t.cell _).trans h.c1,(t.cell _).trans h.c2,(t.cell _).trans h.c3,(t.cell _).trans h.c4,t.book h.bk,t.kinds h.kd⟩
theorem U16sAt.tw (h:U16sAt w ka ks) (t:Twin n w w1):U16sAt w1 ka ks:=fun i hi=>by
 obtain ⟨b,o,e,hlt,h1,h2⟩:=h i hi
 exact ⟨b,o,e,by rw [t.size];exact hlt,(t.cell _).trans h1,h2⟩
theorem U16sAt.ol (h:U16sAt w ka ks) (t:Old w w1):U16sAt w1 ka ks:=fun i hi=>by
 obtain ⟨b,o,e,hlt,h1,h2⟩:=h i hi
 exact ⟨b,o,e,Nat.lt_of_lt_of_le hlt t.size,t.cell2 h1,h2⟩
theorem stored_lead2 {w':World} (hK:KindsAt w) (t:Twin 0 w w') (c:Frame) (cs:List Frame):Leads Tryz.prog (fun fr' cs' w1=>∃ v,fr'=c.finish v∧cs'=cs∧v=.bool true∧Old w w1) (Frame.enter Tryz.prog 14 #[] .normal) (c::cs) w':=by
 refine (stored_co (t.kinds hK) c cs).mono ?_
 rintro fr' cs' w2 ⟨h1,h2,ho⟩
 exact ⟨_,h1,h2,rfl,t.old0 ho⟩
theorem timed_zero {now:Int} (h0:0≤now) (h1:now≤999):timedAsk now=0:=by unfold timedAsk inB;rw [if_pos (by simp;omega)]
theorem plan_asked {b:Bk} {plan:List Int} {now:Int} (hu:openAl b 0=0) (hl:plan.length=b.ms.length) (h0:0≤now) (h1:now≤999):openAl b (planAsk b.ms.length plan.length now)=0:=by
 have:planAsk b.ms.length plan.length now=0:=by unfold planAsk;rw [timed_zero h0 h1];simp [hl]
 rw [this];exact hu
theorem loadsI_nn {b:Bk} (h:bookAl b=0):∀ x∈loadsI b,0≤x:=fun x hx=>(loadsI_bd h x hx).1
theorem openAl_two {b:Bk} (h:bookAl b=0):openAl b 0=0∨openAl b 0=10:=by
 unfold openAl
 rw [if_neg (by simp [h]),if_neg (by simp)]
 split
 ·exact .inr rfl
 ·exact .inl rfl
end
variable {B lc oc kc ln mn xc yc en:Nat} {b:Bk} {s s2 t v u lt:Int} {fd is was sm:Bool} {vr vg vm vs vc x:Value} {w w0:World} {la oa ka xa ya:Option Addr} {ks ot o:List Int} {l:List Prt} {d:Nat→Value}
noncomputable def er (k:Nat):Code:=sql (sqN k (Tryz.f9.body.getD .skip))
theorem erBody_eq:Tryz.f9.body=some (.seq (er 0) (.seq (er 1) (.seq (er 2) (.seq (er 3) (.seq (er 4) (.seq (er 5) (.seq (er 6) (.seq (er 7) (.seq (er 8) (.seq (er 9) (.seq (er 10) (.seq (er 11) (.seq (er 12) (.seq (er 13) (.seq (er 14) (.seq (er 15) (.seq (er 16) .ret))))))))))))))))):=by kernel_rfl
theorem er1_eq:er 1=.seq (sql (er 1)) (.cond (.tmp 31) (cnd (sqr (er 1))) .skip):=by kernel_rfl
theorem er5_eq:er 5=.seq (sql (er 5)) (.cond (.tmp 49) (cnd (sqr (er 5))) .skip):=by kernel_rfl
def eI (x0 x1 x2 x3:Value) (d:Nat→Value):Act:={ tmps:=#[x0,x1,x2,x3,d 4,d 5,d 6,d 7,d 8,d 9,d 10,d 11,d 12,d 13,d 14,d 15,d 16,d 17,d 18,d 19,d 20,d 21,d 22,d 23,d 24,d 25,d 26,d 27,d 28,d 29,d 30,d 31,d 32,d 33,d 34,d 35,d 36,d 37,d 38,d 39,d 40,d 41,d 42,d 43,d 44,d 45,d 46,d 47,d 48,d 49,d 50,d 51,d 52,d 53,d 54,d 55,d 56,d 57,d 58,d 59,d 60,d 61,d 62,d 63,d 64,d 65,d 66,d 67,d 68,d 69,d 70,d 71,d 72,d 73,d 74,d 75,d 76,d 77,d 78,d 79,d 80,d 81,d 82,d 83,d 84,d 85,d 86,d 87,d 88,d 89,d 90,d 91,d 92,d 93,d 94,d 95,d 96,d 97,d 98,d 99,d 100,d 101,d 102,d 103,d 104,d 105,d 106,d 107,d 108,d 109,d 110,d 111,d 112,d 113,d 114,d 115,d 116,d 117,d 118,d 119,d 120,d 121,d 122,d 123,d 124,d 125,d 126,d 127,d 128,d 129,d 130,d 131,d 132,d 133,d 134,d 135,d 136,d 137,d 138,d 139,d 140,d 141,d 142,d 143,d 144,d 145,d 146,d 147,d 148,d 149,d 150,d 151,d 152,d 153,d 154,d 155,d 156,d 157,d 158,d 159,d 160,d 161,d 162,d 163,d 164,d 165,d 166,d 167,d 168,d 169,d 170,d 171,d 172,d 173,d 174,d 175,d 176,d 177,d 178,d 179,d 180],defers:=[] }
def eG (B:Nat) (s s2:Int) (ka:Option Addr) (ks:List Int) (kc:Nat) (x:Value) (d:Nat→Value):Act:={ tmps:=#[d 0,.slice ka ks.length kc,.int .u16 s,.int .u16 s2,.pointer (some ⟨B,0,none⟩),d 5,d 6,d 7,.bool false,d 9,d 10,d 11,d 12,d 13,d 14,d 15,d 16,d 17,d 18,d 19,d 20,d 21,d 22,d 23,d 24,d 25,d 26,d 27,d 28,d 29,d 30,x,d 32,d 33,d 34,d 35,d 36,d 37,d 38,d 39,d 40,d 41,d 42,d 43,d 44,d 45,d 46,d 47,d 48,d 49,d 50,d 51,d 52,d 53,d 54,d 55,d 56,d 57,d 58,d 59,d 60,d 61,d 62,d 63,d 64,d 65,d 66,d 67,d 68,d 69,d 70,d 71,d 72,d 73,d 74,d 75,d 76,d 77,d 78,d 79,d 80,d 81,d 82,d 83,d 84,d 85,d 86,d 87,d 88,d 89,d 90,d 91,d 92,d 93,d 94,d 95,d 96,d 97,d 98,d 99,d 100,d 101,d 102,d 103,d 104,d 105,d 106,d 107,d 108,d 109,d 110,d 111,d 112,d 113,d 114,d 115,d 116,d 117,d 118,d 119,d 120,d 121,d 122,d 123,d 124,d 125,d 126,d 127,d 128,d 129,d 130,d 131,d 132,d 133,d 134,d 135,d 136,d 137,d 138,d 139,d 140,d 141,d 142,d 143,d 144,d 145,d 146,d 147,d 148,d 149,d 150,d 151,d 152,d 153,d 154,d 155,d 156,d 157,d 158,d 159,d 160,d 161,d 162,d 163,d 164,d 165,d 166,d 167,d 168,d 169,d 170,d 171,d 172,d 173,d 174,d 175,d 176,d 177,d 178,d 179,d 180],defers:=[] }
def eA (B:Nat) (ka:Option Addr) (ks:List Int) (kc:Nat) (t v:Int) (la:Option Addr) (ln lc:Nat) (u:Int) (d:Nat→Value):Act:={ tmps:=#[d 0,.slice ka ks.length kc,d 2,d 3,.pointer (some ⟨B,0,none⟩),d 5,d 6,d 7,d 8,.int .i64 t,.int .i64 v,.slice la ln lc,.int .i64 u,d 13,d 14,d 15,d 16,d 17,d 18,d 19,d 20,d 21,d 22,d 23,d 24,d 25,d 26,d 27,d 28,d 29,d 30,d 31,d 32,d 33,d 34,d 35,d 36,d 37,d 38,d 39,d 40,d 41,d 42,d 43,d 44,d 45,d 46,d 47,d 48,d 49,d 50,d 51,d 52,d 53,d 54,d 55,d 56,d 57,d 58,d 59,d 60,d 61,d 62,d 63,d 64,d 65,d 66,d 67,d 68,d 69,d 70,d 71,d 72,d 73,d 74,d 75,d 76,d 77,d 78,d 79,d 80,d 81,d 82,d 83,d 84,d 85,d 86,d 87,d 88,d 89,d 90,d 91,d 92,d 93,d 94,d 95,d 96,d 97,d 98,d 99,d 100,d 101,d 102,d 103,d 104,d 105,d 106,d 107,d 108,d 109,d 110,d 111,d 112,d 113,d 114,d 115,d 116,d 117,d 118,d 119,d 120,d 121,d 122,d 123,d 124,d 125,d 126,d 127,d 128,d 129,d 130,d 131,d 132,d 133,d 134,d 135,d 136,d 137,d 138,d 139,d 140,d 141,d 142,d 143,d 144,d 145,d 146,d 147,d 148,d 149,d 150,d 151,d 152,d 153,d 154,d 155,d 156,d 157,d 158,d 159,d 160,d 161,d 162,d 163,d 164,d 165,d 166,d 167,d 168,d 169,d 170,d 171,d 172,d 173,d 174,d 175,d 176,d 177,d 178,d 179,d 180],defers:=[] }
def eB (B:Nat) (la:Option Addr) (ln lc:Nat) (oa:Option Addr) (mn oc:Nat) (v:Int) (xa:Option Addr) (en xc:Nat) (ya:Option Addr) (yc:Nat) (t:Int) (is was fd:Bool) (lt:Int) (sm:Bool) (d:Nat→Value):Act:={ tmps:=#[d 0,d 1,d 2,d 3,.pointer (some ⟨B,0,none⟩),d 5,d 6,d 7,d 8,.int .i64 t,.int .i64 v,.slice la ln lc,d 12,.slice oa mn oc,.slice xa en xc,.int .i64 0,.slice ya en yc,.int .i64 0,.bool is,.int .i64 0,.bool was,.int .i64 0,d 22,.bool fd,.int .i64 0,.int .i64 lt,.bool sm,.int .i64 0,d 28,d 29,d 30,d 31,d 32,d 33,d 34,d 35,d 36,d 37,d 38,d 39,d 40,d 41,d 42,d 43,d 44,d 45,d 46,d 47,d 48,d 49,d 50,d 51,d 52,d 53,d 54,d 55,d 56,d 57,d 58,d 59,d 60,d 61,d 62,d 63,d 64,d 65,d 66,d 67,d 68,d 69,d 70,d 71,d 72,d 73,d 74,d 75,d 76,d 77,d 78,d 79,d 80,d 81,d 82,d 83,d 84,d 85,d 86,d 87,d 88,d 89,d 90,d 91,d 92,d 93,d 94,d 95,d 96,d 97,d 98,d 99,d 100,d 101,d 102,d 103,d 104,d 105,d 106,d 107,d 108,d 109,d 110,d 111,d 112,d 113,d 114,d 115,d 116,d 117,d 118,d 119,d 120,d 121,d 122,d 123,d 124,d 125,d 126,d 127,d 128,d 129,d 130,d 131,d 132,d 133,d 134,d 135,d 136,d 137,d 138,d 139,d 140,d 141,d 142,d 143,d 144,d 145,d 146,d 147,d 148,d 149,d 150,d 151,d 152,d 153,d 154,d 155,d 156,d 157,d 158,d 159,d 160,d 161,d 162,d 163,d 164,d 165,d 166,d 167,d 168,d 169,d 170,d 171,d 172,d 173,d 174,d 175,d 176,d 177,d 178,d 179,d 180],defers:=[] }
def eC (v:Int) (xa:Option Addr) (en xc:Nat) (ya:Option Addr) (yc:Nat) (t:Int) (is was fd:Bool) (lt:Int) (sm:Bool) (d:Nat→Value):Act:={ tmps:=#[d 0,d 1,d 2,d 3,d 4,d 5,d 6,d 7,d 8,.int .i64 t,.int .i64 v,d 11,d 12,d 13,.slice xa en xc,d 15,.slice ya en yc,d 17,.bool is,d 19,.bool was,d 21,d 22,.bool fd,d 24,.int .i64 lt,.bool sm,d 27,d 28,d 29,d 30,d 31,d 32,d 33,d 34,d 35,d 36,d 37,d 38,d 39,d 40,d 41,d 42,d 43,d 44,d 45,d 46,d 47,d 48,d 49,d 50,d 51,d 52,d 53,d 54,d 55,d 56,d 57,d 58,d 59,d 60,d 61,d 62,d 63,d 64,d 65,d 66,d 67,d 68,d 69,d 70,d 71,d 72,d 73,d 74,d 75,d 76,d 77,d 78,d 79,d 80,d 81,d 82,d 83,d 84,d 85,d 86,d 87,d 88,d 89,d 90,d 91,d 92,d 93,d 94,d 95,d 96,d 97,d 98,d 99,d 100,d 101,d 102,d 103,d 104,d 105,d 106,d 107,d 108,d 109,d 110,d 111,d 112,d 113,d 114,d 115,d 116,d 117,d 118,d 119,d 120,d 121,d 122,d 123,d 124,d 125,d 126,d 127,d 128,d 129,d 130,d 131,d 132,d 133,d 134,d 135,d 136,d 137,d 138,d 139,d 140,d 141,d 142,d 143,d 144,d 145,d 146,d 147,d 148,d 149,d 150,d 151,d 152,d 153,d 154,d 155,d 156,d 157,d 158,d 159,d 160,d 161,d 162,d 163,d 164,d 165,d 166,d 167,d 168,d 169,d 170,d 171,d 172,d 173,d 174,d 175,d 176,d 177,d 178,d 179,d 180],defers:=[] }
def eD (t:Int) (is was fd:Bool) (lt:Int) (sm:Bool) (d:Nat→Value):Act:={ tmps:=#[d 0,d 1,d 2,d 3,d 4,d 5,d 6,d 7,d 8,.int .i64 t,d 10,d 11,d 12,d 13,d 14,d 15,d 16,d 17,.bool is,d 19,.bool was,d 21,d 22,.bool fd,d 24,.int .i64 lt,.bool sm,d 27,d 28,d 29,d 30,d 31,d 32,d 33,d 34,d 35,d 36,d 37,d 38,d 39,d 40,d 41,d 42,d 43,d 44,d 45,d 46,d 47,d 48,d 49,d 50,d 51,d 52,d 53,d 54,d 55,d 56,d 57,d 58,d 59,d 60,d 61,d 62,d 63,d 64,d 65,d 66,d 67,d 68,d 69,d 70,d 71,d 72,d 73,d 74,d 75,d 76,d 77,d 78,d 79,d 80,d 81,d 82,d 83,d 84,d 85,d 86,d 87,d 88,d 89,d 90,d 91,d 92,d 93,d 94,d 95,d 96,d 97,d 98,d 99,d 100,d 101,d 102,d 103,d 104,d 105,d 106,d 107,d 108,d 109,d 110,d 111,d 112,d 113,d 114,d 115,d 116,d 117,d 118,d 119,d 120,d 121,d 122,d 123,d 124,d 125,d 126,d 127,d 128,d 129,d 130,d 131,d 132,d 133,d 134,d 135,d 136,d 137,d 138,d 139,d 140,d 141,d 142,d 143,d 144,d 145,d 146,d 147,d 148,d 149,d 150,d 151,d 152,d 153,d 154,d 155,d 156,d 157,d 158,d 159,d 160,d 161,d 162,d 163,d 164,d 165,d 166,d 167,d 168,d 169,d 170,d 171,d 172,d 173,d 174,d 175,d 176,d 177,d 178,d 179,d 180],defers:=[] }
def EZ0 (b:Bk) (s s2:Int) (vr vg vm vs vc:Value) (ka:Option Addr) (ks:List Int) (kc:Nat) (a':Act) (w2:World):Prop:=∃ B x,(∃ d,a'=eG B s s2 ka ks kc x d)∧LawAt w2 B b [] vr vg vm vs vc none
theorem er_0 (hR:RawAt w b vr vg vm vs vc) (hK:KindsAt w):(er 0).wp Tryz.prog (PZ w (EZ0 b s s2 vr vg vm vs vc ka ks kc)) (eI (.agg #[vr,vg,vm,vs,vc]) (.slice ka ks.length kc) (.int .u16 s) (.int .u16 s2) d) w:=by
 simp only [er,sqN,sql,sqr,cnd,blk,lpc,Tryz.f9,Option.getD_some,eI]
 have HR:=Hh hR
 have HK:=Hh hK
 clear hR hK
 go_wp2
 have hbw:Below w.heap.size w (w.alloc (.cells #[vr,vg,vm,vs,vc] 26)):=bel
 refine ⟨rfl,⟨w.heap.size,d 31,fr_of (by kernel_rfl),⟨?_,?_,?_,?_,?_,HR.out.below hbw,HK.out.below hbw,ints_nil⟩⟩,hbw⟩ <;> (rw [World.cell?_alloc_at _ _ _ _ rfl];rfl)
def EZ1 (B:Nat) (s s2:Int) (ka:Option Addr) (ks:List Int) (kc:Nat) (x:Bool) (a':Act) (w2:World):Prop:=∃ d,a'=eG B s s2 ka ks kc (.bool x) d
theorem er_1 {y:Bool} (hE:LawAt w B b [] vr vg vm vs vc none) (hx:y=true↔¬ (SmallB b∧bookAl b=0)):(sql (er 1)).wp Tryz.prog (PZ w (EZ1 B s s2 ka ks kc y)) (eG B s s2 ka ks kc x d) w:=by
 simp only [er,sqN,sql,sqr,cnd,blk,lpc,Tryz.f9,Option.getD_some,eG]
 have hrw:=hE.raw
 obtain ⟨x0,x1,x2,x3,x4,_,_,_⟩:=hE
 have HRW:=Hh hrw
 have hB0:=lt_of_cell x0
 simp only at hB0
 by_cases hs:SmallB b∧bookAl b=0
 ·have HG:=Hh (show (true=true↔SmallB b∧bookAl b=0) by simp [hs])
  obtain rfl:y=false:=by
   cases y with
   | false=>rfl
   | true=>exact absurd hs (hx.1 rfl)
  clear hs hx hrw
  go_wp2_with (go_at_call 13;(with_reducible refine (fit_at HRW.out HG.out).mono ?_);rintro e w1 ⟨rfl,hb1⟩)
  exact ⟨rfl,fr_of (by kernel_rfl),hb1⟩
 ·have HG:=Hh (show (false=true↔SmallB b∧bookAl b=0) by simp [hs])
  obtain rfl:y=true:=hx.2 fun h=>hs h
  clear hs hx hrw
  go_wp2_with (go_at_call 13;(with_reducible refine (fit_at HRW.out HG.out).mono ?_);rintro e w1 ⟨rfl,hb1⟩)
  exact ⟨rfl,fr_of (by kernel_rfl),hb1⟩
variable {B lc oc kc ln mn xc yc en:Nat} {b:Bk} {s s2 t v u lt:Int} {fd is was sm:Bool} {vr vg vm vs vc x:Value} {w w0:World} {la oa ka xa ya:Option Addr} {ks ot o:List Int} {l:List Prt} {d:Nat→Value}
def EZA (B:Nat) (b:Bk) (vr vg vm vs vc:Value) (ka:Option Addr) (ks:List Int) (kc:Nat) (t v:Int) (l:List Prt) (u:Int) (a':Act) (w2:World):Prop:=∃ la lc,(∃ d,a'=eA B ka ks kc t v la l.length lc u d)∧PkSt w2 B b vr vg vm vs vc∧PartsAt w2 la l
theorem er_A {r:Int} (hE:PkSt w B b vr vg vm vs vc) (hS:SmallB b) (hs0:0≤s) (hs1:s≤65535) (hz0:0≤s2) (hz1:s2≤65535) (ht:s % 1000=t) (ht0:0≤t) (ht1:t≤999) (hr:s2 % (t+1)=r) (hr0:0≤r) (hr1:r≤t) (hmi:miss b=l) (hu:openAl b 0=u) :
 wps Tryz.prog [er 2,er 3,er 4] (fun a' w2=>EZA B b vr vg vm vs vc ka ks kc t (t - r) l u a' w2∧Old w w2) (eG B s s2 ka ks kc x d) w:=by
 unfold eG
 have HNM:=Hh hS.names
 have HMI:=Hh hmi
 have HU:=Hh hu
 have OO0:=Hh (Old.refl w)
 have hwa:IntKind.i64.wrap (t+1)=t+1:=wrapI (by omega) (by omega)
 have hwb:IntKind.i64.wrap (t - r)=t - r:=wrapI (by omega) (by omega)
 have hwc:IntKind.i64.wrap s2=s2:=wrapI (by omega) (by omega)
 have hwd:IntKind.i64.wrap r=r:=wrapI (by omega) (by omega)
 have hnz:(t+1 == 0)=false:=by rw [beq_eq_false_iff_ne];omega
 have hnz2:¬ (t+1=0):=by omega
 have htm:s2.tmod (t+1)=s2 % (t+1):=Int.tmod_eq_emod_of_nonneg hz0
 have E0:=hE
 clear hS hmi hu hE
 refine wps_nq ?_
 obtain ⟨c9,hcc⟩:∃ c,er 2=c:=⟨_,rfl⟩
 rw [hcc]
 simp only [er,sqN,sql,sqr,cnd,blk,lpc,Tryz.f9,Option.getD_some] at hcc
 subst hcc
 have EH:=Hh E0
 clear E0
 go_wp2
 have E0:=EH.out
 clear EH
 refine ⟨rfl,fun X1 t1=>?_⟩
 have o1:=Old.twin0 (Old.refl _) t1
 have E1:=E0.old o1
 have OO1:=Hh (OO0.out.trans o1)
 clear t1 o1 OO0 E0
 refine wps_nq ?_
 obtain ⟨c9,hcc⟩:∃ c,er 3=c:=⟨_,rfl⟩
 rw [hcc]
 simp only [er,sqN,sql,sqr,cnd,blk,lpc,Tryz.f9,Option.getD_some] at hcc
 subst hcc
 have EH:=Hh E1
 clear E1
 go_wp2
 have E1:=EH.out
 clear EH
 refine ⟨rfl,fun X2 t1=>?_⟩
 have o1:=Old.twin0 (Old.refl _) t1
 have E2:=E1.old o1
 have OO2:=Hh (OO1.out.trans o1)
 clear t1 o1 OO1 E1
 refine wps_nq ?_
 obtain ⟨c9,hcc⟩:∃ c,er 4=c:=⟨_,rfl⟩
 rw [hcc]
 simp only [er,sqN,sql,sqr,cnd,blk,lpc,Tryz.f9,Option.getD_some] at hcc
 subst hcc
 obtain ⟨c0,c1,c2,c3,c4,_,_⟩:=id E2
 have HBx:=Hh E2.bk
 have HKx:=Hh E2.kd
 have EE:=Hh E2
 clear E2
 have hB0:=lt_of_cell c0
 simp only at hB0
 go_wp2_with (go_at_call 17;(with_reducible refine (missing2_at HBx.out HNM.out HKx.out HMI.out HU.out).mono ?_);rintro e w1 ⟨qa,qc,rfl,hx1,hb1⟩)
 refine ⟨rfl,fun X3 t1=>?_⟩
 have o1:=Old.twin0 (Old.ofBelow hb1) t1
 have E3:=EE.out.old o1
 have OO3:=Hh (OO2.out.trans o1)
 have LI:=Hh (t1.parts hx1)
 clear c0 c1 c2 c3 c4 HBx HKx EE hB0 t1 o1 hb1 OO2 hx1
 exact ⟨⟨qa,qc,fr_of (by kernel_rfl),E3,LI.out⟩,OO3.out⟩
def EZ5 (B:Nat) (ka:Option Addr) (ks:List Int) (kc:Nat) (t v:Int) (la:Option Addr) (ln lc:Nat) (a':Act) (w2:World):Prop:=a'.tmps[49]? = some (.bool true)∧∃ d,a'=eA B ka ks kc t v la ln lc 10 d
theorem er_5:(sql (er 5)).wp Tryz.prog (PZ w (EZ5 B ka ks kc t v la ln lc)) (eA B ka ks kc t v la ln lc 10 d) w:=by
 simp only [er,sqN,sql,sqr,cnd,blk,lpc,Tryz.f9,Option.getD_some,eA]
 go_wp2
 exact ⟨rfl,⟨rfl,fr_of (by kernel_rfl)⟩,bel⟩
variable {B lc oc kc ln mn xc yc en:Nat} {b:Bk} {s s2 t v u lt:Int} {fd is was sm:Bool} {vr vg vm vs vc x:Value} {w w0:World} {la oa ka xa ya:Option Addr} {ks ot o:List Int} {l:List Prt} {d:Nat→Value}
def EZB (B:Nat) (b:Bk) (vr vg vm vs vc:Value) (l:List Prt) (ot o:List Int) (t v:Int) (is was fd:Bool) (lt:Int) (sm:Bool) (a':Act) (w2:World):Prop:=∃ la lc oa oc xa xc ya yc,(∃ d,a'=eB B la l.length lc oa b.ms.length oc v xa o.length xc ya yc t is was fd lt sm d)∧PkSt w2 B b vr vg vm vs vc∧PartsAt w2 la l∧IntsAt w2 oa ot∧IntsAt w2 xa (endsI b.gap t o)∧IntsAt w2 ya (endsI b.gap v o)
theorem er_B (hE:PkSt w B b vr vg vm vs vc) (hL:PartsAt w la l) (hUs:U16sAt w ka ks) (hS:SmallB b) (hk:bookAl b=0) (hu:openAl b 0=0) (ht0:0≤t) (ht1:t≤999) (hv0:0≤v) (hv1:v≤999) (hmi:missI b=l) (hot:planP ks (loadsI b)=ot) (ho:planOk (loadsI b) ot=some o) (his:goodI b ot o t=is) (hwas:goodI b ot o v=was) (hfd:(packI b (loadsI b) t).isSome=fd) (hlt:(latestI b (loadsI b)).getD 0=lt) (hsm:(latestI b (loadsI b)).isSome=sm) :
 wps Tryz.prog [er 5,er 6,er 7,er 8,er 9,er 10,er 11,er 12,er 13] (fun a' w2=>EZB B b vr vg vm vs vc l ot o t v is was fd lt sm a' w2∧Old w w2) (eA B ka ks kc t v la l.length lc 0 d) w:=by
 unfold eA
 have hml:b.ms.length≤20:=hS.1
 have hll:l.length≤20:=by rw [← hmi];exact missI_bd hk
 have hli:loadsI b=loadsOf b.ms.length l:=by rw [← hmi];rfl
 have hlen:(loadsI b).length=b.ms.length:=loadsI_len b
 have hotl:ot.length=b.ms.length:=by rw [← hot,planP_len,hlen]
 have HNM:=Hh hS.names
 have HGR:=Hh (bookAl_ok hk).1.groups
 have HP:=Hh (show ∀ p∈l,isPart b p=true from fun p hp=>missI_isPart (by rw [hmi];exact hp))
 have HSO:=Hh (show l.Pairwise LexLt by rw [← hmi];exact missI_sorted b)
 have HLI:=Hh hli
 have HLEN:=Hh hlen
 have HOT:=Hh hot
 have HOL:=Hh hotl
 have HO:=Hh ho
 have HIS:=Hh his
 have HWAS:=Hh hwas
 have HFD:=Hh hfd
 have HLT:=Hh hlt
 have HSM:=Hh hsm
 have HU:=Hh hu
 have HPT:=Hh (plan_asked hu hotl ht0 ht1)
 have HPV:=Hh (plan_asked hu hotl hv0 hv1)
 have HTZ:=Hh (show openAl b (timedAsk t)=0 by rw [timed_zero ht0 ht1];exact hu)
 have hnow:0≤t∧t≤999:=⟨ht0,ht1⟩
 have HNOW:=Hh hnow
 have LI:=Hh hL
 have UI:=Hh hUs
 have OO0:=Hh (Old.refl w)
 have E0:=hE
 clear hS hk hu hmi hot ho his hwas hfd hlt hsm hL hUs hli hlen hotl hE hnow
 refine wps_nq ?_
 obtain ⟨c9,hcc⟩:∃ c,er 5=c:=⟨_,rfl⟩
 rw [hcc]
 simp only [er,sqN,sql,sqr,cnd,blk,lpc,Tryz.f9,Option.getD_some] at hcc
 subst hcc
 have EH:=Hh E0
 clear E0
 go_wp2
 have E0:=EH.out
 clear EH
 refine ⟨rfl,fun X1 t1=>?_⟩
 have o1:=Old.twin0 (Old.refl _) t1
 have E1:=E0.old o1
 have OO1:=Hh (OO0.out.trans o1)
 replace LI:=Hh (o1.parts LI.out)
 replace UI:=Hh (UI.out.ol o1)
 clear t1 o1 OO0 E0
 refine wps_nq ?_
 obtain ⟨c9,hcc⟩:∃ c,er 6=c:=⟨_,rfl⟩
 rw [hcc]
 simp only [er,sqN,sql,sqr,cnd,blk,lpc,Tryz.f9,Option.getD_some] at hcc
 subst hcc
 obtain ⟨c0,c1,c2,c3,c4,_,_⟩:=id E1
 have HBx:=Hh E1.bk
 have HKx:=Hh E1.kd
 have EE:=Hh E1
 clear E1
 have hB0:=lt_of_cell c0
 simp only at hB0
 go_wp2_with (go_at_call 18;(with_reducible refine (ordered_at HBx.out HGR.out LI.out rfl (by omega) HP.out HSO.out).mono ?_);rintro e w1 ⟨rfl,hb1⟩)
 refine ⟨rfl,fun X2 t1=>?_⟩
 have o1:=Old.twin0 (Old.ofBelow hb1) t1
 have E2:=EE.out.old o1
 have OO2:=Hh (OO1.out.trans o1)
 replace LI:=Hh (o1.parts LI.out)
 replace UI:=Hh (UI.out.ol o1)
 clear c0 c1 c2 c3 c4 HBx HKx EE hB0 t1 o1 hb1 OO1
 refine wps_nq ?_
 obtain ⟨c9,hcc⟩:∃ c,er 7=c:=⟨_,rfl⟩
 rw [hcc]
 simp only [er,sqN,sql,sqr,cnd,blk,lpc,Tryz.f9,Option.getD_some] at hcc
 subst hcc
 obtain ⟨c0,c1,c2,c3,c4,_,_⟩:=id E2
 have HBx:=Hh E2.bk
 have HKx:=Hh E2.kd
 have EE:=Hh E2
 clear E2
 have hB0:=lt_of_cell c0
 simp only at hB0
 go_wp2_with (first
  | (go_at_call 32;(with_reducible refine (loads_at HBx.out hml LI.out rfl (by omega) HP.out).mono ?_);rintro e wA ⟨na,nc,rfl,hxA,hbA⟩;rw [← HLI.out] at hxA;have hnl:(loadsOf b.ms.length l).length=b.ms.length:=loadsOf_length _ _;have HNL:=Hh hnl;clear hnl;have NI:=Hh hxA;clear hxA;have HBA:=Hh hbA;clear hbA)
  | (go_at_call 33;(with_reducible refine (plan_at NI.out (by rw [HNL.out,HLEN.out]) (by rw [HLEN.out];omega) (UI.out.below HBA.out) rfl).mono ?_);rintro e wB ⟨oa,oc,rfl,hx1,hbB⟩))
 have hb1:=Below.next HBA.out hbB
 rw [HOT.out] at hx1 ⊢
 rw [HOL.out]
 refine ⟨rfl,fun X3 t1=>?_⟩
 have o1:=Old.twin0 (Old.ofBelow hb1) t1
 have E3:=EE.out.old o1
 have OO3:=Hh (OO2.out.trans o1)
 replace LI:=Hh (o1.parts LI.out)
 have OI:=Hh (t1.ints hx1)
 clear c0 c1 c2 c3 c4 HBx HKx EE hB0 t1 o1 hb1 OO2 hx1 hbB HBA NI HNL
 refine wps_nq ?_
 obtain ⟨c9,hcc⟩:∃ c,er 8=c:=⟨_,rfl⟩
 rw [hcc]
 simp only [er,sqN,sql,sqr,cnd,blk,lpc,Tryz.f9,Option.getD_some] at hcc
 subst hcc
 obtain ⟨c0,c1,c2,c3,c4,_,_⟩:=id E3
 have HBx:=Hh E3.bk
 have HKx:=Hh E3.kd
 have EE:=Hh E3
 clear E3
 have hB0:=lt_of_cell c0
 simp only at hB0
 go_wp2_with (go_at_call 35;(with_reducible refine (times_ok HBx.out HNM.out HKx.out HOL.out.symm OI.out t HPT.out HO.out).mono ?_);rintro e w1 ⟨xa2,xc2,rfl,hx1,hb1⟩)
 rw [endsI_length]
 refine ⟨rfl,fun X4 t1=>?_⟩
 have o1:=Old.twin0 (Old.ofBelow hb1) t1
 have E4:=EE.out.old o1
 have OO4:=Hh (OO3.out.trans o1)
 replace LI:=Hh (o1.parts LI.out)
 replace OI:=Hh (o1.ints OI.out)
 have XI:=Hh (t1.ints hx1)
 clear c0 c1 c2 c3 c4 HBx HKx EE hB0 t1 o1 hb1 OO3 hx1
 refine wps_nq ?_
 obtain ⟨c9,hcc⟩:∃ c,er 9=c:=⟨_,rfl⟩
 rw [hcc]
 simp only [er,sqN,sql,sqr,cnd,blk,lpc,Tryz.f9,Option.getD_some] at hcc
 subst hcc
 obtain ⟨c0,c1,c2,c3,c4,_,_⟩:=id E4
 have HBx:=Hh E4.bk
 have HKx:=Hh E4.kd
 have EE:=Hh E4
 clear E4
 have hB0:=lt_of_cell c0
 simp only at hB0
 go_wp2_with (go_at_call 35;(with_reducible refine (times_ok HBx.out HNM.out HKx.out HOL.out.symm OI.out v HPV.out HO.out).mono ?_);rintro e w1 ⟨ya2,yc2,rfl,hx1,hb1⟩)
 rw [endsI_length]
 refine ⟨rfl,fun X5 t1=>?_⟩
 have o1:=Old.twin0 (Old.ofBelow hb1) t1
 have E5:=EE.out.old o1
 have OO5:=Hh (OO4.out.trans o1)
 replace LI:=Hh (o1.parts LI.out)
 replace OI:=Hh (o1.ints OI.out)
 replace XI:=Hh (o1.ints XI.out)
 have YI:=Hh (t1.ints hx1)
 clear c0 c1 c2 c3 c4 HBx HKx EE hB0 t1 o1 hb1 OO4 hx1
 refine wps_nq ?_
 obtain ⟨c9,hcc⟩:∃ c,er 10=c:=⟨_,rfl⟩
 rw [hcc]
 simp only [er,sqN,sql,sqr,cnd,blk,lpc,Tryz.f9,Option.getD_some] at hcc
 subst hcc
 obtain ⟨c0,c1,c2,c3,c4,_,_⟩:=id E5
 have HBx:=Hh E5.bk
 have HKx:=Hh E5.kd
 have EE:=Hh E5
 clear E5
 have hB0:=lt_of_cell c0
 simp only at hB0
 go_wp2_with (go_at_call 44;(with_reducible refine (goodApi_ok HBx.out HNM.out HKx.out HOL.out.symm OI.out t HPT.out HO.out).mono ?_);rintro e w1 ⟨rfl,hb1⟩)
 rw [HIS.out]
 refine ⟨rfl,fun X6 t1=>?_⟩
 have o1:=Old.twin0 (Old.ofBelow hb1) t1
 have E6:=EE.out.old o1
 have OO6:=Hh (OO5.out.trans o1)
 replace LI:=Hh (o1.parts LI.out)
 replace OI:=Hh (o1.ints OI.out)
 replace XI:=Hh (o1.ints XI.out)
 replace YI:=Hh (o1.ints YI.out)
 clear c0 c1 c2 c3 c4 HBx HKx EE hB0 t1 o1 hb1 OO5
 refine wps_nq ?_
 obtain ⟨c9,hcc⟩:∃ c,er 11=c:=⟨_,rfl⟩
 rw [hcc]
 simp only [er,sqN,sql,sqr,cnd,blk,lpc,Tryz.f9,Option.getD_some] at hcc
 subst hcc
 obtain ⟨c0,c1,c2,c3,c4,_,_⟩:=id E6
 have HBx:=Hh E6.bk
 have HKx:=Hh E6.kd
 have EE:=Hh E6
 clear E6
 have hB0:=lt_of_cell c0
 simp only at hB0
 go_wp2_with (go_at_call 44;(with_reducible refine (goodApi_ok HBx.out HNM.out HKx.out HOL.out.symm OI.out v HPV.out HO.out).mono ?_);rintro e w1 ⟨rfl,hb1⟩)
 rw [HWAS.out]
 refine ⟨rfl,fun X7 t1=>?_⟩
 have o1:=Old.twin0 (Old.ofBelow hb1) t1
 have E7:=EE.out.old o1
 have OO7:=Hh (OO6.out.trans o1)
 replace LI:=Hh (o1.parts LI.out)
 replace OI:=Hh (o1.ints OI.out)
 replace XI:=Hh (o1.ints XI.out)
 replace YI:=Hh (o1.ints YI.out)
 clear c0 c1 c2 c3 c4 HBx HKx EE hB0 t1 o1 hb1 OO6
 refine wps_nq ?_
 obtain ⟨c9,hcc⟩:∃ c,er 12=c:=⟨_,rfl⟩
 rw [hcc]
 simp only [er,sqN,sql,sqr,cnd,blk,lpc,Tryz.f9,Option.getD_some] at hcc
 subst hcc
 obtain ⟨c0,c1,c2,c3,c4,_,_⟩:=id E7
 have HBx:=Hh E7.bk
 have HKx:=Hh E7.kd
 have EE:=Hh E7
 clear E7
 have hB0:=lt_of_cell c0
 simp only at hB0
 go_wp2_with (go_at_call 43;(with_reducible refine (pack_ok HBx.out HNM.out HKx.out t HNOW.out HTZ.out).mono ?_);rintro e w1 ⟨pa,pc,rfl,_,hb1⟩)
 rw [HFD.out]
 refine ⟨rfl,fun X8 t1=>?_⟩
 have o1:=Old.twin0 (Old.ofBelow hb1) t1
 have E8:=EE.out.old o1
 have OO8:=Hh (OO7.out.trans o1)
 replace LI:=Hh (o1.parts LI.out)
 replace OI:=Hh (o1.ints OI.out)
 replace XI:=Hh (o1.ints XI.out)
 replace YI:=Hh (o1.ints YI.out)
 clear c0 c1 c2 c3 c4 HBx HKx EE hB0 t1 o1 hb1 OO7
 refine wps_nq ?_
 obtain ⟨c9,hcc⟩:∃ c,er 13=c:=⟨_,rfl⟩
 rw [hcc]
 simp only [er,sqN,sql,sqr,cnd,blk,lpc,Tryz.f9,Option.getD_some] at hcc
 subst hcc
 obtain ⟨c0,c1,c2,c3,c4,_,_⟩:=id E8
 have HBx:=Hh E8.bk
 have HKx:=Hh E8.kd
 have EE:=Hh E8
 clear E8
 have hB0:=lt_of_cell c0
 simp only at hB0
 go_wp2_with (go_at_call 46;(with_reducible refine (latest_ok HBx.out HNM.out HKx.out HU.out).mono ?_);rintro e w1 ⟨rfl,hb1⟩)
 rw [HLT.out,HSM.out]
 refine ⟨rfl,fun X9 t1=>?_⟩
 have o1:=Old.twin0 (Old.ofBelow hb1) t1
 have E9:=EE.out.old o1
 have OO9:=Hh (OO8.out.trans o1)
 replace LI:=Hh (o1.parts LI.out)
 replace OI:=Hh (o1.ints OI.out)
 replace XI:=Hh (o1.ints XI.out)
 replace YI:=Hh (o1.ints YI.out)
 clear c0 c1 c2 c3 c4 HBx HKx EE hB0 t1 o1 hb1 OO8
 exact ⟨⟨la,lc,oa,oc,xa2,xc2,ya2,yc2,fr_of (by kernel_rfl),E9,LI.out,OI.out,XI.out,YI.out⟩,OO9.out⟩
variable {B lc oc kc ln mn xc yc en:Nat} {b:Bk} {s s2 t v u lt:Int} {fd is was sm:Bool} {vr vg vm vs vc x:Value} {w w0:World} {la oa ka xa ya:Option Addr} {ks ot o:List Int} {l:List Prt} {d:Nat→Value}
def EZL (w:World) (t:Int) (is was fd:Bool) (lt:Int) (sm:Bool):Exit→Act→World→Prop
 | .normal,a',w2=>(∃ d,a'=eD t is was fd lt sm d)∧Below w.heap.size w w2
 | _,_,_=>False
theorem er_L {xl yl:List Int} (hX:IntsAt w xa xl) (hY:IntsAt w ya yl) (hx:xl.length=en) (hy:yl.length=en) (hen:en≤1000) (hd:∀ i (h1:i < xl.length) (h2:i < yl.length),xl[i] - yl[i]=t - v) (hxb:∀ z∈xl,0≤z∧z≤20000000) (hyb:∀ z∈yl,0≤z∧z≤20000000) (ht0:0≤t) (ht1:t≤999) (hv0:0≤v) (hv1:v≤999) :
 (er 15).wp Tryz.prog (EZL w t is was fd lt sm) (eC v xa en xc ya yc t is was fd lt sm d) w:=by
 simp only [er,sqN,sql,sqr,cnd,blk,lpc,Tryz.f9,Option.getD_some,eC]
 have HX:=Hh hX
 have HY:=Hh hY
 have HXL:=Hh hx
 have HYL:=Hh hy
 have HD:=Hh hd
 have HXB:=Hh hxb
 have HYB:=Hh hyb
 have hwt:IntKind.i64.wrap (t - v)=t - v:=wrapI (by omega) (by omega)
 clear hX hY hx hy hd hxb hyb
 go_wp2
 go_loopw [28] (fun i wr=>∃ k:Nat,k≤en∧i=.int .i64 k∧Below w.heap.size w wr) (fun i _=>en - (intOf i).toNat)
 case atStart=>exact ⟨0,Nat.zero_le _,rfl,Below.refl _ _⟩
 case round =>
  obtain ⟨k,hk,rfl,hW⟩:=hrel
  have hWs:=hW.size
  by_cases hlt:k < en
  ·have hk1:k < xl.length:=by rw [HXL.out];exact hlt
   have hk2:k < yl.length:=by rw [HYL.out];exact hlt
   obtain ⟨xb,xo,rfl,hxb,e0⟩:=HX.out k hk1
   obtain ⟨yb,yo,rfl,hyb,f0⟩:=HY.out k hk2
   have d0:=(hW.cell hxb).trans e0
   have d1:=(hW.cell hyb).trans f0
   have hxb2:xb < wr.heap.size:=Nat.lt_of_lt_of_le hxb hWs
   have hyb2:yb < wr.heap.size:=Nat.lt_of_lt_of_le hyb hWs
   have hdf:=HD.out k hk1 hk2
   have b1:=HXB.out _ (List.getElem_mem hk1)
   have b2:=HYB.out _ (List.getElem_mem hk2)
   generalize xl[k]=x1 at d0 e0 hdf b1
   generalize yl[k]=y1 at d1 f0 hdf b2
   have hws:IntKind.i64.wrap (x1 - y1)=x1 - y1:=wrapI (by omega) (by omega)
   have hne:(x1 - y1 != t - v)=false:=by simp [hdf]
   clear e0 f0 hdf
   go_wp2
   go_quiet (fail)
   go_wp2
   go_roundw
   case rel=>exact ⟨k+1,by omega,by go_num,bel⟩
   case measure=>simp [intOf];omega
  ·obtain rfl:k=en:=by omega
   go_wp2
   exact ⟨fr_of (by kernel_rfl),hW⟩
theorem er_C {ot o:List Int} (hE:PkSt w B b vr vg vm vs vc) (hL:PartsAt w la l) (hO:IntsAt w oa ot) (hX:IntsAt w xa (endsI b.gap t o)) (hY:IntsAt w ya (endsI b.gap v o)) (hS:SmallB b) (hk:bookAl b=0) (hmi:missI b=l) (hotl:ot.length=b.ms.length) (ho:planOk (loadsI b) ot=some o) (ht0:0≤t) (ht1:t≤999) (hv0:0≤v) (hv1:v≤999) :
 wps Tryz.prog [er 14,er 15] (fun a' w2=>((∃ d,a'=eD t is was fd lt sm d)∧KindsAt w2)∧Old w w2) (eB B la l.length lc oa b.ms.length oc v xa o.length xc ya yc t is was fd lt sm d) w:=by
 unfold eB
 have hml:b.ms.length≤20:=hS.1
 have hll:l.length≤20:=by rw [← hmi];exact missI_bd hk
 have hli:loadsI b=loadsOf b.ms.length l:=by rw [← hmi];rfl
 have hlen:(loadsI b).length=b.ms.length:=loadsI_len b
 obtain ⟨htb,hol⟩:=planOk_bd ho (by omega) (loadsI_bd hk)
 have hgap:=(nightOk hk).gap
 have hXB:=endsI_bd (tapes:=o) hgap (now:=t) ⟨ht0,by omega⟩ htb hol
 have hYB:=endsI_bd (tapes:=o) hgap (now:=v) ⟨hv0,by omega⟩ htb hol
 have HP:=Hh (show ∀ p∈l,isPart b p=true from fun p hp=>missI_isPart (by rw [hmi];exact hp))
 have HLI:=Hh hli
 have HLEN:=Hh hlen
 have HOL:=Hh hotl
 have HO:=Hh ho
 have LI:=Hh hL
 have OI:=Hh hO
 have XI:=Hh hX
 have YI:=Hh hY
 have XB:=Hh hXB
 have YB:=Hh hYB
 have OO0:=Hh (Old.refl w)
 have hoo:((o.length:Int) != (o.length:Int))=false:=by simp
 clear hS hk hmi hotl ho hL hO hX hY hXB hYB hli hlen htb hgap
 refine wps_nq ?_
 obtain ⟨c9,hcc⟩:∃ c,er 14=c:=⟨_,rfl⟩
 rw [hcc]
 simp only [er,sqN,sql,sqr,cnd,blk,lpc,Tryz.f9,Option.getD_some] at hcc
 subst hcc
 obtain ⟨c0,c1,c2,c3,c4,_,_⟩:=id hE
 have HBx:=Hh hE.bk
 have HKx:=Hh hE.kd
 have EE:=Hh hE
 clear hE
 have hB0:=lt_of_cell c0
 simp only at hB0
 go_wp2_with (first
  | (go_at_call 32;(with_reducible refine (loads_at HBx.out hml LI.out rfl (by omega) HP.out).mono ?_);rintro e wA ⟨na,nc,rfl,hxA,hbA⟩;rw [← HLI.out] at hxA;have hnl:(loadsOf b.ms.length l).length=b.ms.length:=loadsOf_length _ _;have HNL:=Hh hnl;clear hnl;have NI:=Hh hxA;clear hxA;have HBA:=Hh hbA;clear hbA)
  | (go_at_call 34;(with_reducible refine (tapesOf_at NI.out (OI.out.below HBA.out) (by rw [HNL.out,HLEN.out]) HOL.out.symm (by rw [HLEN.out,HOL.out]) (by rw [HOL.out];omega) HO.out).mono ?_);rintro e wB ⟨rfl,hbB⟩))
 have hb1:=Below.next HBA.out hbB
 refine ⟨rfl,fun X1 t1=>?_⟩
 have o1:=Old.twin0 (Old.ofBelow hb1) t1
 have E1:=EE.out.old o1
 have OO1:=Hh (OO0.out.trans o1)
 replace XI:=Hh (o1.ints XI.out)
 replace YI:=Hh (o1.ints YI.out)
 clear c0 c1 c2 c3 c4 HBx HKx EE hB0 t1 o1 hb1 OO0 hbB HBA NI HNL
 refine wps_nq (Code.wp_mono (fun e a' w1 h=>?_) (wp_fr (F:=eC v xa o.length xc ya yc t is was fd lt sm) (by kernel_rfl) fun d=>er_L XI.out YI.out (endsI_length _ _ _) (endsI_length _ _ _) (by omega) (fun i h1 h2=>ends_shift _ _ _ _ h1 h2) XB.out YB.out ht0 ht1 hv0 hv1))
 cases e <;> try exact h.elim
 obtain ⟨⟨d1,rfl⟩,hb⟩:=h
 refine ⟨rfl,fun X6 t1=>?_⟩
 have o1:=(Old.ofBelow hb).twin0 t1
 exact ⟨⟨⟨d1,rfl⟩,(E1.old o1).kd⟩,OO1.out.trans o1⟩
end Go.Proofs.YtgemjjdkjmpmlaaGreatDoor
