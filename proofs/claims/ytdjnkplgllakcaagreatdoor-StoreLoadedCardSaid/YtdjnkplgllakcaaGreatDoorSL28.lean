/- StoreLoaded -/
import Derived.Test.YtdjnkplgllakcaaGreatDoorSL27
set_option maxHeartbeats 8000000
set_option maxRecDepth 100000
set_option linter.all false
namespace Go.Proofs.YtdjnkplgllakcaaGreatDoor
open Go.RowKit Go.Maps Sp
structure Pair (B:Nat) (e:TypeId) (v1:Value) (n1:Nat) (x1:List Value) (v2:Value) (n2:Nat) (x2:List Value) (w:World):Prop where
 o1:w.ownsRow B e 1 v1 n1 x1
 o2:w.ownsRow B e 1 v2 n2 x2
 ap:∀ g,v1.ownBlock=some g->v2.ownBlock≠some g
section
variable {w w':World} {B n1 n2 m:Nat} {e:TypeId} {v1 v2 v:Value} {x1 x2 xs:List Value}
theorem Pair.swap (t:Pair B e v1 n1 x1 v2 n2 x2 w):Pair B e v2 n2 x2 v1 n1 x1 w:=⟨t.o2,t.o1,fun g h k=>t.ap g k h⟩
theorem Pair.ks (t:Pair B e v1 n1 x1 v2 n2 x2 w) (hk:KS (fun _=>True) w w'):Pair B e v1 n1 x1 v2 n2 x2 w':=⟨row_keep' t.o1 hk fun _ _=>trivial,row_keep' t.o2 hk fun _ _=>trivial,t.ap⟩
theorem Pair.app2 (t:Pair B e v1 n1 x1 v2 n2 x2 w) (ho:w'.ownsRow B e 1 v m xs) (hg:w.grownBy w' v2.ownBlock) (hat:v.ownBlock=v2.ownBlock\/v.ownBlock=some w.heap.size):Pair B e v1 n1 x1 v m xs w':=by
 have hk:KS (fun k=>v2.ownBlock≠some k) w w':=KS.own hg fun g hg=>by simp [hg]
 refine ⟨row_keep' t.o1 hk fun g hg e=>t.ap g hg e,ho,fun g hg e=>?_⟩;rcases hat with h | h
 ·rw [h] at e;exact t.ap g hg e
 ·rw [h] at e;cases e;have:=(ownBlock_row t.o1 _ hg).2;omega
theorem wpl_pair {P:Program} {w:World} {ops:Array Oper} {rest:List Oper} {o:Oper} {a:Act} {Q:Exit->Act->World->Prop} (hgd:o.guard=none) (s x:Operand) (t:TypeId)
 (ho:o.op=.call { callee:=.builtin .append,args:=#[s,x],argTypes:=#[t,t] })
 (base:Nat) (e:TypeId) {z:Value} {bytes:Nat} (ht:P.underlying t=some (.slice e)) (hi:(P.info? e).map (fun i=>(i.zero,i.size,i.bytes))=some (some z,1,bytes)) (hzs:z.cells.size=1) (hby:bytes<=100)
 (v:Value) (k:Nat) (xs:List Value) (hs:a.eval s=v) {v1:Value} {n1:Nat} {x1:List Value} (hP:Pair base e v1 n1 x1 v k xs w) (hbase:base<=w.heap.size) (hk:k<=1000000) (u:Value)
 {n:Nat} (hn:n=w.heap.size) (hx:a.eval x=.slice (some ⟨n,0,none⟩) 1 1) (h1:u.oneCell'=true)
 (h:∀ g cap w',Pair base e v1 n1 x1 (.slice (some ⟨g,0,none⟩) (k+1) cap) (k+1) (xs ++ [u]) w'->Below base w w'->wpList P ops Q rest (a.put o.dst (.slice (some ⟨g,0,none⟩) (k+1) cap)) w') :
 wpList P ops Q (o::rest) a (w.alloc (.cells #[u] e)):=by
 subst hn;obtain ⟨i,hi,hz,hsz,hb⟩:=info_parts hi;have hp2:Pair base e v1 n1 x1 v k xs (w.alloc (.cells #[u] e)):=hP.ks (KS.alloc _ _ _);have hle:base<=(w.alloc (.cells #[u] e)).heap.size:=by simp;omega
 refine wpList_append_own_at (w.alloc (.cells #[u] e)) hgd s x t ho base e i z 1 bytes ht hi hz hsz hb hzs (by decide) v k xs hs hp2.o2 ⟨w.heap.size,0,none⟩ 1 1 [u] hx rfl (cells_new w [u] e) (by simpa using h1) (by unfold maxLen;omega) (by have:=Nat.mul_le_mul (show k+1<=1000001 by omega) hby;omega) hle ?_;intro v' w' hown' hg _ hat;have hp3:=hp2.app2 hown' hg hat;obtain ⟨g',cap',rfl⟩:=ownsRow_succ hown';exact h g' cap' w' hp3 (((Below.refl base w).alloc hbase _).trans (below_own hp2.o2 hg hle))
end
def mapTo (f:Int->Int) (k:Nat) (l:List Int):List Int:=(l.take k).map f ++ l.drop k
theorem mapTo_length (f:Int->Int) (k:Nat) (l:List Int):(mapTo f k l).length=l.length:=by simp [mapTo];omega
theorem mapTo_at (f:Int->Int) (l:List Int) (k:Nat) (h:k < l.length):((mapTo f k l).map (Value.int .i64))[k]? = some (.int .i64 l[k]):=by
 unfold mapTo;rw [List.map_append,List.getElem?_append_right (by simp;omega)];simp [List.length_take,Nat.min_eq_left (Nat.le_of_lt h),h]
theorem mapTo_succ (f:Int->Int) (l:List Int) (k:Nat) (h:k < l.length):mapTo f (k+1) l=(l.take k).map f ++ (f l[k]::l.drop (k+1)):=by
 unfold mapTo;rw [List.take_succ_eq_append_getElem h,List.map_append,List.append_assoc];rfl
theorem mapTo_set (f:Int->Int) (l:List Int) (k:Nat) (h:k < l.length):((mapTo f k l).map (Value.int .i64)).set k (.int .i64 (f l[k]))=(mapTo f (k+1) l).map (Value.int .i64):=by
 rw [<- List.map_set];congr 1;unfold mapTo;rw [List.take_succ_eq_append_getElem h,List.map_append,List.set_append_right _ _ (by simp;omega)];simp only [List.length_map,List.length_take,Nat.min_eq_left (Nat.le_of_lt h),Nat.sub_self,List.append_assoc,List.map_cons,List.map_nil,List.singleton_append];rw [List.drop_eq_getElem_cons h];rfl
theorem mapTo_same (f:Int->Int) (l:List Int) (k:Nat) (h:k < l.length) (e:f l[k]=l[k]):mapTo f (k+1) l=mapTo f k l:=by
 rw [mapTo_succ f l k h,e,<- List.drop_eq_getElem_cons h];rfl
theorem planGo_few (p loads:List Int) (k:Nat):(planGo p loads k).1.length=k/\(planGo p loads k).2<=k:=⟨(planGo_v p loads k).len,(planGo_v p loads k).few⟩
section
variable {w:World} {la ka:Option Addr} {lc kc n m:Nat} {l p:List Int}
theorem plan_at (hL:IntsAt w la l) (hn:n=l.length) (hl:l.length<=1000) (hU:U16sAt w ka p) (hm:m=p.length) :
 Calls Tryz.prog 10 #[.slice la n lc,.slice ka m kc] w (NumsRet w (planP p l)):=by
 subst hn hm;have HL:=Hh hL;have HU:=Hh hU;clear hL hU
 go_enter Tryz.func10,Tryz.ntmps10
 go_wp2;go_loopw [5,6,7,8] (fun v f i _ wr=>∃ (k q:Nat) (a fa:Option Addr) (c fc:Nat) (xs:List Value),k<=l.length/\i=.int .i64 k/\q=(planGo p l k).2/\v=.slice a k c/\f=.slice fa q fc/\Hid (Pair w.heap.size 3 (.slice a k c) k ((planGo p l k).1.map (Value.int .i64)) (.slice fa q fc) q xs wr)/\Below w.heap.size w wr) (fun _ _ i _ _=>l.length - (intOf i).toNat)
 case atStart=>exact ⟨0,0,none,none,0,0,[],Nat.zero_le _,rfl,rfl,rfl,rfl,(⟨World.ownsRow_nil _ _ _ _,World.ownsRow_nil _ _ _ _,fun g h=>by cases h⟩:Pair _ _ _ _ _ _ _ _ _),Below.refl _ _⟩
 case round =>
  obtain ⟨k,q,a,fa,c,fc,xs,hk,rfl,hq,rfl,rfl,HPR,hW⟩:=hrel;have hWs:=hW.size;have hqk:q<=k:=by rw [hq];exact (planGo_few p l k).2
  by_cases hlt:k < l.length
  ·obtain ⟨lb,lo,rfl,hlb,e0⟩:=HL.out k hlt;have d0:=(hW.cell hlb).trans e0;have hlb2:lb < wr.heap.size:=Nat.lt_of_lt_of_le hlb hWs;have hld:l.getD k 0=l[k]:=by rw [List.getD_eq_getElem?_getD,List.getElem?_eq_getElem hlt,Option.getD_some]
   have hsn:planGo p l (k+1)=if l[k]=0 then ((planGo p l k).1 ++ [-1],q) else ((planGo p l k).1 ++ [choiceI p k % ((q:Int)+1)],if choiceI p k % ((q:Int)+1)=(q:Int) then q+1 else q):=by
    rw [<- hld,hq];rfl
   generalize l[k]=x at d0 hsn e0;have HQ:=Hh hq;clear e0 hld hq;by_cases hx:x=0
   ·subst hx;rw [if_pos rfl] at hsn;have HSN:=Hh hsn;clear hsn;go_wp2_with (at_builtin;go_loud (refine wpl_pair rfl _ _ 35 rfl w.heap.size 3 Tryz.underlying35 intInfo rfl (by decide) (.slice a k c) k _ rfl HPR.out.swap hWs (by omega) (.int .i64 (-1)) rfl rfl rfl ?_;intro g' cap' w5 hp5 hb5));have HP5:=Hh hp5.swap;have HB5:=Hh (hW.trans hb5);clear hp5 hb5;go_roundw
    case rel=>exact ⟨k+1,q,some ⟨g',0,none⟩,fa,cap',fc,xs,by omega,by go_num,by rw [HSN.out],rfl,rfl,by rw [HSN.out,List.map_append];exact HP5,HB5.out⟩
    case measure=>simp [intOf];omega
   ·have hx0:(x == 0)=false:=by rw [beq_eq_false_iff_ne];exact hx
    rw [if_neg hx] at hsn;obtain ⟨hc0,hc1⟩:=choiceI_bd HU.out k;have hm0:=Int.emod_nonneg (choiceI p k) (show ((q:Int)+1)≠0 by omega);have hm1:=Int.emod_lt_of_pos (choiceI p k) (show 0 < ((q:Int)+1) by omega);have htm:(choiceI p k).tmod ((q:Int)+1)=choiceI p k % ((q:Int)+1):=Int.tmod_eq_emod_of_nonneg hc0;have HCH:Hid (∀ w',Below w.heap.size w w'->Calls Tryz.prog 43 #[.slice ka p.length kc,.int .i64 k] w' fun e w2=>e=.returned (.int .i64 (choiceI p k))/\w2=w'):=fun w' h=>choice_at (HU.out.below h) rfl k rfl;generalize choiceI p k=cv at hc0 hc1 hm0 hm1 htm hsn HCH;have hw1:IntKind.i64.wrap ((q:Int)+1)=(q:Int)+1:=wrapI (by omega) (by omega);have hw2:IntKind.i64.wrap (cv % ((q:Int)+1))=cv % ((q:Int)+1):=wrapI (by omega) (by omega);have hnz:((q:Int)+1 == 0)=false:=by rw [beq_eq_false_iff_ne];omega
    have hnz2:¬ ((q:Int)+1=0):=by omega
    by_cases hcq:cv % ((q:Int)+1)=(q:Int)
    ·have hcq1:(cv % ((q:Int)+1) == (q:Int))=true:=by rw [beq_iff_eq];exact hcq
     rw [if_pos hcq] at hsn;have HSN:=Hh hsn;have HCQ:=Hh hcq;clear hsn hcq hx;go_wp2_with (first
      | (go_at_call 43;(with_reducible refine (HCH.out _ (by assumption)).mono ?_);rintro e w1 ⟨rfl,rfl⟩)
      | (at_builtin;go_loud (refine wpl_pair rfl _ _ 35 rfl w.heap.size 3 Tryz.underlying35 intInfo rfl (by decide) (.slice fa q fc) q xs rfl HPR.out hWs (by omega) (.int .i64 (cv % ((q:Int)+1))) rfl rfl rfl ?_;intro g1 cap1 w5 hp9 hb5;have HP5:=Hh hp9;have HP5s:=hb5.size;clear hp9))
      | (at_builtin;go_loud (refine wpl_pair rfl _ _ 35 rfl w.heap.size 3 Tryz.underlying35 intInfo rfl (by decide) (.slice a k c) k _ rfl HP5.out.swap (by omega) (by omega) (.int .i64 (cv % ((q:Int)+1))) rfl rfl rfl ?_;intro g2 cap2 w6 hp9 hb6;have HP6:=Hh hp9;have HP6s:=hb6.size;clear hp9)))
     have HB6:=Hh ((hW.trans hb5).trans hb6);clear hb5 hb6;go_roundw
     case rel=>exact ⟨k+1,q+1,some ⟨g2,0,none⟩,some ⟨g1,0,none⟩,cap2,cap1,_,by omega,by go_num,by rw [HSN.out],rfl,rfl,by rw [HSN.out,List.map_append];exact HP6.out.swap,HB6.out⟩
     case measure=>simp [intOf];omega
    ·have hcq1:(cv % ((q:Int)+1) == (q:Int))=false:=by rw [beq_eq_false_iff_ne];exact hcq
     rw [if_neg hcq] at hsn;have HSN:=Hh hsn;have HCQ:=Hh hcq;clear hsn hcq hx;go_wp2_with (first
      | (go_at_call 43;(with_reducible refine (HCH.out _ (by assumption)).mono ?_);rintro e w1 ⟨rfl,rfl⟩)
      | (at_builtin;go_loud (refine wpl_pair rfl _ _ 35 rfl w.heap.size 3 Tryz.underlying35 intInfo rfl (by decide) (.slice a k c) k _ rfl HPR.out.swap hWs (by omega) (.int .i64 (cv % ((q:Int)+1))) rfl rfl rfl ?_;intro g2 cap2 w6 hp9 hb6;have HP6:=Hh hp9;have HP6s:=hb6.size;clear hp9)))
     have HB6:=Hh (hW.trans hb6);clear hb6;go_roundw
     case rel=>exact ⟨k+1,q,some ⟨g2,0,none⟩,fa,cap2,fc,xs,by omega,by go_num,by rw [HSN.out],rfl,rfl,by rw [HSN.out,List.map_append];exact HP6.out.swap,HB6.out⟩
     case measure=>simp [intOf];omega
  ·obtain rfl:k=l.length:=by omega
   obtain ⟨hc0,hc1⟩:=choiceI_bd HU.out l.length;have htm:(choiceI p l.length).tmod 2=choiceI p l.length % 2:=Int.tmod_eq_emod_of_nonneg hc0;have HCH:Hid (∀ w',Below w.heap.size w w'->Calls Tryz.prog 43 #[.slice ka p.length kc,.int .i64 (l.length:Int)] w' fun e w2=>e=.returned (.int .i64 (choiceI p l.length))/\w2=w'):=fun w' h=>choice_at (HU.out.below h) rfl l.length rfl;have hpv:=planGo_v p l l.length;have hpp:planP p l=if choiceI p l.length % 2=1 then (planGo p l l.length).1.map (turnK q) else (planGo p l l.length).1:=by rw [hq];rfl
   have hbd:∀ x∈(planGo p l l.length).1,-1<=x/\x < (q:Int):=fun x hx=>by
    obtain ⟨i,hi,rfl⟩:=List.mem_iff_getElem.1 hx;obtain ⟨h5,h6⟩:=hpv.at' i hi;rw [<- hq] at h6;by_cases hz:l.getD i 0=0
    ·rw [h5 hz];omega
    ·have:=h6 hz;omega
   have hol:=hpv.len;have HROW:=Hh HPR.out.o1;generalize (planGo p l l.length).1=out at HROW hpp hbd hol;generalize choiceI p l.length=cv at hc0 hc1 htm HCH hpp;have hm0:=Int.emod_nonneg cv (show (2:Int)≠0 by omega);have hm1:=Int.emod_lt_of_pos cv (show (0:Int) < 2 by omega);have hw2:IntKind.i64.wrap (cv % 2)=cv % 2:=wrapI (by omega) (by omega);have HPP:=Hh hpp;have HBD:=Hh hbd;have HOL:=Hh hol;clear hq hpv hpp hbd hol HPR;by_cases h2:cv % 2=1
   ·have h21:(cv % 2 == 1)=true:=by rw [beq_iff_eq];exact h2
    have HPP2:=Hh (HPP.out.trans (if_pos h2));clear h2;go_wp2_with (go_at_call 43;(with_reducible refine (HCH.out _ (by assumption)).mono ?_);rintro e w1 ⟨rfl,rfl⟩);go_loopw [9] (fun i wr=>∃ k:Nat,k<=l.length/\i=.int .i64 k/\wr.ownsRow w.heap.size 3 1 (.slice a l.length c) l.length ((mapTo (turnK q) k out).map (Value.int .i64))/\Below w.heap.size w wr) (fun i _=>l.length - (intOf i).toNat)
    case atStart=>exact ⟨0,Nat.zero_le _,rfl,by simpa [mapTo] using HROW.out,hW⟩
    case round =>
     obtain ⟨k,hk,rfl,hrow,hW⟩:=hrel;by_cases hlt:k < l.length
     ·have hko:k < out.length:=by rw [HOL.out];exact hlt
      obtain ⟨g,rfl,hg,hgl,hc0⟩:=row_cell hrow k (by rw [List.length_map,mapTo_length];exact hko);rw [mapTo_at _ out k hko] at hc0;have hfr:=row_free hrow k;have hset:=ownsRow_put hrow (k:=k) (.int .i64 (turnK q out[k]));rw [mapTo_set _ out k hko] at hset;have hbx:=HBD.out _ (List.getElem_mem hko);by_cases hx:0<=out[k]
      ·have HSET:=Hh hset;have htu:turnK q out[k]=(q:Int) - 1 - out[k]:=by unfold turnK;rw [if_pos hx]
       rw [htu] at HSET;generalize out[k]=x at hc0 hbx HSET hx;have hge:decide ((0:Int)<=x)=true:=by simp [hx]
       have hwa:IntKind.i64.wrap ((q:Int) - 1)=(q:Int) - 1:=wrapI (by omega) (by omega);have hwb:IntKind.i64.wrap ((q:Int) - 1 - x)=(q:Int) - 1 - x:=wrapI (by omega) (by omega);clear hset hrow htu;go_wp2;go_roundw
       case rel=>exact ⟨k+1,by omega,by go_num,HSET.out,by refine Below.setCell hW ?_ _;exact hg⟩
       case measure=>simp [intOf];omega
      ·have hsame:=mapTo_same (turnK q) out k hko (by unfold turnK;rw [if_neg hx]);rw [<- hsame] at hrow;have HR:=Hh hrow;generalize out[k]=x at hc0 hx;have hge:decide ((0:Int)<=x)=false:=by simp [hx]
       clear hset hrow hsame;go_wp2;go_roundw
       case rel=>exact ⟨k+1,by omega,by go_num,HR.out,hW⟩
       case measure=>simp [intOf];omega
     ·obtain rfl:k=l.length:=by omega
      have e:mapTo (turnK q) l.length out=planP p l:=by rw [HPP2.out];unfold mapTo;rw [<- HOL.out];simp
      rw [e] at hrow;have HR:=Hh hrow;clear hrow e;go_wp2;go_ret;exact ⟨a,c,by rw [planP_len];rfl,ints_of_row (show wr.ownsRow w.heap.size 3 1 (.slice a (planP p l).length c) (planP p l).length ((planP p l).map (Value.int .i64)) by rw [planP_len];exact HR.out),hW⟩
   ·have h21:(cv % 2 == 1)=false:=by rw [beq_eq_false_iff_ne];exact h2
    have HPP2:=Hh (HPP.out.trans (if_neg h2));clear h2;go_wp2_with (go_at_call 43;(with_reducible refine (HCH.out _ (by assumption)).mono ?_);rintro e w1 ⟨rfl,rfl⟩);go_ret;exact ⟨a,c,by rw [planP_len];rfl,ints_of_row (show World.ownsRow _ w.heap.size 3 1 (.slice a (planP p l).length c) (planP p l).length ((planP p l).map (Value.int .i64)) by rw [planP_len,HPP2.out];exact HROW.out),hW⟩
end
section
variable {w:World} {la pa:Option Addr} {lc pc n m:Nat} {loads plan o:List Int}
theorem fit_parts {n:Nat} {k x:Int} (h:fitP n (k,x)):decide (k < -1)=false/\decide ((n:Int)<=k)=false/\(!(decide (k < 0) == (x == 0)))=false:=by
 unfold fitP at h;simp only at h;refine ⟨by rw [decide_eq_false_iff_not];omega,by rw [decide_eq_false_iff_not];omega,?_⟩;by_cases hx:x=0
 ·have:k=-1:=by omega
  simp [hx,this]
 ·have:¬ k < 0:=by omega
  simp [hx,this]
theorem tapesOf_at (hL:IntsAt w la loads) (hP:IntsAt w pa plan) (hn:n=loads.length) (hm:m=plan.length) (hl:loads.length=plan.length) (hpl:plan.length<=1000) (ho:planOk loads plan=some o) :
 Calls Tryz.prog 12 #[.slice la n lc,.slice pa m pc] w fun e w'=>e=.returned (.int .i64 o.length)/\Below w.heap.size w w':=by
 subst hn hm;obtain ⟨hf,ho1,ho2,_,_⟩:=planOk_inv hl ho;have HF:=Hh hf;have HO2:=Hh ho2;have HO1:=Hh ho1;have HL:=Hh hL;have HP:=Hh hP;have hlb:∀ k,k<=plan.length->-1<=mostL (-1) (plan.take k)/\mostL (-1) (plan.take k)<=(plan.length:Int):=fun k hk=>by
  refine ⟨mostL_le _ _,?_⟩;rcases mostL_in (-1) (plan.take k) with h | h
  ·omega
  ·have hx:=List.mem_of_mem_take h;obtain ⟨i,hi,e⟩:=List.mem_iff_getElem.1 hx;have hz:(plan[i],loads[i]'(by omega))∈plan.zip loads:=List.mem_iff_getElem.2 ⟨i,by rw [List.length_zip];omega,by simp⟩;have:=hf _ hz;unfold fitP at this;simp only at this;omega
 have HLB:=Hh hlb;have HLN:=Hh hl;clear hL hP hf ho ho1 ho2 hlb hl
 go_enter Tryz.func12,Tryz.ntmps12
 go_wp2;go_loopw [5,6] (fun v i wr=>∃ k:Nat,k<=plan.length/\i=.int .i64 k/\v=.int .i64 (mostL (-1) (plan.take k))/\Below w.heap.size w wr) (fun _ i _=>plan.length - (intOf i).toNat)
 case atStart=>exact ⟨0,Nat.zero_le _,rfl,rfl,Below.refl _ _⟩
 case round =>
  obtain ⟨k,hk,rfl,rfl,hW⟩:=hrel;have hWs:=hW.size;by_cases hlt:k < plan.length
  ·have hlt2:k < loads.length:=by rw [HLN.out];exact hlt
   obtain ⟨lb,lo,rfl,hlb,e0⟩:=HL.out k hlt2;obtain ⟨pb,po,rfl,hpb,f0⟩:=HP.out k hlt;have d0:=(hW.cell hlb).trans e0;have d1:=(hW.cell hpb).trans f0;have hlb2:lb < wr.heap.size:=Nat.lt_of_lt_of_le hlb hWs;have hpb2:pb < wr.heap.size:=Nat.lt_of_lt_of_le hpb hWs;have hz:(plan[k],loads[k])∈plan.zip loads:=List.mem_iff_getElem.2 ⟨k,by rw [List.length_zip,HLN.out,Nat.min_self];exact hlt,by simp⟩;obtain ⟨q1,q2,q3⟩:=fit_parts (HF.out _ hz);have hsn:mostL (-1) (plan.take (k+1))=max (mostL (-1) (plan.take k)) plan[k]:=by rw [List.take_succ_eq_append_getElem hlt,mostL_snoc]
   generalize loads[k]=x at d0 q3 e0;generalize plan[k]=y at d1 q1 q2 q3 hsn f0;have HSN:=Hh hsn;clear e0 f0 hsn hz;generalize mostL (-1) (plan.take k)=z at HSN;go_wp2;go_quiet (fail);go_wp2;go_roundw
   case rel=>exact ⟨k+1,by omega,by go_num,by rw [HSN.out],bel⟩
   case measure=>simp [intOf];omega
  ·obtain rfl:k=plan.length:=by omega
   have hbd:=HLB.out plan.length (Nat.le_refl _);rw [List.take_length] at hbd ⊢;have ho1:=HO1.out;generalize mostL (-1) plan=z at hbd ho1;go_wp2;go_loopw [7] (fun i wr=>∃ k:Nat,(k:Int)<=z+1/\i=.int .i64 k/\Below w.heap.size w wr) (fun i _=>(z+1 - intOf i).toNat)
   case atStart=>exact ⟨0,by omega,rfl,hW⟩
   case round =>
    obtain ⟨k,hk,rfl,hW⟩:=hrel;have hWs:=hW.size;by_cases hlt:(k:Int)<=z
    ·have hin:=Hh (show decide ((k:Int)∈plan)=true by rw [decide_eq_true_iff];exact HO2.out k (by omega));go_wp2_with (go_at_call 45;(with_reducible refine (hasNum_at (HP.out.below hW) rfl (by omega) hin.out).mono ?_);rintro e w1 ⟨rfl,rfl⟩);go_roundw
     case rel=>exact ⟨k+1,by omega,by go_num,hW⟩
     case measure=>simp [intOf];omega
    ·have hkz:(k:Int)=z+1:=by omega
     have hw:IntKind.i64.wrap (z+1)=(o.length:Int):=by rw [wrapI (by omega) (by omega)];omega
     go_wp2;go_ret;exact ⟨rfl,hW⟩
end
section
variable {b:Bk} {vr vg vm vs vc:Value} {w:World}
theorem pack_no (hB:BookAt w b vr vg vm vs vc) (hN:∀ m∈b.ms,m.name.size<=1000000) (hK:KindsAt w) (now:Int) {t:Int} (ht:openAl b (timedAsk now)=t) (h0:t≠0) :
 Calls Tryz.prog 7 #[.agg #[vr,vg,vm,vs,vc],.int .i64 now] w fun e w'=>e=.returned (.tuple #[.slice none 0 0,.bool false,.int .i64 t])/\Below w.heap.size w w':=by
 have HB:=Hh hB;have HN:=Hh hN;have HK:=Hh hK;have HT:=Hh ht;have HH0:=Hh h0;have hz3:(t != 0)=true:=by simpa using h0
 obtain ⟨rfl,rfl,⟨ma,mc,rfl,_,_⟩,⟨sa,sc,rfl,_,_⟩,ra,rc,rfl,_,_⟩:=id hB;clear hB hN hK ht
 go_enter Tryz.func7,Tryz.ntmps7
 go_wp2;obtain ⟨W0,hW0⟩:∃ W0,W0=(((w.alloc (.cells #[.int .i64 b.room,.int .i64 b.gap,.slice ma b.ms.length mc,.slice sa b.ss.length sc,.slice ra b.rs.length rc] 26)).alloc (.cells #[.int .i64 now] 3)).alloc (.cells #[.slice none 0 0] 35)).alloc (.cells #[.bool false] 4):=⟨_,rfl⟩;rw [<- hW0];have hb0:Below w.heap.size w W0:=by rw [hW0];(exact bel)
 have hs0:W0.heap.size=w.heap.size+1+1+1+1:=by rw [hW0];simp
 have c5:∀ k u,(#[.int .i64 b.room,.int .i64 b.gap,.slice ma b.ms.length mc,.slice sa b.ss.length sc,.slice ra b.rs.length rc]:Array Value)[k]? = some u->W0.cell? ⟨w.heap.size,k,none⟩=some u:=fun k u hk=>by
  rw [hW0,World.cell?_alloc_past _ _ _ (by first | (simp;done) | (simp;omega)),World.cell?_alloc_past _ _ _ (by first | (simp;done) | (simp;omega)),World.cell?_alloc_past _ _ _ (by first | (simp;done) | (simp;omega)),World.cell?_alloc_at _ _ _ _ rfl];exact hk
 have q5:W0.cell? ⟨w.heap.size+1,0,none⟩=some (.int .i64 now):=by rw [hW0,World.cell?_alloc_past _ _ _ (by first | omega | (simp;done) | (simp;omega)),World.cell?_alloc_past _ _ _ (by first | omega | (simp;done) | (simp;omega)),World.cell?_alloc_at _ _ _ _ (by first | omega | (simp;done) | (simp;omega))];rfl
 have q6:W0.cell? ⟨w.heap.size+1+1,0,none⟩=some (.slice none 0 0):=by rw [hW0,World.cell?_alloc_past _ _ _ (by first | omega | (simp;done) | (simp;omega)),World.cell?_alloc_at _ _ _ _ (by first | omega | (simp;done) | (simp;omega))];rfl
 have q7:W0.cell? ⟨w.heap.size+1+1+1,0,none⟩=some (.bool false):=by rw [hW0,World.cell?_alloc_at _ _ _ _ (by first | omega | (simp;done) | (simp;omega))];rfl
 have q8:W0.frozen? ⟨w.heap.size+1+1,0,none⟩=false:=by rw [hW0];simp [go_sem]
 have q9:W0.frozen? ⟨w.heap.size+1+1+1,0,none⟩=false:=by rw [hW0];simp [go_sem]
 have HALL:=Hh (fun (w':World) (h:Below W0.heap.size W0 w')=>(⟨h,(h.cell (by simp;omega)).trans (c5 0 _ rfl),(h.cell (by simp;omega)).trans (c5 1 _ rfl),(h.cell (by simp;omega)).trans (c5 2 _ rfl),(h.cell (by simp;omega)).trans (c5 3 _ rfl),(h.cell (by simp;omega)).trans (c5 4 _ rfl),(h.cell (by simp;omega)).trans q5⟩:Below W0.heap.size W0 w'/\w'.cell? ⟨w.heap.size,0,none⟩=some (.int .i64 b.room)/\w'.cell? ⟨w.heap.size,1,none⟩=some (.int .i64 b.gap)/\w'.cell? ⟨w.heap.size,2,none⟩=some (.slice ma b.ms.length mc)/\w'.cell? ⟨w.heap.size,3,none⟩=some (.slice sa b.ss.length sc)/\w'.cell? ⟨w.heap.size,4,none⟩=some (.slice ra b.rs.length rc)/\w'.cell? ⟨w.heap.size+1,0,none⟩=some (.int .i64 now)));have HQ0:=Hh (⟨q6,q7,q8,q9⟩:_/\_/\_/\_);have hs0a:w.heap.size+1+1+1+1<=W0.heap.size:=by omega
 clear hs0 hW0 c5 q5 q6 q7 q8 q9;have HTM:=Hh (fun (w':World)=>timed_at now w');refine Code.wp_mono (Q:=fun e a' w'=>e=.normal/\Below W0.heap.size W0 w'/\∃ v7 v8 v13 v14 v15 v16 v17 v18 v19 v20,a'={ tmps:=#[.agg #[.int .i64 b.room,.int .i64 b.gap,.slice ma b.ms.length mc,.slice sa b.ss.length sc,.slice ra b.rs.length rc],.int .i64 now,.pointer (some ⟨w.heap.size,0,none⟩),.pointer (some ⟨w.heap.size+1,0,none⟩),.pointer (some ⟨w.heap.size+1+1,0,none⟩),.pointer (some ⟨w.heap.size+1+1+1,0,none⟩),.int .i64 t,v7,v8,U,U,U,U,v13,v14,v15,v16,v17,v18,v19,v20,U,U,U,U,U,U,U,U,U,U,U,U,U,U,U,U,U,U,U,U,U,U,U,U,U,U,U,U,U,U,U],defers:=[] }) ?_ ?_
 rotate_left
 ·go_region_held3 (fun w'=>Below W0.heap.size W0 w'/\w'.cell? ⟨w.heap.size,0,none⟩=some (.int .i64 b.room)/\w'.cell? ⟨w.heap.size,1,none⟩=some (.int .i64 b.gap)/\w'.cell? ⟨w.heap.size,2,none⟩=some (.slice ma b.ms.length mc)/\w'.cell? ⟨w.heap.size,3,none⟩=some (.slice sa b.ss.length sc)/\w'.cell? ⟨w.heap.size,4,none⟩=some (.slice ra b.rs.length rc)/\w'.cell? ⟨w.heap.size+1,0,none⟩=some (.int .i64 now))
   ((go_split_ands;exact HALL.out _ (bel)))
   (first
     | (go_at_call 37;(with_reducible refine (HTM.out _).mono ?_);rintro e w2 ⟨B,rfl,hB1,r0,hb2⟩;have hq:∀ W,Below w2.heap.size w2 W->W.cell? ⟨B,0,none⟩=some (.int .i64 now):=(fun W h=>(h.cell hB1).trans r0);have HQ:=Hh hq;clear hq r0;obtain ⟨hc2,hf2⟩:=bcell hb2;have hz2:=hb2.size;(try simp at hz2);(try (have hy2:W0.heap.size < w2.heap.size:=by omega)))
     | (go_at_call 34;go_split_ands;have hX:=Below.next hb0 ‹Below W0.heap.size W0 _›;(with_reducible refine (open_timed_no (HB.out.below hX) HN.out (HK.out.below hX) _ (al:=timedAsk now) (fun hk W hW=>timed1_at _ _ _ _ _ (HQ.out W (Below.next (by first | exact Below.refl _ _ | exact bal _ _) hW))) HT.out HH0.out).mono ?_);rintro e w3 ⟨rfl,hb3⟩;obtain ⟨hc3,hf3⟩:=bcell hb3;have hz3':=hb3.size;(try simp at hz3');(try (have hy3:W0.heap.size < w3.heap.size:=by omega)))
     | fail "no arm")
  all_goals exact ⟨rfl,bel,_,_,_,_,_,_,_,_,_,_,rfl⟩
 rintro e a' X ⟨rfl,hbX,v7,v8,v13,v14,v15,v16,v17,v18,v19,v20,rfl⟩;obtain ⟨q6,q7,q8,q9⟩:=HQ0.out;have hXs:=hbX.size;have x1:=(hbX.cell (p:=⟨w.heap.size+1+1,0,none⟩) (by simp;omega)).trans q6;have x2:=(hbX.frozen (p:=⟨w.heap.size+1+1,0,none⟩) (by simp;omega)).trans q8;have x3:=(hbX.cell (p:=⟨w.heap.size+1+1+1,0,none⟩) (by simp;omega)).trans q7;have x4:=(hbX.frozen (p:=⟨w.heap.size+1+1+1,0,none⟩) (by simp;omega)).trans q9;have hbw:=Below.next hb0 hbX;have hlt1:w.heap.size+1+1 < X.heap.size:=by omega
 have hlt2:w.heap.size+1+1+1 < X.heap.size:=by omega
 clear q6 q7 q8 q9;go_wp2;have c1:((X.setCell ⟨w.heap.size+1+1,0,none⟩ (.slice none 0 0)).setCell ⟨w.heap.size+1+1+1,0,none⟩ (.bool false)).cell? ⟨w.heap.size+1+1,0,none⟩=some (.slice none 0 0):=by
  rw [World.cell?_setCell_other (h:=fun e=>by injection e with e _ _;omega),World.cell?_setCell_same' _ _ _ (by rw [x1];rfl)]
 have c2:((X.setCell ⟨w.heap.size+1+1,0,none⟩ (.slice none 0 0)).setCell ⟨w.heap.size+1+1+1,0,none⟩ (.bool false)).cell? ⟨w.heap.size+1+1+1,0,none⟩=some (.bool false):=by
  rw [World.cell?_setCell_same' _ _ _ (by rw [World.cell?_setCell_other (h:=fun e=>by injection e with e _ _;omega),x3];rfl)]
 exact bodyPost_ret (v:=.tuple #[.slice none 0 0,.bool false,.int .i64 t]) (by simp [results,Tryz.results7,go_sem,c1,c2]) rfl ⟨rfl,(hbw.setCell (by simp;omega) _).setCell (by simp;omega) _⟩
end
end Go.Proofs.YtdjnkplgllakcaaGreatDoor
namespace Go.Proofs.YtdjnkplgllakcaaGreatDoor
open Go.RowKit Go.Maps Sp Mt Go.Conc
section
variable {w w1:World} {B n:Nat} {b:Bk} {vr vg vm vs vc:Value} {ka:Option Addr} {ks:List Int}
structure PkSt (w:World) (B:Nat) (b:Bk) (vr vg vm vs vc:Value):Prop where
 c0:w.cell? ⟨B,0,none⟩=some vr
 c1:w.cell? ⟨B,1,none⟩=some vg
 c2:w.cell? ⟨B,2,none⟩=some vm
 c3:w.cell? ⟨B,3,none⟩=some vs
 c4:w.cell? ⟨B,4,none⟩=some vc
 bk:BookAt w b vr vg vm vs vc
 kd:KindsAt w
theorem PkSt.of {l:List Int} {la:Option Addr} (h:LawAt w B b l vr vg vm vs vc la) (hs:SmallB b):PkSt w B b vr vg vm vs vc:=⟨h.c0,h.c1,h.c2,h.c3,h.c4,h.raw.book hs,h.kd⟩
theorem PkSt.old (h:PkSt w B b vr vg vm vs vc) (t:Old w w1):PkSt w1 B b vr vg vm vs vc:=⟨t.cell2 h.c0,t.cell2 h.c1,t.cell2 h.c2,t.cell2 h.c3,t.cell2 h.c4,t.book h.bk,t.kinds h.kd⟩
theorem PkSt.twin (h:PkSt w B b vr vg vm vs vc) (t:Twin n w w1):PkSt w1 B b vr vg vm vs vc:=⟨(t.cell _).trans h.c0,(t.cell _).trans h.c1,(t.cell _).trans h.c2,(t.cell _).trans h.c3,(t.cell _).trans h.c4,t.book h.bk,t.kinds h.kd⟩
theorem U16sAt.tw (h:U16sAt w ka ks) (t:Twin n w w1):U16sAt w1 ka ks:=fun i hi=>by
 obtain ⟨b,o,e,hlt,h1,h2⟩:=h i hi;exact ⟨b,o,e,by rw [t.size];exact hlt,(t.cell _).trans h1,h2⟩
theorem U16sAt.ol (h:U16sAt w ka ks) (t:Old w w1):U16sAt w1 ka ks:=fun i hi=>by
 obtain ⟨b,o,e,hlt,h1,h2⟩:=h i hi;exact ⟨b,o,e,Nat.lt_of_lt_of_le hlt t.size,t.cell2 h1,h2⟩
theorem stored_lead2 {w':World} (hK:KindsAt w) (t:Twin 0 w w') (c:Frame) (cs:List Frame):Leads Tryz.prog (fun fr' cs' w1=>∃ v,fr'=c.finish v/\cs'=cs/\v=.bool true/\Old w w1) (Frame.enter Tryz.prog 5 #[] .normal) (c::cs) w':=by
 refine (stored_co (t.kinds hK) c cs).mono ?_;rintro fr' cs' w2 ⟨h1,h2,ho⟩;exact ⟨_,h1,h2,rfl,t.old0 ho⟩
def packQ (b:Bk) (now:Int):List Int × Bool:=if openAl b 0=0 then (planOf (packI b (loadsI b) now),(packI b (loadsI b) now).isSome) else ([],false)
theorem timed_zero {now:Int} (h0:0<=now) (h1:now<=999):timedAsk now=0:=by unfold timedAsk inB;rw [if_pos (by simp;omega)]
theorem pack2_at (hB:BookAt w b vr vg vm vs vc) (hN:∀ m∈b.ms,m.name.size<=1000000) (hK:KindsAt w) (now:Int) (h0:0<=now) (h1:now<=999) {q:List Int} {f:Bool} {u:Int} (hq:packQ b now=(q,f)) (hu:openAl b 0=u) :
 Calls Tryz.prog 7 #[.agg #[vr,vg,vm,vs,vc],.int .i64 now] w fun e w'=>∃ a c,e=.returned (.tuple #[.slice a q.length c,.bool f,.int .i64 u])/\IntsAt w' a q/\Below w.heap.size w w':=by
 have htz:=timed_zero h0 h1;unfold packQ at hq;by_cases hz:u=0
 ·subst hz;rw [if_pos hu] at hq;cases hq;exact pack_ok hB hN hK now ⟨h0,h1⟩ (by rw [htz];exact hu)
 ·rw [if_neg (by rw [hu];exact hz)] at hq;cases hq;refine (pack_no hB hN hK now (t:=u) (by rw [htz];exact hu) hz).mono ?_;rintro e w' ⟨rfl,hb⟩;exact ⟨none,0,rfl,fun i hi=>absurd hi (Nat.not_lt_zero _),hb⟩
theorem plan_asked {b:Bk} {plan:List Int} {now:Int} (hu:openAl b 0=0) (hl:plan.length=b.ms.length) (h0:0<=now) (h1:now<=999):openAl b (planAsk b.ms.length plan.length now)=0:=by
 have:planAsk b.ms.length plan.length now=0:=by unfold planAsk;rw [timed_zero h0 h1];simp [hl]
 rw [this];exact hu
theorem loadsI_nn {b:Bk} (h:bookAl b=0):∀ x∈loadsI b,0<=x:=fun x hx=>(loadsI_bd h x hx).1
theorem openAl_two {b:Bk} (h:bookAl b=0):openAl b 0=0\/openAl b 0=10:=by
 unfold openAl;rw [if_neg (by simp [h]),if_neg (by simp)];split
 ·exact .inr rfl
 ·exact .inl rfl
end
end Go.Proofs.YtdjnkplgllakcaaGreatDoor
namespace Go.Proofs.YtdjnkplgllakcaaGreatDoor
namespace Sp
def lowN (t b:Nat):Nat × Nat:=(t / Nat.gcd t b,b / Nat.gcd t b)
def lossStep (t:Nat) (n:Nat) (l:Nat × Nat):Nat × Nat:=lowN (lowN (t * l.1) l.2).1 ((n+1) * (lowN (t * l.1) l.2).2+(lowN (t * l.1) l.2).1)
def lossN (t:Nat):Nat->Nat × Nat
 | 0=>(1,1)
 | n+1=>lossStep t n (lossN t n)
def overN (x y:Nat × Nat):Bool:=decide (y.1 * x.2 < x.1 * y.2)
def bearsN (t p n:Nat):Bool:=!overN (lossN t n) (lowN p 10)
def enoughN (t p:Nat):Option Nat:=(List.range 8).find? (bearsN t p)
theorem loss_bd:∀ t,t < 6->∀ n,n < 8->1<=(lossN t n).2/\(lossN t n).1<=1000000/\(lossN t n).2<=1000000:=by decide +kernel
theorem times_bd:∀ t,t < 6->∀ n,n < 8->1<=(lowN (t * (lossN t n).1) (lossN t n).2).2/\(lowN (t * (lossN t n).1) (lossN t n).2).1<=5000000/\(lowN (t * (lossN t n).1) (lossN t n).2).2<=1000000:=by decide +kernel
theorem loss_mono:∀ t,t < 6->∀ u,u < 6->t<=u->∀ n,n < 8->overN (lossN t n) (lossN u n)=false:=by decide +kernel
theorem lim_bd:∀ p,p < 11->1<=(lowN p 10).2/\(lowN p 10).1<=10/\(lowN p 10).2<=10:=by decide +kernel
theorem enough_all:∀ t,t < 6->∀ u,u < 6->∀ p,p < 11->(!(decide (t<=u) && (enoughN u p).isSome) || ((enoughN t p).isSome && decide ((enoughN t p).getD 0<=(enoughN u p).getD 0)))=true:=by decide +kernel
theorem enough_mono {t u p:Nat} (hu:u < 6) (h:t<=u) (hp:p < 11) (hs:(enoughN u p).isSome=true):(enoughN t p).isSome=true/\(enoughN t p).getD 0<=(enoughN u p).getD 0:=by
 have:=enough_all t (by omega) u hu p hp;simpa [h,hs] using this
theorem low_one (t:Nat):lowN t 1=(t,1):=by simp [lowN]
theorem low_pos {t b:Nat} (h:0 < b):0 < Nat.gcd t b:=Nat.gcd_pos_of_pos_right _ h
end Sp
end Go.Proofs.YtdjnkplgllakcaaGreatDoor
namespace Go.Proofs.YtdjnkplgllakcaaGreatDoor
open Go.RowKit Go.Maps Sp
theorem wr64 {x:Int} (h:-9223372036854775808<=x/\x<=9223372036854775807):wrap64 x=x:=IntWalk.wrap64_in x h
theorem quoN {a b:Nat} (ha:a<=1000000000000):wrap64 ((a:Int) / (b:Int))=((a / b:Nat):Int):=by
 have h:(a:Int) / (b:Int)=((a / b:Nat):Int):=rfl;rw [h];have:=Nat.div_le_self a b;generalize a / b=x at this ⊢;exact wr64 (by omega)
theorem remN (a b:Nat):(a:Int).tmod b=((a % b:Nat):Int):=rfl
theorem eqz {b:Nat} (h:0 < b):((b:Int) == 0)=false:=by rw [beq_eq_false_iff_ne];omega
section
variable {w:World}
theorem lowest_at {t b:Nat} (hb:0 < b) (ht:t<=1000000000) (hbb:b<=1000000000) (w:World):Calls Tryz.prog 101 #[.int .i64 t,.int .i64 b] w fun e w'=>e=.returned (.agg #[.int .i64 (lowN t b).1,.int .i64 (lowN t b).2])/\Below w.heap.size w w':=by
 have HG:=Hh (rfl:Nat.gcd t b=Nat.gcd t b);have HLP:=Hh (low_pos (t:=t) hb)
 go_enter Tryz.func101,Tryz.ntmps101
 go_wp2;obtain ⟨W0,hW0⟩:∃ W0,W0=w.alloc (.cells #[.int .i64 0,.int .i64 0] 138):=⟨_,rfl⟩;rw [<- hW0];have hb0:Below w.heap.size w W0:=by rw [hW0];(exact bel)
 have hs0:w.heap.size < W0.heap.size:=by rw [hW0];simp
 have y0:W0.cell? ⟨w.heap.size,0,none⟩=some (.int .i64 0):=by rw [hW0,World.cell?_alloc_at _ _ _ _ rfl];rfl
 have y1:W0.cell? ⟨w.heap.size,1,none⟩=some (.int .i64 0):=by rw [hW0,World.cell?_alloc_at _ _ _ _ rfl];rfl
 have z0:W0.frozen? ⟨w.heap.size,0,none⟩=false:=by rw [hW0,World.frozen?_alloc_at _ _ _ _ rfl]
 have z1:W0.frozen? ⟨w.heap.size,1,none⟩=false:=by rw [hW0,World.frozen?_alloc_at _ _ _ _ rfl]
 have HB0:=Hh hb0;clear hW0 hb0;go_loopw [5,6] (fun x y wr=>∃ a c:Nat,x=.int .i64 a/\y=.int .i64 c/\Hid (Nat.gcd a c=Nat.gcd t b)/\a<=1000000000/\c<=1000000000/\Below W0.heap.size W0 wr) (fun _ y _=>(intOf y).toNat)
 case atStart=>exact ⟨t,b,rfl,rfl,rfl,ht,hbb,Below.refl _ _⟩
 case round =>
  obtain ⟨a,c,rfl,rfl,HD,ha,hc,hW⟩:=hrel;have hWs:=hW.size;by_cases hz:c=0
  ·have hga:a=Nat.gcd t b:=by have:=HD.out;rw [hz] at this;rwa [Nat.gcd_zero_right] at this
   have hzz:((c:Int) != 0)=false:=by simpa using hz
   have hq1:wrap64 ((t:Int) / (a:Int))=(((lowN t b).1:Nat):Int):=by rw [quoN (by omega),hga];rfl
   have hq2:wrap64 ((b:Int) / (a:Int))=(((lowN t b).2:Nat):Int):=by rw [quoN (by omega),hga];rfl
   have ha0:((a:Int) == 0)=false:=eqz (by rw [hga];exact HLP.out);have ha1:a≠0:=by have:=HLP.out;omega
   have m0:=(hW.cell (p:=⟨w.heap.size,0,none⟩) hs0).trans y0;have m1:=(hW.cell (p:=⟨w.heap.size,1,none⟩) hs0).trans y1;have f0:=(hW.frozen (p:=⟨w.heap.size,0,none⟩) hs0).trans z0;have f1:=(hW.frozen (p:=⟨w.heap.size,1,none⟩) hs0).trans z1;have hzr:w.heap.size < wr.heap.size:=by omega
   have HBW:=Hh (Below.next HB0.out hW);obtain ⟨u,hu⟩:∃ u,(lowN t b).1=u:=⟨_,rfl⟩;obtain ⟨v,hv⟩:∃ v,(lowN t b).2=v:=⟨_,rfl⟩;rw [hu] at hq1;rw [hv] at hq2;have HU:=Hh hu;have HV:=Hh hv;clear hW HD hga y0 y1 z0 z1 hz hu hv;go_wp2
   go_region
   all_goals
    rw [hq1,hq2];go_wp2;have hbw:=HBW.out;refine bodyPost_ret (v:=.agg #[.int .i64 u,.int .i64 v]) ?_ rfl ⟨by rw [HU.out,HV.out],bel⟩;simp [results,Tryz.results101,go_sem, *]
  ·have hz1:((c:Int) == 0)=false:=eqz (by omega);have hz2:((c:Int) != 0)=true:=by simpa using hz
   have hr:(a:Int).tmod (c:Int)=((a % c:Nat):Int):=remN a c;have hlt:=Nat.mod_lt a (show 0 < c by omega);go_wp2;go_quiet (fail);go_wp2;go_roundw
   case rel=>exact ⟨c,a % c,rfl,by first | rw [hr] | rfl,(show Nat.gcd c (a % c)=_ by rw [<- HD.out,Nat.gcd_comm a c,Nat.gcd_rec c a,Nat.gcd_comm]),by omega,by omega,Below.next hW (bel)⟩
   case measure=>simp [intOf];omega
end
theorem mulN {a b:Nat} (h:a * b<=1000000000000):wrap64 ((a:Int) * (b:Int))=((a * b:Nat):Int):=by
 rw [<- Int.natCast_mul];exact wr64 (by omega)
theorem between_at {n low high:Int} {v:Bool} (h:inB n low high=v) (w:World):Calls Tryz.prog 83 #[.int .i64 n,.int .i64 low,.int .i64 high] w fun e w'=>e=.returned (.bool v)/\w'=w:=by
 subst h;by_cases h1:low<=n
 ·by_cases h2:n<=high
  ·go_enter Tryz.func83,Tryz.ntmps83
   go_wp2;go_ret;exact ⟨by simp [inB,h1,h2],rfl⟩
  ·go_enter Tryz.func83,Tryz.ntmps83
   go_wp2;go_ret;exact ⟨by simp [inB,h1,h2],rfl⟩
 ·go_enter Tryz.func83,Tryz.ntmps83
  go_wp2;go_ret;exact ⟨by simp [inB];omega,rfl⟩
theorem isTrunks_at {k:Nat} (h:k<=7) (w:World):Calls Tryz.prog 79 #[.int .i64 k] w fun e w'=>e=.returned (.bool true)/\w'=w:=by
 have HI:=Hh (show inB (k:Int) 0 7=true by simp [inB];omega);clear h
 go_enter Tryz.func79,Tryz.ntmps79
 go_wp2_with (go_at_call 83;(with_reducible refine (between_at HI.out _).mono ?_);rintro e w1 ⟨rfl,rfl⟩);go_ret;exact ⟨rfl,rfl⟩
theorem isTraffic_at {t:Nat} (h:t<=12) (w:World):Calls Tryz.prog 48 #[.agg #[.int .i64 t,.int .i64 1]] w fun e w'=>e=.returned (.bool true)/\Below w.heap.size w w':=by
 have HI:=Hh (show inB (t:Int) 0 12=true by simp [inB];omega);have HJ:=Hh (show inB (1:Int) 1 4=true by simp [inB]);clear h
 go_enter Tryz.func48,Tryz.ntmps48
 go_wp2_with (first
  | (go_at_call 83;(with_reducible refine (between_at HI.out _).mono ?_);rintro e w1 ⟨rfl,rfl⟩)
  | (go_at_call 83;(with_reducible refine (between_at HJ.out _).mono ?_);rintro e w1 ⟨rfl,rfl⟩))
 go_ret;exact ⟨rfl,bel⟩
theorem isLimit_at {p:Nat} (h:p<=10) (w:World):Calls Tryz.prog 49 #[.agg #[.int .i64 p,.int .i64 10]] w fun e w'=>e=.returned (.bool true)/\Below w.heap.size w w':=by
 have HI:=Hh (show inB (p:Int) 0 10=true by simp [inB];omega);have HJ:=Hh (show inB (10:Int) 1 100=true by simp [inB]);clear h
 go_enter Tryz.func49,Tryz.ntmps49
 go_wp2_with (first
  | (go_at_call 83;(with_reducible refine (between_at HI.out _).mono ?_);rintro e w1 ⟨rfl,rfl⟩)
  | (go_at_call 83;(with_reducible refine (between_at HJ.out _).mono ?_);rintro e w1 ⟨rfl,rfl⟩))
 go_ret;exact ⟨rfl,bel⟩
theorem fraction_at (x y:Int) (w:World):Calls Tryz.prog 81 #[.agg #[.int .i64 x,.int .i64 y]] w fun e w'=>e=.returned (.agg #[.int .i64 x,.int .i64 y])/\Below w.heap.size w w':=by
 go_enter Tryz.func81,Tryz.ntmps81
 go_wp2;exact bodyPost_ret (v:=.agg #[.int .i64 x,.int .i64 y]) (by simp [results,Tryz.results81,go_sem]) rfl ⟨rfl,bel⟩
theorem of_at {t b:Nat} (hb:0 < b) (ht:t<=1000000000) (hbb:b<=1000000000) (w:World):Calls Tryz.prog 80 #[.agg #[.int .i64 t,.int .i64 b]] w fun e w'=>e=.returned (.agg #[.int .i64 (lowN t b).1,.int .i64 (lowN t b).2])/\Below w.heap.size w w':=by
 have HH:=Hh (fun W=>lowest_at hb ht hbb W);generalize ((lowN t b).1:Int)=x at HH;generalize ((lowN t b).2:Int)=y at HH;clear hb ht hbb
 go_enter Tryz.func80,Tryz.ntmps80
 go_wp2_with (go_at_call 101;(with_reducible refine (HH.out _).mono ?_);rintro e w1 ⟨rfl,hb1⟩;obtain ⟨hc1,hf1⟩:=bcell hb1;have hz1:w.heap.size+1 < w1.heap.size:=(by have:=hb1.size;simp at this;omega);have k1:=hc1 (w.heap.size+1) 0 (by simp);have k2:=hc1 (w.heap.size+1) 1 (by simp));exact bodyPost_ret (v:=.agg #[.int .i64 x,.int .i64 y]) (by simp [results,Tryz.results80,go_sem, *]) rfl ⟨rfl,bel⟩
theorem times_at {t l m:Nat} (hm:0 < m) (hl:t * l<=1000000000) (hmm:m<=1000000000) (w:World):Calls Tryz.prog 103 #[.agg #[.int .i64 t,.int .i64 1],.agg #[.int .i64 l,.int .i64 m]] w fun e w'=>e=.returned (.agg #[.int .i64 (lowN (t * l) m).1,.int .i64 (lowN (t * l) m).2])/\Below w.heap.size w w':=by
 have HH:=Hh (fun W=>lowest_at hm hl hmm W);have hw1:wrap64 ((t:Int) * (l:Int))=((t * l:Nat):Int):=mulN (by omega);have hw2:wrap64 (m:Int)=(m:Int):=wr64 (by omega);generalize ((lowN (t * l) m).1:Int)=x at HH;generalize ((lowN (t * l) m).2:Int)=y at HH;generalize t * l=tl at HH hw1;clear hm hl hmm
 go_enter Tryz.func103,Tryz.ntmps103
 go_wp2_with (go_at_call 101;(try rw [hw1]);(try rw [hw2]);(with_reducible refine (HH.out _).mono ?_);rintro e w1 ⟨rfl,hb1⟩;obtain ⟨hc1,hf1⟩:=bcell hb1;have hz1:w.heap.size+1+1 < w1.heap.size:=(by have:=hb1.size;simp at this;omega));exact bodyPost_ret (v:=.agg #[.int .i64 x,.int .i64 y]) (by simp [results,Tryz.results103,go_sem, *]) rfl ⟨rfl,bel⟩
theorem over_quo {a b c d:Nat} (hb:0 < b) (hd:0 < d) (h:a / b≠c / d):overN (a,b) (c,d)=decide (c / d < a / b):=by
 unfold overN;have e1:=Nat.div_add_mod a b;have e2:=Nat.div_add_mod c d;have l1:=Nat.mod_lt a hb;have l2:=Nat.mod_lt c hd;generalize a / b=q at *;generalize c / d=r at *;generalize a % b=x at *;generalize c % d=y at *;subst e1 e2;by_cases hlt:r < q
 ·have:(d * r+y) * b < (b * q+x) * d:=by
   have h1:(d * r+y) * b < (d * (r+1)) * b:=Nat.mul_lt_mul_of_pos_right (by rw [Nat.mul_succ];omega) hb;have h2:(d * (r+1)) * b<=(b * q+x) * d:=by
    have h3:d * (r+1) * b<=d * q * b:=Nat.mul_le_mul_right _ (Nat.mul_le_mul_left _ hlt);have h4:d * q * b=b * q * d:=by rw [Nat.mul_comm d q,Nat.mul_assoc,Nat.mul_comm d b,<- Nat.mul_assoc,Nat.mul_comm q b]
    have h5:b * q * d<=(b * q+x) * d:=Nat.mul_le_mul_right _ (Nat.le_add_right _ _);omega
   omega
  simp [hlt,this]
 ·have hgt:q < r:=by omega
  have:¬ (d * r+y) * b < (b * q+x) * d:=by
   have h1:(b * q+x) * d < (b * (q+1)) * d:=Nat.mul_lt_mul_of_pos_right (by rw [Nat.mul_succ];omega) hd;have h3:b * (q+1) * d<=b * r * d:=Nat.mul_le_mul_right _ (Nat.mul_le_mul_left _ hgt);have h4:b * r * d=d * r * b:=by rw [Nat.mul_comm b r,Nat.mul_assoc,Nat.mul_comm b d,<- Nat.mul_assoc,Nat.mul_comm r d]
   have h5:d * r * b<=(d * r+y) * b:=Nat.mul_le_mul_right _ (Nat.le_add_right _ _);omega
  simp [hlt,this]
theorem over_rem {a b c d:Nat} (h:a / b=c / d):overN (a,b) (c,d)=decide ((c % d) * b < (a % b) * d):=by
 unfold overN;have e1:=Nat.div_add_mod a b;have e2:=Nat.div_add_mod c d;rw [h] at e1;generalize c / d=r at *;generalize a % b=x at *;generalize c % d=y at *;subst e1 e2;have h4:b * r * d=d * r * b:=by rw [Nat.mul_comm b r,Nat.mul_assoc,Nat.mul_comm b d,<- Nat.mul_assoc,Nat.mul_comm r d]
 have e:((d * r+y) * b < (b * r+x) * d)↔(y * b < x * d):=by rw [Nat.add_mul,Nat.add_mul,h4];omega
 simp only [e]
theorem over_end {a b c d:Nat} (hb:0 < b) (hd:0 < d) (h:a / b=c / d) (hz:a % b=0\/c % d=0):overN (a,b) (c,d)=decide (0 < a % b):=by
 rw [over_rem h];rcases hz with hz | hz
 ·rw [hz];simp
 ·rw [hz,Nat.zero_mul];by_cases hx:a % b=0
  ·rw [hx];simp
  ·have h1:0 < a % b:=by omega
   have:0 < a % b * d:=Nat.mul_pos h1 hd;simp [this,h1]
theorem over_turn {a b c d:Nat} (h:a / b=c / d):overN (a,b) (c,d)=overN (d,c % d) (b,a % b):=by
 rw [over_rem h];unfold overN;simp only [Nat.mul_comm]
def cellNat (w:World) (p:Addr):Nat:=match w.cell? p with | some x=>(intOf x).toNat | none=>0
theorem cellNat_eq {w:World} {p:Addr} {n:Nat} (h:w.cell? p=some (.int .i64 n)):cellNat w p=n:=by unfold cellNat;rw [h];simp [intOf]
theorem four_put {Y:World} {B:Nat} {u0 u1 u2 u3:Value} (h0:Y.cell? ⟨B,0,none⟩=some u0) (h1:Y.cell? ⟨B,1,none⟩=some u1) (h2:Y.cell? ⟨B+1,0,none⟩=some u2) (h3:Y.cell? ⟨B+1,1,none⟩=some u3) (p q r s:Value) :
 let Z:=(((Y.setCell ⟨B,0,none⟩ p).setCell ⟨B,1,none⟩ q).setCell ⟨B+1,0,none⟩ r).setCell ⟨B+1,1,none⟩ s
 Z.cell? ⟨B,0,none⟩=some p/\Z.cell? ⟨B,1,none⟩=some q/\Z.cell? ⟨B+1,0,none⟩=some r/\Z.cell? ⟨B+1,1,none⟩=some s/\(∀ x,Z.frozen? x=Y.frozen? x)/\Z.heap.size=Y.heap.size/\∀ {n:Nat} {w:World},Below n w Y->n<=B->Below n w Z:=by
 intro Z;have o:∀ (W:World) (x y:Addr) (v:Value),x≠y->(W.setCell y v).cell? x=W.cell? x:=fun W x y v h=>World.cell?_setCell_other _ _ _ _ (by first | exact h | exact h.symm);have n1:(⟨B,0,none⟩:Addr)≠⟨B,1,none⟩:=fun e=>by injection e with _ e _;cases e
 have n2:(⟨B,0,none⟩:Addr)≠⟨B+1,0,none⟩:=fun e=>by injection e with e _ _;omega
 have n3:(⟨B,0,none⟩:Addr)≠⟨B+1,1,none⟩:=fun e=>by injection e with e _ _;omega
 have n4:(⟨B,1,none⟩:Addr)≠⟨B+1,0,none⟩:=fun e=>by injection e with e _ _;omega
 have n5:(⟨B,1,none⟩:Addr)≠⟨B+1,1,none⟩:=fun e=>by injection e with e _ _;omega
 have n6:(⟨B+1,0,none⟩:Addr)≠⟨B+1,1,none⟩:=fun e=>by injection e with _ e _;cases e
 refine ⟨?_,?_,?_,?_,fun x=>?_,by simp [Z,World.setCell],fun {n w} h hn=>?_⟩
 ·show World.cell? Z _=_;rw [o _ _ _ _ n3,o _ _ _ _ n2,o _ _ _ _ n1];exact World.cell?_setCell_same' _ _ _ (by rw [h0];rfl)
 ·show World.cell? Z _=_;rw [o _ _ _ _ n5,o _ _ _ _ n4];exact World.cell?_setCell_same' _ _ _ (by rw [o _ _ _ _ n1.symm,h1];rfl)
 ·show World.cell? Z _=_;rw [o _ _ _ _ n6];exact World.cell?_setCell_same' _ _ _ (by rw [o _ _ _ _ n4.symm,o _ _ _ _ n2.symm,h2];rfl)
 ·show World.cell? Z _=_;exact World.cell?_setCell_same' _ _ _ (by rw [o _ _ _ _ n6.symm,o _ _ _ _ n5.symm,o _ _ _ _ n3.symm,h3];rfl)
 ·show World.frozen? Z _=_;rw [World.frozen?_setCell,World.frozen?_setCell,World.frozen?_setCell,World.frozen?_setCell]
 ·exact Below.wr (Below.wr (Below.wr (Below.wr h (p:=⟨B,0,none⟩) hn p) (p:=⟨B,1,none⟩) hn q) (p:=⟨B+1,0,none⟩) (Nat.le_succ_of_le hn) r) (p:=⟨B+1,1,none⟩) (Nat.le_succ_of_le hn) s
section
variable {w:World}
theorem above_at {a b c d:Nat} (hb:0 < b) (hd:0 < d) (hab:a<=1000000000/\b<=1000000000/\c<=1000000000/\d<=1000000000) {v:Bool} (hv:overN (a,b) (c,d)=v) (w:World) :
 Calls Tryz.prog 84 #[.agg #[.int .i64 a,.int .i64 b],.agg #[.int .i64 c,.int .i64 d]] w fun e w'=>e=.returned (.bool v)/\Below w.heap.size w w':=by
 have HV:=Hh hv;clear hv
 go_enter Tryz.func84,Tryz.ntmps84
 go_wp2;obtain ⟨W0,hW0⟩:∃ W0,W0=(w.alloc (.cells #[.int .i64 a,.int .i64 b] 138)).alloc (.cells #[.int .i64 c,.int .i64 d] 138):=⟨_,rfl⟩;rw [<- hW0];have hb0:Below w.heap.size w W0:=by rw [hW0];(exact bel)
 have hs0:w.heap.size+1 < W0.heap.size:=by rw [hW0];simp
 have y0:W0.cell? ⟨w.heap.size,0,none⟩=some (.int .i64 a):=by rw [hW0,World.cell?_alloc_past _ _ _ (by simp),World.cell?_alloc_at _ _ _ _ rfl];rfl
 have y1:W0.cell? ⟨w.heap.size,1,none⟩=some (.int .i64 b):=by rw [hW0,World.cell?_alloc_past _ _ _ (by simp),World.cell?_alloc_at _ _ _ _ rfl];rfl
 have y2:W0.cell? ⟨w.heap.size+1,0,none⟩=some (.int .i64 c):=by rw [hW0,World.cell?_alloc_at _ _ _ _ (by simp)];rfl
 have y3:W0.cell? ⟨w.heap.size+1,1,none⟩=some (.int .i64 d):=by rw [hW0,World.cell?_alloc_at _ _ _ _ (by simp)];rfl
 have z:∀ k,W0.frozen? ⟨w.heap.size,k,none⟩=false:=fun k=>by rw [hW0,World.frozen?_alloc_past _ _ _ (by simp),World.frozen?_alloc_at _ _ _ _ rfl]
 have z':∀ k,W0.frozen? ⟨w.heap.size+1,k,none⟩=false:=fun k=>by rw [hW0,World.frozen?_alloc_at _ _ _ _ (by simp)]
 have z0:=z 0;have z1:=z 1;have z2:=z' 0;have z3:=z' 1;have H0:=Hh (⟨y0,y1,y2,y3,z0,z1,z2,z3⟩:_/\_/\_/\_/\_/\_/\_/\_);have HB0:=Hh hb0;clear hW0 hb0 z z' y0 y1 y2 y3 z0 z1 z2 z3;go_loopw [] (fun wr=>∃ a' b' c' d':Nat,0 < b'/\0 < d'/\a'<=1000000000/\b'<=1000000000/\c'<=1000000000/\d'<=1000000000/\Hid (overN (a',b') (c',d')=v)/\wr.cell? ⟨w.heap.size,0,none⟩=some (.int .i64 a')/\wr.cell? ⟨w.heap.size,1,none⟩=some (.int .i64 b')/\wr.cell? ⟨w.heap.size+1,0,none⟩=some (.int .i64 c')/\wr.cell? ⟨w.heap.size+1,1,none⟩=some (.int .i64 d')/\wr.frozen? ⟨w.heap.size,0,none⟩=false/\wr.frozen? ⟨w.heap.size,1,none⟩=false/\wr.frozen? ⟨w.heap.size+1,0,none⟩=false/\wr.frozen? ⟨w.heap.size+1,1,none⟩=false/\w.heap.size+1 < wr.heap.size/\Below w.heap.size w wr) (fun wr=>cellNat wr ⟨w.heap.size,1,none⟩+cellNat wr ⟨w.heap.size+1,1,none⟩)
 case atStart=>exact ⟨a,b,c,d,hb,hd,hab.1,hab.2.1,hab.2.2.1,hab.2.2.2,HV,H0.out.1,H0.out.2.1,H0.out.2.2.1,H0.out.2.2.2.1,H0.out.2.2.2.2.1,H0.out.2.2.2.2.2.1,H0.out.2.2.2.2.2.2.1,H0.out.2.2.2.2.2.2.2,hs0,HB0.out⟩
 case round =>
  obtain ⟨a,b,c,d,hb,hd,ha9,hb9,hc9,hd9,HR,c0,c1,c2,c3,f0,f1,f2,f3,hsr,hW⟩:=hrel;have eb:=eqz hb;have ed:=eqz hd;have eb2:b≠0:=by omega
  have ed2:d≠0:=by omega
  have q1:wrap64 ((a:Int) / (b:Int))=((a / b:Nat):Int):=quoN (by omega);have q2:wrap64 ((c:Int) / (d:Int))=((c / d:Nat):Int):=quoN (by omega);have hsr2:w.heap.size < wr.heap.size:=by omega
  have HW:=Hh hW;have CN:=Hh (show cellNat wr ⟨w.heap.size,1,none⟩+cellNat wr ⟨w.heap.size+1,1,none⟩=b+d by rw [cellNat_eq c1,cellNat_eq c3]);clear hW;by_cases hq:a / b=c / d
  ·have heq:((a:Int) / (b:Int) == (c:Int) / (d:Int))=true:=by rw [beq_iff_eq];exact congrArg Int.ofNat hq
   go_wp2;go_quiet (fail);obtain ⟨X,hX⟩:∃ X,wr.drewN nq=X:=⟨_,rfl⟩;rw [hX];have hbX:Below wr.heap.size wr X:=by rw [<- hX];(exact bel)
   have c0:=(hbX.cell (p:=⟨w.heap.size,0,none⟩) hsr2).trans c0;have c1:=(hbX.cell (p:=⟨w.heap.size,1,none⟩) hsr2).trans c1;have c2:=(hbX.cell (p:=⟨w.heap.size+1,0,none⟩) hsr).trans c2;have c3:=(hbX.cell (p:=⟨w.heap.size+1,1,none⟩) hsr).trans c3;have f0:=(hbX.frozen (p:=⟨w.heap.size,0,none⟩) hsr2).trans f0;have f1:=(hbX.frozen (p:=⟨w.heap.size,1,none⟩) hsr2).trans f1;have f2:=(hbX.frozen (p:=⟨w.heap.size+1,0,none⟩) hsr).trans f2;have f3:=(hbX.frozen (p:=⟨w.heap.size+1,1,none⟩) hsr).trans f3;have hsX:=hbX.size;have hx1:w.heap.size+1 < X.heap.size:=by omega
   have hx2:w.heap.size < X.heap.size:=by omega
   have HW:=Hh (Below.next HW.out hbX);clear hX hbX;go_wp2
   go_region
   all_goals
    obtain ⟨Y,hY⟩:∃ Y,((X.setCell ⟨w.heap.size,0,none⟩ (.int .i64 ((a:Int) % (b:Int)))).setCell ⟨w.heap.size+1,0,none⟩ (.int .i64 ((c:Int) % (d:Int)))).drew=Y:=⟨_,rfl⟩;rw [hY];obtain ⟨r,hr⟩:∃ r:Nat,a % b=r:=⟨_,rfl⟩;obtain ⟨s,hs⟩:∃ s:Nat,c % d=s:=⟨_,rfl⟩;have hr2:(a:Int) % (b:Int)=(r:Int):=by rw [<- hr];rfl
    have hs2:(c:Int) % (d:Int)=(s:Int):=by rw [<- hs];rfl
    have hrb:r < b:=by rw [<- hr];exact Nat.mod_lt a hb
    have hsd:s < d:=by rw [<- hs];exact Nat.mod_lt c hd
    have d0:Y.cell? ⟨w.heap.size,0,none⟩=some (.int .i64 r):=by rw [<- hY,hr2,World.cell?_drew,World.cell?_setCell_other (h:=fun e=>by injection e with e _ _;omega)];exact World.cell?_setCell_same' _ _ _ (by rw [c0];rfl)
    have d1:Y.cell? ⟨w.heap.size,1,none⟩=some (.int .i64 b):=by rw [<- hY,World.cell?_drew,World.cell?_setCell_other (h:=fun e=>by injection e with e _ _;omega),World.cell?_setCell_other (h:=fun e=>by injection e with _ e _;cases e)];exact c1
    have d2:Y.cell? ⟨w.heap.size+1,0,none⟩=some (.int .i64 s):=by rw [<- hY,hs2,World.cell?_drew];exact World.cell?_setCell_same' _ _ _ (by rw [World.cell?_setCell_other (h:=fun e=>by injection e with e _ _;omega),c2];rfl)
    have d3:Y.cell? ⟨w.heap.size+1,1,none⟩=some (.int .i64 d):=by rw [<- hY,World.cell?_drew,World.cell?_setCell_other (h:=fun e=>by injection e with _ e _;cases e),World.cell?_setCell_other (h:=fun e=>by injection e with e _ _;omega)];exact c3
    have fz:∀ p,Y.frozen? p=X.frozen? p:=fun p=>by rw [<- hY,World.frozen?_drew,World.frozen?_setCell,World.frozen?_setCell]
    have g0:=(fz _).trans f0;have g1:=(fz _).trans f1;have g2:=(fz _).trans f2;have g3:=(fz _).trans f3;have hsY:w.heap.size+1 < Y.heap.size:=by rw [<- hY];simpa using hx1
    have hsY2:w.heap.size < Y.heap.size:=by omega
    have hbY:Below w.heap.size w Y:=by
     rw [<- hY];have hw:=Below.wr (Below.wr HW.out (p:=⟨w.heap.size,0,none⟩) (Nat.le_refl _) (.int .i64 ((a:Int) % (b:Int)))) (p:=⟨w.heap.size+1,0,none⟩) (Nat.le_succ _) (.int .i64 ((c:Int) % (d:Int)))
     (exact bel)
    have HY:=Hh hbY;have hend:=fun hz=>over_end hb hd hq hz;have hturn:=over_turn hq;rw [HR.out,hr,hs] at hturn;rw [HR.out,hr,hs] at hend;have HE:=Hh hend;have HT:=Hh hturn;rw [hr2,hs2];clear hY hr hs hr2 hs2 c0 c1 c2 c3 f0 f1 f2 f3 fz hbY hend hturn hq;by_cases hz:r=0\/s=0
    ·have hv:=HE.out hz;have HV2:=Hh hv;by_cases hr0:r=0
     ·have e1:((r:Int) == 0)=true:=by rw [beq_iff_eq];omega
      clear hz hv hr0;go_wp2;go_ret;exact ⟨by rw [HV2.out];rfl,HY.out⟩
     ·have e1:((r:Int) == 0)=false:=eqz (by omega);have e2:((s:Int) == 0)=true:=by rw [beq_iff_eq];omega
      clear hz hv hr0;go_wp2;go_ret;exact ⟨by rw [HV2.out];rfl,HY.out⟩
    ·have e1:((r:Int) == 0)=false:=eqz (by omega);have e2:((s:Int) == 0)=false:=eqz (by omega);have hr0:0 < r:=by omega
     have hs0':0 < s:=by omega
     clear hz;go_wp2;go_roundw
     case rel =>
      obtain ⟨x0,x1,x2,x3,xf,xs,xb⟩:=four_put (B:=w.heap.size) d0 d1 d2 d3 (.int .i64 d) (.int .i64 s) (.int .i64 b) (.int .i64 r);exact ⟨d,s,b,r,hs0',hr0,by omega,by omega,by omega,by omega,Hh HT.out.symm,x0,x1,x2,x3,(xf _).trans g0,(xf _).trans g1,(xf _).trans g2,(xf _).trans g3,by rw [xs];exact hsY,xb HY.out (Nat.le_refl _)⟩
     case measure =>
      obtain ⟨x0,x1,x2,x3,-,-,-⟩:=four_put (B:=w.heap.size) d0 d1 d2 d3 (.int .i64 d) (.int .i64 s) (.int .i64 b) (.int .i64 r);rw [cellNat_eq x1,cellNat_eq x3,CN.out];omega
  ·have heq:((a:Int) / (b:Int) == (c:Int) / (d:Int))=false:=by rw [beq_eq_false_iff_ne];exact fun h=>hq (Int.ofNat.inj h)
   have hv2:decide ((c:Int) / (d:Int) < (a:Int) / (b:Int))=v:=by
    have h1:=over_quo hb hd hq;rw [HR.out] at h1;rw [h1];exact decide_eq_decide.2 (show ((c / d:Nat):Int) < ((a / b:Nat):Int)↔_ from Int.ofNat_lt)
   have HV2:=Hh hv2;clear hv2 hq;go_wp2;go_quiet (fail);obtain ⟨X,hX⟩:∃ X,wr.drewN nq=X:=⟨_,rfl⟩;rw [hX];have hbX:Below wr.heap.size wr X:=by rw [<- hX];(exact bel)
   have c0:=(hbX.cell (p:=⟨w.heap.size,0,none⟩) hsr2).trans c0;have c1:=(hbX.cell (p:=⟨w.heap.size,1,none⟩) hsr2).trans c1;have c2:=(hbX.cell (p:=⟨w.heap.size+1,0,none⟩) hsr).trans c2;have c3:=(hbX.cell (p:=⟨w.heap.size+1,1,none⟩) hsr).trans c3;have f0:=(hbX.frozen (p:=⟨w.heap.size,0,none⟩) hsr2).trans f0;have f1:=(hbX.frozen (p:=⟨w.heap.size,1,none⟩) hsr2).trans f1;have f2:=(hbX.frozen (p:=⟨w.heap.size+1,0,none⟩) hsr).trans f2;have f3:=(hbX.frozen (p:=⟨w.heap.size+1,1,none⟩) hsr).trans f3;have hsX:=hbX.size;have hx1:w.heap.size+1 < X.heap.size:=by omega
   have hx2:w.heap.size < X.heap.size:=by omega
   have HW:=Hh (Below.next HW.out hbX);clear hX hbX;go_wp2;go_quiet (fail);go_wp2;go_ret;exact ⟨by rw [<- HV2.out];rfl,Below.next HW.out (bel)⟩
end
end Go.Proofs.YtdjnkplgllakcaaGreatDoor
