/- Leads to StoreReal of chapter 6: Z1 App. -/
import Derived.Test.YtjdmplhdebgbjaaGreatDoorJ14
import Derived.Deep.Upon
set_option maxHeartbeats 200000
set_option maxRecDepth 100000
set_option linter.all false
namespace Go.Proofs.YtjdmplhdebgbjaaGreatDoor
open Go.RowKit Go.Maps Sp
def cmpI:List Int->List Int->Int
 | [],[]=>0
 | [],_::_=>-1
 | _::_,[]=>1
 | a::l,b::m=>if a < b then -1 else if a > b then 1 else cmpI l m
theorem cmp1_at (w:World) (x y:Int) {r:Int} (h:Lib.compareInt x y=r):Calls Tryz.prog 81 #[.int .i64 x,.int .i64 y] w fun e w'=>e=.returned (.int .i64 r)/\w'=w:=by
 rw [← h];exact Tryz.cmp_Compare_int x y w
section
variable {w:World} {la ma:Option Addr} {lc mc:Nat} {l m:List Int}
theorem compare_at (hL:IntsAt w la l) (hM:IntsAt w ma m) (hl:l.length<=1000000) (hm:m.length<=1000000) {t:Int} (ht:cmpI l m=t) :
 Calls Tryz.prog 55 #[.slice la l.length lc,.slice ma m.length mc] w fun e w'=>e=.returned (.int .i64 t)/\w'=w:=by
 have HT:=Hh ht;have HL:=Hh hL;have HM:=Hh hM;clear ht hL hM
 go_enter Tryz.func55,Tryz.ntmps55
 go_wp2;go_loop [11] (fun i=>∃ (k:Nat),k<=l.length/\k<=m.length/\i=.int .i64 k/\cmpI (l.drop k) (m.drop k)=t) (fun i=>l.length - (intOf i).toNat)
 case atStart=>exact ⟨0,Nat.zero_le _,Nat.zero_le _,rfl,HT.out⟩
 case round =>
  obtain ⟨k,hk,hkm,rfl,hc⟩:=hrel;by_cases hlt:k < l.length
  ·obtain ⟨lb,lo,rfl,hlb,e0⟩:=HL.out k hlt;rw [List.drop_eq_getElem_cons hlt] at hc;by_cases hlm:k < m.length
   ·obtain ⟨mb,mo,rfl,hmb,e1⟩:=HM.out k hlm;rw [List.drop_eq_getElem_cons hlm] at hc;unfold cmpI at hc;generalize l[k]=x at hc e0;generalize m[k]=y at hc e1;by_cases h1:x < y
    ·rw [if_pos h1] at hc;have HC:=Hh hc;have HX:=Hh (show Lib.compareInt x y=-1 by unfold Lib.compareInt;rw [if_pos h1]);clear hc h1;go_wp2_with (go_at_call 81;(with_reducible refine (cmp1_at _ _ _ HX.out).mono ?_);rintro e w' ⟨rfl,rfl⟩);go_ret;exact ⟨by rw [← HC.out];rfl,rfl⟩
    ·rw [if_neg h1] at hc;by_cases h2:x > y
     ·rw [if_pos h2] at hc;have HC:=Hh hc;have HX:=Hh (show Lib.compareInt x y=1 by unfold Lib.compareInt;rw [if_neg h1,if_pos h2]);clear hc h1 h2;go_wp2_with (go_at_call 81;(with_reducible refine (cmp1_at _ _ _ HX.out).mono ?_);rintro e w' ⟨rfl,rfl⟩);go_ret;exact ⟨by rw [← HC.out];rfl,rfl⟩
     ·rw [if_neg h2] at hc;have HC:=Hh hc;have HX:=Hh (show Lib.compareInt x y=0 by unfold Lib.compareInt;rw [if_neg h1,if_neg h2]);clear hc h1 h2;go_wp2_with (go_at_call 81;(with_reducible refine (cmp1_at _ _ _ HX.out).mono ?_);rintro e w' ⟨rfl,rfl⟩);go_round
      case rel=>exact ⟨k+1,by omega,by omega,by go_num,HC.out⟩
      case measure=>simp [intOf];omega
   ·have hmk:m.drop k=[]:=List.drop_eq_nil_of_le (by omega);rw [hmk] at hc;unfold cmpI at hc;have HC:=Hh hc;clear hc hmk;go_wp2;go_ret;exact ⟨by rw [← HC.out];rfl,rfl⟩
  ·obtain rfl:k=l.length:=by omega
   rw [List.drop_length] at hc;by_cases hlm:l.length < m.length
   ·rw [List.drop_eq_getElem_cons hlm] at hc;unfold cmpI at hc;have HC:=Hh hc;clear hc;go_wp2;go_ret;exact ⟨by rw [← HC.out];rfl,rfl⟩
   ·rw [List.drop_eq_nil_of_le (by omega)] at hc;unfold cmpI at hc;have HC:=Hh hc;clear hc;go_wp2;go_ret;exact ⟨by rw [← HC.out];rfl,rfl⟩
end
def idxs (mask n:Nat):List Nat:=(List.range n).filter fun i=>mask.testBit i
theorem idxs_succ (mask n:Nat):idxs mask (n+1)=if mask.testBit n then idxs mask n ++ [n] else idxs mask n:=by
 unfold idxs;rw [List.range_succ,List.filter_append];cases h:mask.testBit n <;> simp [h]
theorem idxs_le (mask n:Nat):(idxs mask n).length<=n:=by
 unfold idxs;exact Nat.le_trans (List.length_filter_le _ _) (by simp)
def idxI (mask n:Nat):List Int:=(idxs mask n).map fun (i:Nat)=>(i:Int)
def recsOf (rs:List Rec) (mask n:Nat):List Rec:=(idxs mask n).filterMap fun i=>rs[i]?
theorem idxI_succ (mask n:Nat):idxI mask (n+1)=if mask.testBit n then idxI mask n ++ [(n:Int)] else idxI mask n:=by
 unfold idxI;rw [idxs_succ];split <;> simp
theorem recsOf_succ {rs:List Rec} {mask n:Nat} (h:n < rs.length):recsOf rs mask (n+1)=if mask.testBit n then recsOf rs mask n ++ [rs[n]] else recsOf rs mask n:=by
 unfold recsOf;rw [idxs_succ];split
 ·rw [List.filterMap_append];simp [h]
 ·rfl
theorem idxI_length (mask n:Nat):(idxI mask n).length=(idxs mask n).length:=by simp [idxI]
theorem recsOf_length {rs:List Rec} {mask:Nat}:∀ {n:Nat},n<=rs.length->(recsOf rs mask n).length=(idxs mask n).length
 | 0,_=>rfl
 | n+1,h=>by
  rw [recsOf_succ (by omega),idxs_succ];have:=recsOf_length (rs:=rs) (mask:=mask) (n:=n) (by omega);split
  ·simp [this]
  ·exact this
theorem recsOf_mem {rs:List Rec} {mask n:Nat} {r:Rec} (h:r∈recsOf rs mask n):r∈rs:=by
 obtain ⟨i,_,hi⟩:=List.mem_filterMap.1 h;exact List.mem_of_getElem? hi
def subB (b:Bk) (mask:Nat):Bk:={ b with rs:=recsOf b.rs mask b.rs.length }
def clashStep (b:Bk) (st:Option (List Int)) (mask:Nat):Option (List Int) :=
 if (match st with | none=>false | some y=>decide (y.length < (idxI mask b.rs.length).length) || (decide ((idxI mask b.rs.length).length=y.length) && decide (0<=cmpI (idxI mask b.rs.length) y))) then st
 else if (pasts (subB b mask)).isEmpty then some (idxI mask b.rs.length) else st
def clashI (b:Bk):List Int:=((List.range (2 ^ b.rs.length)).foldl (clashStep b) none).getD []
theorem add_off (b o j:Nat):Addr.add ⟨b,o,none⟩ j=⟨b,o+j,none⟩:=by unfold Addr.add;split <;> simp_all
section
variable {P:Program}
def Src1 (X:World) (sa:Option Addr) (c:Nat) (news:List Value):Prop:=(sa=none->c=0/\news=[])/\∀ j u,news[j]? = some u->∃ ad,sa=some ad/\X.cell? (ad.add j)=some u
theorem run_app {X:World} {base:Nat} {t ty e:TypeId} {z:Value} {bytes:Nat} (ht:P.underlying t=some (.slice e)) (hi:(P.info? e).map (fun i=>(i.zero,i.size,i.bytes))=some (some z,1,bytes)) (hzs:z.cells.size=1) (hby:bytes<=100)
 {v:Value} {n:Nat} {xs:List Value} (hown:X.ownsRow base e 1 v n xs) {sa:Option Addr} {m c:Nat} {news:List Value} (hl:news.length=m) (hnews:Src1 X sa c news) (h1:∀ u∈news,u.oneCell'=true) (hnm:n+m<=1000000) (hbase:base<=X.heap.size) :
 ∃ a' c' w',(Builtin.append_ #[t,t] ty #[v,.slice sa m c]).run P X=.ok (.slice a' (n+m) c') w'/\w'.ownsRow base e 1 (.slice a' (n+m) c') (n+m) (xs ++ news)/\X.grownBy w' v.ownBlock:=by
 obtain ⟨i,hi,hz,hsz,hb⟩:=info_parts hi;obtain ⟨hn0,hcell⟩:=hnews
 cases sa with
 | some ad =>
  have hbm:(n+m) * bytes<=140737488355328:=by have:=Nat.mul_le_mul hnm hby;omega
  obtain ⟨v',w',hr,h2,h3,_,_⟩:=run_append_own_at (P:=P) X base t ty e i z 1 bytes ht hi hz hsz hb hzs (by decide) v n xs hown ad m c news (by simpa using hl) (fun j u hj=>by
   obtain ⟨ad',e',hc⟩:=hcell j u hj
   cases e'
   exact hc) h1 (by unfold maxLen;omega) hbm hbase
  rcases h2.2 with ⟨h4,h5⟩ | ⟨g,cap,cur,h4,_⟩
  ·subst h4;have hn:n=0/\m=0:=by omega
   obtain ⟨rfl,rfl⟩:=hn;exact ⟨none,0,w',hr,h2,h3⟩
  ·subst h4;exact ⟨_,_,w',hr,h2,h3⟩
 | none =>
  obtain ⟨rfl,rfl⟩:=hn0 rfl;simp only [List.length_nil] at hl;subst hl;have hshape:∃ a' c',v=.slice a' n c'/\n<=c':=by
   rcases hown.2 with ⟨rfl,rfl⟩ | ⟨g,cap,cur,rfl,_,_,h,_⟩
   ·exact ⟨none,0,rfl,Nat.le_refl _⟩
   ·exact ⟨_,_,rfl,h⟩
  obtain ⟨a',c',rfl,hle⟩:=hshape;refine ⟨a',c',X,?_,by simpa using hown,⟨rfl,rfl,rfl,Nat.le_refl _,fun _ _ _=>rfl⟩⟩;exact run_append_nothing (P:=P) X t t ty e i ht hi a' n c' hle (.slice none 0 0) ⟨.inl ⟨e,ht⟩,fun w'=>rfl,rfl,rfl,by simp,by simp⟩
theorem step_app {X W:World} {B:Nat} {ops:Array Oper} {o:Oper} {a:Act} {K:Act->World->Prop} {Q:Exit->Act->World->Prop} {E:Prop} (hgd:o.guard=none) (s x:Operand) (t:TypeId)
 (ho:o.op=.call { callee:=.builtin .append,args:=#[s,x],argTypes:=#[t,t] }) (base:Nat) (e:TypeId) {z:Value} {bytes:Nat} (ht:P.underlying t=some (.slice e)) (hi:(P.info? e).map (fun i=>(i.zero,i.size,i.bytes))=some (some z,1,bytes)) (hzs:z.cells.size=1) (hby:bytes<=100)
 {v:Value} {n:Nat} {xs:List Value} (hs:a.eval s=v) (hown:X.ownsRow base e 1 v n xs) {sa:Option Addr} {m c:Nat} {news:List Value} (hx:a.eval x=.slice sa m c) (hl:news.length=m) (hnews:Src1 X sa c news) (h1:∀ u∈news,u.oneCell'=true)
 {r:Nat} (hr:n+m=r) (hnm:r<=1000000) (hbase:base<=X.heap.size) (hW:Below B W X) (hB:B<=base)
 (h:∀ a' c' w',w'.ownsRow base e 1 (.slice a' r c') r (xs ++ news)->KS (fun k=>v.ownBlock≠some k) X w'->Below B W w'->K (a.put o.dst (.slice a' r c')) w') :
 if Region.wanted o (yielded ops a.tmps)=true then Oper.wp P o a X K Q else E:=by
 subst hr;have hw:Region.wanted o (yielded ops a.tmps)=true:=by simp [Region.wanted,hgd]
 rw [if_pos hw];obtain ⟨a',c',w',hrun,h2,h3⟩:=run_app (P:=P) (ty:=o.type) ht hi hzs hby hown hl hnews h1 hnm hbase;unfold Oper.wp execOp;simp only [ho,resolve,invoke,builtin,Sem.run_bind,Sem.run_pure,Result.andThen_ok,List.map_toArray,List.map_cons,List.map_nil,hs,hx,hrun];exact h a' c' w' h2 (KS.own h3 fun g hg=>by simp [hg]) (hW.trans ((below_own hown h3 hbase).mono hB))
theorem step_appW {X:World} {ops:Array Oper} {o:Oper} {a:Act} {K:Act->World->Prop} {Q:Exit->Act->World->Prop} {E:Prop} (W:World) (hgd:o.guard=none) (s x:Operand) (t:TypeId)
 (ho:o.op=.call { callee:=.builtin .append,args:=#[s,x],argTypes:=#[t,t] }) (e:TypeId) {z:Value} {bytes:Nat} (ht:P.underlying t=some (.slice e)) (hi:(P.info? e).map (fun i=>(i.zero,i.size,i.bytes))=some (some z,1,bytes)) (hzs:z.cells.size=1) (hby:bytes<=100)
 (v:Value) (n:Nat) (xs:List Value) (hs:a.eval s=v) (sa:Option Addr) (m c:Nat) (news:List Value) (hx:a.eval x=.slice sa m c) (hl:news.length=m) (h1:∀ u∈news,u.oneCell'=true)
 (r:Nat) (hr:n+m=r) (hnm:r<=1000000) (hW:Below W.heap.size W X) (hown:X.ownsRow W.heap.size e 1 v n xs) (hnews:Src1 X sa c news)
 (h:∀ a' c' w',w'.ownsRow W.heap.size e 1 (.slice a' r c') r (xs ++ news)->KS (fun k=>v.ownBlock≠some k) X w'->Below W.heap.size W w'->K (a.put o.dst (.slice a' r c')) w') :
 if Region.wanted o (yielded ops a.tmps)=true then Oper.wp P o a X K Q else E :=
 step_app hgd s x t ho _ e ht hi hzs hby hs hown hx hl hnews h1 hr hnm hW.size hW (Nat.le_refl _) h
theorem step_app1K {X:World} {ops:Array Oper} {o:Oper} {a:Act} {K:Act->World->Prop} {Q:Exit->Act->World->Prop} {E:Prop} (hgd:o.guard=none) (s x:Operand) (t:TypeId)
 (ho:o.op=.call { callee:=.builtin .append,args:=#[s,x],argTypes:=#[t,t] }) (base:Nat) (e:TypeId) {z:Value} {k bytes:Nat} (ht:P.underlying t=some (.slice e)) (hi:(P.info? e).map (fun i=>(i.zero,i.size,i.bytes))=some (some z,k,bytes)) (hzs:z.cells.size=k) (hk:0 < k) (hby:bytes<=100)
 (v:Value) (n:Nat) (xs:List Value) (hs:a.eval s=v) (nb:Nat) (news:List Value) (hx:a.eval x=.slice (some ⟨nb,0,none⟩) 1 1) (hl:news.length=k) (h1:∀ u∈news,u.oneCell'=true)
 (r:Nat) (hr:n+1=r) (hnm:r<=1000000) (hbase:base<=X.heap.size) (hown:X.ownsRow base e k v n xs) (hnews:Src1 X (some ⟨nb,0,none⟩) 1 news)
 (h:∀ a' c' w',w'.ownsRow base e k (.slice a' r c') r (xs ++ news)->KS (fun k=>v.ownBlock≠some k) X w'->K (a.put o.dst (.slice a' r c')) w') :
 if Region.wanted o (yielded ops a.tmps)=true then Oper.wp P o a X K Q else E:=by
 subst hr;obtain ⟨i,hi,hz,hsz,hb⟩:=info_parts hi;have hbm:(n+1) * bytes<=140737488355328:=by have:=Nat.mul_le_mul hnm hby;omega
 refine step_append_lies (w:=X) hgd s x t ho base e i z k bytes ht hi hz hsz hb hzs hk v n xs hs hown ⟨nb,0,none⟩ 1 1 news hx (by rw [hl,Nat.one_mul]) (fun j u hj=>?_) h1 (by decide) (by unfold maxLen;omega) hbm hbase X.heap.size rfl fun g c w' h2 h3 _ _=>h _ _ w' h2 (KS.own h3 fun g hg=>by simp [hg]);obtain ⟨ad,e',hc⟩:=hnews.2 j u hj;cases e';exact hc
theorem Src1.ks {X Y:World} {sa:Option Addr} {c:Nat} {news:List Value} (h:Src1 X sa c news) {p:Nat->Prop} (hk:KS p X Y) (hp:∀ ad,sa=some ad->ad.block < X.heap.size/\p ad.block):Src1 Y sa c news :=
 ⟨h.1,fun j u hj=>by
   obtain ⟨ad,e,hc⟩:=h.2 j u hj
   obtain ⟨h1,h2⟩:=hp ad e
   have hb:(Addr.add ad j).block=ad.block:=by unfold Addr.add;split <;> rfl
   exact ⟨ad,e,(hk.cell (x:=ad.add j) (by rw [hb];exact h1) (by rw [hb];exact h2)).trans hc⟩⟩
end
theorem src_new (w:World) (cs:List Value) (t:TypeId) {n:Nat} (hn:n=w.heap.size) (c:Nat):Src1 (w.alloc (.cells cs.toArray t)) (some ⟨n,0,none⟩) c cs:=by
 subst hn;exact ⟨fun h=>(by cases h),fun j u hj=>⟨_,rfl,cells_new w cs t j u hj⟩⟩
section
variable {w w':World}
theorem row_keep' {p:Nat->Prop} {A B:World} {base e size n:Nat} {v:Value} {xs:List Value} (h:A.ownsRow base e size v n xs) (hk:KS p A B) (hp:∀ g,v.ownBlock=some g->p g):B.ownsRow base e size v n xs:=by
 obtain ⟨h1,h2 | ⟨g,cap,cur,rfl,e2,e3,e4⟩⟩:=h
 ·exact ⟨h1,.inl h2⟩
 ·exact ⟨h1,.inr ⟨g,cap,cur,rfl,e2,(hk.block g (Array.getElem?_eq_some_iff.1 e3).1 (hp g rfl)).trans e3,e4⟩⟩
end
end Go.Proofs.YtjdmplhdebgbjaaGreatDoor

