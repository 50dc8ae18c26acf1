/- the fault laws -/
import Derived.Test.YtgkajecjbflbbaaGreatDoorGB23
set_option maxHeartbeats 2000000
set_option maxRecDepth 100000
set_option linter.all false
namespace Go.Proofs.YtgkajecjbflbbaaGreatDoor
namespace Mt
open Go Go.RowKit Go.Maps
attribute [local go_sem] Oper.semAt_some
theorem ownsRow_at {A B:World} {base e size n:Nat} {v:Value} {xs:List Value} {p:Nat->Prop} (h:A.ownsRow base e size v n xs) (hk:KS p A B) (hp:∀ g,v.ownBlock=some g->p g):B.ownsRow base e size v n xs:=by
 obtain ⟨h1,h2 | ⟨g,cap,cur,rfl,e2,e3,e4⟩⟩:=h
 ·exact ⟨h1,.inl h2⟩
 ·exact ⟨h1,.inr ⟨g,cap,cur,rfl,e2,(hk.block g (Array.getElem?_eq_some_iff.1 e3).1 (hp g rfl)).trans e3,e4⟩⟩
theorem ownsRow_lt {A:World} {base e size n:Nat} {v:Value} {xs:List Value} (h:A.ownsRow base e size v n xs) {g:Nat} (hg:v.ownBlock=some g):base<=g/\g < A.heap.size:=by
 obtain ⟨_,⟨rfl,_⟩ | ⟨g',cap,cur,rfl,e2,e3,_⟩⟩:=h
 ·cases hg
 ·cases hg;exact ⟨e2,(Array.getElem?_eq_some_iff.1 e3).1⟩
theorem own_any {a:Option Addr} {n c:Nat} (n' c':Nat) {g:Nat} (h:(Value.slice a n c).ownBlock=some g):(Value.slice a n' c').ownBlock=some g:=by
 cases a
 ·cases h
 ·exact h
def Apart (a1 a2:Option Addr):Prop:=∀ n c n' c' g,(Value.slice a1 n c).ownBlock=some g->(Value.slice a2 n' c').ownBlock≠some g
theorem wpl_app6L {w:World} {ops:Array Oper} {rest:List Oper} {o:Oper} {a:Act} {Q:Exit->Act->World->Prop} (hgd:o.guard=none) (s x:Operand)
 (ho:o.op=.call { callee:=.builtin .append,args:=#[s,x],argTypes:=#[116,116] })
 (base:Nat) (l:List R6) (v:Value) (hs:a.eval s=v) (hown:w.ownsRow base 111 6 v l.length (l.flatMap R6.cs)) (hbase:base<=w.heap.size) (hk:l.length<=1000000) (r:R6)
 {n:Nat} (hn:n=w.heap.size) (hx:a.eval x=.slice (some ⟨n,0,none⟩) 1 1)
 (h:∀ g cap w',w'.ownsRow base 111 6 (.slice (some ⟨g,0,none⟩) (l ++ [r]).length cap) (l ++ [r]).length ((l ++ [r]).flatMap R6.cs)->KS (fun k=>v.ownBlock≠some k) w w'->(v.ownBlock=some g\/w.heap.size<=g)->wpList Mz.prog ops Q rest (a.put o.dst (.slice (some ⟨g,0,none⟩) (l ++ [r]).length cap)) w') :
 wpList Mz.prog ops Q (o::rest) a (w.alloc (.cells #[.bool r.a,.bool r.b,.bool r.c,.bool r.d,.bool r.e,.bool r.f] 111)):=by
 subst hn;obtain ⟨i,hi,hz,hsz,hb⟩:=info_parts resInfo;have hal:(w.alloc (.cells #[.bool r.a,.bool r.b,.bool r.c,.bool r.d,.bool r.e,.bool r.f] 111)).ownsRow base 111 6 v l.length (l.flatMap R6.cs):=hown.alloc _;have hle:base<=(w.alloc (.cells #[.bool r.a,.bool r.b,.bool r.c,.bool r.d,.bool r.e,.bool r.f] 111)).heap.size:=by simp;omega
 refine wpList_append_lies _ hgd s x 116 ho base 111 i _ 6 6 (mzu Tryz.underlying116) hi hz hsz hb rfl (by decide) v l.length _ hs hal ⟨w.heap.size,0,none⟩ 1 1 r.cs hx rfl (cells_new w r.cs 111) (by simp [R6.cs,Value.oneCell']) (by decide) (by unfold maxLen;omega) (by omega) hle _ rfl ?_;intro g cap w' hown' hg hat hlt;have e1:(l ++ [r]).length=l.length+1:=by simp
 have e2:(l ++ [r]).flatMap R6.cs=l.flatMap R6.cs ++ r.cs:=by simp [List.flatMap_append]
 have h':=h g cap w';rw [e1,e2] at h';refine h' hown' ((KS.alloc (fun k=>v.ownBlock≠some k) w _).trans ⟨hg.os,hg.tape,hg.output,hg.size,fun k hk hp=>hg.block k hk (fun e=>hp e.symm)⟩) ?_;rcases hat with hat | hat
 ·exact .inl hat
 ·right;rw [hat];simp
def passL (l:List R6) (t:Nat):List R6:=l.filter fun r=>r.get t
def failL (l:List R6) (t:Nat):List R6:=l.filter fun r=>!r.get t
theorem passL_take {l:List R6} {k t:Nat} (h:k < l.length) {x:Bool} (hx:l[k].get t=x):passL (l.take (k+1)) t=(if x then passL (l.take k) t ++ [l[k]] else passL (l.take k) t):=by
 unfold passL;rw [List.take_succ_eq_append_getElem h,List.filter_append];cases x <;> simp [List.filter,hx]
theorem failL_take {l:List R6} {k t:Nat} (h:k < l.length) {x:Bool} (hx:l[k].get t=x):failL (l.take (k+1)) t=(if x then failL (l.take k) t else failL (l.take k) t ++ [l[k]]):=by
 unfold failL;rw [List.take_succ_eq_append_getElem h,List.filter_append];cases x <;> simp [List.filter,hx]
theorem filter_take_le {p:R6->Bool} (l:List R6) (k:Nat):((l.take k).filter p).length<=k:=Nat.le_trans (List.length_filter_le _ _) (by simp;omega)
section
variable {w:World} {a:Option Addr} {l:List R6} {c:Nat}
def SplitRet (w:World) (p f:List R6) (e:Ending) (w':World):Prop:=∃ a1 c1 a2 c2,e=.returned (.tuple #[.slice a1 p.length c1,.slice a2 f.length c2])/\RowsAt w' a1 p/\RowsAt w' a2 f/\Below w.heap.size w w'
theorem split_at {t:Nat} (h:RowsAt w a l) (hl:l.length<=1000) (ht:t < 6):Calls Mz.prog 148 #[.slice a l.length c,.int .i64 (t:Int)] w (SplitRet w (passL l t) (failL l t)):=by
 have H:=Hh h;have htI:(t:Int) < 6:=by omega
 clear h
 go_enter (mz_func (i:=148) rfl Tryz.func148),Tryz.ntmps148
 go_wp2;go_loopw [4,5,10] (fun v4 v5 i wr=>∃ (k:Nat) (a1:Option Addr) (c1:Nat) (a2:Option Addr) (c2:Nat),k<=l.length/\i=.int .i64 k/\v4=.slice a1 (passL (l.take k) t).length c1/\v5=.slice a2 (failL (l.take k) t).length c2 /\
  wr.ownsRow w.heap.size 111 6 (.slice a1 (passL (l.take k) t).length c1) (passL (l.take k) t).length ((passL (l.take k) t).flatMap R6.cs)/\wr.ownsRow w.heap.size 111 6 (.slice a2 (failL (l.take k) t).length c2) (failL (l.take k) t).length ((failL (l.take k) t).flatMap R6.cs) /\
  Apart a1 a2/\Below w.heap.size w wr) (fun _ _ i _=>l.length - (intOf i).toNat)
 case atStart=>exact ⟨0,none,0,none,0,Nat.zero_le _,rfl,rfl,rfl,by simpa [passL] using World.ownsRow_nil _ _ _ _,by simpa [failL] using World.ownsRow_nil _ _ _ _,fun _ _ _ _ _ hg=>(by cases hg),Below.refl _ _⟩
 case round =>
  obtain ⟨k,a1,c1,a2,c2,hk,rfl,rfl,rfl,hr1,hr2,hsep,hW⟩:=hrel;have hWs:=hW.size;obtain ⟨wo,rfl⟩:∃ x,x=wr:=⟨_,rfl⟩;have hle1:(passL (l.take k) t).length<=k:=filter_take_le l k;have hle2:(failL (l.take k) t).length<=k:=filter_take_le l k;have HR1:=Hh hr1;have HR2:=Hh hr2;have HW:=Hh hW;have HSEP:=Hh hsep;clear hr1 hr2 hsep hW;by_cases hlt:k < l.length
  ·obtain ⟨b,o,rfl,hb,hc⟩:=(H.out.below HW.out) k hlt;obtain ⟨x,hx⟩:∃ x,l[k].get t=x:=⟨_,rfl⟩;have hp1:=passL_take hlt hx;have hp2:=failL_take hlt hx;generalize l[k]=r at hc hx hp1 hp2;have y0:=hc 0 (by omega);have y1:=hc 1 (by omega);have y2:=hc 2 (by omega);have y3:=hc 3 (by omega);have y4:=hc 4 (by omega);have y5:=hc 5 (by omega);obtain ⟨r0,r1,r2,r3,r4,r5⟩:=r;simp only [R6.get,Nat.add_zero] at y0 y1 y2 y3 y4 y5;generalize hP:passL (l.take k) t=P at hle1 HR1 hp1;generalize hF:failL (l.take k) t=F at hle2 HR2 hp2;have z:∀ j,j < 6->(wo.alloc (.cells #[.bool r0,.bool r1,.bool r2,.bool r3,.bool r4,.bool r5] 111)).cell? ⟨wo.heap.size,j,none⟩=some (.bool (R6.get ⟨r0,r1,r2,r3,r4,r5⟩ j)):=fun j hj=>by
    rw [World.cell?_alloc_at _ _ _ _ rfl];have:j=0\/j=1\/j=2\/j=3\/j=4\/j=5:=by omega
    rcases this with rfl | rfl | rfl | rfl | rfl | rfl <;> rfl
   have zt:=z t ht;rw [hx] at zt;have HP1:=Hh hp1;have HP2:=Hh hp2;clear hc hx hp1 hp2 z hP hF;cases x
   ·have hp1:=HP1.out;have hp2:=HP2.out;simp only [Bool.false_eq_true,if_false] at hp1 hp2;have HQ1:=Hh hp1;have HQ2:=Hh hp2;clear hp1 hp2 HP1 HP2;go_wp2_with (at_builtin;go_loud (refine wpl_app6L (w:=wo.alloc (.cells #[.bool r0,.bool r1,.bool r2,.bool r3,.bool r4,.bool r5] 111)) rfl _ _ rfl w.heap.size F (.slice a2 F.length c2) rfl (HR2.out.alloc _) (by simp;omega) (by omega) ⟨r0,r1,r2,r3,r4,r5⟩ (n:=wo.heap.size+1) (by simp) rfl ?_;intro g cap w6 hown6 hks6 hat6));have HOWN:=Hh hown6;have HKS:=Hh hks6;have HAT:=Hh hat6;clear hown6 hks6 hat6;go_roundw
    case rel =>
     have hk2:=(KS.alloc (fun k=>(Value.slice a2 F.length c2).ownBlock≠some k) wo (.cells #[.bool r0,.bool r1,.bool r2,.bool r3,.bool r4,.bool r5] 111)).trans HKS.out;refine ⟨k+1,a1,c1,some ⟨g,0,none⟩,cap,hlt,by go_num,by rw [HQ1.out],by rw [HQ2.out,List.length_append];rfl,by rw [HQ1.out];exact ownsRow_at HR1.out hk2 (fun g hg=>HSEP.out _ _ _ _ g hg),by rw [HQ2.out];exact HOWN.out,fun n c n' c' g1 hg1=>?_,?_⟩
     ·have hlt1:=(ownsRow_lt HR1.out (own_any _ _ hg1)).2;intro e;obtain rfl:g=g1:=by simpa [Value.ownBlock] using e
      rcases HAT.out with e | e
      ·exact HSEP.out _ _ _ _ _ hg1 e
      ·simp at e;omega
     ·exact Below.trans HW.out (KS.to_below (hk2.mono fun k hk hkw e=>by have:=(ownsRow_lt HR2.out e).1;omega) hWs)
    case measure=>simp [intOf];omega
   ·have hp1:=HP1.out;have hp2:=HP2.out;simp only [if_true] at hp1 hp2;have HQ1:=Hh hp1;have HQ2:=Hh hp2;clear hp1 hp2 HP1 HP2;go_wp2_with (at_builtin;go_loud (refine wpl_app6L (w:=wo.alloc (.cells #[.bool r0,.bool r1,.bool r2,.bool r3,.bool r4,.bool r5] 111)) rfl _ _ rfl w.heap.size P (.slice a1 P.length c1) rfl (HR1.out.alloc _) (by simp;omega) (by omega) ⟨r0,r1,r2,r3,r4,r5⟩ (n:=wo.heap.size+1) (by simp) rfl ?_;intro g cap w6 hown6 hks6 hat6));have HOWN:=Hh hown6;have HKS:=Hh hks6;have HAT:=Hh hat6;clear hown6 hks6 hat6;go_roundw
    case rel =>
     have hk2:=(KS.alloc (fun k=>(Value.slice a1 P.length c1).ownBlock≠some k) wo (.cells #[.bool r0,.bool r1,.bool r2,.bool r3,.bool r4,.bool r5] 111)).trans HKS.out;refine ⟨k+1,some ⟨g,0,none⟩,cap,a2,c2,hlt,by go_num,by rw [HQ1.out,List.length_append];rfl,by rw [HQ2.out],by rw [HQ1.out];exact HOWN.out,by rw [HQ2.out];exact ownsRow_at HR2.out hk2 (fun g hg e=>HSEP.out _ _ _ _ g e hg),fun n c n' c' g1 hg1=>?_,?_⟩
     ·intro e;obtain rfl:g=g1:=by simpa [Value.ownBlock] using hg1
      have hlt1:=(ownsRow_lt HR2.out (own_any _ _ e)).2;rcases HAT.out with e2 | e2
      ·exact HSEP.out _ _ _ _ _ e2 e
      ·simp at e2;omega
     ·exact Below.trans HW.out (KS.to_below (hk2.mono fun k hk hkw e=>by have:=(ownsRow_lt HR1.out e).1;omega) hWs)
    case measure=>simp [intOf];omega
  ·obtain rfl:k=l.length:=by omega
   rw [List.take_length] at HR1 HR2;simp only [List.take_length];go_wp2;exact bodyPost_ret (v:=.tuple #[.slice a1 (passL l t).length c1,.slice a2 (failL l t).length c2]) (by simp [results,Tryz.results148,go_sem, *]) rfl ⟨a1,c1,a2,c2,rfl,rows_row HR1.out,rows_row HR2.out,HW.out⟩
end
end Mt
end Go.Proofs.YtgkajecjbflbbaaGreatDoor
