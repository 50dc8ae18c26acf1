/- FaultHistories -/
import Derived.Deep.Upon
import Derived.Test.YtamolbnfliehjaaGreatDoorFH21
set_option maxHeartbeats 8000000
set_option maxRecDepth 100000
set_option linter.all false
namespace Go.Proofs.YtamolbnfliehjaaGreatDoor
section
open Go.RowKit Go.Maps Sp
section
variable {P:Program}
def Src1 (X:World) (sa:Option Addr) (c:Nat) (news:List Value):Prop:=(sa=none->c=0/\news=[])/\∀ j u,news[j]? = some u->∃ ad,sa=some ad/\X.cell? (ad.add j)=some u
theorem run_app {X:World} {base:Nat} {t ty e:TypeId} {z:Value} {bytes:Nat} (ht:P.underlying t=some (.slice e)) (hi:(P.info? e).map (fun i=>(i.zero,i.size,i.bytes))=some (some z,1,bytes)) (hzs:z.cells.size=1) (hby:bytes<=100)
 {v:Value} {n:Nat} {xs:List Value} (hown:X.ownsRow base e 1 v n xs) {sa:Option Addr} {m c:Nat} {news:List Value} (hl:news.length=m) (hnews:Src1 X sa c news) (h1:∀ u∈news,u.oneCell'=true) (hnm:n+m<=1000000) (hbase:base<=X.heap.size) :
 ∃ a' c' w',(Builtin.append_ #[t,t] ty #[v,.slice sa m c]).run P X=.ok (.slice a' (n+m) c') w'/\w'.ownsRow base e 1 (.slice a' (n+m) c') (n+m) (xs ++ news)/\X.grownBy w' v.ownBlock:=by
 obtain ⟨i,hi,hz,hsz,hb⟩:=info_parts hi;obtain ⟨hn0,hcell⟩:=hnews
 cases sa with
 | some ad =>
  have hbm:(n+m) * bytes<=140737488355328:=by have:=Nat.mul_le_mul hnm hby;omega
  obtain ⟨v',w',hr,h2,h3,_,_⟩:=run_append_own_at (P:=P) X base t ty e i z 1 bytes ht hi hz hsz hb hzs (by decide) v n xs hown ad m c news (by simpa using hl) (fun j u hj=>by
   obtain ⟨ad',e',hc⟩:=hcell j u hj
   cases e'
   exact hc) h1 (by unfold maxLen;omega) hbm hbase
  rcases h2.2 with ⟨h4,h5⟩ | ⟨g,cap,cur,h4,_⟩
  ·subst h4;have hn:n=0/\m=0:=by omega
   obtain ⟨rfl,rfl⟩:=hn;exact ⟨none,0,w',hr,h2,h3⟩
  ·subst h4;exact ⟨_,_,w',hr,h2,h3⟩
 | none =>
  obtain ⟨rfl,rfl⟩:=hn0 rfl;simp only [List.length_nil] at hl;subst hl;have hshape:∃ a' c',v=.slice a' n c'/\n<=c':=by
   rcases hown.2 with ⟨rfl,rfl⟩ | ⟨g,cap,cur,rfl,_,_,h,_⟩
   ·exact ⟨none,0,rfl,Nat.le_refl _⟩
   ·exact ⟨_,_,rfl,h⟩
  obtain ⟨a',c',rfl,hle⟩:=hshape;refine ⟨a',c',X,?_,by simpa using hown,⟨rfl,rfl,rfl,Nat.le_refl _,fun _ _ _=>rfl⟩⟩;exact run_append_nothing (P:=P) X t t ty e i ht hi a' n c' hle (.slice none 0 0) ⟨.inl ⟨e,ht⟩,fun w'=>rfl,rfl,rfl,by simp,by simp⟩
theorem step_app {X W:World} {B:Nat} {ops:Array Oper} {o:Oper} {a:Act} {K:Act->World->Prop} {Q:Exit->Act->World->Prop} {E:Prop} (hgd:o.guard=none) (s x:Operand) (t:TypeId)
 (ho:o.op=.call { callee:=.builtin .append,args:=#[s,x],argTypes:=#[t,t] }) (base:Nat) (e:TypeId) {z:Value} {bytes:Nat} (ht:P.underlying t=some (.slice e)) (hi:(P.info? e).map (fun i=>(i.zero,i.size,i.bytes))=some (some z,1,bytes)) (hzs:z.cells.size=1) (hby:bytes<=100)
 {v:Value} {n:Nat} {xs:List Value} (hs:a.eval s=v) (hown:X.ownsRow base e 1 v n xs) {sa:Option Addr} {m c:Nat} {news:List Value} (hx:a.eval x=.slice sa m c) (hl:news.length=m) (hnews:Src1 X sa c news) (h1:∀ u∈news,u.oneCell'=true)
 {r:Nat} (hr:n+m=r) (hnm:r<=1000000) (hbase:base<=X.heap.size) (hW:Below B W X) (hB:B<=base)
 (h:∀ a' c' w',w'.ownsRow base e 1 (.slice a' r c') r (xs ++ news)->KS (fun k=>v.ownBlock≠some k) X w'->Below B W w'->K (a.put o.dst (.slice a' r c')) w') :
 if Region.wanted o (yielded ops a.tmps)=true then Oper.wp P o a X K Q else E:=by
 subst hr;have hw:Region.wanted o (yielded ops a.tmps)=true:=by simp [Region.wanted,hgd]
 rw [if_pos hw];obtain ⟨a',c',w',hrun,h2,h3⟩:=run_app (P:=P) (ty:=o.type) ht hi hzs hby hown hl hnews h1 hnm hbase;unfold Oper.wp execOp;simp only [ho,resolve,invoke,builtin,Sem.run_bind,Sem.run_pure,Result.andThen_ok,List.map_toArray,List.map_cons,List.map_nil,hs,hx,hrun];exact h a' c' w' h2 (KS.own h3 fun g hg=>by simp [hg]) (hW.trans ((below_own hown h3 hbase).mono hB))
theorem step_appW {X:World} {ops:Array Oper} {o:Oper} {a:Act} {K:Act->World->Prop} {Q:Exit->Act->World->Prop} {E:Prop} (W:World) (hgd:o.guard=none) (s x:Operand) (t:TypeId)
 (ho:o.op=.call { callee:=.builtin .append,args:=#[s,x],argTypes:=#[t,t] }) (e:TypeId) {z:Value} {bytes:Nat} (ht:P.underlying t=some (.slice e)) (hi:(P.info? e).map (fun i=>(i.zero,i.size,i.bytes))=some (some z,1,bytes)) (hzs:z.cells.size=1) (hby:bytes<=100)
 (v:Value) (n:Nat) (xs:List Value) (hs:a.eval s=v) (sa:Option Addr) (m c:Nat) (news:List Value) (hx:a.eval x=.slice sa m c) (hl:news.length=m) (h1:∀ u∈news,u.oneCell'=true)
 (r:Nat) (hr:n+m=r) (hnm:r<=1000000) (hW:Below W.heap.size W X) (hown:X.ownsRow W.heap.size e 1 v n xs) (hnews:Src1 X sa c news)
 (h:∀ a' c' w',w'.ownsRow W.heap.size e 1 (.slice a' r c') r (xs ++ news)->KS (fun k=>v.ownBlock≠some k) X w'->Below W.heap.size W w'->K (a.put o.dst (.slice a' r c')) w') :
 if Region.wanted o (yielded ops a.tmps)=true then Oper.wp P o a X K Q else E :=
 step_app hgd s x t ho _ e ht hi hzs hby hs hown hx hl hnews h1 hr hnm hW.size hW (Nat.le_refl _) h
theorem own_lit {w:World} {base:Nat} {e:TypeId} {n:Nat} (hn:n=w.heap.size) (hb:base<=n):(w.alloc (.cells #[] e)).ownsRow base e 1 (.slice (some ⟨n,0,none⟩) 0 0) 0 []:=by
 subst hn;exact World.ownsRow_lit w #[] 0 hb (by decide) rfl
theorem Src1.ks {X Y:World} {sa:Option Addr} {c:Nat} {news:List Value} (h:Src1 X sa c news) {p:Nat->Prop} (hk:KS p X Y) (hp:∀ ad,sa=some ad->ad.block < X.heap.size/\p ad.block):Src1 Y sa c news :=
 ⟨h.1,fun j u hj=>by
   obtain ⟨ad,e,hc⟩:=h.2 j u hj
   obtain ⟨h1,h2⟩:=hp ad e
   have hb:(Addr.add ad j).block=ad.block:=by unfold Addr.add;split <;> rfl
   exact ⟨ad,e,(hk.cell (x:=ad.add j) (by rw [hb];exact h1) (by rw [hb];exact h2)).trans hc⟩⟩
end
theorem ints_src {w:World} {a:Option Addr} {c:Nat} {l:List Int} (h:IntsAt w a l) (hz:a=none->c=0):Src1 w a c (l.map (Value.int .i64)):=by
 refine ⟨fun ha=>⟨hz ha,?_⟩,fun j u hj=>?_⟩
 ·cases l with
  | nil=>rfl
  | cons x l =>
   obtain ⟨b,o,e,_⟩:=h 0 (by simp);rw [ha] at e;cases e
 ·rw [List.getElem?_map] at hj;obtain ⟨x,hx,rfl⟩:=Option.map_eq_some_iff.1 hj;obtain ⟨hjl,rfl⟩:=List.getElem?_eq_some_iff.1 hx;obtain ⟨b,o,rfl,_,hc⟩:=h j hjl;refine ⟨_,rfl,?_⟩;have:Addr.add ⟨b,o,none⟩ j=⟨b,o+j,none⟩:=by unfold Addr.add;split <;> simp_all
  rw [this];exact hc
theorem src_new (w:World) (cs:List Value) (t:TypeId) {n:Nat} (hn:n=w.heap.size) (c:Nat):Src1 (w.alloc (.cells cs.toArray t)) (some ⟨n,0,none⟩) c cs:=by
 subst hn;exact ⟨fun h=>(by cases h),fun j u hj=>⟨_,rfl,cells_new w cs t j u hj⟩⟩
section
variable {w w':World}
theorem row_keep' {p:Nat->Prop} {A B:World} {base e size n:Nat} {v:Value} {xs:List Value} (h:A.ownsRow base e size v n xs) (hk:KS p A B) (hp:∀ g,v.ownBlock=some g->p g):B.ownsRow base e size v n xs:=by
 obtain ⟨h1,h2 | ⟨g,cap,cur,rfl,e2,e3,e4⟩⟩:=h
 ·exact ⟨h1,.inl h2⟩
 ·exact ⟨h1,.inr ⟨g,cap,cur,rfl,e2,(hk.block g (Array.getElem?_eq_some_iff.1 e3).1 (hp g rfl)).trans e3,e4⟩⟩
theorem rows_apart' {A:World} {b1 e1 s1 n1 b2 e2 s2 n2:Nat} {v1 v2:Value} {x1 x2:List Value} (h1:A.ownsRow b1 e1 s1 v1 n1 x1) (h2:A.ownsRow b2 e2 s2 v2 n2 x2) (he:e1≠e2):∀ g,v1.ownBlock=some g->v2.ownBlock≠some g:=fun g hg hg2=>by
 obtain ⟨_,⟨rfl,_⟩ | ⟨g1,c1,cur1,rfl,_,e3,_⟩⟩:=h1
 ·cases hg
 ·obtain ⟨_,⟨rfl,_⟩ | ⟨g2,c2,cur2,rfl,_,f3,_⟩⟩:=h2
  ·cases hg2
  ·cases hg;cases hg2;rw [e3] at f3;cases f3;exact he rfl
theorem src_row {base e n c:Nat} {a:Option Addr} {vs:List Value} (h:w.ownsRow base e 1 (.slice a n c) n vs):Src1 w a c vs:=by
 obtain ⟨hl,⟨h1,h2⟩ | ⟨g,cap,cur,h1,_⟩⟩:=id h
 ·cases h1;have hv:vs=[]:=List.length_eq_zero_iff.1 (by rw [hl]);subst hv;exact ⟨fun _=>⟨rfl,rfl⟩,fun j u hj=>by simp at hj⟩
 ·cases h1;exact ⟨fun h=>(by cases h),fun j u hj=>⟨_,rfl,h.cells (g:=g) rfl j u hj⟩⟩
end
end
namespace Mt
open Go Go.RowKit Go.Maps
def StaV (w:World) (v:Value) (l:List Int):Prop:=w.ownsRow 0 48 1 v l.length (l.map (Value.int .i64))
def StaLV (w:World) (vs:List Value) (ls:List (List Int)):Prop:=vs.length=ls.length/\∀ (i:Nat) (v:Value) (l:List Int),vs[i]? = some v->ls[i]? = some l->StaV w v l
def StaAt (w:World) (a:Option Addr) (ls:List (List Int)):Prop:=∀ i (h:i < ls.length),∃ b o,a=some ⟨b,o,none⟩/\b < w.heap.size/\∃ v,w.cell? ⟨b,o+i,none⟩=some v/\StaV w v ls[i]
section
variable {w w':World}
theorem StaV.form {v:Value} {l:List Int} (h:StaV w v l):∃ a c,v=.slice a l.length c/\IntsAt w a l/\(a=none->c=0)/\l.length<=c:=by
 rcases id h with ⟨hl,⟨rfl,h2⟩ | ⟨g,cap,cur,rfl,_,_,hle,_⟩⟩
 ·refine ⟨none,0,by rw [h2],fun i hi=>by omega,fun _=>rfl,by omega⟩
 ·exact ⟨_,_,rfl,ints_row h,fun h=>(by cases h),hle⟩
theorem StaV.of {base n c:Nat} {a:Option Addr} {l:List Int} (h:w.ownsRow base 48 1 (.slice a n c) n (l.map (Value.int .i64))):StaV w (.slice a n c) l:=by
 have hn:n=l.length:=by have:=h.1;simp at this;omega
 subst hn;exact h.mono (Nat.zero_le _)
theorem StaV.nil (w:World):StaV w (.slice none 0 0) []:=World.ownsRow_nil w 0 48 1
theorem StaV.below {v:Value} {l:List Int} (h:StaV w v l) (hb:Below w.heap.size w w'):StaV w' v l:=ownsRow_below h hb
theorem row_keep' {p:Nat->Prop} {A B:World} {base e size n:Nat} {v:Value} {xs:List Value} (h:A.ownsRow base e size v n xs) (hk:KS p A B) (hp:∀ g,v.ownBlock=some g->p g):B.ownsRow base e size v n xs:=by
 obtain ⟨h1,h2 | ⟨g,cap,cur,rfl,e2,e3,e4⟩⟩:=h
 ·exact ⟨h1,.inl h2⟩
 ·exact ⟨h1,.inr ⟨g,cap,cur,rfl,e2,(hk.block g (Array.getElem?_eq_some_iff.1 e3).1 (hp g rfl)).trans e3,e4⟩⟩
theorem rows_apart' {A:World} {b1 e1 s1 n1 b2 e2 s2 n2:Nat} {v1 v2:Value} {x1 x2:List Value} (h1:A.ownsRow b1 e1 s1 v1 n1 x1) (h2:A.ownsRow b2 e2 s2 v2 n2 x2) (he:e1≠e2):∀ g,v1.ownBlock=some g->v2.ownBlock≠some g:=fun g hg hg2=>by
 obtain ⟨_,⟨rfl,_⟩ | ⟨g1,c1,cur1,rfl,_,e3,_⟩⟩:=h1
 ·cases hg
 ·obtain ⟨_,⟨rfl,_⟩ | ⟨g2,c2,cur2,rfl,_,f3,_⟩⟩:=h2
  ·cases hg2
  ·cases hg;cases hg2;rw [e3] at f3;cases f3;exact he rfl
theorem StaLV.below {vs:List Value} {ls:List (List Int)} (h:StaLV w vs ls) (hb:Below w.heap.size w w'):StaLV w' vs ls:=⟨h.1,fun i v l h1 h2=>(h.2 i v l h1 h2).below hb⟩
theorem StaLV.keep {vs:List Value} {ls:List (List Int)} (h:StaLV w vs ls) {base e size n:Nat} {v:Value} {xs:List Value} (hrow:w.ownsRow base e size v n xs) (he:48≠e) (hk:KS (fun k=>v.ownBlock≠some k) w w'):StaLV w' vs ls :=
 ⟨h.1,fun i u l h1 h2=>row_keep' (h.2 i u l h1 h2) hk fun g hg=>rows_apart' (h.2 i u l h1 h2) hrow he g hg⟩
theorem StaLV.nil (w:World):StaLV w [] []:=⟨rfl,fun i v l h=>by simp at h⟩
theorem StaLV.append {vs us:List Value} {ls ms:List (List Int)} (h:StaLV w vs ls) (k:StaLV w us ms):StaLV w (vs ++ us) (ls ++ ms):=by
 refine ⟨by rw [List.length_append,List.length_append,h.1,k.1],fun i v l h1 h2=>?_⟩;by_cases hi:i < vs.length
 ·rw [List.getElem?_append_left hi] at h1;rw [List.getElem?_append_left (by rw [<- h.1];exact hi)] at h2;exact h.2 i v l h1 h2
 ·rw [List.getElem?_append_right (by omega)] at h1;rw [List.getElem?_append_right (by rw [<- h.1];omega),<- h.1] at h2;exact k.2 _ v l h1 h2
theorem StaLV.single {v:Value} {l:List Int} (h:StaV w v l):StaLV w [v] [l]:=⟨rfl,fun i u m h1 h2=>by
 cases i with
 | zero=>simp only [List.getElem?_cons_zero,Option.some.injEq] at h1 h2;rw [<- h1,<- h2];exact h
 | succ i=>simp at h1⟩
theorem StaLV.one {vs:List Value} {ls:List (List Int)} (h:StaLV w vs ls):∀ u∈vs,u.oneCell'=true:=fun u hu=>by
 obtain ⟨i,hi,rfl⟩:=List.mem_iff_getElem.1 hu;obtain ⟨a,c,e,_⟩:=(h.2 i vs[i] (ls[i]'(by rw [<- h.1];exact hi)) (List.getElem?_eq_getElem hi) (List.getElem?_eq_getElem _)).form;rw [e];rfl
theorem sta_of_row {base e n c:Nat} {a:Option Addr} {vs:List Value} {ls:List (List Int)} (h:w.ownsRow base e 1 (.slice a n c) n vs) (k:StaLV w vs ls):StaAt w a ls:=fun i hi=>by
 have hv:i < vs.length:=by rw [k.1];exact hi
 obtain ⟨g,rfl,_,h2,h3⟩:=row_cell h i hv;exact ⟨g,0,rfl,h2,vs[i],by rw [Nat.zero_add,h3,List.getElem?_eq_getElem hv],k.2 i _ _ (List.getElem?_eq_getElem hv) (List.getElem?_eq_getElem hi)⟩
theorem StaAt.below {a:Option Addr} {ls:List (List Int)} (h:StaAt w a ls) (hb:Below w.heap.size w w'):StaAt w' a ls:=fun i hi=>by
 obtain ⟨b,o,e,hlt,v,hc,hv⟩:=h i hi;exact ⟨b,o,e,Nat.lt_of_lt_of_le hlt hb.size,v,(hb.cell hlt).trans hc,hv.below hb⟩
end
attribute [local go_sem] Oper.semAt_some
theorem staElem:(Mz.prog.info? 48).map (fun i=>(i.zero,i.size,i.bytes))=some (some (.int .i64 0),1,8):=by
 show (Tryz.prog.info? _).map _=_
 kernel_rfl
theorem staInfo:(Mz.prog.info? 26).map (fun i=>(i.zero,i.size,i.bytes))=some (some (.slice none 0 0),1,24):=by
 show (Tryz.prog.info? _).map _=_
 kernel_rfl
def pastsL (b:Fbk):List Dev->List Int->Nat->List (List Int)
 | [],pre,_=>if goR (stepsOf pre) b.tests then [pre] else []
 | d::l,pre,left=>(List.range 3).flatMap fun k=>if (k=0\/0 < left)/\canI d k=true then pastsL b l (pre ++ [(k:Int)]) (if k=0 then left else left - 1) else []
def SOut (W:World) (ls:List (List Int)) (e:Ending) (W':World):Prop:=∃ a c vs,e=.returned (.slice a ls.length c)/\W'.ownsRow W.heap.size 26 1 (.slice a ls.length c) ls.length vs/\StaLV W' vs ls/\Below W.heap.size W W'
theorem staV_pre {w:World} {B n c:Nat} {a:Option Addr} {pre:List Int} {k:Int} (h:w.ownsRow B 48 1 (.slice a n c) n ([] ++ pre.map (Value.int .i64) ++ [.int .i64 k])):StaV w (.slice a n c) (pre ++ [k]):=StaV.of (l:=pre ++ [k]) (by simpa using h)
theorem flat_succ' (f:Nat->List (List Int)) (k:Nat):(List.range (k+1)).flatMap f=(List.range k).flatMap f ++ f k:=by
 rw [List.range_succ,List.flatMap_append];simp
section
variable {b:Fbk} {vm vd vt:Value} {w:World}
theorem rPasts_leaf (hB:FBookAt w b vm vd vt) (hO:TestsOk b) {pre:List Int} (hl:pre.length=b.devs.length) (hp:∀ x∈pre,0<=x/\x < 3) {la:Option Addr} {lc:Nat} {left:Int} (hL:StaV w (.slice la pre.length lc) pre) :
 Calls Mz.prog 81 #[.agg #[vm,vd,vt],.slice la pre.length lc,.int .i64 left] w (SOut w (if goR (stepsOf pre) b.tests then [pre] else [])):=by
 obtain ⟨_,_,e,hI,_⟩:=hL.form;cases e;have hst:stL b.devs.length (stepsOf pre)=pre:=by
  apply List.ext_getElem
  ·rw [stL_len];exact hl.symm
  ·intro i h1 h2;have:=hp _ (List.getElem_mem h2);rw [stL_get];simp [stepsOf,List.getD,h2];omega
 have hs3:∀ k,stepsOf pre k < 3:=fun k=>by
  unfold stepsOf;by_cases h:k < pre.length
  ·have:=hp _ (List.getElem_mem h);simp [List.getD,h];omega
  ·simp [List.getD,h]
 have HB:=Hh hB;have HO:=Hh hO;have HI:=Hh (show IntsAt w la (stL b.devs.length (stepsOf pre)) by rw [hst];exact hI);have HS:=Hh hs3;have HL:=Hh hL;obtain ⟨rfl,⟨da,dc,rfl,_,_⟩,ta,tc,rfl,_,_⟩:=hB;have heq:((pre.length:Int) == (b.devs.length:Int))=true:=by simp;omega
 clear hO hI hL hp hst hs3;generalize hn:pre.length=n at heq;have HN:=Hh hn;have hnd:n=b.devs.length:=by omega
 clear hn hl;subst hnd;cases ht:goR (stepsOf pre) b.tests
 ·have HT:=Hh ht;clear ht
  go_enter (mz_func (i:=81) rfl Tryz.func81),Tryz.ntmps81
  go_wp2_with (go_at_call 114;(with_reducible refine (rRight_at (HB.out.below (bel)) (HI.out.below (bel)) HS.out HO.out HT.out).mono ?_);rintro e w1 ⟨rfl,hb1⟩);go_ret;exact ⟨none,0,[],rfl,World.ownsRow_nil _ _ _ _,StaLV.nil _,bel⟩
 ·have HT:=Hh ht;clear ht
  go_enter (mz_func (i:=81) rfl Tryz.func81),Tryz.ntmps81
  go_wp2_with (go_at_call 114;(with_reducible refine (rRight_at (HB.out.below (bel)) (HI.out.below (bel)) HS.out HO.out HT.out).mono ?_);rintro e w1 ⟨rfl,hb1⟩);go_ret;have hbw:Below w.heap.size w w1:=bel;refine ⟨some ⟨w1.heap.size,0,none⟩,1,[.slice la b.devs.length lc],rfl,World.ownsRow_lit w1 #[.slice la b.devs.length lc] 1 hbw.size (by decide) rfl,StaLV.single ?_,bel⟩;rw [<- HN.out];exact (HL.out.below hbw).below (bal _ _)
theorem rPasts_step (hB:FBookAt w b vm vd vt) (h6:b.devs.length<=6) {pre:List Int} {d:Dev} {l:List Dev} {left:Nat} (hlf:left<=2) (hs:b.devs.drop pre.length=d::l) {f:Nat->List (List Int)} (hfb:∀ k,(f k).length<=1000)
 (hno:∀ k,¬ ((k=0\/0 < left)/\canI d k=true)->f k=[])
 (hin:∀ k:Nat,k < 3->(k=0\/0 < left)/\canI d k=true->∀ W la lc,Below w.heap.size w W->StaV W (.slice la (pre.length+1) lc) (pre ++ [(k:Int)])->Calls Mz.prog 81 #[.agg #[vm,vd,vt],.slice la (pre.length+1) lc,.int .i64 (((if k=0 then left else left - 1):Nat):Int)] W (SOut W (f k)))
 {la:Option Addr} {lc:Nat} (hL:StaV w (.slice la pre.length lc) pre) :
 Calls Mz.prog 81 #[.agg #[vm,vd,vt],.slice la pre.length lc,.int .i64 (left:Int)] w (SOut w ((List.range 3).flatMap f)):=by
 have hlt:pre.length < b.devs.length:=by
  apply Classical.byContradiction;intro h;rw [List.drop_eq_nil_of_le (by omega)] at hs;cases hs
 have hsx:b.devs[pre.length]=d:=by
  rw [List.drop_eq_getElem_cons hlt] at hs;exact (List.cons.inj hs).1
 obtain ⟨rfl,⟨da,dc,rfl,hD,hdl⟩,ta,tc,rfl,_,_⟩:=hB;obtain ⟨db,dof,rfl,hdb,c0,c1,c2,c3⟩:=hD pre.length hlt;rw [hsx] at c0 c1 c2 c3;obtain ⟨_,_,e,hI,hz,hlc⟩:=hL.form;cases e;have hlat0:∀ ad,la=some ad->ad.block < w.heap.size:=fun ad e=>(ownBlock_row hL ad.block (by rw [e];rfl)).2;have HLAT:=Hh hlat0;have HNO:=Hh hno;have HIN:=Hh hin;have HFB:=Hh hfb;have HI:=Hh hI;have HZ:=Hh hz;have HCAN:=Hh (fun (k:Nat) (hk:k < 3) (W:World)=>rCan_at d hk W);obtain ⟨nm,he,bl,du⟩:=d;simp only at c0 c1 c2 c3 HCAN;have heq:((pre.length:Int) == (b.devs.length:Int))=false:=by simp;omega
 have hpi:(pre.length:Int) < b.devs.length:=by omega
 have hp6:pre.length < 6:=by omega
 clear hlat0 hno hin hfb hI hz hD hs hsx hL hlt;generalize hpn:pre.length=pn at heq hpi hp6 c0 c1 c2 c3 hlc HIN;have HPN:=Hh hpn;clear hpn
 go_enter (mz_func (i:=81) rfl Tryz.func81),Tryz.ntmps81
 go_wp2;obtain ⟨W0,hW0⟩:∃ W0,W0=w.alloc (.cells #[.int .i64 b.most,.slice (some ⟨db,dof,none⟩) b.devs.length dc,.slice ta b.tests.length tc] 25):=⟨_,rfl⟩;rw [<- hW0];have hb0:Below w.heap.size w W0:=by rw [hW0];(exact bel)
 have nn:∀ k u,(#[.int .i64 b.most,.slice (some ⟨db,dof,none⟩) b.devs.length dc,.slice ta b.tests.length tc]:Array Value)[k]? = some u->W0.cell? ⟨w.heap.size,k,none⟩=some u:=fun k u hk=>by
  rw [hW0,World.cell?_alloc_at _ _ _ _ rfl];exact hk
 have hs0:w.heap.size < W0.heap.size:=by rw [hW0];simp
 have hall:∀ w':World,Below W0.heap.size W0 w'->(Below W0.heap.size W0 w'/\w'.cell? ⟨w.heap.size,0,none⟩=some (.int .i64 b.most)/\w'.cell? ⟨w.heap.size,1,none⟩=some (.slice (some ⟨db,dof,none⟩) b.devs.length dc)/\w'.cell? ⟨w.heap.size,2,none⟩=some (.slice ta b.tests.length tc)):=fun w' h =>
  ⟨h,(h.cell (p:=⟨w.heap.size,0,none⟩) hs0).trans (nn 0 _ rfl),(h.cell (p:=⟨w.heap.size,1,none⟩) hs0).trans (nn 1 _ rfl),(h.cell (p:=⟨w.heap.size,2,none⟩) hs0).trans (nn 2 _ rfl)⟩
 have HALL:=Hh hall;clear hW0 nn hall;go_loopw [7,8] (fun v i wr=>∃ (k:Nat) (a:Option Addr) (c:Nat) (vs:List Value),k<=3/\i=.int .i64 k/\v=.slice a ((List.range k).flatMap f).length c/\wr.ownsRow W0.heap.size 26 1 (.slice a ((List.range k).flatMap f).length c) ((List.range k).flatMap f).length vs/\StaLV wr vs ((List.range k).flatMap f)/\Below W0.heap.size W0 wr) (fun _ i _=>3 - (intOf i).toNat)
 case atStart=>exact ⟨0,none,0,[],Nat.zero_le _,rfl,rfl,World.ownsRow_nil _ _ _ _,StaLV.nil _,Below.refl _ _⟩
 case round =>
  obtain ⟨k,a,c,vs,hk,rfl,rfl,hrow,hlv,hW⟩:=hrel;have hWs:=hW.size;obtain ⟨wo,rfl⟩:∃ x,x=wr:=⟨_,rfl⟩;obtain ⟨_,m0,m1,m2⟩:=HALL.out _ hW;have hbw:=Below.next hb0 hW;have hx1:w.heap.size < wo.heap.size:=by omega
  have d0:=(hbw.cell hdb).trans c0;have d1:=(hbw.cell hdb).trans c1;have d2:=(hbw.cell hdb).trans c2;have d3:=(hbw.cell hdb).trans c3;have hdb2:db < wo.heap.size:=Nat.lt_of_lt_of_le hdb hbw.size;have HROW:=Hh hrow;have HLV:=Hh hlv;by_cases hlt:k < 3
  ·have hfl:=flat_succ' f k;have hfb:((List.range k).flatMap f).length<=k * 1000:=by
    clear hrow hlv HROW HLV hfl hk hlt
    induction k with
    | zero=>simp
    | succ k ih =>
     rw [flat_succ',List.length_append];have:=HFB.out k;omega
   have hf1:=HFB.out k;have HFL:=Hh hfl;have HCN:=Hh (HCAN.out k hlt);have hkI:(k:Int)<=2:=by omega
   clear hrow hlv hfl;by_cases hok:(k=0\/0 < left)/\canI ⟨nm,he,bl,du⟩ k=true
   ·have HCALL:=Hh (HIN.out k hlt hok);have hcan:=hok.2;have HCN2:=Hh (show ∀ W,Calls Mz.prog 115 #[.agg #[.string nm,.bool he,.bool bl,.int .i64 du],.int .i64 (k:Int)] W fun e w'=>e=.returned (.bool true)/\Below W.heap.size W w' from fun W=>by have:=HCN.out W;rw [hcan] at this;exact this);have HOK:=Hh hok;clear hok hcan HCN;generalize hout:(List.range k).flatMap f=out at hfb HROW HLV HFL;generalize hnew:f k=new at hf1 HFL HCALL;have HO1:=Hh hout;have HNW:=Hh hnew;clear hout hnew;have HLEN:=Hh (show (pre.map (Value.int .i64)).length=pn by rw [List.length_map];exact HPN.out);have HONE:=Hh (show ∀ u∈pre.map (Value.int .i64),u.oneCell'=true from fun u hu=>by obtain ⟨x,_,rfl⟩:=List.mem_map.1 hu;rfl);have hk0I:(0:Int)<=(k:Int):=by omega
    have hl0:¬ ((left:Int) < 0):=by omega
    by_cases hk0:k=0
    ·have hcl:=HCALL.out;rw [if_pos hk0] at hcl;have HCALL:=Hh hcl;have hkb:((k:Int) != 0)=false:=by simp [hk0]
     clear hcl hk0 HOK;go_wp2_with (go_at_call 115;(with_reducible refine (HCN2.out _).mono ?_);rintro e w1 ⟨rfl,hb1⟩);have hW1:Below W0.heap.size W0 w1:=Below.next hW hb1;have hbw1:Below w.heap.size w w1:=Below.next hbw hb1;have hown1:=ownsRow_below HROW.out hb1;have hlv1:=HLV.out.below hb1;have HROW1:=Hh hown1;have HLV1:=Hh hlv1;have HSRC:=Hh (show Src1 w1 la lc (pre.map (Value.int .i64)) from ints_src (HI.out.below hbw1) HZ.out);have HLT:=Hh (show ∀ ad,la=some ad->ad.block < w1.heap.size from fun ad e=>Nat.lt_of_lt_of_le (HLAT.out ad e) hbw1.size);have hs1:w.heap.size < w1.heap.size:=by have:=hW1.size;omega
     have h0s:=hW1.size;obtain ⟨_,n0,n1,n2⟩:=HALL.out _ hW1;clear hown1 hlv1 d0 d1 d2 d3 m0 m1 m2 hW hb1;go_wp2;go_region_held3 (fun w'=>Below W0.heap.size W0 w'/\w'.cell? ⟨w.heap.size,0,none⟩=some (.int .i64 b.most)/\w'.cell? ⟨w.heap.size,1,none⟩=some (.slice (some ⟨db,dof,none⟩) b.devs.length dc)/\w'.cell? ⟨w.heap.size,2,none⟩=some (.slice ta b.tests.length tc))
      ((go_split_ands;exact HALL.out _ (bel)))
     (first
       | (refine step_appW w1 rfl _ _ 26 rfl 48 (mzu Tryz.underlying26) staElem rfl (by omega) (.slice (some ⟨w1.heap.size,0,none⟩) 0 0) 0 [] rfl la pn lc (pre.map (Value.int .i64)) rfl HLEN.out HONE.out pn (by omega) (by omega) ?_ ?_ ?_ ?_;(focus ((exact bel)));exact own_lit rfl (Nat.le_refl _);exact (HSRC.out).ks (KS.all (show Below w1.heap.size w1 _ from bel) (fun _=>True)) (fun ad e=>⟨HLT.out ad e,trivial⟩);intro a2 c2 w2 hown2 hks2 hbw2)
       | (refine step_appW w1 rfl _ _ 26 rfl 48 (mzu Tryz.underlying26) staElem rfl (by omega) (.slice (some ⟨w1.heap.size,0,none⟩) 0 0) 0 [] rfl la pn lc (pre.map (Value.int .i64)) rfl HLEN.out HONE.out pn (by omega) (by omega) ?_ ?_ ?_ ?_;(focus ((exact bel)));exact (own_lit (w:=w1.drew) rfl (Nat.le_refl _)).alloc _;exact (HSRC.out).ks (KS.all (show Below w1.heap.size w1 _ from bel) (fun _=>True)) (fun ad e=>⟨HLT.out ad e,trivial⟩);intro a2 c2 w2 hown2 hks2 hbw2;have hsrc2:Src1 w2 (some ⟨w1.heap.size+1,0,none⟩) 1 [.int .i64 k]:=(src_new (w1.drew.alloc (.cells #[] 48)) [.int .i64 k] 48 (n:=w1.heap.size+1) (by simp) 1).ks hks2 (fun ad e=>by cases e;exact ⟨by simp,by simp [Value.ownBlock]⟩))
       | (refine step_appW w1 rfl _ _ 26 rfl 48 (mzu Tryz.underlying26) staElem rfl (by omega) (.slice (some ⟨w1.heap.size+1,0,none⟩) 0 0) 0 [] rfl la pn lc (pre.map (Value.int .i64)) rfl HLEN.out HONE.out pn (by omega) (by omega) ?_ ?_ ?_ ?_;(focus ((exact bel)));exact own_lit (by simp) (by omega);exact (HSRC.out).ks (KS.all (show Below w1.heap.size w1 _ from bel) (fun _=>True)) (fun ad e=>⟨HLT.out ad e,trivial⟩);intro a2 c2 w2 hown2 hks2 hbw2;have hsrc2:Src1 w2 (some ⟨w1.heap.size,0,none⟩) 1 [.int .i64 k]:=((src_new w1.drew [.int .i64 k] 48 (n:=w1.heap.size) rfl 1).ks (KS.alloc (fun _=>True) _ (.cells #[] 48)) (fun ad e=>by cases e;exact ⟨by simp,trivial⟩)).ks hks2 (fun ad e=>by cases e;exact ⟨by simp;omega,by simp [Value.ownBlock]⟩))
       | (refine step_appW w1 rfl _ _ 26 rfl 48 (mzu Tryz.underlying26) staElem rfl (by omega) (.slice a2 pn c2) pn ([] ++ pre.map (Value.int .i64)) rfl (some ⟨w2.heap.size,0,none⟩) 1 1 [.int .i64 k] rfl rfl (by simp [Value.oneCell']) (pn+1) rfl (by omega) ?_ ?_ ?_ ?_;(focus ((exact bel)));exact hown2.alloc _;exact src_new w2 [.int .i64 k] 48 rfl 1;intro a4 c4 w4 hown4 hks4 hbw4)
       | (refine step_appW w1 rfl _ _ 26 rfl 48 (mzu Tryz.underlying26) staElem rfl (by omega) (.slice a2 pn c2) pn ([] ++ pre.map (Value.int .i64)) rfl (some ⟨w1.heap.size+1,0,none⟩) 1 1 [.int .i64 k] rfl rfl (by simp [Value.oneCell']) (pn+1) rfl (by omega) ?_ ?_ ?_ ?_;(focus ((exact bel)));exact hown2;exact hsrc2;intro a4 c4 w4 hown4 hks4 hbw4)
       | (refine step_appW w1 rfl _ _ 26 rfl 48 (mzu Tryz.underlying26) staElem rfl (by omega) (.slice a2 pn c2) pn ([] ++ pre.map (Value.int .i64)) rfl (some ⟨w1.heap.size,0,none⟩) 1 1 [.int .i64 k] rfl rfl (by simp [Value.oneCell']) (pn+1) rfl (by omega) ?_ ?_ ?_ ?_;(focus ((exact bel)));exact hown2;exact hsrc2;intro a4 c4 w4 hown4 hks4 hbw4)
       | (go_at_call 81;go_split_ands;(with_reducible refine (HCALL.out w4 a4 c4 (Below.next hbw1 hbw4) (staV_pre hown4)).mono ?_);rintro e w5 ⟨a5,c5,vs5,rfl,hrow5,hl5,hb5⟩;have hbr5:Below w1.heap.size w1 w5:=Below.next hbw4 hb5;have hown5:=ownsRow_below HROW1.out hbr5)
       | (refine step_appW W0 rfl _ _ 74 rfl 26 (mzu Tryz.underlying74) staInfo rfl (by omega) (.slice a out.length c) out.length vs rfl a5 new.length c5 vs5 rfl hl5.1 hl5.one (out.length+new.length) rfl (by omega) ?_ ?_ ?_ ?_;exact Below.next hW1 hbr5;exact hown5;exact src_row hrow5;intro a6 c6 w6 hown6 hks6 hbw6))
     all_goals
      have hl6:=((HLV1.out.below hbr5).append hl5).keep hown5 (by decide) hks6;rw [<- HFL.out] at hl6;have hlen6:out.length+new.length=((List.range (k+1)).flatMap f).length:=by rw [HFL.out,List.length_append]
      rw [hlen6] at hown6;have HL6:=Hh hl6;have HR6:=Hh hown6;have HE6:=Hh hlen6;have HB6:=Hh hbw6;clear hl6 hown6 hlen6 hks6;go_wp2;go_roundw
      case rel=>exact ⟨k+1,a6,c6,_,by omega,by go_num,by rw [HE6.out],HR6.out,HL6.out,HB6.out⟩
      case measure=>simp [intOf];omega
    ·have hcl:=HCALL.out;rw [if_neg hk0] at hcl;have hkb:((k:Int) != 0)=true:=by simp;omega
     have hlp:0 < left:=by have:=HOK.out.1;omega
     obtain ⟨lf,hlf2⟩:∃ lf:Nat,left - 1=lf:=⟨_,rfl⟩;rw [hlf2] at hcl;have hwl:IntKind.i64.wrap ((left:Int) - 1)=(lf:Int):=by rw [IntWalk.i64_in _ (by omega)];omega
     have hl2:¬ ((lf:Int) < 0):=by omega
     have HCALL:=Hh hcl;clear hcl hk0 HOK hlf2 hlp;go_wp2_with (go_at_call 115;(with_reducible refine (HCN2.out _).mono ?_);rintro e w1 ⟨rfl,hb1⟩);have hW1:Below W0.heap.size W0 w1:=Below.next hW hb1;have hbw1:Below w.heap.size w w1:=Below.next hbw hb1;have hown1:=ownsRow_below HROW.out hb1;have hlv1:=HLV.out.below hb1;have HROW1:=Hh hown1;have HLV1:=Hh hlv1;have HSRC:=Hh (show Src1 w1 la lc (pre.map (Value.int .i64)) from ints_src (HI.out.below hbw1) HZ.out);have HLT:=Hh (show ∀ ad,la=some ad->ad.block < w1.heap.size from fun ad e=>Nat.lt_of_lt_of_le (HLAT.out ad e) hbw1.size);have hs1:w.heap.size < w1.heap.size:=by have:=hW1.size;omega
     have h0s:=hW1.size;obtain ⟨_,n0,n1,n2⟩:=HALL.out _ hW1;clear hown1 hlv1 d0 d1 d2 d3 m0 m1 m2 hW hb1;go_wp2;go_region_held3 (fun w'=>Below W0.heap.size W0 w'/\w'.cell? ⟨w.heap.size,0,none⟩=some (.int .i64 b.most)/\w'.cell? ⟨w.heap.size,1,none⟩=some (.slice (some ⟨db,dof,none⟩) b.devs.length dc)/\w'.cell? ⟨w.heap.size,2,none⟩=some (.slice ta b.tests.length tc))
      ((go_split_ands;exact HALL.out _ (bel)))
     (first
       | (refine step_appW w1 rfl _ _ 26 rfl 48 (mzu Tryz.underlying26) staElem rfl (by omega) (.slice (some ⟨w1.heap.size,0,none⟩) 0 0) 0 [] rfl la pn lc (pre.map (Value.int .i64)) rfl HLEN.out HONE.out pn (by omega) (by omega) ?_ ?_ ?_ ?_;(focus ((exact bel)));exact own_lit rfl (Nat.le_refl _);exact (HSRC.out).ks (KS.all (show Below w1.heap.size w1 _ from bel) (fun _=>True)) (fun ad e=>⟨HLT.out ad e,trivial⟩);intro a2 c2 w2 hown2 hks2 hbw2)
       | (refine step_appW w1 rfl _ _ 26 rfl 48 (mzu Tryz.underlying26) staElem rfl (by omega) (.slice (some ⟨w1.heap.size,0,none⟩) 0 0) 0 [] rfl la pn lc (pre.map (Value.int .i64)) rfl HLEN.out HONE.out pn (by omega) (by omega) ?_ ?_ ?_ ?_;(focus ((exact bel)));exact (own_lit (w:=w1.drew) rfl (Nat.le_refl _)).alloc _;exact (HSRC.out).ks (KS.all (show Below w1.heap.size w1 _ from bel) (fun _=>True)) (fun ad e=>⟨HLT.out ad e,trivial⟩);intro a2 c2 w2 hown2 hks2 hbw2;have hsrc2:Src1 w2 (some ⟨w1.heap.size+1,0,none⟩) 1 [.int .i64 k]:=(src_new (w1.drew.alloc (.cells #[] 48)) [.int .i64 k] 48 (n:=w1.heap.size+1) (by simp) 1).ks hks2 (fun ad e=>by cases e;exact ⟨by simp,by simp [Value.ownBlock]⟩))
       | (refine step_appW w1 rfl _ _ 26 rfl 48 (mzu Tryz.underlying26) staElem rfl (by omega) (.slice (some ⟨w1.heap.size+1,0,none⟩) 0 0) 0 [] rfl la pn lc (pre.map (Value.int .i64)) rfl HLEN.out HONE.out pn (by omega) (by omega) ?_ ?_ ?_ ?_;(focus ((exact bel)));exact own_lit (by simp) (by omega);exact (HSRC.out).ks (KS.all (show Below w1.heap.size w1 _ from bel) (fun _=>True)) (fun ad e=>⟨HLT.out ad e,trivial⟩);intro a2 c2 w2 hown2 hks2 hbw2;have hsrc2:Src1 w2 (some ⟨w1.heap.size,0,none⟩) 1 [.int .i64 k]:=((src_new w1.drew [.int .i64 k] 48 (n:=w1.heap.size) rfl 1).ks (KS.alloc (fun _=>True) _ (.cells #[] 48)) (fun ad e=>by cases e;exact ⟨by simp,trivial⟩)).ks hks2 (fun ad e=>by cases e;exact ⟨by simp;omega,by simp [Value.ownBlock]⟩))
       | (refine step_appW w1 rfl _ _ 26 rfl 48 (mzu Tryz.underlying26) staElem rfl (by omega) (.slice a2 pn c2) pn ([] ++ pre.map (Value.int .i64)) rfl (some ⟨w2.heap.size,0,none⟩) 1 1 [.int .i64 k] rfl rfl (by simp [Value.oneCell']) (pn+1) rfl (by omega) ?_ ?_ ?_ ?_;(focus ((exact bel)));exact hown2.alloc _;exact src_new w2 [.int .i64 k] 48 rfl 1;intro a4 c4 w4 hown4 hks4 hbw4)
       | (refine step_appW w1 rfl _ _ 26 rfl 48 (mzu Tryz.underlying26) staElem rfl (by omega) (.slice a2 pn c2) pn ([] ++ pre.map (Value.int .i64)) rfl (some ⟨w1.heap.size+1,0,none⟩) 1 1 [.int .i64 k] rfl rfl (by simp [Value.oneCell']) (pn+1) rfl (by omega) ?_ ?_ ?_ ?_;(focus ((exact bel)));exact hown2;exact hsrc2;intro a4 c4 w4 hown4 hks4 hbw4)
       | (refine step_appW w1 rfl _ _ 26 rfl 48 (mzu Tryz.underlying26) staElem rfl (by omega) (.slice a2 pn c2) pn ([] ++ pre.map (Value.int .i64)) rfl (some ⟨w1.heap.size,0,none⟩) 1 1 [.int .i64 k] rfl rfl (by simp [Value.oneCell']) (pn+1) rfl (by omega) ?_ ?_ ?_ ?_;(focus ((exact bel)));exact hown2;exact hsrc2;intro a4 c4 w4 hown4 hks4 hbw4)
       | (go_at_call 81;go_split_ands;(with_reducible refine (HCALL.out w4 a4 c4 (Below.next hbw1 hbw4) (staV_pre hown4)).mono ?_);rintro e w5 ⟨a5,c5,vs5,rfl,hrow5,hl5,hb5⟩;have hbr5:Below w1.heap.size w1 w5:=Below.next hbw4 hb5;have hown5:=ownsRow_below HROW1.out hbr5)
       | (refine step_appW W0 rfl _ _ 74 rfl 26 (mzu Tryz.underlying74) staInfo rfl (by omega) (.slice a out.length c) out.length vs rfl a5 new.length c5 vs5 rfl hl5.1 hl5.one (out.length+new.length) rfl (by omega) ?_ ?_ ?_ ?_;exact Below.next hW1 hbr5;exact hown5;exact src_row hrow5;intro a6 c6 w6 hown6 hks6 hbw6))
     all_goals
      have hl6:=((HLV1.out.below hbr5).append hl5).keep hown5 (by decide) hks6;rw [<- HFL.out] at hl6;have hlen6:out.length+new.length=((List.range (k+1)).flatMap f).length:=by rw [HFL.out,List.length_append]
      rw [hlen6] at hown6;have HL6:=Hh hl6;have HR6:=Hh hown6;have HE6:=Hh hlen6;have HB6:=Hh hbw6;clear hl6 hown6 hlen6 hks6;go_wp2;go_roundw
      case rel=>exact ⟨k+1,a6,c6,_,by omega,by go_num,by rw [HE6.out],HR6.out,HL6.out,HB6.out⟩
      case measure=>simp [intOf];omega
   ·have hnil:=HNO.out k hok;have hcn:=HCN.out;have hfs:(List.range (k+1)).flatMap f=(List.range k).flatMap f:=by rw [HFL.out,hnil,List.append_nil]
    have HFS:=Hh hfs;have hl0:¬ ((left:Int) < 0):=by omega
    have HOK:=Hh hok;clear hfs hnil hok HFL hf1 hfb;generalize hout:(List.range k).flatMap f=out at HROW HLV HFS;have HO1:=Hh hout;clear hout;by_cases hk0:k=0
    ·have hc:canI ⟨nm,he,bl,du⟩ k=false:=by
      cases h:canI ⟨nm,he,bl,du⟩ k
      ·rfl
      ·exact absurd ⟨.inl hk0,h⟩ HOK.out
     rw [hc] at hcn;have HCN2:=Hh hcn;have hkb:((k:Int) != 0)=false:=by simp [hk0]
     clear hk0 hc hcn HOK HCN;go_wp2_with (go_at_call 115;(with_reducible refine (HCN2.out _).mono ?_);rintro e w1 ⟨rfl,hb1⟩);go_roundw
     case rel=>exact ⟨k+1,a,c,vs,by omega,by go_num,by rw [HFS.out],by rw [HFS.out];exact ownsRow_below HROW.out hb1,by rw [HFS.out];exact HLV.out.below hb1,Below.next hW hb1⟩
     case measure=>simp [intOf];omega
    ·have hkb:((k:Int) != 0)=true:=by simp;omega
     by_cases hlz:left=0
     ·subst hlz;have hwl:IntKind.i64.wrap (((0:Nat):Int) - 1)=-1:=by rw [IntWalk.i64_in _ (by omega)];rfl
      clear hk0 hcn HOK HCN;go_wp2;go_roundw
      case rel=>exact ⟨k+1,a,c,vs,by omega,by go_num,by rw [HFS.out],by rw [HFS.out];exact HROW.out,by rw [HFS.out];exact HLV.out,hW⟩
      case measure=>simp [intOf];omega
     ·have hc:canI ⟨nm,he,bl,du⟩ k=false:=by
       cases h:canI ⟨nm,he,bl,du⟩ k
       ·rfl
       ·exact absurd ⟨.inr (by omega),h⟩ HOK.out
      rw [hc] at hcn;have HCN2:=Hh hcn;obtain ⟨lf,hlf2⟩:∃ lf:Nat,left - 1=lf:=⟨_,rfl⟩;have hwl:IntKind.i64.wrap ((left:Int) - 1)=(lf:Int):=by rw [IntWalk.i64_in _ (by omega)];omega
      have hl2:¬ ((lf:Int) < 0):=by omega
      clear hk0 hc hcn HOK HCN hlf2 hlz;go_wp2_with (go_at_call 115;(with_reducible refine (HCN2.out _).mono ?_);rintro e w1 ⟨rfl,hb1⟩);go_roundw
      case rel=>exact ⟨k+1,a,c,vs,by omega,by go_num,by rw [HFS.out],by rw [HFS.out];exact ownsRow_below HROW.out hb1,by rw [HFS.out];exact HLV.out.below hb1,Below.next hW hb1⟩
      case measure=>simp [intOf];omega
  ·obtain rfl:k=3:=by omega
   clear hrow hlv;go_wp2;go_ret;exact ⟨a,c,vs,rfl,ownsRow_base HROW.out (by omega),HLV.out,hbw⟩
end
attribute [local go_sem] Oper.semAt_some
theorem stL_snoc {i k:Nat} {s:Nat->Nat}:stL i s ++ [(k:Int)]=stL (i+1) (setS s i k):=by
 unfold stL;rw [List.range_succ,List.map_append];congr 1
 ·apply List.map_congr_left;intro j hj;have:=List.mem_range.1 hj;unfold setS;rw [if_neg (by omega)]
 ·simp [setS]
theorem stepsOf_stL {n:Nat} {s:Nat->Nat} {j:Nat} (h:j < n):stepsOf (stL n s) j=s j:=by
 simp [stepsOf,stL,List.getD,h]
theorem plays_congr {s s' p:Nat->Nat}:∀ (N i:Nat),(∀ j,i<=j->j < i+N->s (p j)=s' (p j))->plays s p N i=plays s' p N i
 | 0,i,_=>rfl
 | N+1,i,h=>by
  unfold plays;rw [h i (Nat.le_refl _) (by omega),plays_congr N (i+1) (fun j h1 h2=>h j (by omega) (by omega))]
theorem playI_congr {n:Nat} {s s':Nat->Nat} {l:List Int} (hl:∀ x∈l,0<=x/\x < (n:Int)) (h:∀ j,j < n->s j=s' j):playI s l=playI s' l:=by
 unfold playI;apply plays_congr;intro j _ hj;apply h;rw [Nat.zero_add] at hj;have:=hl _ (List.getElem_mem hj);unfold stepsOf;simp [List.getD,hj];omega
theorem goR_congr {b:Fbk} (hO:TestsOk b) {s s':Nat->Nat} (h:∀ j,j < b.devs.length->s j=s' j):goR s b.tests=goR s' b.tests:=by
 have:∀ l:List Tst,(∀ t∈l,t∈b.tests)->goR s l=goR s' l:=by
  intro l
  induction l with
  | nil=>intro _;rfl
  | cons t l ih =>
   intro hm;unfold goR;rw [ih (fun t h=>hm t (List.mem_cons_of_mem _ h)),playI_congr (hO t (hm t (List.mem_cons_self ..))).1 h]
 exact this _ (fun _ h=>h)
theorem pastsL_eq {b:Fbk} (hO:TestsOk b):∀ (l:List Dev) (i left:Nat) (s:Nat->Nat),i+l.length=b.devs.length->pastsL b l (stL i s) left=((histL l i left s).filter fun s=>goR s b.tests).map (stL b.devs.length)
 | [],i,left,s,h=>by
  have hi:i=b.devs.length:=by simpa using h
  subst hi;unfold pastsL histL;rw [goR_congr hO (s:=stepsOf (stL b.devs.length s)) (s':=s) (fun j hj=>stepsOf_stL hj)];cases hg:goR s b.tests <;> simp [hg]
 | d::l,i,left,s,h=>by
  have hl:i+1+l.length=b.devs.length:=by simp at h;omega
  have ih:=fun k left'=>pastsL_eq hO l (i+1) left' (setS s i k) hl;unfold pastsL histL;simp only [stL_snoc,ih];rw [show List.range 3=[0,1,2] from rfl];simp only [List.flatMap_cons,List.flatMap_nil,List.append_nil,List.filter_append,List.map_append];congr 1
  ·cases hd:d.held <;> cases he:d.blind <;> by_cases h0:0 < left <;> simp [canI,hd,he,h0]
theorem pastsL_hists {b:Fbk} (hO:TestsOk b):pastsL b b.devs [] b.most.toNat=(histsI b).map (stL b.devs.length):=by
 have h:=pastsL_eq hO b.devs 0 b.most.toNat (fun _=>0) (by simp);exact h
theorem boundH_le:∀ m:Fin 3,∀ n:Fin 7,boundH n.1 m.1<=73:=by decide
theorem pastsL_le {b:Fbk}:∀ (l:List Dev) (pre:List Int) (left:Nat),(pastsL b l pre left).length<=boundH l.length left
 | [],pre,left=>by
  unfold pastsL boundH;split <;> simp
 | d::l,pre,left=>by
  have i0:=pastsL_le (b:=b) l (pre ++ [((0:Nat):Int)]) left;have i1:=pastsL_le (b:=b) l (pre ++ [((1:Nat):Int)]) (left - 1);have i2:=pastsL_le (b:=b) l (pre ++ [((2:Nat):Int)]) (left - 1);unfold pastsL;rw [show List.range 3=[0,1,2] from rfl];simp only [List.flatMap_cons,List.flatMap_nil,List.append_nil,List.length_append];have e0:(if (0=0\/0 < left)/\canI d 0=true then pastsL b l (pre ++ [((0:Nat):Int)]) (if 0=0 then left else left - 1) else []).length<=boundH l.length left:=by
   split
   ·exact i0
   ·simp
  cases left with
  | zero =>
   simp only [List.length_cons,boundH];simp only [Nat.lt_irrefl,or_false,Nat.succ_ne_self] at *;simp at *;exact e0
  | succ m =>
   have e1:(if (1=0\/0 < m+1)/\canI d 1=true then pastsL b l (pre ++ [((1:Nat):Int)]) (if 1=0 then m+1 else m+1 - 1) else []).length<=boundH l.length m:=by
    split
    ·exact i1
    ·simp
   have e2:(if (2=0\/0 < m+1)/\canI d 2=true then pastsL b l (pre ++ [((2:Nat):Int)]) (if 2=0 then m+1 else m+1 - 1) else []).length<=boundH l.length m:=by
    split
    ·exact i2
    ·simp
   simp only [List.length_cons,boundH];simp only [Nat.add_sub_cancel] at e1 e2 ⊢;simp at e0 e1 e2 ⊢;omega
section
variable {b:Fbk} {vm vd vt:Value}
theorem rPasts_at (hO:TestsOk b) (h6:b.devs.length<=6):∀ (l:List Dev) (pre:List Int) (left:Nat) (w:World) (la:Option Addr) (lc:Nat),left<=2->FBookAt w b vm vd vt->b.devs.drop pre.length=l->pre.length<=b.devs.length->(∀ x∈pre,0<=x/\x < 3)->StaV w (.slice la pre.length lc) pre ->
 Calls Mz.prog 81 #[.agg #[vm,vd,vt],.slice la pre.length lc,.int .i64 (left:Int)] w (SOut w (pastsL b l pre left))
 | [],pre,left,w,la,lc,hlf,hB,hs,hle,hp,hL=>by
  have hl:pre.length=b.devs.length:=by
   apply Classical.byContradiction;intro h;have:=congrArg List.length hs;rw [List.length_drop,List.length_nil] at this;omega
  unfold pastsL;exact rPasts_leaf hB hO hl hp hL
 | d::l,pre,left,w,la,lc,hlf,hB,hs,hle,hp,hL=>by
  have hlt:pre.length < b.devs.length:=by
   apply Classical.byContradiction;intro h;rw [List.drop_eq_nil_of_le (by omega)] at hs;cases hs
  have hd:=List.drop_eq_getElem_cons hlt;rw [hs] at hd;obtain ⟨h1,h2⟩:=List.cons.inj hd;have hll:l.length<=6:=by rw [h2,List.length_drop];omega
  unfold pastsL;refine rPasts_step hB h6 hlf hs (fun k=>?_) (fun k hk=>if_neg hk) (fun k hk hok W la' lc' hW hL'=>?_) hL
  ·split
   ·have a:=pastsL_le (b:=b) l (pre ++ [(k:Int)]) (if k=0 then left else left - 1);have c:=boundH_le ⟨if k=0 then left else left - 1,by split <;> omega⟩ ⟨l.length,by omega⟩;simp only at c;omega
   ·simp
  ·rw [if_pos hok];have:=rPasts_at hO h6 l (pre ++ [(k:Int)]) (if k=0 then left else left - 1) W la' lc' (by split <;> omega) (hB.below hW) (by rw [List.length_append];exact h2.symm) (by rw [List.length_append];simp;omega) (fun x hx=>?_) (by rw [List.length_append];exact hL')
   ·rw [List.length_append] at this;exact this
   ·rcases List.mem_append.1 hx with hx | hx
    ·exact hp x hx
    ·rw [List.mem_singleton] at hx;subst hx;omega
theorem rPastsOf_at {w:World} (hB:FBookAt w b vm vd vt) (hO:TestsOk b) (h6:b.devs.length<=6) (hm:0<=b.most/\b.most<=2) :
 Calls Mz.prog 38 #[.agg #[vm,vd,vt]] w (SOut w ((histsI b).map (stL b.devs.length))):=by
 have hc:∀ (W:World) (hb:Below w.heap.size w W),Calls Mz.prog 81 #[.agg #[vm,vd,vt],.slice none 0 0,.int .i64 b.most] W (SOut W ((histsI b).map (stL b.devs.length))):=fun (W:World) (hb:Below w.heap.size w W)=>by
  have h:=rPasts_at (vm:=vm) (vd:=vd) (vt:=vt) hO h6 b.devs [] b.most.toNat W none 0 (by omega) (hB.below hb) rfl (Nat.zero_le _) (fun x hx=>by cases hx) (StaV.nil _);rw [pastsL_hists hO] at h;have e:((b.most.toNat:Nat):Int)=b.most:=by omega
  rw [e] at h;exact h
 have HC:=Hh hc;obtain ⟨rfl,⟨da,dc,rfl,_,_⟩,ta,tc,rfl,_,_⟩:=hB;clear hc hO
 go_enter (mz_func (i:=38) rfl Tryz.func38),Tryz.ntmps38
 go_wp2_with (go_at_call 81;(with_reducible refine (HC.out _ (bel)).mono ?_);rintro e w1 ⟨a,c,vs',rfl,h1,h2,h3⟩);go_ret;exact ⟨a,c,vs',by simp,by simpa using ownsRow_base h1 (by simp),h2,bel⟩
end
attribute [local go_sem] Oper.semAt_some
theorem tests_ok {b:Fbk} (h:bookAl b=0):TestsOk b:=fun t ht=>by
 have h1:=(testsAl_ok (bookAl_ok h).2).2 t ht;exact ⟨(pathAl_ok h1.1).2,h1.2⟩
theorem most_ok {b:Fbk} (h:bookAl b=0):0<=b.most/\b.most<=2:=by
 have h1:=(bookAl_ok h).1;unfold devsAl at h1;split at h1
 ·exact absurd h1 (by decide)
 ·rename_i hm
  unfold inB at hm;simp at hm;omega
section
variable {b:Fbk} {vm vd vt:Value} {w:World}
theorem rHistories_at (hB:FBookAt w b vm vd vt) (hN:∀ m∈b.devs,m.name.size<=1000000) :
 Calls Mz.prog 11 #[.agg #[vm,vd,vt]] w fun e w'=>e=.returned (.tuple #[.int .i64 (if bookAl b=0 then ((histsI b).length:Nat) else 0),.int .i64 (bookAl b)])/\Below w.heap.size w w':=by
 have HB:=Hh hB;have HN:=Hh hN;obtain ⟨rfl,⟨da,dc,rfl,_,_⟩,ta,tc,rfl,_,_⟩:=id hB;clear hB hN;by_cases hk:bookAl b=0
 ·have H0:=Hh hk;have HO:=Hh (tests_ok hk);have HM:=Hh (most_ok hk);have h6:=(bk6 hk).1;rw [if_pos hk,hk];clear hk
  go_enter (mz_func (i:=11) rfl Tryz.func11),Tryz.ntmps11
  go_wp2_with (first
   | (go_at_call 9;(with_reducible refine (rCheckBook_at (HB.out.below (bel)) HN.out H0.out).mono ?_);rintro e w1 ⟨rfl,hb1⟩;have y0:w1.cell? ⟨w.heap.size,0,none⟩=some (.int .i64 b.most):=(hb1.cell (p:=⟨w.heap.size,0,none⟩) (by simp)).trans (by rw [World.cell?_alloc_at _ _ _ _ rfl];rfl);have y1:w1.cell? ⟨w.heap.size,1,none⟩=some (.slice da b.devs.length dc):=(hb1.cell (p:=⟨w.heap.size,1,none⟩) (by simp)).trans (by rw [World.cell?_alloc_at _ _ _ _ rfl];rfl);have y2:w1.cell? ⟨w.heap.size,2,none⟩=some (.slice ta b.tests.length tc):=(hb1.cell (p:=⟨w.heap.size,2,none⟩) (by simp)).trans (by rw [World.cell?_alloc_at _ _ _ _ rfl];rfl))
   | (go_at_call 38;(with_reducible refine (rPastsOf_at (HB.out.below (bel)) HO.out h6 HM.out).mono ?_);rintro e w2 ⟨a,c,vs',rfl,h1,h2,hb2⟩))
  exact bodyPost_ret (v:=.tuple #[.int .i64 ((histsI b).length:Nat),.int .i64 0]) (by simp [results,Tryz.results11,go_sem, *]) rfl ⟨rfl,bel⟩
 ·have hz:(bookAl b != 0)=true:=by simpa using hk
  rw [if_neg hk];obtain ⟨t,ht⟩:∃ t,bookAl b=t:=⟨_,rfl⟩;rw [ht] at hz ⊢;have H0:=Hh ht;clear ht hk
  go_enter (mz_func (i:=11) rfl Tryz.func11),Tryz.ntmps11
  go_wp2_with (go_at_call 9;(with_reducible refine (rCheckBook_at (HB.out.below (bel)) HN.out H0.out).mono ?_);rintro e w1 ⟨rfl,hb1⟩);exact bodyPost_ret (v:=.tuple #[.int .i64 0,.int .i64 t]) (by simp [results,Tryz.results11,go_sem, *]) rfl ⟨rfl,bel⟩
def askedI (is:Bool) (t:Int):Int:=if is=false then 6 else t
theorem rAsked_no (hB:FBookAt w b vm vd vt) (hN:∀ m∈b.devs,m.name.size<=1000000) (is:Bool) (al:Int) {t:Int} (ht:openAl b (askedI is al)=t) (h0:t≠0) :
 Calls Mz.prog 45 #[.agg #[vm,vd,vt],.bool is,.int .i64 al] w fun e w'=>e=.returned (.tuple #[.slice none 0 0,.int .i64 t])/\Below w.heap.size w w':=by
 have HB:=Hh hB;have HN:=Hh hN;obtain ⟨rfl,⟨da,dc,rfl,_,_⟩,ta,tc,rfl,_,_⟩:=id hB;clear hB hN;unfold openAl at ht;by_cases hk:bookAl b=0
 ·rw [if_neg (by simpa using hk)] at ht;have H0:=Hh hk;cases is
  ·have h1:t=6:=by rw [<- ht];simp [askedI]
   subst h1;clear ht hk h0
   go_enter (mz_func (i:=45) rfl Tryz.func45),Tryz.ntmps45
   go_wp2_with (go_at_call 9;(with_reducible refine (rCheckBook_at (HB.out.below (bel)) HN.out H0.out).mono ?_);rintro e w1 ⟨rfl,hb1⟩;have y0:w1.cell? ⟨w.heap.size,0,none⟩=some (.int .i64 b.most):=(hb1.cell (p:=⟨w.heap.size,0,none⟩) (by simp)).trans (by rw [World.cell?_alloc_at _ _ _ _ rfl];rfl);have y1:w1.cell? ⟨w.heap.size,1,none⟩=some (.slice da b.devs.length dc):=(hb1.cell (p:=⟨w.heap.size,1,none⟩) (by simp)).trans (by rw [World.cell?_alloc_at _ _ _ _ rfl];rfl);have y2:w1.cell? ⟨w.heap.size,2,none⟩=some (.slice ta b.tests.length tc):=(hb1.cell (p:=⟨w.heap.size,2,none⟩) (by simp)).trans (by rw [World.cell?_alloc_at _ _ _ _ rfl];rfl));exact bodyPost_ret (v:=.tuple #[.slice none 0 0,.int .i64 6]) (by simp [results,Tryz.results45,go_sem, *]) rfl ⟨rfl,bel⟩
  ·simp only [askedI,Bool.true_eq_false,if_false] at ht;by_cases ha:al=0
   ·subst ha;have hp:histsI b=[]:=by
     apply Classical.byContradiction;intro hp;apply h0;rw [<- ht,if_neg (by simp),if_neg hp]
    have h1:t=10:=by rw [<- ht,if_neg (by simp),if_pos hp]
    subst h1;have HO:=Hh (tests_ok hk);have HM:=Hh (most_ok hk);have h6:=(bk6 hk).1;have HP:=Hh (show ((histsI b).map (stL b.devs.length)).length=0 by rw [hp];rfl);clear ht hk h0 hp
    go_enter (mz_func (i:=45) rfl Tryz.func45),Tryz.ntmps45
    go_wp2_with (first | (go_at_call 9;(with_reducible refine (rCheckBook_at (HB.out.below (bel)) HN.out H0.out).mono ?_);rintro e w1 ⟨rfl,hb1⟩;have y0:w1.cell? ⟨w.heap.size,0,none⟩=some (.int .i64 b.most):=(hb1.cell (p:=⟨w.heap.size,0,none⟩) (by simp)).trans (by rw [World.cell?_alloc_at _ _ _ _ rfl];rfl);have y1:w1.cell? ⟨w.heap.size,1,none⟩=some (.slice da b.devs.length dc):=(hb1.cell (p:=⟨w.heap.size,1,none⟩) (by simp)).trans (by rw [World.cell?_alloc_at _ _ _ _ rfl];rfl);have y2:w1.cell? ⟨w.heap.size,2,none⟩=some (.slice ta b.tests.length tc):=(hb1.cell (p:=⟨w.heap.size,2,none⟩) (by simp)).trans (by rw [World.cell?_alloc_at _ _ _ _ rfl];rfl)) | (go_at_call 38;(with_reducible refine (rPastsOf_at (HB.out.below (bel)) HO.out h6 HM.out).mono ?_);rintro e w2 ⟨a,c,vs',rfl,h1,h2,hb2⟩;rw [HP.out]));exact bodyPost_ret (v:=.tuple #[.slice none 0 0,.int .i64 10]) (by simp [results,Tryz.results45,go_sem, *]) rfl ⟨rfl,bel⟩
   ·rw [if_pos ha] at ht;subst ht;have hz:(al != 0)=true:=by simpa using ha
    clear hk ha h0
    go_enter (mz_func (i:=45) rfl Tryz.func45),Tryz.ntmps45
    go_wp2_with (go_at_call 9;(with_reducible refine (rCheckBook_at (HB.out.below (bel)) HN.out H0.out).mono ?_);rintro e w1 ⟨rfl,hb1⟩;have y0:w1.cell? ⟨w.heap.size,0,none⟩=some (.int .i64 b.most):=(hb1.cell (p:=⟨w.heap.size,0,none⟩) (by simp)).trans (by rw [World.cell?_alloc_at _ _ _ _ rfl];rfl);have y1:w1.cell? ⟨w.heap.size,1,none⟩=some (.slice da b.devs.length dc):=(hb1.cell (p:=⟨w.heap.size,1,none⟩) (by simp)).trans (by rw [World.cell?_alloc_at _ _ _ _ rfl];rfl);have y2:w1.cell? ⟨w.heap.size,2,none⟩=some (.slice ta b.tests.length tc):=(hb1.cell (p:=⟨w.heap.size,2,none⟩) (by simp)).trans (by rw [World.cell?_alloc_at _ _ _ _ rfl];rfl));exact bodyPost_ret (v:=.tuple #[.slice none 0 0,.int .i64 al]) (by simp [results,Tryz.results45,go_sem, *]) rfl ⟨rfl,bel⟩
 ·rw [if_pos hk] at ht;have H0:=Hh ht;have hz:(t != 0)=true:=by simpa using h0
  clear ht hk h0
  go_enter (mz_func (i:=45) rfl Tryz.func45),Tryz.ntmps45
  go_wp2_with (go_at_call 9;(with_reducible refine (rCheckBook_at (HB.out.below (bel)) HN.out H0.out).mono ?_);rintro e w1 ⟨rfl,hb1⟩;have y0:w1.cell? ⟨w.heap.size,0,none⟩=some (.int .i64 b.most):=(hb1.cell (p:=⟨w.heap.size,0,none⟩) (by simp)).trans (by rw [World.cell?_alloc_at _ _ _ _ rfl];rfl);have y1:w1.cell? ⟨w.heap.size,1,none⟩=some (.slice da b.devs.length dc):=(hb1.cell (p:=⟨w.heap.size,1,none⟩) (by simp)).trans (by rw [World.cell?_alloc_at _ _ _ _ rfl];rfl);have y2:w1.cell? ⟨w.heap.size,2,none⟩=some (.slice ta b.tests.length tc):=(hb1.cell (p:=⟨w.heap.size,2,none⟩) (by simp)).trans (by rw [World.cell?_alloc_at _ _ _ _ rfl];rfl));exact bodyPost_ret (v:=.tuple #[.slice none 0 0,.int .i64 t]) (by simp [results,Tryz.results45,go_sem, *]) rfl ⟨rfl,bel⟩
def SAskedOut (W:World) (ls:List (List Int)) (e:Ending) (W':World):Prop:=∃ a c,e=.returned (.tuple #[.slice a ls.length c,.int .i64 0])/\StaAt W' a ls/\Below W.heap.size W W'
theorem rAsked_ok (hB:FBookAt w b vm vd vt) (hN:∀ m∈b.devs,m.name.size<=1000000) (ht:openAl b 0=0) :
 Calls Mz.prog 45 #[.agg #[vm,vd,vt],.bool true,.int .i64 0] w (SAskedOut w ((histsI b).map (stL b.devs.length))):=by
 obtain ⟨hk,_,hp⟩:=openAl_ok ht;have HB:=Hh hB;have HN:=Hh hN;obtain ⟨rfl,⟨da,dc,rfl,_,_⟩,ta,tc,rfl,_,_⟩:=id hB;have H0:=Hh hk;have HO:=Hh (tests_ok hk);have HM:=Hh (most_ok hk);have h6:=(bk6 hk).1;obtain ⟨ls,hls⟩:∃ ls,(histsI b).map (stL b.devs.length)=ls:=⟨_,rfl⟩;have hpl2:((ls.length:Int) == 0)=false:=by
  rw [<- hls];simpa using hp
 have HPO:=Hh (show ∀ W,Below w.heap.size w W->Calls Mz.prog 38 #[.agg #[.int .i64 b.most,.slice da b.devs.length dc,.slice ta b.tests.length tc]] W (SOut W ls) from fun W hb=>by have:=rPastsOf_at (HB.out.below hb) HO.out h6 HM.out;rw [hls] at this;exact this);rw [hls];clear hB hN hk hp ht hls
 go_enter (mz_func (i:=45) rfl Tryz.func45),Tryz.ntmps45
 go_wp2_with (first | (go_at_call 9;(with_reducible refine (rCheckBook_at (HB.out.below (bel)) HN.out H0.out).mono ?_);rintro e w1 ⟨rfl,hb1⟩;have y0:w1.cell? ⟨w.heap.size,0,none⟩=some (.int .i64 b.most):=(hb1.cell (p:=⟨w.heap.size,0,none⟩) (by simp)).trans (by rw [World.cell?_alloc_at _ _ _ _ rfl];rfl);have y1:w1.cell? ⟨w.heap.size,1,none⟩=some (.slice da b.devs.length dc):=(hb1.cell (p:=⟨w.heap.size,1,none⟩) (by simp)).trans (by rw [World.cell?_alloc_at _ _ _ _ rfl];rfl);have y2:w1.cell? ⟨w.heap.size,2,none⟩=some (.slice ta b.tests.length tc):=(hb1.cell (p:=⟨w.heap.size,2,none⟩) (by simp)).trans (by rw [World.cell?_alloc_at _ _ _ _ rfl];rfl)) | (go_at_call 38;(with_reducible refine (HPO.out _ (bel)).mono ?_);rintro e w2 ⟨a,c,vs',rfl,h1,h2,hb2⟩));exact bodyPost_ret (v:=.tuple #[.slice a ls.length c,.int .i64 0]) (by simp [results,Tryz.results45,go_sem, *]) rfl ⟨a,c,rfl,sta_of_row h1 h2,bel⟩
end
attribute [local go_sem] Oper.semAt_some
theorem say_claim (n m:Nat):sayI (n:Int) (m:Int)=claimI n m:=by
 unfold sayI claimI;by_cases h:n=0
 ·subst h;simp
 ·rw [if_neg h,if_neg (by omega)];by_cases h2:n=m
  ·rw [if_pos h2,if_pos (by omega)]
  ·rw [if_neg h2,if_neg (by omega)]
section
variable {w:World} {la:Option Addr} {lc n:Nat} {L:List (Nat->Nat)}
theorem rStateIn_at (hL:StaAt w la (L.map (stL n))) (hl:L.length<=1000) {k v:Nat} (hk:k < n) (hn:n<=1000000) {t:Nat} (ht:(L.countP fun s=>decide (s k=v))=t) :
 Calls Mz.prog 48 #[.slice la L.length lc,.int .i64 (k:Int),.int .i64 (v:Int)] w fun e w'=>e=.returned (.int .i64 (t:Int))/\w'=w:=by
 have H:=Hh ht;have HL:=Hh hL;have hkI:(k:Int) < (n:Int):=by omega
 clear ht hL
 go_enter (mz_func (i:=48) rfl Tryz.func48),Tryz.ntmps48
 go_wp2;go_loopw [7,8] (fun c i wr=>∃ j:Nat,j<=L.length/\i=.int .i64 (j:Int)/\c=.int .i64 ((L.take j).countP (fun s=>decide (s k=v)):Nat)/\wr=w) (fun _ i _=>L.length - (intOf i).toNat)
 case atStart=>exact ⟨0,Nat.zero_le _,rfl,by simp,rfl⟩
 case round =>
  obtain ⟨j,hj,rfl,rfl,rfl⟩:=hrel;have hcl:(L.take j).countP (fun s=>decide (s k=v))<=j:=Nat.le_trans List.countP_le_length (by rw [List.length_take];omega);by_cases hlt:j < L.length
  ·obtain ⟨lb,lo,rfl,hlb,vv,d0,hv⟩:=HL.out j (by simpa using hlt);rw [List.getElem_map] at hv;have hct:=countP_take (p:=fun s=>decide (s k=v)) hlt;generalize L[j]=s at hv hct;obtain ⟨xa,xc,rfl,hxI,_,_⟩:=hv.form;rw [stL_len] at d0;obtain ⟨xb,xo,rfl,hxb,e0⟩:=hxI k (by rw [stL_len];exact hk);rw [stL_get] at e0;generalize hN:(L.take j).countP (fun s=>decide (s k=v))=N at hcl hct;have HCT:=Hh hct;have hwr:IntKind.i64.wrap ((N:Int)+1)=(N:Int)+1:=IntWalk.i64_in _ (by omega);clear hct hN hv hxI;by_cases hs:s k=v
   ·have hsb:(((s k:Nat):Int) == (v:Int))=true:=by simp [hs]
    have HS:=Hh hs;clear hs;go_wp2;go_roundw
    case rel=>exact ⟨j+1,hlt,by go_num,by rw [HCT.out];simp [HS.out],by first | rfl | trivial⟩
    case measure=>simp [intOf];omega
   ·have hsb:(((s k:Nat):Int) == (v:Int))=false:=by simpa using (by omega:¬ ((s k:Nat):Int)=(v:Int))
    have HS:=Hh hs;clear hs hwr;go_wp2;go_roundw
    case rel=>exact ⟨j+1,hlt,by go_num,by rw [HCT.out];simp [HS.out],by first | rfl | trivial⟩
    case measure=>simp [intOf];omega
  ·obtain rfl:j=L.length:=by omega
   have HT:=Hh (show (L.take L.length).countP (fun s=>decide (s k=v))=t by rw [List.take_length];exact H.out);go_wp2;go_ret;exact ⟨by first | rfl | (rw [HT.out];rfl),by first | rfl | trivial⟩
end
end Mt
end Go.Proofs.YtamolbnfliehjaaGreatDoor
