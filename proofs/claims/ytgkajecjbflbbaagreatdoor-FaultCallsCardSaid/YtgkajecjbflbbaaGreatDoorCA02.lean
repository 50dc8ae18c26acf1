/- FaultCalls -/
import Derived.Test.YtgkajecjbflbbaaGreatDoorCA01
import Derived.Deep.WholeRow
set_option maxHeartbeats 4000000
set_option maxRecDepth 100000
set_option linter.all false
namespace Go.Proofs.YtgkajecjbflbbaaGreatDoor
namespace Mt
open Go Go.RowKit Go.Maps
attribute [local go_sem] Oper.semAt_some
section
variable {b:Fbk} {vm vd vt:Value} {w:World}
theorem areTwins_at (hB:FBookAt w b vm vd vt) (hb:bookAl b=0) {i k:Nat} (hi:i < b.devs.length) (hk:k < b.devs.length) :
 Calls Mz.prog 83 #[.agg #[vm,vd,vt],.int .i64 (i:Int),.int .i64 (k:Int)] w fun e w'=>e=.returned (.bool (decide (trace b i=trace b k)))/\Below w.heap.size w w':=by
 have hd6:=(devsAl_ok (bookAl_ok hb).1).2.1;have h6:=(testsAl_ok (bookAl_ok hb).2).1;have HJ:=Hh (fun (W:World) (h:Below w.heap.size w W) (j:Nat) (hj:j < b.devs.length) (v:Nat)=>justOne_at (v:=v) (hB.below h) (by omega) hj);have HR:=Hh (fun (W:World) (h:Below w.heap.size w W) (sa:Option Addr) (sc:Nat) (s:Nat->Nat) (hS:IntsAt W sa (stL b.devs.length s)) (h3:∀ k,s k < 3)=>resultsOf_at (sc:=sc) (hB.below h) hb hS h3);have hbl:∀ s,(bitsL b.tests.length (rowOf b s)).length<=1000000:=fun s=>by rw [bitsL_len];omega
 have HBL:=Hh hbl;obtain ⟨rfl,⟨da,dc,rfl,_,hdl⟩,ta,tc,rfl,_,_⟩:=hB;have HE:=Hh (show ∀ u:Nat->Prop,True from fun _=>trivial);clear hbl HE
 go_enter (mz_func (i:=83) rfl Tryz.func83),Tryz.ntmps83
 go_wp2;obtain ⟨W0,hW0⟩:∃ W0,W0=w.alloc (.cells #[.int .i64 b.most,.slice da b.devs.length dc,.slice ta b.tests.length tc] 25):=⟨_,rfl⟩;rw [<- hW0];have hb0:Below w.heap.size w W0:=by rw [hW0];(exact bel)
 have nn:∀ k u,(#[.int .i64 b.most,.slice da b.devs.length dc,.slice ta b.tests.length tc]:Array Value)[k]? = some u->W0.cell? ⟨w.heap.size,k,none⟩=some u:=fun k u hk=>by
  rw [hW0,World.cell?_alloc_at _ _ _ _ rfl];exact hk
 have hs0:w.heap.size < W0.heap.size:=by rw [hW0];simp
 have HALL:=Hh (show ∀ w':World,Below W0.heap.size W0 w'->(Below W0.heap.size W0 w'/\w'.cell? ⟨w.heap.size,0,none⟩=some (.int .i64 b.most)/\w'.cell? ⟨w.heap.size,1,none⟩=some (.slice da b.devs.length dc)/\w'.cell? ⟨w.heap.size,2,none⟩=some (.slice ta b.tests.length tc)) from fun w' h =>
  ⟨h,(h.cell (p:=⟨w.heap.size,0,none⟩) hs0).trans (nn 0 _ rfl),(h.cell (p:=⟨w.heap.size,1,none⟩) hs0).trans (nn 1 _ rfl),(h.cell (p:=⟨w.heap.size,2,none⟩) hs0).trans (nn 2 _ rfl)⟩)
 clear hW0 nn;go_loopw [7] (fun x wr=>∃ v:Nat,x=.int .i64 (v:Int)/\1<=v/\v<=3/\Hid (∀ u,1<=u->u < v->rowOf b (oneS i u)=rowOf b (oneS k u))/\Below W0.heap.size W0 wr) (fun x _=>3 - (intOf x).toNat)
 case atStart=>exact ⟨1,rfl,Nat.le_refl _,by omega,fun u h1 h2=>by omega,Below.refl _ _⟩
 case round =>
  obtain ⟨v,rfl,hv1,hv3,hrel2,hW⟩:=hrel;obtain ⟨HW1,y0,y1,y2⟩:=HALL.out _ hW;by_cases hlt:v<=2
  ·have hvI:(v:Int)<=2:=by omega
   obtain ⟨r,hr⟩:∃ r,decide (bitsL b.tests.length (rowOf b (oneS i v))=bitsL b.tests.length (rowOf b (oneS k v)))=r:=⟨_,rfl⟩;have HR0:=Hh hr;clear hr;go_wp2;go_region_held3 (fun w'=>Below W0.heap.size W0 w'/\w'.cell? ⟨w.heap.size,0,none⟩=some (.int .i64 b.most)/\w'.cell? ⟨w.heap.size,1,none⟩=some (.slice da b.devs.length dc)/\w'.cell? ⟨w.heap.size,2,none⟩=some (.slice ta b.tests.length tc))
    ((go_split_ands;exact HALL.out _ (bel)))
    (first
      | (go_at_call 50;(with_reducible refine (HJ.out _ (bel) i hi v).mono ?_);rintro e w1 ⟨a1,rfl,hj1,hb1⟩;have HJ1:=Hh hj1;clear hj1)
      | (go_at_call 125;(with_reducible refine (HR.out _ (bel) a1 b.devs.length (oneS i v) HJ1.out (one_lt (by omega))).mono ?_);rintro e w2 ⟨a2,c2,rfl,hj2,hb2⟩;have HJ2:=Hh hj2;clear hj2)
      | (go_at_call 50;(with_reducible refine (HJ.out _ (bel) k hk v).mono ?_);rintro e w3 ⟨a3,rfl,hj3,hb3⟩;have HJ3:=Hh hj3;clear hj3)
      | (go_at_call 125;(with_reducible refine (HR.out _ (bel) a3 b.devs.length (oneS k v) HJ3.out (one_lt (by omega))).mono ?_);rintro e w4 ⟨a4,c4,rfl,hj4,hb4⟩;have HJ4:=Hh hj4;clear hj4)
      | (go_at_call 23;(with_reducible refine (sameNums_at (HJ2.out.below (bel)) HJ4.out rfl rfl (HBL.out _) (HBL.out _) HR0.out).mono ?_);rintro e w5 ⟨rfl,hb5⟩)
      | fail "no arm")
   all_goals
    have hb5':Below W0.heap.size W0 w5:=bel;have HB5:=Hh hb5';clear hb5';cases r
    ·have hne:decide (trace b i=trace b k)=false:=decide_eq_false fun e=>by
      have h1:rowOf b (oneS i v)=rowOf b (oneS k v):=by
       have hv:v=1\/v=2:=by omega
       rcases hv with rfl | rfl
       ·exact congrArg Prod.fst e
       ·exact congrArg Prod.snd e
      have:=HR0.out;rw [h1] at this;simp at this
     have HNE:=Hh hne;clear hne;go_wp2;exact bodyPost_ret (v:=.bool false) (by simp [results,Tryz.results83,go_sem, *]) rfl ⟨by rw [HNE.out],Below.next hb0 HB5.out⟩
    ·have heq:rowOf b (oneS i v)=rowOf b (oneS k v):=bitsL_inj.1 (of_decide_eq_true HR0.out);have HEQ:=Hh heq;have hwr:IntKind.i64.wrap ((v:Int)+1)=(v:Int)+1:=IntWalk.i64_in _ (by omega);clear heq;go_wp2;go_roundw
     case rel=>exact ⟨v+1,by go_num,by omega,by omega,fun u h1 h2=>by
      by_cases e:u=v
      ·subst e;exact HEQ.out
      ·exact hrel2.out u h1 (by omega),HB5.out⟩
     case measure=>simp [intOf];omega
  ·obtain rfl:v=3:=by omega
   have heq:decide (trace b i=trace b k)=true:=decide_eq_true (Prod.ext (hrel2.out 1 (by omega) (by omega)) (hrel2.out 2 (by omega) (by omega)));have HEQ:=Hh heq;clear heq hrel2;go_wp2;exact bodyPost_ret (v:=.bool true) (by simp [results,Tryz.results83,go_sem, *]) rfl ⟨by rw [HEQ.out],Below.next hb0 hW⟩
theorem rTwins_no {k:Int} (hB:FBookAt w b vm vd vt) (hN:∀ m∈b.devs,m.name.size<=1000000) {t:Int} (h:(if bookAl b≠0 then bookAl b else devAl b k)=t) (h0:t≠0) :
 Calls Mz.prog 22 #[.agg #[vm,vd,vt],.int .i64 k] w fun e w'=>e=.returned (.tuple #[.slice none 0 0,.int .i64 t])/\Below w.heap.size w w':=by
 have HB:=Hh hB;have HN:=Hh hN;have hz3:(t != 0)=true:=by simpa using h0
 obtain ⟨rfl,⟨da,dc,rfl,_,hdl⟩,ta,tc,rfl,_,_⟩:=hB;by_cases hk:bookAl b=0
 ·rw [if_neg (by simpa using hk)] at h;have hin:inB k 0 ((b.devs.length:Int) - 1)=false:=by
   cases hh:inB k 0 ((b.devs.length:Int) - 1)
   ·rfl
   ·unfold devAl at h;rw [hh] at h;exact absurd h.symm h0
  obtain rfl:t=6:=by unfold devAl at h;rw [hin] at h;exact h.symm
  have HK:=Hh hk;have HIN:=Hh (fun W=>there8_at (w:=W) hdl hin);clear hN h hk hin hz3
  go_enter (mz_func (i:=22) rfl Tryz.func22),Tryz.ntmps22
  go_wp2_with (first
   | (go_at_call 81;(with_reducible refine (rCheckBook_at (HB.out.below (bel)) HN.out HK.out).mono ?_);rintro e w1 ⟨rfl,hb1⟩;obtain ⟨hc1,hf1⟩:=bcell hb1;have hz1:w.heap.size < w1.heap.size:=(by have:=hb1.size;simp at this;omega))
   | (go_at_call 82;(with_reducible refine (HIN.out _).mono ?_);rintro e w2 ⟨rfl,hw2⟩;subst hw2))
  exact bodyPost_ret (v:=.tuple #[.slice none 0 0,.int .i64 6]) (by simp [results,Tryz.results22,go_sem, *]) rfl ⟨rfl,bel⟩
 ·rw [if_pos hk] at h;have H:=Hh h;clear hN h hk
  go_enter (mz_func (i:=22) rfl Tryz.func22),Tryz.ntmps22
  go_wp2_with (go_at_call 81;(with_reducible refine (rCheckBook_at (HB.out.below (bel)) HN.out H.out).mono ?_);rintro e w1 ⟨rfl,hb1⟩);exact bodyPost_ret (v:=.tuple #[.slice none 0 0,.int .i64 t]) (by simp [results,Tryz.results22,go_sem, *]) rfl ⟨rfl,bel⟩
end
attribute [local go_sem] Oper.semAt_some
section
variable {b:Fbk} {vm vd vt:Value} {w:World}
theorem rTwins_ok {d:Nat} (hB:FBookAt w b vm vd vt) (hN:∀ m∈b.devs,m.name.size<=1000000) (hk:bookAl b=0) (h:devAl b (d:Int)=0) :
 Calls Mz.prog 22 #[.agg #[vm,vd,vt],.int .i64 (d:Int)] w fun e w'=>∃ a c,e=.returned (.tuple #[.slice a (twinTo b d b.devs.length).length c,.int .i64 0])/\IntsAt w' a (twinTo b d b.devs.length)/\Below w.heap.size w w':=by
 have HB:=Hh hB;have HN:=Hh hN;have HK:=Hh hk;have gd:=devAl_ok h;have hd6:=(bk6 hk).1;have hdl:b.devs.length<=1000000:=by omega
 have hin:inB (d:Int) 0 ((b.devs.length:Int) - 1)=true:=by unfold inB;simp;omega
 have HIN:=Hh (fun W=>there8_at (w:=W) hdl hin);have hdd:d < b.devs.length:=by omega
 have HAT:=Hh (fun (W:World) (hb:Below w.heap.size w W) (k:Nat) (hk2:k < b.devs.length)=>areTwins_at (hB.below hb) hk hdd hk2);obtain ⟨rfl,⟨da,dc,rfl,_,_⟩,ta,tc,rfl,_,_⟩:=hB;clear hN h hk gd hin
 go_enter (mz_func (i:=22) rfl Tryz.func22),Tryz.ntmps22
 go_wp2_with (first
  | (go_at_call 81;(with_reducible refine (rCheckBook_at (HB.out.below (bel)) HN.out HK.out).mono ?_);rintro e w1 ⟨rfl,hb1⟩;obtain ⟨hc1,hf1⟩:=bcell hb1;have hz1:w.heap.size < w1.heap.size:=(by have:=hb1.size;simp at this;omega))
  | (go_at_call 82;(with_reducible refine (HIN.out _).mono ?_);rintro e w2 ⟨rfl,hw2⟩;subst hw2))
 have hb2':Below w.heap.size w w2:=bel;have q:∀ k u,(#[.int .i64 b.most,.slice da b.devs.length dc,.slice ta b.tests.length tc]:Array Value)[k]? = some u->w2.cell? ⟨w.heap.size,k,none⟩=some u:=fun k u hk=>(hb1.cell (p:=⟨w.heap.size,k,none⟩) (by simp)).trans (by rw [World.cell?_alloc_at _ _ _ _ rfl];exact hk);have q0:=q 0 _ rfl;have q1:=q 1 _ rfl;have q2:=q 2 _ rfl;have HB2:=Hh hb2';clear q hb2' hc1 hf1 hb1;go_loopw [7,8] (fun v i wr=>∃ (k:Nat) (a:Option Addr) (c:Nat),k<=b.devs.length/\i=.int .i64 k/\v=.slice a (twinTo b d k).length c/\wr.ownsRow w2.heap.size 3 1 (.slice a (twinTo b d k).length c) (twinTo b d k).length ((twinTo b d k).map (Value.int .i64))/\Below w2.heap.size w2 wr) (fun _ i _=>b.devs.length - (intOf i).toNat)
 case atStart=>exact ⟨0,none,0,Nat.zero_le _,rfl,rfl,by simpa [twinTo] using World.ownsRow_nil _ _ _ _,Below.refl _ _⟩
 case round =>
  obtain ⟨k,a2,c2,hk,rfl,rfl,hrow,hW⟩:=hrel;have hWs:=hW.size;obtain ⟨wo,rfl⟩:∃ x,x=wr:=⟨_,rfl⟩;have hle:=twinTo_le b d k;have p0:=(hW.cell (p:=⟨w.heap.size,0,none⟩) hz1).trans q0;have p1:=(hW.cell (p:=⟨w.heap.size,1,none⟩) hz1).trans q1;have p2:=(hW.cell (p:=⟨w.heap.size,2,none⟩) hz1).trans q2;have hs1o:w.heap.size < wo.heap.size:=by omega
  have HROW:=Hh hrow;have HBW:=Hh (Below.next HB2.out hW);have HW:=Hh hW;clear hrow hW;by_cases hlt:k < b.devs.length
  ·have HSU:=Hh (twinTo_succ b d k);by_cases hkd:k=d
   ·have hsu2:twinTo b d (k+1)=twinTo b d k:=by rw [HSU.out];simp [isTwin,hkd]
    have HS2:=Hh hsu2;have hg1:((k:Int) != (d:Int))=false:=by simp [hkd]
    clear hsu2;go_wp2;go_roundw
    case rel=>exact ⟨k+1,a2,c2,hlt,by go_num,by rw [HS2.out],by rw [HS2.out];exact HROW.out,HW.out⟩
    case measure=>simp [intOf];omega
   ·have hg1:((k:Int) != (d:Int))=true:=by simp;omega
    have hg3:¬ (k:Int)=(d:Int):=by omega
    obtain ⟨t,ht⟩:∃ t,decide (trace b d=trace b k)=t:=⟨_,rfl⟩;have htw:isTwin b d k=t:=by rw [<- ht];simp [isTwin,hkd];exact eq_comm
    have HTW:=Hh htw;have HCA:=Hh (HAT.out wo HBW.out k hlt);rw [ht] at HCA;clear ht htw;cases t
    ·have hsu2:twinTo b d (k+1)=twinTo b d k:=by rw [HSU.out,HTW.out];simp
     have HS2:=Hh hsu2;clear hsu2;go_wp2_with (go_at_call 83;go_loud ((with_reducible refine HCA.out.mono ?_);rintro e w5 ⟨rfl,hb5⟩;have HB5:=Hh hb5;clear hb5));go_roundw
     case rel=>exact ⟨k+1,a2,c2,hlt,by go_num,by rw [HS2.out],by rw [HS2.out];exact ownsRow_below HROW.out HB5.out,Below.trans HW.out (HB5.out.mono hWs)⟩
     case measure=>simp [intOf];omega
    ·have hsu2:twinTo b d (k+1)=twinTo b d k ++ [(k:Int)]:=by rw [HSU.out,HTW.out];simp
     have HS2:=Hh hsu2;have hln:(twinTo b d (k+1)).length=(twinTo b d k).length+1:=by rw [hsu2];simp
     have HLN:=Hh hln;clear hsu2 hln;go_wp2_with (first
      | (go_at_call 83;go_loud ((with_reducible refine HCA.out.mono ?_);rintro e w5 ⟨rfl,hb5⟩;have HB5:=Hh hb5;clear hb5;have hz5:wo.heap.size<=w5.heap.size:=HB5.out.size))
      | (at_builtin;go_loud (refine wpl_append1 rfl _ _ 26 rfl w2.heap.size 3 (mzu Tryz.underlying26) mz_intInfo rfl (by omega) (.slice a2 (twinTo b d k).length c2) (twinTo b d k).length _ rfl (ownsRow_below HROW.out HB5.out) (by omega) (by omega) _ (n:=w5.heap.size) rfl rfl (by simp [Value.oneCell']) ?_;intro g cap w6 hown6 hb6)))
     have hown7:w6.ownsRow w2.heap.size 3 1 (.slice (some ⟨g,0,none⟩) (twinTo b d (k+1)).length cap) (twinTo b d (k+1)).length ((twinTo b d (k+1)).map (Value.int .i64)):=by
      rw [HLN.out,HS2.out,List.map_append];exact hown6
     have HOWN:=Hh hown7;clear hown6 hown7;go_roundw
     case rel=>exact ⟨k+1,_,_,hlt,by go_num,by rw [HLN.out],HOWN.out,Below.trans (Below.trans HW.out (HB5.out.mono hWs)) hb6⟩
     case measure=>simp [intOf];omega
  ·obtain rfl:k=b.devs.length:=by omega
   go_wp2;exact bodyPost_ret (v:=.tuple #[.slice a2 (twinTo b d b.devs.length).length c2,.int .i64 0]) (by simp [results,Tryz.results22,go_sem, *]) rfl ⟨a2,c2,rfl,ints_row HROW.out,HBW.out⟩
end
attribute [local go_sem] Oper.semAt_some
theorem intsInfo:(Mz.prog.info? 26).map (fun i=>(i.zero,i.size,i.bytes))=some (some (.slice none 0 0),1,24):=by
 show (Tryz.prog.info? 26).map _=_
 kernel_rfl
theorem wpl_append1K {P:Program} {w:World} {ops:Array Oper} {rest:List Oper} {o:Oper} {a:Act} {Q:Exit->Act->World->Prop} (hgd:o.guard=none) (s x:Operand) (t:TypeId)
 (ho:o.op=.call { callee:=.builtin .append,args:=#[s,x],argTypes:=#[t,t] })
 (base:Nat) (e:TypeId) {z:Value} {bytes:Nat} (ht:P.underlying t=some (.slice e)) (hi:(P.info? e).map (fun i=>(i.zero,i.size,i.bytes))=some (some z,1,bytes)) (hzs:z.cells.size=1) (hby:bytes<=100)
 (v:Value) (k:Nat) (xs:List Value) (hs:a.eval s=v) (hown:w.ownsRow base e 1 v k xs) (hbase:base<=w.heap.size) (hk:k<=1000000) (u:Value)
 {n:Nat} (hn:n=w.heap.size) (hx:a.eval x=.slice (some ⟨n,0,none⟩) 1 1) (h1:u.oneCell'=true)
 (h:∀ g cap w',w'.ownsRow base e 1 (.slice (some ⟨g,0,none⟩) (k+1) cap) (k+1) (xs ++ [u])->Below base w w'->KS (fun q=>v.ownBlock≠some q) w w'->wpList P ops Q rest (a.put o.dst (.slice (some ⟨g,0,none⟩) (k+1) cap)) w') :
 wpList P ops Q (o::rest) a (w.alloc (.cells #[u] e)):=by
 subst hn;obtain ⟨i,hi,hz,hsz,hb⟩:=info_parts hi;have hal:(w.alloc (.cells #[u] e)).ownsRow base e 1 v k xs:=hown.alloc _;have hle:base<=(w.alloc (.cells #[u] e)).heap.size:=by simp;omega
 refine wpList_append_own (w.alloc (.cells #[u] e)) hgd s x t ho base e i z 1 bytes ht hi hz hsz hb hzs (by decide) v k xs hs hal ⟨w.heap.size,0,none⟩ 1 1 [u] hx rfl (cells_new w [u] e) (by simpa using h1) (by unfold maxLen;omega) (by have:=Nat.mul_le_mul (show k+1<=1000001 by omega) hby;omega) hle ?_;intro v' w' hown' hg _;obtain ⟨g,cap,rfl⟩:=ownsRow_succ hown';exact h g cap w' hown' (((Below.refl base w).alloc hbase _).trans (below_own hal hg hle)) ((KS.alloc _ _ _).trans (KS.own hg fun g h1 h2=>h2 h1))
theorem rows_inj {b:Fbk} {l:List (Nat->Nat)} {x:R6} (hx:x∈rowsI b l) {s:Nat->Nat}:bitsL b.tests.length x=bitsL b.tests.length (rowOf b s)↔x=rowOf b s:=by
 obtain ⟨s',_,rfl⟩:=mem_rows.1 hx;exact bitsL_inj
def RowsRet2 (w:World) (b:Fbk) (l:List (Nat->Nat)) (e:Ending) (w':World):Prop:=∃ a c,e=.returned (.slice a (rowsI b l).length c)/\ListsAt w' a ((rowsI b l).map (bitsL b.tests.length))/\Below w.heap.size w w'
section
variable {b:Fbk} {vm vd vt:Value} {w:World}
theorem rowsOf_at (hB:FBookAt w b vm vd vt) (hb:bookAl b=0) {la:Option Addr} {lc:Nat} {l:List (Nat->Nat)} (hS:StasL w la (l.map (stL b.devs.length))) (h3:∀ s∈l,∀ k,s k < 3) (hl:l.length<=1000) :
 Calls Mz.prog 86 #[.agg #[vm,vd,vt],.slice la l.length lc] w (RowsRet2 w b l):=by
 have h6:=(testsAl_ok (bookAl_ok hb).2).1;have HRE:=Hh (fun (W:World) (h:Below w.heap.size w W) (sa:Option Addr) (sc:Nat) (s:Nat->Nat) (hS:IntsAt W sa (stL b.devs.length s)) (h3:∀ k,s k < 3)=>resultsOf_own (sc:=sc) (hB.below h) hb hS h3);have HBL:=Hh (fun r=>show (bitsL b.tests.length r).length<=1000000 by rw [bitsL_len];omega);have HS:=Hh hS;have H3:=Hh h3;obtain ⟨rfl,⟨da,dc,rfl,_,hdl⟩,ta,tc,rfl,_,_⟩:=hB;clear hS h3 hb
 go_enter (mz_func (i:=86) rfl Tryz.func86),Tryz.ntmps86
 go_wp2;obtain ⟨W0,hW0⟩:∃ W0,W0=w.alloc (.cells #[.int .i64 b.most,.slice da b.devs.length dc,.slice ta b.tests.length tc] 25):=⟨_,rfl⟩;rw [<- hW0];have hb0:Below w.heap.size w W0:=by rw [hW0];(exact bel)
 have nn:∀ k u,(#[.int .i64 b.most,.slice da b.devs.length dc,.slice ta b.tests.length tc]:Array Value)[k]? = some u->W0.cell? ⟨w.heap.size,k,none⟩=some u:=fun k u hk=>by
  rw [hW0,World.cell?_alloc_at _ _ _ _ rfl];exact hk
 have hs0:w.heap.size < W0.heap.size:=by rw [hW0];simp
 have NN:=Hh nn;clear hW0 nn;go_loopw [5,6] (fun v i wr=>∃ (k:Nat) (a:Option Addr) (c:Nat) (vs:List Value),k<=l.length/\i=.int .i64 k/\v=.slice a (rowsI b (l.take k)).length c/\wr.ownsRow W0.heap.size 26 1 (.slice a (rowsI b (l.take k)).length c) (rowsI b (l.take k)).length vs/\Hid (ListsV wr vs ((rowsI b (l.take k)).map (bitsL b.tests.length)))/\Below W0.heap.size W0 wr) (fun _ i _=>l.length - (intOf i).toNat)
 case atStart=>exact ⟨0,none,0,[],Nat.zero_le _,rfl,rfl,by simpa [rowsI] using World.ownsRow_nil _ _ _ _,Hh (by simpa [rowsI] using ListsV.nil _),Below.refl _ _⟩
 case round =>
  obtain ⟨k,a,c,vs,hk,rfl,rfl,hrow,hvs,hW⟩:=hrel;have hWs:=hW.size;obtain ⟨wo,rfl⟩:∃ x,x=wr:=⟨_,rfl⟩;have hle:=rowsTo_len b l k;have HROW:=Hh hrow;have HVS:=Hh hvs.out;have HBW:=Hh (Below.next hb0 hW);have HW:=Hh hW;clear hrow hvs;by_cases hlt:k < l.length
  ·obtain ⟨s,hs⟩:∃ s,l[k]=s:=⟨_,rfl⟩;have hs3:=H3.out s (by rw [<- hs];exact List.getElem_mem hlt);have hsn:rowsI b (l.take (k+1))=addRow (rowsI b (l.take k)) (rowOf b s):=by rw [List.take_succ_eq_append_getElem hlt,rowsI_snoc,hs]
   have HSN:=Hh hsn;obtain ⟨lb,lo,xa,xc,rfl,hlb,e0,eI⟩:=HS.out k (by simpa using hlt);rw [List.getElem_map,hs,stL_len] at e0;rw [List.getElem_map,hs] at eI;have HEI:=Hh eI;have HS3:=Hh hs3;have HALL:=Hh (show ∀ w':World,Below wo.heap.size wo w'->(Below wo.heap.size wo w'/\w'.cell? ⟨w.heap.size,0,none⟩=some (.int .i64 b.most)/\w'.cell? ⟨w.heap.size,1,none⟩=some (.slice da b.devs.length dc)/\w'.cell? ⟨w.heap.size,2,none⟩=some (.slice ta b.tests.length tc)/\w'.cell? ⟨lb,lo+k,none⟩=some (.slice xa b.devs.length xc)) from fun w' h =>
    have hx:=Below.next HW.out h
    ⟨h,(hx.cell (p:=⟨w.heap.size,0,none⟩) hs0).trans (NN.out 0 _ rfl),(hx.cell (p:=⟨w.heap.size,1,none⟩) hs0).trans (NN.out 1 _ rfl),(hx.cell (p:=⟨w.heap.size,2,none⟩) hs0).trans (NN.out 2 _ rfl),((Below.next hb0 hx).cell (p:=⟨lb,lo+k,none⟩) hlb).trans e0⟩)
   obtain ⟨_,y0,y1,y2,y3⟩:=HALL.out _ (Below.refl _ _);generalize hRR:rowsI b (l.take k)=RR at HROW HVS HSN hle ⊢;have HRR:=Hh hRR;clear hs hs3 hsn eI e0 hRR;go_wp2;go_region_held3 (fun w'=>Below wo.heap.size wo w'/\w'.cell? ⟨w.heap.size,0,none⟩=some (.int .i64 b.most)/\w'.cell? ⟨w.heap.size,1,none⟩=some (.slice da b.devs.length dc)/\w'.cell? ⟨w.heap.size,2,none⟩=some (.slice ta b.tests.length tc)/\w'.cell? ⟨lb,lo+k,none⟩=some (.slice xa b.devs.length xc))
    ((go_split_ands;exact HALL.out _ (bel)))
    (first
      | (go_at_call 125;(with_reducible refine (HRE.out _ (by have:=HBW.out;(exact bel)) xa xc s (IntsAt.below HEI.out (by have:=HBW.out;(exact bel))) HS3.out).mono ?_);rintro e w2 ⟨a2,c2,rfl,hj2,hb2⟩;have HJ2:=Hh hj2;clear hj2)
      | fail "no arm")
   all_goals
    have hb2':Below wo.heap.size wo w2:=bel;have hw2s:=hb2'.size;have HB2:=Hh hb2';clear hb2' hb2;go_wp2;go_loopw [8,9] (fun x i wr=>∃ j:Nat,j<=RR.length/\i=.int .i64 (j:Int)/\x=.bool (decide (rowOf b s∈RR.take j))/\Below w2.heap.size w2 wr) (fun _ i _=>RR.length - (intOf i).toNat)
    case atStart=>exact ⟨0,Nat.zero_le _,rfl,by simp,Below.refl _ _⟩
    case round =>
     obtain ⟨j,hj,rfl,rfl,hX⟩:=hrel;have hXs:=hX.size;obtain ⟨wx,rfl⟩:∃ x,x=wr:=⟨_,rfl⟩;have HX:=Hh hX;have HXO:=Hh (Below.next HB2.out hX);clear hX;by_cases hjt:j < RR.length
     ·have hvr:=HVS.out;have hvl:j < vs.length:=by rw [hvr.1];simpa using hjt
      obtain ⟨ob,rfl,_,hob,c0⟩:=row_cell (ownsRow_below HROW.out HXO.out) j hvl;obtain ⟨ra,rc,hve,hrI,_,_⟩:=(hvr.2 j vs[j] (bitsL b.tests.length RR[j]) (List.getElem?_eq_getElem hvl) (by rw [List.getElem?_map,List.getElem?_eq_getElem hjt];rfl)).form;rw [List.getElem?_eq_getElem hvl,hve] at c0;have hjI:(j:Int) < (RR.length:Int):=by omega
      have htk:=List.take_succ_eq_append_getElem hjt;have hmem:RR[j]∈rowsI b (l.take k):=by rw [HRR.out];exact List.getElem_mem hjt
      obtain ⟨t,ht⟩:∃ t,decide (bitsL b.tests.length RR[j]=bitsL b.tests.length (rowOf b s))=t:=⟨_,rfl⟩;have hte:decide (RR[j]=rowOf b s)=t:=by rw [<- ht];exact decide_eq_decide.2 (rows_inj hmem).symm
      have HSA:=Hh (fun (lc mc:Nat)=>sameNums_at (lc:=lc) (mc:=mc) (hrI.below HXO.out) ((ints_row HJ2.out).below HX.out) rfl rfl (HBL.out _) (HBL.out _) ht);obtain ⟨x0,hx0⟩:∃ x0,decide (rowOf b s∈RR.take j)=x0:=⟨_,rfl⟩;have hnx:decide (rowOf b s∈RR.take (j+1))=(x0 || t):=by
       rw [htk,<- hx0,<- hte];simp only [List.mem_append,List.mem_singleton,Bool.decide_or];congr 1;exact decide_eq_decide.2 eq_comm
      rw [hx0];have HNX:=Hh hnx;have hwo:ob < wx.heap.size:=hob;clear ht hte hnx hx0 htk hmem hve hrI hvr;cases x0
      ·go_wp2_with (go_at_call 23;go_loud ((with_reducible refine (HSA.out _ _).mono ?_);rintro e w5 ⟨rfl,hb5⟩;have HB5:=Hh hb5;clear hb5));go_roundw
       case rel=>exact ⟨j+1,hjt,by go_num,by rw [HNX.out];simp,Below.trans HX.out (HB5.out.mono hXs)⟩
       case measure=>simp [intOf];omega
      ·go_wp2;go_roundw
       case rel=>exact ⟨j+1,hjt,by go_num,by rw [HNX.out];simp,HX.out⟩
       case measure=>simp [intOf];omega
     ·obtain rfl:j=RR.length:=by omega
      rw [List.take_length];by_cases hin:rowOf b s∈RR
      ·have hd:decide (rowOf b s∈RR)=true:=decide_eq_true hin;have hsn2:rowsI b (l.take (k+1))=RR:=by rw [HSN.out];unfold addRow;rw [if_pos hin]
       have HS2:=Hh hsn2;rw [hd];clear hd hin hsn2;go_wp2;go_roundw
       case rel=>exact ⟨k+1,_,_,vs,hlt,by go_num,by rw [HS2.out],by rw [HS2.out];exact ownsRow_below HROW.out HXO.out,by rw [HS2.out];exact Hh (HVS.out.below HXO.out),Below.trans HW.out (HXO.out.mono hWs)⟩
       case measure=>simp [intOf];omega
      ·have hd:decide (rowOf b s∈RR)=false:=decide_eq_false hin;have hsn2:rowsI b (l.take (k+1))=RR ++ [rowOf b s]:=by rw [HSN.out];unfold addRow;rw [if_neg hin]
       have hln:(rowsI b (l.take (k+1))).length=RR.length+1:=by rw [hsn2];simp
       have HS2:=Hh hsn2;have HLN:=Hh hln;have HRX:=Hh (ownsRow_below HROW.out HXO.out);rw [hd];clear hd hin hsn2 hln;go_wp2_with (at_builtin;go_loud (refine wpl_append1K rfl _ _ 118 rfl W0.heap.size 26 (mzu Tryz.underlying118) intsInfo rfl (by omega) (.slice a RR.length c) RR.length vs rfl HRX.out (by omega) (by omega) (.slice a2 (bitsL b.tests.length (rowOf b s)).length c2) (n:=wx.heap.size) rfl rfl (by simp [Value.oneCell']) ?_;intro g cap w6 hown6 hb6 hk6;have HOWN:=Hh hown6;have HB6:=Hh hb6;have HK6:=Hh hk6;clear hown6 hb6 hk6));go_roundw
       case rel=>exact ⟨k+1,_,_,vs ++ [.slice a2 (bitsL b.tests.length (rowOf b s)).length c2],hlt,by go_num,by rw [HLN.out],by rw [HLN.out];exact HOWN.out,by
        rw [HS2.out,List.map_append]
        exact Hh (((HVS.out.below HXO.out).append (ListsV.single (IntsV.below (IntsV.of HJ2.out) HX.out))).keep HRX.out (by decide) HK6.out),Below.trans (Below.trans HW.out (HXO.out.mono hWs)) HB6.out⟩
       case measure=>simp [intOf];omega
  ·obtain rfl:k=l.length:=by omega
   rw [List.take_length] at HROW HVS;go_wp2;exact bodyPost_ret (v:=.slice a (rowsI b l).length c) (by simp [results,Tryz.results86,go_sem, *]) rfl ⟨a,c,rfl,lists_of_row HROW.out HVS.out,HBW.out⟩
end
attribute [local go_sem] Oper.semAt_some
section
variable {b:Fbk} {vm vd vt:Value} {w:World}
theorem rLocated_no (hB:FBookAt w b vm vd vt) (hN:∀ m∈b.devs,m.name.size<=1000000) {t:Int} (h:openAl b 0=t) (h0:t≠0) :
 Calls Mz.prog 25 #[.agg #[vm,vd,vt]] w fun e w'=>e=.returned (.tuple #[.bool false,.int .i64 t])/\Below w.heap.size w w':=by
 have HAK:=Hh (fun (W:World) (hb:Below w.heap.size w W)=>rAsked_no (hB.below hb) hN true 0 h h0);have hz:(t != 0)=true:=by simpa using h0
 obtain ⟨rfl,⟨da,dc,rfl,_,hdl⟩,ta,tc,rfl,_,_⟩:=hB;clear hN h
 go_enter (mz_func (i:=25) rfl Tryz.func25),Tryz.ntmps25
 go_wp2_with (go_at_call 70;(with_reducible refine (HAK.out _ (bel)).mono ?_);rintro e w2 ⟨rfl,hb2⟩);exact bodyPost_ret (v:=.tuple #[.bool false,.int .i64 t]) (by simp [results,Tryz.results25,go_sem, *]) rfl ⟨rfl,bel⟩
theorem rLocated_ok (hB:FBookAt w b vm vd vt) (hN:∀ m∈b.devs,m.name.size<=1000000) (h:openAl b 0=0) {r:Bool} (hr:decide ((rowsI b (histsI b)).length=1)=r) :
 Calls Mz.prog 25 #[.agg #[vm,vd,vt]] w fun e w'=>e=.returned (.tuple #[.bool r,.int .i64 0])/\Below w.heap.size w w':=by
 obtain ⟨g1,g2,g3⟩:=openAl_ok h;have h73:=hists_1000 g1;have HAK:=Hh (show ∀ W,Below w.heap.size w W->Calls Mz.prog 70 #[.agg #[vm,vd,vt],.bool true,.int .i64 0] W fun e W'=>∃ a c,e=.returned (.tuple #[.slice a (histsI b).length c,.int .i64 0])/\Hid (StasL W' a ((histsI b).map (stL b.devs.length)))/\Below W.heap.size W W' from fun W hb=>by
  refine (rAsked_ok (hB.below hb) hN h).mono ?_
  rintro e W' ⟨a,c,rfl,h3,h4⟩
  exact ⟨a,c,by rw [List.length_map],StasL.of h3,h4⟩)
 have HRO:=Hh (fun (W:World) (hb:Below w.heap.size w W) (la:Option Addr) (lc:Nat) (hS:StasL W la ((histsI b).map (stL b.devs.length)))=>rowsOf_at (lc:=lc) (hB.below hb) g1 hS (fun s hs=>hists_lt hs) h73);have hq:(((rowsI b (histsI b)).length:Int) == 1)=r:=by
  rw [<- hr];by_cases e:(rowsI b (histsI b)).length=1
  ·rw [e];rfl
  ·rw [decide_eq_false e];exact beq_eq_false_iff_ne.2 (by omega)
 obtain ⟨rfl,⟨da,dc,rfl,_,hdl⟩,ta,tc,rfl,_,_⟩:=hB;have HQ:=Hh hq;clear hN h g1 g2 g3 hr hq
 go_enter (mz_func (i:=25) rfl Tryz.func25),Tryz.ntmps25
 go_wp2_with (first
  | (go_at_call 70;(with_reducible refine (HAK.out _ (bel)).mono ?_);rintro e w2 ⟨la,lc,rfl,hst,hb2⟩;have HST:=Hh hst.out;clear hst;obtain ⟨hc2,hf2⟩:=bcell hb2;have hz2:w.heap.size < w2.heap.size:=(by have:=hb2.size;simp at this;omega))
  | (go_at_call 86;go_loud ((with_reducible refine (HRO.out _ (bel) la lc HST.out).mono ?_);rintro e w3 ⟨ra,rc,rfl,hrows,hb3⟩;clear hrows)))
 exact bodyPost_ret (v:=.tuple #[.bool (((rowsI b (histsI b)).length:Int) == 1),.int .i64 0]) (by simp [results,Tryz.results25,go_sem, *]) rfl ⟨by rw [HQ.out],bel⟩
end
end Mt
namespace Mt
open Go Go.RowKit Go.Maps Go.Conc
noncomputable def bFC:Code:=Tryz.f3.body.getD .skip
def passR (b:Fbk) (l:List Int):Int:=if openAl b (pathAl b.devs.length l)=0 then passCI b l else 0
def soundR (b:Fbk) (l:List Int):Int:=if openAl b (pathAl b.devs.length l)=0 then soundCI b l else 0
def twAl (b:Fbk) (k:Int):Int:=if bookAl b≠0 then bookAl b else devAl b k
def twinR (b:Fbk) (k:Int):List Int:=if twAl b k=0 then twinTo b k.toNat b.devs.length else []
def locR (b:Fbk):Bool:=decide (openAl b 0=0) && decide ((rowsI b (histsI b)).length=1)
theorem twAl_ok {b:Fbk} {k:Int} (h:twAl b k=0):bookAl b=0/\∃ n:Nat,k=(n:Int)/\devAl b (n:Int)=0:=by
 unfold twAl at h;by_cases hb:bookAl b=0
 ·rw [if_neg (by simpa using hb)] at h;have h2:=h;unfold devAl at h2;have hin:inB k 0 ((b.devs.length:Int) - 1)=true:=by
   cases hh:inB k 0 ((b.devs.length:Int) - 1)
   ·rw [hh] at h2;exact absurd h2 (by decide)
   ·rfl
  have:0<=k:=by unfold inB at hin;simp at hin;omega
  obtain ⟨n,rfl⟩:∃ n:Nat,k=(n:Int):=⟨k.toNat,by omega⟩;exact ⟨hb,n,rfl,h⟩
 ·rw [if_pos hb] at h;exact absurd h hb
theorem twinR_len (b:Fbk) (k:Int) (h:b.devs.length<=20):(twinR b k).length<=1000000:=by
 unfold twinR;split
 ·have:=twinTo_le b k.toNat b.devs.length;omega
 ·simp
section
variable {b:Fbk} {vm vd vt:Value} {w:World} {pa:Option Addr} {l:List Int} {pc:Nat} {k:Int}
theorem pass_any (hB:FBookAt w b vm vd vt) (hN:∀ m∈b.devs,m.name.size<=1000000) (hA:ActsAt w) (hp:IntsAt w pa l) (hl:l.length<=1000000) (hpc:l.length<=pc) :
 Calls Mz.prog 17 #[.agg #[vm,vd,vt],.slice pa l.length pc] w fun e w'=>e=.returned (.tuple #[.int .i64 (passR b l),.int .i64 (openAl b (pathAl b.devs.length l))])/\Below w.heap.size w w':=by
 unfold passR;by_cases h:openAl b (pathAl b.devs.length l)=0
 ·rw [if_pos h,h];exact passApi_ok hB hN hA hp hl hpc h
 ·rw [if_neg h];exact passApi_no hB hN hA hp hl hpc rfl h
theorem rPass_any (hB:FBookAt w b vm vd vt) (hN:∀ m∈b.devs,m.name.size<=1000000) (hp:IntsAt w pa l) (hl:l.length<=1000000) (hpc:l.length<=pc) :
 Calls Mz.prog 18 #[.agg #[vm,vd,vt],.slice pa l.length pc] w fun e w'=>e=.returned (.tuple #[.int .i64 (passR b l),.int .i64 (openAl b (pathAl b.devs.length l))])/\Below w.heap.size w w':=by
 unfold passR;by_cases h:openAl b (pathAl b.devs.length l)=0
 ·rw [if_pos h,h];exact rPass_ok hB hN hp hl hpc h
 ·rw [if_neg h];exact rPass_no hB hN hp hl hpc rfl h
theorem sound_any (hB:FBookAt w b vm vd vt) (hN:∀ m∈b.devs,m.name.size<=1000000) (hA:ActsAt w) (hp:IntsAt w pa l) (hl:l.length<=1000000) (hpc:l.length<=pc) :
 Calls Mz.prog 19 #[.agg #[vm,vd,vt],.slice pa l.length pc] w fun e w'=>e=.returned (.tuple #[.int .i64 (soundR b l),.int .i64 (openAl b (pathAl b.devs.length l))])/\Below w.heap.size w w':=by
 unfold soundR;by_cases h:openAl b (pathAl b.devs.length l)=0
 ·rw [if_pos h,h];exact soundApi_ok hB hN hA hp hl hpc h
 ·rw [if_neg h];exact soundApi_no hB hN hA hp hl hpc rfl h
theorem rSound_any (hB:FBookAt w b vm vd vt) (hN:∀ m∈b.devs,m.name.size<=1000000) (hp:IntsAt w pa l) (hl:l.length<=1000000) (hpc:l.length<=pc) :
 Calls Mz.prog 20 #[.agg #[vm,vd,vt],.slice pa l.length pc] w fun e w'=>e=.returned (.tuple #[.int .i64 (soundR b l),.int .i64 (openAl b (pathAl b.devs.length l))])/\Below w.heap.size w w':=by
 unfold soundR;by_cases h:openAl b (pathAl b.devs.length l)=0
 ·rw [if_pos h,h];exact rSound_ok hB hN hp hl hpc h
 ·rw [if_neg h];exact rSound_no hB hN hp hl hpc rfl h
def TwinRet (w:World) (b:Fbk) (k:Int) (e:Ending) (w':World):Prop:=∃ x:Option Addr × Nat,e=.returned (.tuple #[.slice x.1 (twinR b k).length x.2,.int .i64 (twAl b k)])/\IntsAt w' x.1 (twinR b k)/\Below w.heap.size w w'
theorem twin_any (hB:FBookAt w b vm vd vt) (hN:∀ m∈b.devs,m.name.size<=1000000) (hA:ActsAt w):Calls Mz.prog 21 #[.agg #[vm,vd,vt],.int .i64 k] w (TwinRet w b k):=by
 unfold TwinRet twinR;by_cases h:twAl b k=0
 ·obtain ⟨hb,n,rfl,hd⟩:=twAl_ok h;rw [if_pos h,h,Int.toNat_natCast];exact (twins_ok hB hN hA hb hd).mono fun e w2 ⟨a,c,h1,h2,h3⟩=>⟨(a,c),h1,h2,h3⟩
 ·rw [if_neg h];have key:Calls Mz.prog 21 #[.agg #[vm,vd,vt],.int .i64 k] w fun e w'=>e=.returned (.tuple #[.slice none 0 0,.int .i64 (twAl b k)])/\Below w.heap.size w w':=by
   unfold twAl at h ⊢;by_cases hb:bookAl b=0
   ·rw [if_neg (by simpa using hb)] at h ⊢;exact twins_no2 hB hN hb rfl h
   ·rw [if_pos hb] at h ⊢;exact twins_no1 hB hN rfl h
  exact key.mono fun e w2 ⟨h1,h2⟩=>⟨(none,0),h1,fun i hi=>absurd hi (Nat.not_lt_zero i),h2⟩
theorem rTwin_any (hB:FBookAt w b vm vd vt) (hN:∀ m∈b.devs,m.name.size<=1000000):Calls Mz.prog 22 #[.agg #[vm,vd,vt],.int .i64 k] w (TwinRet w b k):=by
 unfold TwinRet twinR;by_cases h:twAl b k=0
 ·obtain ⟨hb,n,rfl,hd⟩:=twAl_ok h;rw [if_pos h,h,Int.toNat_natCast];exact (rTwins_ok hB hN hb hd).mono fun e w2 ⟨a,c,h1,h2,h3⟩=>⟨(a,c),h1,h2,h3⟩
 ·rw [if_neg h];exact (rTwins_no hB hN (t:=twAl b k) rfl h).mono fun e w2 ⟨h1,h2⟩=>⟨(none,0),h1,fun i hi=>absurd hi (Nat.not_lt_zero i),h2⟩
theorem loc_any (hB:FBookAt w b vm vd vt) (hN:∀ m∈b.devs,m.name.size<=1000000) (hA:ActsAt w) :
 Calls Mz.prog 24 #[.agg #[vm,vd,vt]] w fun e w'=>e=.returned (.tuple #[.bool (locR b),.int .i64 (openAl b 0)])/\Below w.heap.size w w':=by
 unfold locR;by_cases h:openAl b 0=0
 ·rw [decide_eq_true h,Bool.true_and,h];exact located_ok hB hN hA h rfl
 ·rw [decide_eq_false h,Bool.false_and];exact located_no hB hN hA rfl h
theorem rLoc_any (hB:FBookAt w b vm vd vt) (hN:∀ m∈b.devs,m.name.size<=1000000) :
 Calls Mz.prog 25 #[.agg #[vm,vd,vt]] w fun e w'=>e=.returned (.tuple #[.bool (locR b),.int .i64 (openAl b 0)])/\Below w.heap.size w w':=by
 unfold locR;by_cases h:openAl b 0=0
 ·rw [decide_eq_true h,Bool.true_and,h];exact rLocated_ok hB hN h rfl
 ·rw [decide_eq_false h,Bool.false_and];exact rLocated_no hB hN rfl h
end
theorem fc_co {w:World} {b:Fbk} {vm vd vt:Value} {pa:Option Addr} {pl:List Int} {pc:Nat} {k:Int} (hB:FRaw w b vm vd vt) (hA:ActsAt w) (hP:IntsAt w pa pl) (hpc:pl.length<=pc) :
 Leads Tryz.prog (Leaving0 Tryz.prog fun v' w'=>v'=.bool true/\Stays w w') (Frame.enter Tryz.prog 3 #[.agg #[vm,vd,vt],.slice pa pl.length pc,.int .i64 k] .normal) [] w:=by
 have hi:Ivt w (LB b vm vd vt [(pa,pl)]) w:=LB.ivt ⟨hB,hA,fun x hx=>by simp at hx;subst hx;exact hP⟩;refine co_start (c:=bFC) [.agg #[vm,vd,vt],.slice pa pl.length pc,.int .i64 k] Tryz.func3 (by kernel_rfl) rfl (by simp) fun a0 df0 q0=>?_;refine co_run hi 2 [(0,.agg #[vm,vd,vt]),(1,.slice pa pl.length pc),(2,.int .i64 k)] [.inRegion (rop (pt bFC 2)) [0,1],.code (pt bFC 3)] q0 df0 fun a0 w hi df0 q0=>?_;refine co_box hi q0 df0 rfl rfl rfl rfl (q0.ev 0 rfl) (by decide) fun B a0 w hi df0 q0=>?_;refine co_run hi 5 [(3,.pointer (some ⟨B,0,none⟩)),(1,.slice pa pl.length pc),(2,.int .i64 k)] [.inRegion (rop (pt bFC 9)) [0,1,2,3,4,5,6],.code (pt bFC 13),.code (pt bFC 7)] q0 df0 fun a0 w hi df0 q0=>?_;refine co_book hi (r:=B) (vm:=vm) (vd:=vd) (vt:=vt) (fun w h=>h.2) q0 df0 rfl rfl rfl rfl (q0.ev 3 rfl) (by decide) fun a0 w hi df0 q0=>?_;obtain ⟨g,hg⟩:∃ g,greatI b=g:=⟨_,rfl⟩;refine co_val hi 15 [.agg #[vm,vd,vt]] 16 (v:=.bool g) q0 df0 (fun W h=>great_at h.1.raw hg) fun a0 w hi df0 q0=>?_;rcases g with _ | _
 ·obtain ⟨hd20,-,hN,-⟩:=great_no hg;replace hN:∀ m∈b.devs,m.name.size<=1000000:=fun m hm=>Nat.le_trans (hN m hm) (by decide);by_cases hpl:pl.length<=20
  ·have hll:pl.length<=1000000:=by omega
   refine co_runO hi 10 [(20,.bool false)] [(3,.pointer (some ⟨B,0,none⟩)),(1,.slice pa pl.length pc),(2,.int .i64 k)] [.inRegion (rop (pt bFC 11)) [0,1,2,3,4,5,6,7],.code (pt bFC 15)] [(.bool (decide (20 < ((pl.length:Nat):Int))),.bool false)] q0 df0 ⟨(congrArg Value.bool (decide_eq_false (by omega))),trivial⟩ fun a0 w hi df0 q0=>?_;refine co_book hi (r:=B) (vm:=vm) (vd:=vd) (vt:=vt) (fun w h=>h.2) q0 df0 rfl rfl rfl rfl (q0.ev 3 rfl) (by decide) fun a0 w hi df0 q0=>?_;refine co_run hi 1 [(25,.slice pa pl.length pc),(24,.agg #[vm,vd,vt]),(3,.pointer (some ⟨B,0,none⟩)),(1,.slice pa pl.length pc),(2,.int .i64 k)] [.inRegion (rop (pt bFC 11)) [2,3,4,5,6,7],.code (pt bFC 15)] q0 df0 fun a0 w hi df0 q0=>?_;refine co_val hi 17 [.agg #[vm,vd,vt],.slice pa pl.length pc] 26 (v:=.tuple #[.int .i64 (passR b pl),.int .i64 (openAl b (pathAl b.devs.length pl))]) q0 df0 (fun W h=>pass_any (h.1.raw.book hg) hN h.1.acts (h.1.ints (pa,pl) (by simp)) hll hpc) fun a0 w hi df0 q0=>?_;refine co_run hi 8 [(8,.int .i64 (openAl b (pathAl b.devs.length pl))),(7,.int .i64 (passR b pl)),(3,.pointer (some ⟨B,0,none⟩)),(1,.slice pa pl.length pc),(2,.int .i64 k)] [.inRegion (rop (pt bFC 23)) [0,1,2,3,4,5,6,7],.code (pt bFC 31)] q0 df0 fun a0 w hi df0 q0=>?_;refine co_book hi (r:=B) (vm:=vm) (vd:=vd) (vt:=vt) (fun w h=>h.2) q0 df0 rfl rfl rfl rfl (q0.ev 3 rfl) (by decide) fun a0 w hi df0 q0=>?_;refine co_run hi 1 [(31,.slice pa pl.length pc),(30,.agg #[vm,vd,vt]),(8,.int .i64 (openAl b (pathAl b.devs.length pl))),(7,.int .i64 (passR b pl)),(3,.pointer (some ⟨B,0,none⟩)),(1,.slice pa pl.length pc),(2,.int .i64 k)] [.inRegion (rop (pt bFC 23)) [2,3,4,5,6,7],.code (pt bFC 31)] q0 df0 fun a0 w hi df0 q0=>?_;refine co_val hi 18 [.agg #[vm,vd,vt],.slice pa pl.length pc] 32 (v:=.tuple #[.int .i64 (passR b pl),.int .i64 (openAl b (pathAl b.devs.length pl))]) q0 df0 (fun W h=>rPass_any (h.1.raw.book hg) hN (h.1.ints (pa,pl) (by simp)) hll hpc) fun a0 w hi df0 q0=>?_;refine co_runO hi 22 [(37,.bool false),(41,.bool false)] [(3,.pointer (some ⟨B,0,none⟩)),(1,.slice pa pl.length pc),(2,.int .i64 k)] [.inRegion (rop (pt bFC 95)) [0,1,2,3,4,5,6,7],.code (pt bFC 127)] [(.bool ((passR b pl) != (passR b pl)),.bool false),(.bool ((openAl b (pathAl b.devs.length pl)) != (openAl b (pathAl b.devs.length pl))),.bool false)] q0 df0 ⟨(congrArg Value.bool (by simp)),(congrArg Value.bool (by simp)),trivial⟩ fun a0 w hi df0 q0=>?_;refine co_book hi (r:=B) (vm:=vm) (vd:=vd) (vt:=vt) (fun w h=>h.2) q0 df0 rfl rfl rfl rfl (q0.ev 3 rfl) (by decide) fun a0 w hi df0 q0=>?_;refine co_run hi 1 [(45,.slice pa pl.length pc),(44,.agg #[vm,vd,vt]),(3,.pointer (some ⟨B,0,none⟩)),(1,.slice pa pl.length pc),(2,.int .i64 k)] [.inRegion (rop (pt bFC 95)) [2,3,4,5,6,7],.code (pt bFC 127)] q0 df0 fun a0 w hi df0 q0=>?_;refine co_val hi 19 [.agg #[vm,vd,vt],.slice pa pl.length pc] 46 (v:=.tuple #[.int .i64 (soundR b pl),.int .i64 (openAl b (pathAl b.devs.length pl))]) q0 df0 (fun W h=>sound_any (h.1.raw.book hg) hN h.1.acts (h.1.ints (pa,pl) (by simp)) hll hpc) fun a0 w hi df0 q0=>?_;refine co_run hi 8 [(8,.int .i64 (openAl b (pathAl b.devs.length pl))),(7,.int .i64 (soundR b pl)),(3,.pointer (some ⟨B,0,none⟩)),(1,.slice pa pl.length pc),(2,.int .i64 k)] [.inRegion (rop (pt bFC 191)) [0,1,2,3,4,5,6,7],.code (pt bFC 255)] q0 df0 fun a0 w hi df0 q0=>?_;refine co_book hi (r:=B) (vm:=vm) (vd:=vd) (vt:=vt) (fun w h=>h.2) q0 df0 rfl rfl rfl rfl (q0.ev 3 rfl) (by decide) fun a0 w hi df0 q0=>?_;refine co_run hi 1 [(51,.slice pa pl.length pc),(50,.agg #[vm,vd,vt]),(8,.int .i64 (openAl b (pathAl b.devs.length pl))),(7,.int .i64 (soundR b pl)),(3,.pointer (some ⟨B,0,none⟩)),(2,.int .i64 k)] [.inRegion (rop (pt bFC 191)) [2,3,4,5,6,7],.code (pt bFC 255)] q0 df0 fun a0 w hi df0 q0=>?_;refine co_val hi 20 [.agg #[vm,vd,vt],.slice pa pl.length pc] 52 (v:=.tuple #[.int .i64 (soundR b pl),.int .i64 (openAl b (pathAl b.devs.length pl))]) q0 df0 (fun W h=>rSound_any (h.1.raw.book hg) hN (h.1.ints (pa,pl) (by simp)) hll hpc) fun a0 w hi df0 q0=>?_;refine co_runO hi 22 [(57,.bool false),(61,.bool false)] [(3,.pointer (some ⟨B,0,none⟩)),(2,.int .i64 k)] [.inRegion (rop (pt bFC 767)) [0,1,2,3,4,5,6,7],.code (pt bFC 1023)] [(.bool ((soundR b pl) != (soundR b pl)),.bool false),(.bool ((openAl b (pathAl b.devs.length pl)) != (openAl b (pathAl b.devs.length pl))),.bool false)] q0 df0 ⟨(congrArg Value.bool (by simp)),(congrArg Value.bool (by simp)),trivial⟩ fun a0 w hi df0 q0=>?_;refine co_book hi (r:=B) (vm:=vm) (vd:=vd) (vt:=vt) (fun w h=>h.2) q0 df0 rfl rfl rfl rfl (q0.ev 3 rfl) (by decide) fun a0 w hi df0 q0=>?_;refine co_run hi 1 [(65,.int .i64 k),(64,.agg #[vm,vd,vt]),(3,.pointer (some ⟨B,0,none⟩)),(2,.int .i64 k)] [.inRegion (rop (pt bFC 767)) [2,3,4,5,6,7],.code (pt bFC 1023)] q0 df0 fun a0 w hi df0 q0=>?_;refine co_call hi 21 [.agg #[vm,vd,vt],.int .i64 k] 66 (α:=Option Addr × Nat) (V:=fun x=>.tuple #[.slice x.1 (twinR b k).length x.2,.int .i64 (twAl b k)]) (Z:=fun x w=>IntsAt w x.1 (twinR b k)) q0 df0 (fun x _ _ ha h=>IntsAt.alike h ha) (fun W h=>twin_any (h.1.raw.book hg) hN h.1.acts) fun tx a0 w hi df0 q0=>?_;refine co_run hi 8 [(8,.int .i64 (twAl b k)),(11,.slice tx.1 (twinR b k).length tx.2),(3,.pointer (some ⟨B,0,none⟩)),(2,.int .i64 k)] [.inRegion (rop (pt bFC 1535)) [0,1,2,3,4,5,6,7],.code (pt bFC 2047)] q0 df0 fun a0 w hi df0 q0=>?_;refine co_book hi (r:=B) (vm:=vm) (vd:=vd) (vt:=vt) (fun w h=>h.1.2) q0 df0 rfl rfl rfl rfl (q0.ev 3 rfl) (by decide) fun a0 w hi df0 q0=>?_;refine co_run hi 1 [(71,.int .i64 k),(70,.agg #[vm,vd,vt]),(8,.int .i64 (twAl b k)),(11,.slice tx.1 (twinR b k).length tx.2),(3,.pointer (some ⟨B,0,none⟩))] [.inRegion (rop (pt bFC 1535)) [2,3,4,5,6,7],.code (pt bFC 2047)] q0 df0 fun a0 w hi df0 q0=>?_;refine co_call hi 22 [.agg #[vm,vd,vt],.int .i64 k] 72 (α:=Option Addr × Nat) (V:=fun x=>.tuple #[.slice x.1 (twinR b k).length x.2,.int .i64 (twAl b k)]) (Z:=fun x w=>IntsAt w x.1 (twinR b k)) q0 df0 (fun x _ _ ha h=>IntsAt.alike h ha) (fun W h=>rTwin_any (h.1.1.raw.book hg) hN) fun ty a0 w hi df0 q0=>?_;refine co_run hi 11 [(76,.slice ty.1 (twinR b k).length ty.2),(75,.slice tx.1 (twinR b k).length tx.2),(10,.int .i64 (twAl b k)),(8,.int .i64 (twAl b k)),(3,.pointer (some ⟨B,0,none⟩))] [.inRegion (rop (pt bFC 5119)) [2,3,4,5,6,7,8],.code (pt bFC 7167),.code (pt bFC 4095)] q0 df0 fun a0 w hi df0 q0=>?_;refine co_val hi 23 [.slice tx.1 (twinR b k).length tx.2,.slice ty.1 (twinR b k).length ty.2] 77 (v:=.bool true) q0 df0 (fun W h=>sameNums_at h.1.2 h.2 rfl rfl (twinR_len b k hd20) (twinR_len b k hd20) (by simp)) fun a0 w hi df0 q0=>?_;refine co_runO hi 11 [(82,.bool false)] [(3,.pointer (some ⟨B,0,none⟩))] [.inRegion (rop (pt bFC 6143)) [0,1,2,3,4,5,6],.code (pt bFC 8191)] [(.bool ((twAl b k) != (twAl b k)),.bool false)] q0 df0 ⟨(congrArg Value.bool (by simp)),trivial⟩ fun a0 w hi df0 q0=>?_;refine co_book hi (r:=B) (vm:=vm) (vd:=vd) (vt:=vt) (fun w h=>h.1.1.2) q0 df0 rfl rfl rfl rfl (q0.ev 3 rfl) (by decide) fun a0 w hi df0 q0=>?_;refine co_val hi 24 [.agg #[vm,vd,vt]] 86 (v:=.tuple #[.bool (locR b),.int .i64 (openAl b 0)]) q0 df0 (fun W h=>loc_any (h.1.1.1.raw.book hg) hN h.1.1.1.acts) fun a0 w hi df0 q0=>?_;refine co_run hi 8 [(8,.int .i64 (openAl b 0)),(13,.bool (locR b)),(3,.pointer (some ⟨B,0,none⟩))] [.inRegion (rop (pt bFC 12287)) [0,1,2,3,4,5,6],.code (pt bFC 16383)] q0 df0 fun a0 w hi df0 q0=>?_;refine co_book hi (r:=B) (vm:=vm) (vd:=vd) (vt:=vt) (fun w h=>h.1.1.2) q0 df0 rfl rfl rfl rfl (q0.ev 3 rfl) (by decide) fun a0 w hi df0 q0=>?_;refine co_val hi 25 [.agg #[vm,vd,vt]] 91 (v:=.tuple #[.bool (locR b),.int .i64 (openAl b 0)]) q0 df0 (fun W h=>rLoc_any (h.1.1.1.raw.book hg) hN) fun a0 w hi df0 q0=>?_;refine co_runO hi 17 [(96,.bool true),(100,.bool true)] [(102,.bool true)] [.inRegion (rop (pt bFC 24575)) [9,10,11],.code .ret] [(.bool ((locR b) == (locR b)),.bool true),(.bool ((openAl b 0) == (openAl b 0)),.bool true)] q0 df0 ⟨(congrArg Value.bool (by simp)),(congrArg Value.bool (by simp)),trivial⟩ fun a0 w hi df0 q0=>?_;refine co_callL hi 16 [] 103 (α:=Unit) (V:=fun _=>.bool true) (Z:=fun _ _=>True) q0 df0 (fun _ _ _ _ _=>trivial) (fun c cs w h=>found_coL h.1.1.1.acts c cs) fun _ a0 w hi df0 q0=>?_;refine co_run hi 3 [(6,.bool true)] [.code .ret] q0 df0 fun a0 w hi df0 q0=>?_;exact co_end hi q0 df0 rfl (by kernel_rfl) Tryz.func3 rfl rfl
  ·refine co_runO hi 9 [(20,.bool true)] [] [.inRegion (rop (pt bFC 37)) [0,1],.code .ret,.code (pt bFC 7)] [(.bool (decide (20 < ((pl.length:Nat):Int))),.bool true)] q0 df0 ⟨(congrArg Value.bool (decide_eq_true (by omega))),trivial⟩ fun a0 w hi df0 q0=>?_;refine co_callL hi 16 [] 22 (α:=Unit) (V:=fun _=>.bool true) (Z:=fun _ _=>True) q0 df0 (fun _ _ _ _ _=>trivial) (fun c cs w h=>found_coL h.1.acts c cs) fun _ a0 w hi df0 q0=>?_;refine co_run hi 2 [(6,.bool true)] [.code .ret,.code (pt bFC 7)] q0 df0 fun a0 w hi df0 q0=>?_;exact co_end hi q0 df0 rfl (by kernel_rfl) Tryz.func3 rfl rfl
 ·refine co_run hi 9 [] [.inRegion (rop (pt bFC 37)) [0,1],.code .ret,.code (pt bFC 7)] q0 df0 fun a0 w hi df0 q0=>?_;refine co_callL hi 16 [] 22 (α:=Unit) (V:=fun _=>.bool true) (Z:=fun _ _=>True) q0 df0 (fun _ _ _ _ _=>trivial) (fun c cs w h=>found_coL h.1.acts c cs) fun _ a0 w hi df0 q0=>?_;refine co_run hi 2 [(6,.bool true)] [.code .ret,.code (pt bFC 7)] q0 df0 fun a0 w hi df0 q0=>?_;exact co_end hi q0 df0 rfl (by kernel_rfl) Tryz.func3 rfl rfl
end Mt
end Go.Proofs.YtgkajecjbflbbaaGreatDoor
