/- StoreLoaded -/
import Derived.Test.YtdjnkplgllakcaaGreatDoorSL02
import Derived.OwnWalkIn
import Derived.LoopNIn
import Derived.LoopIn
import Derived.Sort.BigQuietIn
import Derived.RangeFuncBox
import Derived.Shelf.Abstract
set_option maxHeartbeats 4000000
set_option maxRecDepth 100000
set_option linter.all false
namespace Go.Proofs.YtdjnkplgllakcaaGreatDoor
section
open Go.RowKit Go.Maps Sp
section
variable {b:Bk} {vr vg vm vs vc:Value}
structure HSt (w0:World) (b:Bk) (vr vg vm vs vc:Value) (s l:Nat) (A:World) (cl:List Int):Prop where
 base:Below w0.heap.size w0 A
 five:Five A s vr vg vm vs vc
 yv:A.cell? ⟨s+1,0,none⟩=some (.func (.yield l) #[] #[])
 c:∀ k,k < 4->A.cell? ⟨s+1+1,k,none⟩=some (.int .i64 (cl.getD k 0))
 fz:∀ k,k < 4->A.frozen? ⟨s+1+1,k,none⟩=false
 nx:A.cell? ⟨s+1+1+1,0,none⟩=some (.func (.func 108) #[] #[.pointer (some ⟨s,0,none⟩),.pointer (some ⟨s+1+1,0,none⟩),.pointer (some ⟨s+1,0,none⟩),.pointer (some ⟨s+1+1+1,0,none⟩)])
 len:cl.length=4
 lt:s+1+1+1 < A.heap.size
theorem HSt.keep {w0 A B:World} {s l:Nat} {cl:List Int} {p:Nat->Prop} (h:HSt w0 b vr vg vm vs vc s l A cl) (hk:KS p A B) (hp0:∀ k,k < w0.heap.size->p k) (hps:∀ k,s<=k->k<=s+1+1+1->p k):HSt w0 b vr vg vm vs vc s l B cl:=by
 have hlt:=h.lt;have e:∀ r o,s<=r->r<=s+1+1+1->B.cell? ⟨r,o,none⟩=A.cell? ⟨r,o,none⟩:=fun r o h1 h2=>hk.cell (x:=⟨r,o,none⟩) (by simp;omega) (hps r h1 h2);have ef:∀ r o,s<=r->r<=s+1+1+1->B.frozen? ⟨r,o,none⟩=A.frozen? ⟨r,o,none⟩:=fun r o h1 h2=>hk.frozen (x:=⟨r,o,none⟩) (by simp;omega) (hps r h1 h2);obtain ⟨⟨hos,htape,hout,hsize,hblock⟩,⟨f0,f1,f2,f3,f4,f5⟩,hy,hc,hfz,hn,hl,_⟩:=h;refine ⟨⟨hk.os.trans hos,hk.tape.trans htape,hk.output.trans hout,Nat.le_trans hsize hk.size,fun k hkk=>(hk.block k (Nat.lt_of_lt_of_le hkk hsize) (hp0 k hkk)).trans (hblock k hkk)⟩,⟨?_,?_,?_,?_,?_,Nat.lt_of_lt_of_le f5 hk.size⟩,?_,fun k hk4=>?_,fun k hk4=>?_,?_,hl,Nat.lt_of_lt_of_le hlt hk.size⟩
 ·rw [e _ _ (by omega) (by omega)];exact f0
 ·rw [e _ _ (by omega) (by omega)];exact f1
 ·rw [e _ _ (by omega) (by omega)];exact f2
 ·rw [e _ _ (by omega) (by omega)];exact f3
 ·rw [e _ _ (by omega) (by omega)];exact f4
 ·rw [e _ _ (by omega) (by omega)];exact hy
 ·rw [e _ _ (by omega) (by omega)];exact hc k hk4
 ·rw [ef _ _ (by omega) (by omega)];exact hfz k hk4
 ·rw [e _ _ (by omega) (by omega)];exact hn
theorem HSt.next {w0 A B:World} {s l:Nat} {cl:List Int} (h:HSt w0 b vr vg vm vs vc s l A cl) (hk:Below A.heap.size A B):HSt w0 b vr vg vm vs vc s l B cl :=
 h.keep (KS.all hk (fun _=>True)) (fun _ _=>trivial) (fun _ _ _=>trivial)
theorem HSt.set {w0 A:World} {s l:Nat} {cl:List Int} (h:HSt w0 b vr vg vm vs vc s l A cl) (hs:w0.heap.size<=s) {i:Nat} (hi:i < 4) (v:Int):HSt w0 b vr vg vm vs vc s l (A.setCell ⟨s+1+1,i,none⟩ (.int .i64 v)) (cl.set i v):=by
 have hk:KS (fun k=>k≠s+1+1) A (A.setCell ⟨s+1+1,i,none⟩ (.int .i64 v)):=KS.setCell (by simp) _ _;have hlt:=h.lt;have e:∀ r o,r≠s+1+1->r < A.heap.size->(A.setCell ⟨s+1+1,i,none⟩ (.int .i64 v)).cell? ⟨r,o,none⟩=A.cell? ⟨r,o,none⟩:=fun r o h1 h2=>hk.cell (x:=⟨r,o,none⟩) h2 h1;obtain ⟨⟨hos,htape,hout,hsize,hblock⟩,⟨f0,f1,f2,f3,f4,f5⟩,hy,hc,hfz,hn,hl,_⟩:=h;refine ⟨⟨hk.os.trans hos,hk.tape.trans htape,hk.output.trans hout,Nat.le_trans hsize hk.size,fun k hkk=>(hk.block k (Nat.lt_of_lt_of_le hkk hsize) (by omega)).trans (hblock k hkk)⟩,⟨?_,?_,?_,?_,?_,Nat.lt_of_lt_of_le f5 hk.size⟩,?_,fun k hk4=>?_,fun k hk4=>?_,?_,by simpa using hl,Nat.lt_of_lt_of_le hlt hk.size⟩
 ·rw [e _ _ (by omega) (by omega)];exact f0
 ·rw [e _ _ (by omega) (by omega)];exact f1
 ·rw [e _ _ (by omega) (by omega)];exact f2
 ·rw [e _ _ (by omega) (by omega)];exact f3
 ·rw [e _ _ (by omega) (by omega)];exact f4
 ·rw [e _ _ (by omega) (by omega)];exact hy
 ·by_cases hki:k=i
  ·subst hki;rw [World.cell?_setCell_same' _ _ _ (by rw [hc k hk4];rfl)];simp [List.getD,hl,hk4]
  ·rw [World.cell?_setCell_other (h:=fun e=>hki (by injection e with _ e _;exact e.symm))];rw [hc k hk4];simp [List.getD,List.getElem?_set_ne (Ne.symm hki)]
 ·rw [World.frozen?_setCell];exact hfz k hk4
 ·rw [e _ _ (by omega) (by omega)];exact hn
end
section
variable {b:Bk} {vr vg vm vs vc:Value}
def NextOut (w0:World) (b:Bk) (vr vg vm vs vc:Value) (s l i:Nat) (cl:List Int) (J Jx:List (List Int)->World->Prop) (done:List (List Int)) (e:Ending) (B:World):Prop :=
 (∃ cl',e=.returned (.bool true)/\HSt w0 b vr vg vm vs vc s l B cl'/\cl'.take i=cl.take i/\(∀ k,b.ss.length<=k->cl'.getD k 0=0)/\J done B)\/(e=.returned (.bool false)/\∃ pre,Jx pre B)
abbrev nextArgs (i s:Nat):Array Value:=#[.int .i64 i,.pointer (some ⟨s,0,none⟩),.pointer (some ⟨s+1+1,0,none⟩),.pointer (some ⟨s+1,0,none⟩),.pointer (some ⟨s+1+1+1,0,none⟩)]
theorem next_leaf_no {w0:World} (hB:BookAt w0 b vr vg vm vs vc) (hK:KindsAt w0) (hO:BkOk b) (hr:∀ r∈b.rs,recAl b r=0) {s l:Nat} {A:World} {cl:List Int} (hA:HSt w0 b vr vg vm vs vc s l A cl) (hc:Came b cl) (hz:∀ k,b.ss.length<=k->cl.getD k 0=0)
 {J Jx:List (List Int)->World->Prop} {own:Nat->Prop} (hJ:∀ pre A B,J pre A->KS (fun k=>¬ own k) A B->J pre B) {done:List (List Int)} (hj:J done A) (hn:right b cl=false) :
 CallsIn Fence.wide 0 Tryz.prog 108 (nextArgs b.ss.length s) A (NextOut w0 b vr vg vm vs vc s l b.ss.length cl J Jx done):=by
 refine callsIn_wide.2 ?_;obtain ⟨c0,c1,c2,c3,rfl⟩:=four hA.len;obtain ⟨sa,sc,rfl,hM,hl⟩:=hB.ss;have hag:=fun (w':World) (hb:Below w0.heap.size w0 w')=>agrees_at (hB.below hb) (hK.below hb) hO hc rfl hr hn;rw [show cameV [c0,c1,c2,c3]=.agg #[.int .i64 c0,.int .i64 c1,.int .i64 c2,.int .i64 c3] from rfl] at hag;obtain ⟨f0,f1,f2,f3,f4,f5⟩:=hA.five;have k0:=hA.c 0 (by omega);have k1:=hA.c 1 (by omega);have k2:=hA.c 2 (by omega);have k3:=hA.c 3 (by omega);simp only [List.getD_cons_zero,List.getD_cons_succ] at k0 k1 k2 k3;have HA:=Hh hA;have HJ:=Hh hJ;have HJ0:=Hh hj;have HZ:=Hh hz;have HAG:=Hh hag;clear hA hJ hj hz hag hB hK hO hr hc hn hM;unfold nextArgs
 go_enter Tryz.func108,Tryz.ntmps108
 go_wp2_with (go_at_call 109;(with_reducible refine (HAG.out _ HA.out.base).mono ?_);rintro e w1 ⟨rfl,hb1⟩);go_ret;exact .inl ⟨_,rfl,HA.out.next hb1,rfl,HZ.out,HJ.out _ _ _ HJ0.out (KS.all hb1 _)⟩
theorem next_leaf_yes {w0:World} (hB:BookAt w0 b vr vg vm vs vc) (hK:KindsAt w0) (hO:BkOk b) (hr:∀ r∈b.rs,recAl b r=0) {s l:Nat} {A:World} {cl:List Int} (hA:HSt w0 b vr vg vm vs vc s l A cl) (hc:Came b cl) (hz:∀ k,b.ss.length<=k->cl.getD k 0=0)
 {J Jx:List (List Int)->World->Prop} {own:Nat->Prop} (hJ:∀ pre A B,J pre A->KS (fun k=>¬ own k) A B->J pre B) {done:List (List Int)} (hj:J done A) (hn:right b cl=true)
 {p:Nat->Prop} (hp0:∀ k,k < w0.heap.size->p k) (hps:∀ k,s<=k->k<=s+1+1+1->p k)
 (hY:∀ A,s+1+1+1 < A.heap.size->J done A->YieldAt Fence.wide 0 Tryz.prog l #[cameV cl] A fun e B=>(e=.returned (.bool true)/\J (done ++ [cl.take b.ss.length]) B/\KS p A B)\/(e=.returned (.bool false)/\Jx (done ++ [cl.take b.ss.length]) B)) :
 CallsIn Fence.wide 0 Tryz.prog 108 (nextArgs b.ss.length s) A (NextOut w0 b vr vg vm vs vc s l b.ss.length cl J Jx (done ++ [cl.take b.ss.length])):=by
 obtain ⟨c0,c1,c2,c3,rfl⟩:=four hA.len;obtain ⟨sa,sc,rfl,hM,hl⟩:=hB.ss;have hag:=fun (w':World) (hb:Below w0.heap.size w0 w')=>agrees_at (hB.below hb) (hK.below hb) hO hc rfl hr hn;rw [show cameV [c0,c1,c2,c3]=.agg #[.int .i64 c0,.int .i64 c1,.int .i64 c2,.int .i64 c3] from rfl] at hag;obtain ⟨f0,f1,f2,f3,f4,f5⟩:=hA.five;have k0:=hA.c 0 (by omega);have k1:=hA.c 1 (by omega);have k2:=hA.c 2 (by omega);have k3:=hA.c 3 (by omega);simp only [List.getD_cons_zero,List.getD_cons_succ] at k0 k1 k2 k3;have HA:=Hh hA;have HJ:=Hh hJ;have HJ0:=Hh hj;have HZ:=Hh hz;have HAG:=Hh hag;clear hA hJ hj hz hag hB hK hO hr hc hn hM;have hY2:=fun (w1:World) (hb1:Below A.heap.size A w1)=>hY w1 (Nat.lt_of_lt_of_le HA.out.lt hb1.size) (HJ.out _ _ _ HJ0.out (KS.all hb1 _));rw [show cameV [c0,c1,c2,c3]=.agg #[.int .i64 c0,.int .i64 c1,.int .i64 c2,.int .i64 c3] from rfl] at hY2;have HY:=Hh hY2;have HP0:=Hh hp0;have HPS:=Hh hps;have hyv:=HA.out.yv;have hAlt:=HA.out.lt;have hA1:s+1 < A.heap.size:=by omega
 have hA2:s+1+1 < A.heap.size:=by omega
 clear hY hY2 hp0 hps;unfold nextArgs
 (refine callsIn_of_wp Tryz.func108 rfl trivial ?_ rfl;simp only [Tryz.ntmps108,List.size_toArray,List.length_cons,List.length_nil,Nat.reduceAdd,Nat.reduceSub,Array.replicate_succ,Array.replicate_zero,List.push_toArray,List.append_toArray,List.nil_append,List.cons_append])
 gi_wp2_with (gi_at_call 109;(with_reducible refine (callsIn_wide.2 (HAG.out _ HA.out.base)).mono ?_);rintro e w1 ⟨rfl,hb1⟩;obtain ⟨hcc,hcf⟩:=bcell hb1;have hz1:=hb1.size;obtain ⟨fn,tmps,assign,body,hy,hR⟩:=HY.out w1 hb1;have HR:=Hh hR;clear hR)
 refine HR.out.mono ?_;rintro e W' (⟨rfl,hj',hk'⟩ | ⟨rfl,hjx⟩)
 ·gi_wp2
  go_ret;exact .inl ⟨_,rfl,(HA.out.next hb1).keep hk' HP0.out HPS.out,rfl,HZ.out,hj'⟩
 ·gi_wp2
  go_ret;exact .inr ⟨rfl,_,hjx⟩
end
section
variable {b:Bk} {vr vg vm vs vc:Value}
theorem take_of_getD {cl:List Int} {i:Nat} (h:i < cl.length):cl.take (i+1)=cl.take i ++ [cl.getD i 0]:=by
 rw [List.take_succ_eq_append_getElem h];simp [List.getD,h]
theorem set_take {c:List Int} {i:Nat} (v:Int):(c.set i v).take i=c.take i:=by
 apply List.ext_getElem?;intro k;simp only [List.getElem?_take];split
 ·rw [List.getElem?_set_ne (by omega)]
 ·rfl
theorem getD_of_take {c d:List Int} {i n:Nat} (h:c.take n=d.take n) (hi:i < n):c.getD i 0=d.getD i 0:=by
 have:=congrArg (fun l=>l.getD i 0) h;simpa [List.getD,List.getElem?_take,hi] using this
theorem next_at {w0:World} (hB:BookAt w0 b vr vg vm vs vc) (hK:KindsAt w0) (hO:BkOk b) (hr:∀ r∈b.rs,recAl b r=0) {s l:Nat} (hs:w0.heap.size<=s)
 {J Jx:List (List Int)->World->Prop} (hJ:∀ pre A B,J pre A->KS (fun k=>¬ (k=s+1+1)) A B->J pre B)
 {p:Nat->Prop} (hp0:∀ k,k < w0.heap.size->p k) (hps:∀ k,s<=k->k<=s+1+1+1->p k) {xs:List (List Int)}
 (hY:∀ done cl A,(∃ suf,xs=done ++ cl.take b.ss.length::suf)->cl.length=4->(∀ k,b.ss.length<=k->cl.getD k 0=0)->s+1+1+1 < A.heap.size->J done A->YieldAt Fence.wide 0 Tryz.prog l #[cameV cl] A fun e B =>
   (e=.returned (.bool true)/\J (done ++ [cl.take b.ss.length]) B/\KS p A B)\/(e=.returned (.bool false)/\Jx (done ++ [cl.take b.ss.length]) B)) :
 ∀ (m i:Nat),i+m=b.ss.length->∀ (A:World) (cl:List Int) (done suf:List (List Int)),HSt w0 b vr vg vm vs vc s l A cl->J done A->xs=done ++ pastsFrom b (cl.take i) (b.ss.drop i) ++ suf ->
  (∀ k,b.ss.length<=k->cl.getD k 0=0)->(∀ k (h:k < b.ss.length),k < i->0<=cl.getD k 0/\cl.getD k 0<=(b.ss[k].length:Int)) ->
  CallsIn Fence.wide 0 Tryz.prog 108 (nextArgs i s) A (NextOut w0 b vr vg vm vs vc s l i cl J Jx (done ++ pastsFrom b (cl.take i) (b.ss.drop i)))
 | 0,i,hi,A,cl,done,suf,hA,hj,hx,hz,hc=>by
  obtain rfl:i=b.ss.length:=by omega
  have hcm:Came b cl:=fun k hk=>hc k hk hk;have hrt:=right_take (c:=cl) (n:=b.ss.length) rfl hr;rw [List.drop_length,pastsFrom,hrt] at hx ⊢;cases hn:right b cl
  ·simp only [hn,if_false,List.append_nil,Bool.false_eq_true] at hx ⊢;exact next_leaf_no hB hK hO hr hA hcm hz hJ hj hn
  ·simp only [hn,if_true] at hx ⊢;exact next_leaf_yes hB hK hO hr hA hcm hz hJ hj hn hp0 hps fun A' hs' hA'=>hY done cl A' ⟨suf,by simpa using hx⟩ hA.len hz hs' hA'
 | m+1,i,hi,A,cl,done,suf,hA,hj,hx,hz,hc=>by
  have ih:=next_at hB hK hO hr hs hJ hp0 hps hY m (i+1) (by omega);have hsl:=hO.sl;have hin:i < b.ss.length:=by omega
  obtain ⟨sa,sc,rfl,hM,hl⟩:=hB.ss;obtain ⟨sb,so,rfl,hsb,pa,pc,d0,hpc,hpl,_⟩:=hM _ hin;rw [List.drop_eq_getElem_cons hin] at hx ⊢;generalize hss:b.ss[i]=ps at *;obtain ⟨f0,f1,f2,f3,f4,f5⟩:=hA.five;have ki:=hA.c i (by omega);have kf:=hA.fz i (by omega);have hA1:=hA.lt;have hA2:s+1+1 < A.heap.size:=by omega
  have hA3:s+1+1+1 < A.heap.size:=by omega
  have hi4:(i:Int) < 4:=by omega
  have hne:((i:Int) == (b.ss.length:Int))=false:=by simp;omega
  have hne2:¬ (i:Int)=(b.ss.length:Int):=by omega
  have HA:=Hh hA;have HJ:=Hh hJ;have HJ0:=Hh hj;have HZ:=Hh hz;have HC:=Hh hc;have HX:=Hh hx;have HSS:=Hh hss;have IH:=Hh ih;have HP0:=Hh hp0;have HPS:=Hh hps;have HD0:=Hh d0;clear hA hJ hj hz hc hx hss ih hp0 hps hY hB hK hO hr hM d0;generalize hci:cl.getD i 0=ci at ki;have HCI:=Hh hci;clear hci;unfold nextArgs
  (refine callsIn_of_wp Tryz.func108 rfl trivial ?_ rfl;simp only [Tryz.ntmps108,List.size_toArray,List.length_cons,List.length_nil,Nat.reduceAdd,Nat.reduceSub,Array.replicate_succ,Array.replicate_zero,List.push_toArray,List.append_toArray,List.nil_append,List.cons_append])
  gi_wp2
  have hst0:=HA.out.set hs (show i < 4 by omega) 0;have hks0:KS (fun k=>¬ (k=s+1+1)) A (A.setCell ⟨s+1+1,i,none⟩ (.int .i64 0)):=KS.setCell (by simp) _ _;have hj0:=HJ.out _ _ _ HJ0.out hks0;have htk0:(cl.set i 0).take i=cl.take i:=set_take _;have hgi0:(cl.set i 0).getD i 0=((0:Nat):Int):=by simp [List.getD,HA.out.len,show i < 4 by omega]
  have hzz:∀ (v:Int) (c:List Int),(∀ k,b.ss.length<=k->c.getD k 0=0)->∀ k,b.ss.length<=k->(c.set i v).getD k 0=0:=fun v c hc k hk=>by
   have:=hc k hk;simp only [List.getD] at this ⊢;rw [List.getElem?_set_ne (by omega)];exact this
  have HZZ:=Hh hzz;have HST0:=Hh hst0;have HJ1:=Hh hj0;have HTK0:=Hh htk0;have HGI0:=Hh hgi0;clear hst0 hks0 hj0 htk0 hgi0 hzz
  gi_loopw [6] (fun v wr=>∃ (cl':List Int) (n:Nat) (part:List (List Int)),v=.bool false/\HSt w0 b vr vg vm (.slice (some ⟨sb,so,none⟩) b.ss.length sc) vc s l wr cl'/\cl'.take i=cl.take i/\Hid (cl'.getD i 0=n)/\n<=ps.length+1/\(∀ k,b.ss.length<=k->cl'.getD k 0=0)/\Hid (part ++ restFrom b (cl.take i) ps (b.ss.drop (i+1)) n=pastsFrom b (cl.take i) (ps::b.ss.drop (i+1)))/\J (done ++ part) wr)
   (fun _ wr=>ps.length+1 - (intOf ((wr.cell? ⟨s+1+1,i,none⟩).getD undef)).toNat)
  case atStart=>exact ⟨_,0,[],rfl,HST0.out,HTK0.out,HGI0.out,by omega,HZZ.out _ _ HZ.out,by rw [restFrom_zero];rfl,by simpa using HJ1.out⟩
  case round =>
   obtain ⟨cl',n,part,rfl,hA',htk,hgi,hnl,hz',hpart,hj'⟩:=hrel;obtain ⟨g0,g1,g2,g3,g4,g5⟩:=hA'.five;have k':=hA'.c i (by omega);have kf':=hA'.fz i (by omega);have hgi2:cl'.getD i 0=(n:Int):=hgi.out;rw [hgi2] at k';have hB1:=hA'.lt;have hB2:s+1+1 < wr.heap.size:=by omega
   have hB3:s+1+1+1 < wr.heap.size:=by omega
   have hdr:=(hA'.base.cell hsb).trans HD0.out;have hsb2:sb < wr.heap.size:=Nat.lt_of_lt_of_le hsb hA'.base.size;have hnx:=hA'.nx;have hlen':=hA'.len;have e1:IntKind.i64.wrap ((i:Int)+1)=(i:Int)+1:=IntWalk.i64_in _ (by omega);have e2:IntKind.i64.wrap ((n:Int)+1)=(n:Int)+1:=IntWalk.i64_in _ (by omega);have HA':=Hh hA';have HJ':=Hh hj';have HZ':=Hh hz';have HTK:=Hh htk;have HLEN:=Hh hlen';have i0:(0:Int)<=i:=by omega
   have i1:(i:Int) < b.ss.length:=by omega
   clear hA' hj' hz' htk hgi2 hlen' ki kf;by_cases hle:n<=ps.length
   ·have hle2:(n:Int)<=ps.length:=by omega
    gi_wp2
    gi_big_quiet_th (fail)
    gi_wp2
    have hpart2:=hpart.out;rw [restFrom_succ _ _ _ _ _ hle,<- List.append_assoc] at hpart2;have htk1:cl'.take (i+1)=cl.take i ++ [(n:Int)]:=by rw [take_of_getD (by rw [HLEN.out];omega),HTK.out,hgi.out]
    have ihc:=IH.out (wr.drewN nq) cl' (done ++ part) (restFrom b (cl.take i) ps (b.ss.drop (i+1)) (n+1) ++ suf) (HA'.out.keep (KS.drewN (fun _=>True) _ _) (fun _ _=>trivial) (fun _ _ _=>trivial)) (HJ.out _ _ _ HJ'.out (KS.drewN _ _ _))
     (by rw [HX.out,htk1,<- hpart2];simp only [List.append_assoc]) HZ'.out (fun k hk hki=>by
       by_cases hke:k < i
       ·rw [getD_of_take HTK.out hke];exact HC.out k hk hke
       ·obtain rfl:k=i:=by omega
        rw [hgi.out,HSS.out]
        omega)
    rw [htk1] at ihc;rw [show nextArgs (i+1) s=#[.int .i64 ((i:Int)+1),.pointer (some ⟨s,0,none⟩),.pointer (some ⟨s+1+1,0,none⟩),.pointer (some ⟨s+1,0,none⟩),.pointer (some ⟨s+1+1+1,0,none⟩)] from by simp [nextArgs]] at ihc;refine ihc.mono ?_;rintro e B (⟨cl'',rfl,hA'',htk'',hz'',hj''⟩ | ⟨rfl,pre,hjx⟩)
    ·have m':=hA''.c i (by omega);have mf:=hA''.fz i (by omega);have hgi'':cl''.getD i 0=(n:Int):=by rw [getD_of_take htk'' (Nat.lt_succ_self i),hgi.out]
     rw [hgi''] at m';have hC1:=hA''.lt;have hC2:s+1+1 < B.heap.size:=by omega
     have HA'':=Hh hA'';have HTK'':=Hh htk'';have HZ'':=Hh hz'';have HJ'':=Hh hj'';have HPART:=Hh hpart2;clear hA'' htk'' hz'' hj'' hgi'' ihc htk1 hpart2
     gi_wp2
     go_roundw
     case rel =>
      refine ⟨cl''.set i ((n:Int)+1),n+1,part ++ pastsFrom b (cl.take i ++ [(n:Int)]) (b.ss.drop (i+1)),rfl,HA''.out.set hs (by omega) _,?_,?_,by omega,HZZ.out _ _ HZ''.out,HPART.out,?_⟩
      ·rw [set_take,<- HTK.out];have:=congrArg (List.take i) HTK''.out;simpa [List.take_take] using this
      ·simp only [Hid,List.getD];rw [List.getElem?_set_self (by rw [HA''.out.len];omega)];simp
      ·rw [<- List.append_assoc];exact HJ.out _ _ _ HJ''.out (KS.setCell (by simp) _ _)
     case measure =>
      rw [World.cell?_setCell_same' _ _ _ (by rw [m'];rfl),k'];simp [intOf];omega
    ·gi_wp2
     go_ret;exact .inr ⟨rfl,pre,hjx⟩
   ·have hnl':n=ps.length+1:=by omega
    have hle2:(ps.length:Int) < n:=by omega
    have hpart2:=hpart.out;rw [restFrom_end _ _ _ _ _ (by omega),List.append_nil] at hpart2;have HPART:=Hh hpart2;clear hpart2 hnl'
    gi_wp2
    gi_big_quiet_th (fail)
    gi_wp2
    go_ret;exact .inl ⟨cl',rfl,HA'.out.keep (KS.drewN (fun _=>True) _ _) (fun _ _=>trivial) (fun _ _ _=>trivial),HTK.out,HZ'.out,by rw [<- HPART.out];exact HJ.out _ _ _ HJ'.out (KS.drewN _ _ _)⟩
end
section
variable {b:Bk} {vr vg vm vs vc:Value}
theorem pad_take {cl:List Int} {n:Nat} (h4:cl.length=4) (hn:n<=4) (hz:∀ k,n<=k->cl.getD k 0=0):pad (cl.take n)=cl:=by
 unfold pad;apply List.ext_getElem?;intro k;by_cases hk:k < n
 ·rw [List.getElem?_append_left (by first | (simp;done) | (simp;omega)),List.getElem?_take,if_pos hk]
 ·rw [List.getElem?_append_right (by first | (simp;done) | (simp;omega))];by_cases hk4:k < 4
  ·have:=hz k (by omega);simp only [List.getD,List.getElem?_eq_getElem (show k < cl.length by omega),Option.getD_some] at this;rw [List.getElem?_eq_getElem (show k < cl.length by omega),this,List.getElem?_replicate,if_pos (by first | (simp;done) | (simp;omega))]
  ·rw [List.getElem?_eq_none (by first | (simp;done) | (simp;omega)),List.getElem?_eq_none (by omega)]
def encH (n:Nat) (x:List Int) (args:Array Value) (A:World):Prop:=args=#[cameV (pad x)]/\n<=A.heap.size
theorem histories_iter {w0 W:World} (hB:BookAt w0 b vr vg vm vs vc) (hK:KindsAt w0) (hO:BkOk b) (hr:∀ r∈b.rs,recAl b r=0) (hW:Below w0.heap.size w0 W)
 {p:Nat->Prop} (hp0:∀ k,k < w0.heap.size->p k) (hps:∀ k,W.heap.size<=k->k<=W.heap.size+1+1+1->p k) :
 Iter Tryz.prog 91 (.agg #[vr,vg,vm,vs,vc]) (encH (W.heap.size+1+1+1+1)) (pasts b) (fun k=>k=W.heap.size+1+1) p W:=by
 intro l J Jx hJ hJx hY h0;have hsl:=hO.sl;have hY':∀ done cl A,(∃ suf,pasts b=done ++ cl.take b.ss.length::suf)->cl.length=4->(∀ k,b.ss.length<=k->cl.getD k 0=0)->W.heap.size+1+1+1 < A.heap.size->J done A->YieldAt Fence.wide 0 Tryz.prog l #[cameV cl] A fun e B =>
  (e=.returned (.bool true)/\J (done ++ [cl.take b.ss.length]) B/\KS p A B)\/(e=.returned (.bool false)/\Jx (done ++ [cl.take b.ss.length]) B):=fun done cl A hs h4 hz hsz hj =>
  hY done _ _ A hs (by unfold encH;rw [pad_take h4 hsl hz];exact ⟨rfl,hsz⟩) hj
 have hnx:=next_at hB hK hO hr (l:=l) hW.size hJ hp0 hps hY' b.ss.length 0 (by omega);have HNX:=Hh hnx;have HJ:=Hh hJ;have H0:=Hh h0;have HW:=Hh hW;obtain ⟨rfl,rfl,⟨ma,mc,rfl,_,_⟩,⟨sa,sc,rfl,_,_⟩,ra,rc,rfl,_,_⟩:=id hB;clear hB hK hO hr hW hJ hJx hY h0 hY' hnx hp0 hps;refine callsIn_wide.2 ?_
 go_enter Tryz.func91,Tryz.ntmps91
 go_wp2_with fail;obtain ⟨W1,hW1⟩:∃ W1,W1=(((W.alloc (.cells #[.int .i64 b.room,.int .i64 b.gap,.slice ma b.ms.length mc,.slice sa b.ss.length sc,.slice ra b.rs.length rc] 88)).alloc (.cells #[.func (.yield l) #[] #[]] 164)).alloc (.cells #[.int .i64 0,.int .i64 0,.int .i64 0,.int .i64 0] 116)).alloc
  (.cells #[.func (.func 108) #[] #[.pointer (some ⟨W.heap.size,0,none⟩),.pointer (some ⟨W.heap.size+1+1,0,none⟩),.pointer (some ⟨W.heap.size+1,0,none⟩),.pointer (some ⟨W.heap.size+1+1+1,0,none⟩)]] 133):=⟨_,rfl⟩
 rw [<- hW1];have hb1:Below W.heap.size W W1:=by rw [hW1];(exact bel)
 have hst:HSt w0 b (.int .i64 b.room) (.int .i64 b.gap) (.slice ma b.ms.length mc) (.slice sa b.ss.length sc) (.slice ra b.rs.length rc) W.heap.size l W1 [0,0,0,0]:=by
  refine ⟨Below.next HW.out hb1,?_,?_,fun k hk=>?_,fun k hk=>?_,?_,rfl,by rw [hW1];simp⟩
  ·rw [hW1];refine ((Five.new W _ _ _ _ _ 88).below (n:=W.heap.size+1) ?_ (by simp));exact ((((Below.refl _ _).alloc (by simp) _).alloc (by first | (simp;done) | (simp;omega)) _).alloc (by first | (simp;done) | (simp;omega)) _)
  ·rw [hW1,World.cell?_alloc_past _ _ _ (by first | (simp;done) | (simp;omega)),World.cell?_alloc_past _ _ _ (by simp),World.cell?_alloc_at _ _ _ _ (by simp)];rfl
  ·rw [hW1,World.cell?_alloc_past _ _ _ (by simp),World.cell?_alloc_at _ _ _ _ (by simp)];have:k=0\/k=1\/k=2\/k=3:=by omega
   rcases this with rfl | rfl | rfl | rfl <;> rfl
  ·rw [hW1,World.frozen?_alloc_past _ _ _ (by simp),World.frozen?_alloc_at _ _ _ _ (by simp)]
  ·rw [hW1,World.cell?_alloc_at _ _ _ _ (by simp)];rfl
 have hcall:=callsIn_wide.1 (HNX.out W1 [0,0,0,0] [] [] hst (HJ.out _ _ _ H0.out (KS.all hb1 _)) (by simp [pasts]) (fun k hk=>by
  by_cases h4:k < 4
  ·have:k=0\/k=1\/k=2\/k=3:=by omega
   rcases this with rfl | rfl | rfl | rfl <;> rfl
  ·simp [List.getD,List.getElem?_eq_none (show [(0:Int),0,0,0].length<=k by simp;omega)]) (fun k _ hk=>absurd hk (Nat.not_lt_zero _)))
 rw [show nextArgs 0 W.heap.size=#[.int .i64 0,.pointer (some ⟨W.heap.size,0,none⟩),.pointer (some ⟨W.heap.size+1+1,0,none⟩),.pointer (some ⟨W.heap.size+1,0,none⟩),.pointer (some ⟨W.heap.size+1+1+1,0,none⟩)] from rfl] at hcall;have HC:=Hh hcall;clear hcall hst hb1 hW1;refine HC.out.mono ?_;rintro e B (⟨cl',rfl,_,_,_,hj⟩ | ⟨rfl,pre,hjx⟩)
 ·go_wp2
  go_end0
  exact ⟨⟨_,rfl⟩,.inl (by simpa [pasts] using hj)⟩
 ·go_wp2
  go_end0
  exact ⟨⟨_,rfl⟩,.inr ⟨pre,hjx⟩⟩
end
attribute [local go_sem] Oper.semAt_some
section
variable {b:Bk} {vr vg vm vs vc:Value}
theorem pastsFrom_le {b:Bk}:∀ (l:List (List Prt)) (pre:List Int),(∀ s∈l,s.length<=5)->(pastsFrom b pre l).length<=6 ^ l.length
 | [],pre,_=>by unfold pastsFrom;split <;> simp
 | s::l,pre,h=>by
  unfold pastsFrom;rw [List.length_flatMap];have h1:∀ (ns:List Nat),(ns.map fun (n:Nat)=>(pastsFrom b (pre ++ [(n:Int)]) l).length).sum<=ns.length * 6 ^ l.length:=by
   intro ns
   induction ns with
   | nil=>simp
   | cons n ns ih =>
    have:=pastsFrom_le (b:=b) l (pre ++ [(n:Int)]) (fun s hs=>h s (List.mem_cons_of_mem _ hs));simp only [List.map_cons,List.sum_cons,List.length_cons,Nat.succ_mul];omega
  have h2:=h1 (List.range (s.length+1));have h3:=h s (List.mem_cons_self ..);rw [List.length_range] at h2;refine Nat.le_trans h2 ?_;rw [List.length_cons,Nat.pow_succ,Nat.mul_comm];exact Nat.mul_le_mul_left _ (by omega)
theorem pasts_le {b:Bk} (hO:BkOk b):(pasts b).length<=1296:=by
 refine Nat.le_trans (pastsFrom_le b.ss [] hO.pl) ?_;have:=hO.sl
 calc 6 ^ b.ss.length<=6 ^ 4:=Nat.pow_le_pow_right (by omega) this
  _=1296:=by decide
theorem cells_new (w:World) (cs:List Value) (t:TypeId):∀ j u,cs[j]? = some u->(w.alloc (.cells cs.toArray t)).cell? (Addr.add ⟨w.heap.size,0,none⟩ j)=some u:=fun j u h=>by
 have e:Addr.add ⟨w.heap.size,0,none⟩ j=⟨w.heap.size,j,none⟩:=by
  unfold Addr.add;split
  ·rename_i hj;subst hj;rfl
  ·simp
 rw [e,World.cell?_alloc_new];simpa using h
theorem grow_ks {A B:World} {base e size n:Nat} {v:Value} {xs:List Value} (h:A.ownsRow base e size v n xs) (hg:A.grownBy B v.ownBlock):KS (fun k=>k < base) A B:=by
 obtain ⟨h1,⟨rfl,_⟩ | ⟨g,cap,cur,rfl,e2,e3,e4⟩⟩:=h
 ·exact ⟨hg.os,hg.tape,hg.output,hg.size,fun k hk _=>hg.block k hk (by simp [Value.ownBlock])⟩
 ·exact ⟨hg.os,hg.tape,hg.output,hg.size,fun k hk hp=>hg.block k hk (by simp [Value.ownBlock];omega)⟩
def cellsP (x:List Int):List Value:=[.int .i64 ((pad x).getD 0 0),.int .i64 ((pad x).getD 1 0),.int .i64 ((pad x).getD 2 0),.int .i64 ((pad x).getD 3 0)]
theorem cameInfo:(Tryz.prog.info? 116).map (fun i=>(i.zero,i.size,i.bytes))=some (some (.agg #[.int .i64 0,.int .i64 0,.int .i64 0,.int .i64 0]),4,32):=by kernel_rfl
def AllJ (w:World) (pre:List (List Int)) (A:World):Prop :=
 (∃ v,A.cell? ⟨w.heap.size+1,0,none⟩=some v/\A.frozen? ⟨w.heap.size+1,0,none⟩=false/\A.ownsRow (w.heap.size+8) 116 4 v pre.length (pre.flatMap cellsP))/\Below w.heap.size w A/\w.heap.size+1 < A.heap.size
theorem ownsRow_ks {A B:World} {base e size n:Nat} {v:Value} {xs:List Value} {p:Nat->Prop} (h:A.ownsRow base e size v n xs) (hk:KS p A B) (hp:∀ k,base<=k->p k):B.ownsRow base e size v n xs:=by
 obtain ⟨h1,h2 | ⟨g,cap,cur,e1,e2,e3,e4⟩⟩:=h
 ·exact ⟨h1,.inl h2⟩
 ·exact ⟨h1,.inr ⟨g,cap,cur,e1,e2,(hk.block g (Array.getElem?_eq_some_iff.1 e3).1 (hp g e2)).trans e3,e4⟩⟩
theorem AllJ.keep {w A B:World} {pre:List (List Int)} (h:AllJ w pre A) {p:Nat->Prop} (hk:KS p A B) (hp:∀ k,k<=w.heap.size+1\/w.heap.size+8<=k->p k):AllJ w pre B:=by
 obtain ⟨⟨v,h1,h2,h3⟩,h4,h5⟩:=h;refine ⟨⟨v,(hk.cell h5 (hp _ (.inl (Nat.le_refl _)))).trans h1,(hk.frozen h5 (hp _ (.inl (Nat.le_refl _)))).trans h2,ownsRow_ks h3 hk fun k hk=>hp k (.inr hk)⟩,?_,Nat.lt_of_lt_of_le h5 hk.size⟩;exact ⟨hk.os.trans h4.os,hk.tape.trans h4.tape,hk.output.trans h4.output,Nat.le_trans h4.size hk.size,fun k hkk=>(hk.block k (Nat.lt_of_lt_of_le hkk h4.size) (hp k (.inl (by omega)))).trans (h4.block k hkk)⟩
def AllMid (w:World) (vr vg vm vs vc:Value) (pre:List (List Int)) (x:List Int) (a:Act) (A:World):Prop :=
 ∃ B,w.heap.size+8<=B/\B < A.heap.size/\A.cell? ⟨B,0,none⟩=some (.int .i64 ((pad x).getD 0 0))/\A.cell? ⟨B,1,none⟩=some (.int .i64 ((pad x).getD 1 0))/\A.cell? ⟨B,2,none⟩=some (.int .i64 ((pad x).getD 2 0))/\A.cell? ⟨B,3,none⟩=some (.int .i64 ((pad x).getD 3 0)) /\
  a={ tmps:=#[.agg #[vr,vg,vm,vs,vc],.pointer (some ⟨w.heap.size,0,none⟩),.slice none 0 0,.pointer (some ⟨w.heap.size+1,0,none⟩),.pointer (some ⟨B,0,none⟩),.agg #[vr,vg,vm,vs,vc],.func (.func 91) #[.agg #[vr,vg,vm,vs,vc]] #[],cameV (pad x),U,U,U,U,U],defers:=[] }/\AllJ w pre A
def AllOut (w:World) (b:Bk) (e:Ending) (w':World):Prop:=∃ v,e=.returned v/\w'.ownsRow (w.heap.size+8) 116 4 v (pasts b).length ((pasts b).flatMap cellsP)/\Below w.heap.size w w'
theorem all_at {w:World} (hB:BookAt w b vr vg vm vs vc) (hK:KindsAt w) (hO:BkOk b) (hr:∀ r∈b.rs,recAl b r=0) :
 Calls Tryz.prog 56 #[.agg #[vr,vg,vm,vs,vc]] w (AllOut w b):=by
 refine (callsIn_wide (n:=0)).1 (callsIn_of_wp_marks Tryz.func56 rfl trivial (wpIn_wide.2 ?_) rfl);have HB:=Hh hB;have HK:=Hh hK;have HO:=Hh hO;have HR:=Hh hr;obtain ⟨rfl,rfl,⟨ma,mc,rfl,_,_⟩,⟨sa,sc,rfl,_,_⟩,ra,rc,rfl,_,_⟩:=id hB;clear hB hK hO hr;simp only [Tryz.ntmps56,List.size_toArray,List.length_cons,List.length_nil,Nat.reduceAdd,Nat.reduceSub,Array.replicate_succ,Array.replicate_zero,List.push_toArray,List.append_toArray,List.nil_append,List.cons_append];go_wp2;obtain ⟨W1,hW1⟩:∃ W1,W1=(w.alloc (.cells #[.int .i64 b.room,.int .i64 b.gap,.slice ma b.ms.length mc,.slice sa b.ss.length sc,.slice ra b.rs.length rc] 88)).alloc (.cells #[.slice none 0 0] 89):=⟨_,rfl⟩;rw [<- hW1];have hb1:Below w.heap.size w W1:=by rw [hW1];(exact bel)
 have hs1:W1.heap.size=w.heap.size+1+1:=by rw [hW1];simp
 have o1:W1.cell? ⟨w.heap.size+1,0,none⟩=some (.slice none 0 0):=by rw [hW1,World.cell?_alloc_at _ _ _ _ (by simp)];rfl
 have o2:W1.frozen? ⟨w.heap.size+1,0,none⟩=false:=by rw [hW1,World.frozen?_alloc_at _ _ _ _ (by simp)]
 clear hW1;refine wpIn_wide.1 (wpIn_range (gf:=91) (recv:=.agg #[.int .i64 b.room,.int .i64 b.gap,.slice ma b.ms.length mc,.slice sa b.ss.length sc,.slice ra b.rs.length rc]) rfl (enters_of Tryz.func91 (by kernel_rfl) rfl)
  (encH (w.heap.size+8)) (fun x args W h=>by rw [h.1];rfl) (pasts b) (fun k=>k=w.heap.size+6) (fun k=>k < w.heap.size\/(w.heap.size+4<=k/\k<=w.heap.size+7)) ⟨by omega,by omega⟩ (by omega)
  (fun W hW hsz=>?seq) (AllJ w) (fun _ _=>False) ?hJ ?hJx ?h0 (AllMid w (.int .i64 b.room) (.int .i64 b.gap) (.slice ma b.ms.length mc) (.slice sa b.ss.length sc) (.slice ra b.rs.length rc)) ?hMid ?assign ?body ?done ?stop)
 case seq =>
  have hh:=histories_iter HB.out HK.out HO.out HR.out (Below.next hb1 hW) (p:=fun k=>k < w.heap.size\/(w.heap.size+4<=k/\k<=w.heap.size+7)) (fun k hk=>.inl hk) (fun k h1 h2=>.inr (by omega));have e4:W.heap.size+1+1+1+1=w.heap.size+8:=by omega
  have e2:W.heap.size+1+1=w.heap.size+6:=by omega
  rw [e4,e2] at hh;exact hh
 case hJ=>exact fun pre A B h hk=>h.keep hk (by omega)
 case hJx=>exact fun _ _ _ h _=>h
 case h0 =>
  intro W hW hsz;refine ⟨⟨.slice none 0 0,?_,?_,by simpa using World.ownsRow_nil _ _ _ _⟩,Below.next hb1 hW,by omega⟩
  ·exact (hW.cell (p:=⟨w.heap.size+1,0,none⟩) (by simp;omega)).trans o1
  ·exact (hW.frozen (p:=⟨w.heap.size+1,0,none⟩) (by simp;omega)).trans o2
 case hMid =>
  rintro pre x a₁ A B ⟨Bx,h1,h2,c0,c1,c2,c3,ha,hj⟩ hk hsz;exact ⟨Bx,h1,by omega,(hk.cell h2 (by simp;omega)).trans c0,(hk.cell h2 (by simp;omega)).trans c1,(hk.cell h2 (by simp;omega)).trans c2,(hk.cell h2 (by simp;omega)).trans c3,ha,hj.keep hk (by omega)⟩
 case assign =>
  rintro pre x args A hx ⟨rfl,hsz⟩ hj hlt;have hp4:=four (pad_length (x:=x) (by
   obtain ⟨suf,hx⟩:=hx
   have:=pastsFrom_length (b:=b) b.ss [] x (by show x∈pasts b;rw [hx];simp)
   have h4:=HO.out.sl
   simp at this
   omega))
  obtain ⟨p0,p1,p2,p3,hp⟩:=hp4;have hv:cameV (pad x)=.agg #[.int .i64 p0,.int .i64 p1,.int .i64 p2,.int .i64 p3]:=by rw [hp];rfl
  have HP:=Hh hp;have HV:=Hh hv;rw [hv];have HJ:=Hh hj;clear hp hv hj;rw [one_param];show Code.wpIn _ _ _ _ _ { tmps:=#[.agg #[.int .i64 b.room,.int .i64 b.gap,.slice ma b.ms.length mc,.slice sa b.ss.length sc,.slice ra b.rs.length rc],.pointer (some ⟨w.heap.size,0,none⟩),.slice none 0 0,.pointer (some ⟨w.heap.size+1,0,none⟩),U,.agg #[.int .i64 b.room,.int .i64 b.gap,.slice ma b.ms.length mc,.slice sa b.ss.length sc,.slice ra b.rs.length rc],.func (.func 91) #[.agg #[.int .i64 b.room,.int .i64 b.gap,.slice ma b.ms.length mc,.slice sa b.ss.length sc,.slice ra b.rs.length rc]] #[],.agg #[.int .i64 p0,.int .i64 p1,.int .i64 p2,.int .i64 p3],U,U,U,U,U],defers:=[] } A
  gi_wp2
  refine ⟨(KS.alloc _ _ _),A.heap.size,by omega,by simp,?_,?_,?_,?_,?_,HJ.out.keep (KS.alloc (fun _=>True) _ _) (fun _ _=>trivial)⟩
  ·rw [HP.out,World.cell?_alloc_at _ _ _ _ rfl];rfl
  ·rw [HP.out,World.cell?_alloc_at _ _ _ _ rfl];rfl
  ·rw [HP.out,World.cell?_alloc_at _ _ _ _ rfl];rfl
  ·rw [HP.out,World.cell?_alloc_at _ _ _ _ rfl];rfl
  ·rw [HV.out]
 case body =>
  rintro pre x a₁ A hx ⟨Bx,h1,h2,c0,c1,c2,c3,rfl,⟨v,o1,o2,hrow⟩,hbel,hlt2⟩ hlt;have hlen:pre.length < (pasts b).length:=by
   obtain ⟨suf,hx⟩:=hx;rw [hx];simp
  have hle:=pasts_le HO.out;have hcp:cellsP x=[.int .i64 ((pad x).getD 0 0),.int .i64 ((pad x).getD 1 0),.int .i64 ((pad x).getD 2 0),.int .i64 ((pad x).getD 3 0)]:=rfl;generalize (pad x).getD 0 0=p0 at c0 hcp;generalize (pad x).getD 1 0=p1 at c1 hcp;generalize (pad x).getD 2 0=p2 at c2 hcp;generalize (pad x).getD 3 0=p3 at c3 hcp;have HCP:=Hh hcp;have HO1:=Hh hb1;generalize hcv:cameV (pad x)=cv;obtain ⟨i0,hi,hz0,hz1,hz2⟩:=info_parts cameInfo;have HCV:=Hh hcv;clear hcp hcv hx hb1
  gi_wp2_with (gi_at_builtin;go_loud (refine wpListIn_append_own _ rfl _ _ 89 rfl (w.heap.size+8) 116 i0 (.agg #[.int .i64 0,.int .i64 0,.int .i64 0,.int .i64 0]) 4 32 Tryz.underlying89 hi hz0 hz1 hz2 rfl (by decide) _ _ _ rfl (ownsRow_ks hrow (KS.alloc (fun _=>True) _ _) (fun _ _=>trivial)) ⟨A.heap.size,0,none⟩ 1 1 [.int .i64 p0,.int .i64 p1,.int .i64 p2,.int .i64 p3] rfl rfl (cells_new _ _ _) (by simp [Value.oneCell']) (by unfold maxLen;omega) (by omega) (by simp;omega) ?_;intro v' w1 hown' hgrow _;obtain ⟨g',cap',rfl⟩:=ownsRow_succ hown';have hks:=grow_ks (ownsRow_ks hrow (KS.alloc (fun _=>True) A _) (fun _ _=>trivial)) hgrow;have q1:=(hks.cell (x:=⟨w.heap.size+1,0,none⟩) (by simp;omega) (by simp));have q2:=(hks.frozen (x:=⟨w.heap.size+1,0,none⟩) (by simp;omega) (by simp));rw [World.cell?_alloc_past _ _ _ (by omega),o1] at q1;rw [World.frozen?_alloc_past _ _ _ (by omega),o2] at q2))
  have hks3:KS (fun k=>k≠w.heap.size+1) w1 (w1.setCell ⟨w.heap.size+1,0,none⟩ (.slice (some ⟨g',0,none⟩) (pre.length+1) cap')):=KS.setCell (by simp) _ _;have hks1:=KS.alloc (fun k=>k < w.heap.size+8) A (.cells #[.int .i64 p0,.int .i64 p1,.int .i64 p2,.int .i64 p3] 116);have hks4:KS (fun k=>k < w.heap.size+8/\k≠w.heap.size+1) A (w1.setCell ⟨w.heap.size+1,0,none⟩ (.slice (some ⟨g',0,none⟩) (pre.length+1) cap')):=((hks1.trans hks).mono fun k _ h=>h.1).trans (hks3.mono fun k _ h=>h.2);refine ⟨hks4.mono fun k _ h=>by omega,⟨_,World.cell?_setCell_same' _ _ _ (by rw [q1];rfl),by rw [World.frozen?_setCell];exact q2,?_⟩,?_,Nat.lt_of_lt_of_le hlt2 hks4.size⟩
  ·rw [List.flatMap_append,List.length_append,List.flatMap_cons,List.flatMap_nil,List.append_nil,HCP.out];exact ownsRow_ks hown' hks3 (fun k hk=>by omega)
  ·exact ⟨hks4.os.trans hbel.os,hks4.tape.trans hbel.tape,hks4.output.trans hbel.output,Nat.le_trans hbel.size hks4.size,fun k hkk=>(hks4.block k (Nat.lt_of_lt_of_le hkk hbel.size) ⟨by omega,by omega⟩).trans (hbel.block k hkk)⟩
 case done =>
  rintro W ⟨⟨v,o1,o2,hrow⟩,hbel,hlt⟩ hd;clear hb1;go_wp2;refine ⟨by simp,.inl ⟨_,_,rfl,run_takeDeferred hd,?_⟩⟩;have hks:KS (fun k=>k≠W1.heap.size) W (W.putObj W1.heap.size (.deferred none)):=KS.putObj (by simp) _ _;exact ⟨_,results_tmp rfl _ _ _,⟨_,rfl,ownsRow_ks hrow hks (fun k hk=>by omega),⟨hks.os.trans hbel.os,hks.tape.trans hbel.tape,hks.output.trans hbel.output,Nat.le_trans hbel.size hks.size,fun k hkk=>(hks.block k (Nat.lt_of_lt_of_le hkk hbel.size) (by omega)).trans (hbel.block k hkk)⟩⟩⟩
 case stop=>exact fun _ _ h _=>h.elim
end
end
section
open Go.RowKit Sp
theorem goP_ok {b:Bk}:∀ (l seen:List Prt),goP b seen l=0->(∀ p∈l,isPart b p=true/\p ∉ seen)/\l.Nodup
 | [],_,_=>⟨by simp,List.nodup_nil⟩
 | p::l,seen,h=>by
  unfold goP at h;split at h
  ·cases h
  ·split at h
   ·cases h
   ·rename_i h1 h2
    obtain ⟨i1,i2⟩:=goP_ok l _ h;refine ⟨fun q hq=>?_,List.nodup_cons.2 ⟨fun hp=>(i1 p hp).2 (List.mem_cons_self ..),i2⟩⟩;rcases List.mem_cons.1 hq with rfl | hq
    ·exact ⟨by simpa using h1,h2⟩
    ·exact ⟨(i1 q hq).1,fun hs=>(i1 q hq).2 (List.mem_cons_of_mem _ hs)⟩
theorem goS_ok {b:Bk}:∀ (l:List (List Prt)),goS b l=0->∀ s∈l,s.length<=5/\goP b [] s=0
 | [],_,_,h=>by cases h
 | s::l,h,t,ht=>by
  unfold goS at h;split at h
  ·cases h
  ·split at h
   ·rename_i h2;exact absurd h h2
   ·rename_i h1 h2
    rcases List.mem_cons.1 ht with rfl | ht
    ·exact ⟨by omega,by simpa using h2⟩
    ·exact goS_ok l h t ht
theorem goR_ok {b:Bk}:∀ (l:List Rec),goR b l=0->∀ r∈l,recAl b r=0
 | [],_,_,h=>by cases h
 | s::l,h,t,ht=>by
  unfold goR at h;split at h
  ·rename_i h2;exact absurd h h2
  ·rename_i h2
   rcases List.mem_cons.1 ht with rfl | ht
   ·simpa using h2
   ·exact goR_ok l h t ht
theorem bookAl_parts {b:Bk} (h:bookAl b=0):numbersAl b=0/\msgsAl b=0/\sessAl b=0/\recsAl b=0:=by
 unfold bookAl at h;split at h
 ·rename_i h2;exact absurd h h2
 ·split at h
  ·rename_i h2;exact absurd h h2
  ·split at h
   ·rename_i h2;exact absurd h h2
   ·rename_i h1 h2 h3
    exact ⟨by simpa using h1,by simpa using h2,by simpa using h3,h⟩
theorem bookAl_ok {b:Bk} (h:bookAl b=0):BkOk b/\∀ r∈b.rs,recAl b r=0:=by
 obtain ⟨_,h1,h2,h3⟩:=bookAl_parts h;have hm:=msgsAl_ok h1;unfold msgsAl at h1;unfold sessAl at h2;unfold recsAl at h3;split at h1
 ·cases h1
 ·split at h2
  ·cases h2
  ·split at h3
   ·cases h3
   ·have hs:=goS_ok _ h2;exact ⟨⟨hm,by omega,by omega,fun s hs'=>(hs s hs').1,fun s hs' p hp=>((goP_ok _ _ (hs s hs').2).1 p hp).1,fun s hs'=>(goP_ok _ _ (hs s hs').2).2⟩,goR_ok _ h3⟩
def openAl (b:Bk) (al:Int):Int:=if bookAl b≠0 then bookAl b else if al≠0 then al else if pasts b=[] then 10 else 0
end
end Go.Proofs.YtdjnkplgllakcaaGreatDoor
