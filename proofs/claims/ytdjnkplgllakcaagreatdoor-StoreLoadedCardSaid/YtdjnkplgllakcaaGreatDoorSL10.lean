/- StoreLoaded -/
import Derived.Test.YtdjnkplgllakcaaGreatDoorSL09
set_option maxHeartbeats 4000000
set_option maxRecDepth 100000
set_option linter.all false
namespace Go.Proofs.YtdjnkplgllakcaaGreatDoor
section
open Go.RowKit Go.Maps Sp
def cellsR (r:Rec):List Value:=[.int .i64 r.k,.int .i64 r.a,.int .i64 r.b,.int .i64 r.m]
theorem recInfo:(Tryz.prog.info? 79).map (fun i=>(i.zero,i.size,i.bytes))=some (some (.agg #[.int .i64 0,.int .i64 0,.int .i64 0,.int .i64 0]),4,32):=by kernel_rfl
theorem bit_cond:∀ k:Fin 32,∀ j:Fin 5,(bits .and .i64 (((k.1:Nat):Int) / 2 ^ j.1) 1 == 1)=k.1.testBit j.1:=by decide +kernel
theorem row_keep {p:Nat->Prop} {A B:World} {base e size n:Nat} {v:Value} {xs:List Value} (h:A.ownsRow base e size v n xs) (hk:KS p A B) (hp:∀ g,v.ownBlock=some g->p g):B.ownsRow base e size v n xs:=by
 obtain ⟨h1,h2 | ⟨g,cap,cur,rfl,e2,e3,e4⟩⟩:=h
 ·exact ⟨h1,.inl h2⟩
 ·exact ⟨h1,.inr ⟨g,cap,cur,rfl,e2,(hk.block g (Array.getElem?_eq_some_iff.1 e3).1 (hp g rfl)).trans e3,e4⟩⟩
theorem rows_apart {A:World} {b1 e1 s1 n1 b2 e2 s2 n2:Nat} {v1 v2:Value} {x1 x2:List Value} (h1:A.ownsRow b1 e1 s1 v1 n1 x1) (h2:A.ownsRow b2 e2 s2 v2 n2 x2) (he:e1≠e2):∀ g,v1.ownBlock=some g->v2.ownBlock≠some g:=fun g hg hg2=>by
 obtain ⟨_,⟨rfl,_⟩ | ⟨g1,c1,cur1,rfl,_,e3,_⟩⟩:=h1
 ·cases hg
 ·obtain ⟨_,⟨rfl,_⟩ | ⟨g2,c2,cur2,rfl,_,f3,_⟩⟩:=h2
  ·cases hg2
  ·cases hg;cases hg2;rw [e3] at f3;cases f3;exact he rfl
theorem recs_of_row {w:World} {a:Option Addr} {base n c:Nat} {l:List Rec} (h:w.ownsRow base 79 4 (.slice a n c) n (l.flatMap cellsR)):RecsAt w a l:=fun i hi=>by
 have flat:∀ (l:List Rec) (i j:Nat) (_:j < 4) (h:i < l.length),(l.flatMap cellsR)[i * 4+j]? = (cellsR l[i])[j]? := by
  intro l
  induction l with
  | nil=>intro i j _ h;simp at h
  | cons x l ih =>
   intro i j hj h;rw [List.flatMap_cons]
   cases i with
   | zero=>rw [List.getElem?_append_left (by show _ < 4;omega)];simp
   | succ i=>rw [List.getElem?_append_right (by show 4<=_;omega),show (i+1) * 4+j - (cellsR x).length=i * 4+j by show _ - 4=_;omega,ih i j hj (by simpa using h)];simp
 have len:∀ l:List Rec,(l.flatMap cellsR).length=l.length * 4:=by
  intro l
  induction l with
  | nil=>rfl
  | cons x l ih=>rw [List.flatMap_cons,List.length_append,ih,List.length_cons];show 4+_=_;omega
 have hlen:=len l;obtain ⟨g,rfl,_,h2,_⟩:=row_cell h (i * 4) (by omega);have hc:∀ j,j < 4->w.cell? ⟨g,i * 4+j,none⟩=(cellsR l[i])[j]? := fun j hj4=>by
  obtain ⟨g',e,_,_,h3⟩:=row_cell h (i * 4+j) (by omega);cases e;rw [h3,flat l i j hj4 hi]
 refine ⟨g,0,rfl,h2,?_,?_,?_,?_⟩
 ·rw [Nat.zero_add];exact hc 0 (by omega)
 ·rw [Nat.zero_add];exact hc 1 (by omega)
 ·rw [Nat.zero_add];exact hc 2 (by omega)
 ·rw [Nat.zero_add];exact hc 3 (by omega)
def ClashJ (b:Bk) (W0:World) (ra ma:Option Addr) (mc:Nat) (sa:Option Addr) (sc:Nat) (wo:World) (k:Nat) (v i:Value) (wr:World):Prop :=
 ∃ (j:Nat) (la:Option Addr) (lc:Nat) (xa:Option Addr) (xc:Nat),j<=b.rs.length/\i=.int .i64 j/\v=.slice la (idxs k j).length lc /\
     wr.ownsRow W0.heap.size 3 1 (.slice la (idxs k j).length lc) (idxs k j).length ((idxI k j).map (Value.int .i64)) /\
     wr.ownsRow W0.heap.size 79 4 (.slice xa (idxs k j).length xc) (idxs k j).length ((recsOf b.rs k j).flatMap cellsR) /\
     wr.cell? ⟨wo.heap.size,0,none⟩=some (.int .i64 b.room)/\wr.cell? ⟨wo.heap.size,1,none⟩=some (.int .i64 b.gap)/\wr.cell? ⟨wo.heap.size,2,none⟩=some (.slice ma b.ms.length mc)/\wr.cell? ⟨wo.heap.size,3,none⟩=some (.slice sa b.ss.length sc) /\
     wr.cell? ⟨wo.heap.size,4,none⟩=some (.slice xa (idxs k j).length xc)/\wr.frozen? ⟨wo.heap.size,4,none⟩=false/\KS (fun k=>k < W0.heap.size/\k≠wo.heap.size) W0 wr
section
variable {b:Bk} {vr vg vm vs vc:Value} {w:World}
theorem clash_ok (hB:BookAt w b vr vg vm vs vc) (hN:∀ m∈b.ms,m.name.size<=1000000) (hK:KindsAt w) (hk:bookAl b=0) (hp:pasts b=[]) (hR:b.rs.length<=5) :
 Calls Tryz.prog 29 #[.agg #[vr,vg,vm,vs,vc]] w fun e w'=>∃ a c,e=.returned (.tuple #[.slice a (clashI b).length c,.int .i64 0])/\IntsAt w' a (clashI b)/\Below w.heap.size w w':=by
 have HB:=Hh hB;have HN:=Hh hN;have HK:=Hh hK;have hbo:=(bookAl_ok hk).1;have HO:=Hh hbo;have HRR:=Hh (bookAl_ok hk).2;have HBA:=Hh hk;have HP:=Hh hp;obtain ⟨rfl,rfl,⟨ma,mc,rfl,_,_⟩,⟨sa,sc,rfl,_,_⟩,ra,rc,rfl,_,_⟩:=id hB;clear hB hN hK hk hp hbo
 go_enter Tryz.func29,Tryz.ntmps29
 go_wp2
 go_step3
 go_wp2_with (first
  | (go_at_call 55;(with_reducible refine (checkBook_at (HB.out.below (bel)) HN.out (HK.out.below (bel)) HBA.out).mono ?_);rintro e w3 ⟨rfl,hb3⟩;obtain ⟨hc3,hf3⟩:=bcell hb3;have hz3:=hb3.size;(try simp at hz3))
  | (go_at_call 56;(with_reducible refine (all_at (HB.out.below (bel)) (HK.out.below (bel)) HO.out HRR.out).mono ?_);rintro e w4 ⟨v4,rfl,hr4,hb4⟩;obtain ⟨a4,c4,rfl⟩:=ownsRow_slice hr4;rw [HP.out];clear hr4;obtain ⟨hc4,hf4⟩:=bcell hb4;have hz4:=hb4.size;(try simp at hz4)))
 go_step3
 have hbw:Below w.heap.size w w4:=bel;have hwl:w.heap.size < w4.heap.size:=by omega
 have nn:∀ k u,(#[.int .i64 b.room,.int .i64 b.gap,.slice ma b.ms.length mc,.slice sa b.ss.length sc,.slice ra b.rs.length rc]:Array Value)[k]? = some u->w4.cell? ⟨w.heap.size,k,none⟩=some u:=fun k u hk=>by
  rw [hc4 _ _ (by omega),hc3 _ _ (by first | omega | simp),World.cell?_alloc_at _ _ _ _ rfl];exact hk
 have n0:=nn 0 _ rfl;have n1:=nn 1 _ rfl;have n2:=nn 2 _ rfl;have n3:=nn 3 _ rfl;have n4:=nn 4 _ rfl;clear nn hc4 hc3 hf4 hf3 hb3 hb4 hz3 hz4;go_wp2;obtain ⟨i0,hi,hi0,hi1,hi2⟩:=info_parts intInfo;obtain ⟨j0,hj0,hj1,hj2,hj3⟩:=info_parts recInfo;obtain ⟨N,hN2⟩:∃ N:Nat,N=2 ^ b.rs.length:=⟨_,rfl⟩;have hN32:N<=32:=by rw [hN2];exact Nat.pow_le_pow_right (by decide) hR
 have hw2:wrap64 ((2:Int) ^ b.rs.length)=(N:Int):=by
  have:((2:Int) ^ b.rs.length)=(N:Int):=by rw [hN2];exact (Int.natCast_pow 2 _).symm
  rw [this];unfold wrap64;omega
 rw [hw2];have HN2:=Hh hN2;clear hw2 hN2;go_loopw [5,6,26] (fun v f i wr=>∃ (k:Nat) (a:Option Addr) (c:Nat) (st:Option (List Int)),k<=N/\i=.int .i64 k/\v=.slice a (st.getD []).length c/\f=.bool st.isSome/\Hid (st=(List.range k).foldl (clashStep b) none)/\IntsAt wr a (st.getD [])/\(st.getD []).length<=5/\Below w4.heap.size w4 wr) (fun _ _ i _=>N - (intOf i).toNat)
 case atStart=>exact ⟨0,none,0,none,Nat.zero_le _,rfl,rfl,rfl,rfl,fun i hi=>absurd hi (by simp),by simp,Below.refl _ _⟩
 case round =>
  obtain ⟨k,a,c,st,hk,rfl,rfl,rfl,hst,hia,hl5,hW⟩:=hrel;obtain ⟨wo,rfl⟩:∃ x,x=wr:=⟨_,rfl⟩;have HIA:=Hh hia;have hWs:=hW.size;by_cases hlt:k < N
  ·have m0:=(hW.cell (p:=⟨w.heap.size,0,none⟩) hwl).trans n0;have m1:=(hW.cell (p:=⟨w.heap.size,1,none⟩) hwl).trans n1;have m2:=(hW.cell (p:=⟨w.heap.size,2,none⟩) hwl).trans n2;have m3:=(hW.cell (p:=⟨w.heap.size,3,none⟩) hwl).trans n3;have m4:=(hW.cell (p:=⟨w.heap.size,4,none⟩) hwl).trans n4;have hwl2:w.heap.size < wo.heap.size:=by omega
   clear hia;go_wp2;obtain ⟨W0,hW0⟩:∃ W0,W0=wo.alloc (.cells #[.int .i64 b.room,.int .i64 b.gap,.slice ma b.ms.length mc,.slice sa b.ss.length sc,.slice none 0 0] 26):=⟨_,rfl⟩;rw [<- hW0];have hb0:Below wo.heap.size wo W0:=by rw [hW0];(exact bel)
   have hz0:wo.heap.size < W0.heap.size:=by rw [hW0];simp
   have qq:∀ k u,(#[.int .i64 b.room,.int .i64 b.gap,.slice ma b.ms.length mc,.slice sa b.ss.length sc,.slice none 0 0]:Array Value)[k]? = some u->W0.cell? ⟨wo.heap.size,k,none⟩=some u:=fun k u hk=>by
    rw [hW0,World.cell?_alloc_at _ _ _ _ rfl];exact hk
   have q0:=qq 0 _ rfl;have q1:=qq 1 _ rfl;have q2:=qq 2 _ rfl;have q3:=qq 3 _ rfl;have q4:=qq 4 _ rfl;have q5:W0.frozen? ⟨wo.heap.size,4,none⟩=false:=by rw [hW0,World.frozen?_alloc_at _ _ _ _ rfl]
   have HQ:=Hh (⟨q0,q1,q2,q3,q4,q5⟩:_/\_/\_/\_/\_/\_);have HM:=Hh (⟨m0,m1,m2,m3,m4⟩:_/\_/\_/\_/\_);obtain ⟨xra,xrc,hxr,hra,_⟩:=((HB.out.below hbw).below hW).rs;cases hxr;have HR0:=Hh hra;clear hra
   skip
   clear qq hW0 q0 q1 q2 q3 q4 q5 m0 m1 m2 m3 m4;go_loopw [8,34] (fun v i wr=>ClashJ b W0 ra ma mc sa sc wo k v i wr) (fun _ i _=>b.rs.length - (intOf i).toNat)
   case atStart=>exact ⟨0,none,0,none,0,Nat.zero_le _,rfl,rfl,by simpa [idxI,idxs] using World.ownsRow_nil _ _ _ _,by simpa [recsOf,idxs] using World.ownsRow_nil _ _ _ _,HQ.out.1,HQ.out.2.1,HQ.out.2.2.1,HQ.out.2.2.2.1,HQ.out.2.2.2.2.1,HQ.out.2.2.2.2.2,KS.refl _ _⟩
   case round =>
    obtain ⟨j,la,lc,xa,xc,hj,rfl,rfl,hrl,hrx,q0,q1,q2,q3,q4,q5,hX⟩:=hrel;have hXs:=hX.size;have HKX:=Hh hX;have HQB:=Hh (⟨q0,q1,q2,q3⟩:_/\_/\_/\_);by_cases hjt:j < b.rs.length
    ·have HRL:=Hh hrl;have HRX:=Hh hrx;clear hrl hrx;obtain ⟨eb,eo,rfl,heb,e0,e1,e2,e3⟩:=HR0.out j hjt;have ee:∀ i,wr.cell? ⟨eb,i,none⟩=wo.cell? ⟨eb,i,none⟩:=fun i=>(hX.cell (x:=⟨eb,i,none⟩) (by simp;omega) (by simp;omega)).trans (hb0.cell (p:=⟨eb,i,none⟩) heb);rw [<- ee] at e0 e1 e2 e3;have EE:=Hh ee;clear ee;generalize hrj:b.rs[j]=r at e0 e1 e2 e3;have HRJ:=Hh hrj;clear hrj;obtain ⟨r1,r2,r3,r4⟩:=r;simp only at e0 e1 e2 e3;have heb2:eb < wr.heap.size:=by omega
     have hbc:=bit_cond ⟨k,by omega⟩ ⟨j,by omega⟩;simp only at hbc;cases htb:k.testBit j
     ·rw [htb] at hbc;have HTB:=Hh htb;clear htb;go_wp2;go_roundw
      case rel =>
       have i1:idxs k (j+1)=idxs k j:=by rw [idxs_succ,HTB.out];rfl
       have i2:idxI k (j+1)=idxI k j:=by rw [idxI_succ,HTB.out];rfl
       have i3:recsOf b.rs k (j+1)=recsOf b.rs k j:=by rw [recsOf_succ hjt,HTB.out];rfl
       have hq:wo.heap.size < wr.heap.size:=by omega
       refine ⟨j+1,la,lc,xa,xc,by omega,by go_num,by rw [i1],?_,?_,?_,?_,?_,?_,?_,?_,hX.trans (KS.alloc _ _ _)⟩
       ·rw [i1,i2];exact HRL.out.alloc _
       ·rw [i1,i3];exact HRX.out.alloc _
       ·rw [World.cell?_alloc_past _ _ _ hq];exact q0
       ·rw [World.cell?_alloc_past _ _ _ hq];exact q1
       ·rw [World.cell?_alloc_past _ _ _ hq];exact q2
       ·rw [World.cell?_alloc_past _ _ _ hq];exact q3
       ·rw [World.cell?_alloc_past _ _ _ hq,i1];exact q4
       ·rw [World.frozen?_alloc_past _ _ _ hq];exact q5
      case measure=>simp [intOf];omega
     ·rw [htb] at hbc;have HTB:=Hh htb;clear htb;go_wp2;obtain ⟨W1,hW1⟩:∃ W1,W1=wr.alloc (.cells #[.int .i64 r1,.int .i64 r2,.int .i64 r3,.int .i64 r4] 79):=⟨_,rfl⟩;rw [<- hW1];have hq0:wo.heap.size < wr.heap.size:=by omega
      have hs1:W1.heap.size=wr.heap.size+1:=by rw [hW1];simp
      have hrl1:W1.ownsRow W0.heap.size 3 1 (.slice la (idxs k j).length lc) (idxs k j).length ((idxI k j).map (Value.int .i64)):=by rw [hW1];exact HRL.out.alloc _
      have hrx1:W1.ownsRow W0.heap.size 79 4 (.slice xa (idxs k j).length xc) (idxs k j).length ((recsOf b.rs k j).flatMap cellsR):=by rw [hW1];exact HRX.out.alloc _
      have hob:=fun g hg=>(ownBlock_row HRL.out g hg);have hox:=fun g hg=>(ownBlock_row HRX.out g hg);have hap:=rows_apart hrl1 hrx1 (by decide);have hq4:∀ w':World,KS (fun k=>k < W0.heap.size\/k=wr.heap.size) W1 w'->w'.cell? ⟨wo.heap.size,4,none⟩=some (.slice xa (idxs k j).length xc)/\w'.frozen? ⟨wo.heap.size,4,none⟩=false/\wo.heap.size < w'.heap.size:=fun w' h=>by
       have hq:=h.size;refine ⟨?_,?_,by omega⟩
       ·rw [h.cell (x:=⟨wo.heap.size,4,none⟩) (by simp;omega) (.inl hz0),hW1,World.cell?_alloc_past _ _ _ hq0];exact q4
       ·rw [h.frozen (x:=⟨wo.heap.size,4,none⟩) (by simp;omega) (.inl hz0),hW1,World.frozen?_alloc_past _ _ _ hq0];exact q5
      have hall:∀ w':World,KS (fun k=>(k < W0.heap.size/\k≠wo.heap.size)\/k=wr.heap.size) W1 w'->(KS (fun k=>(k < W0.heap.size/\k≠wo.heap.size)\/k=wr.heap.size) W1 w'/\w'.cell? ⟨wr.heap.size,0,none⟩=some (.int .i64 r1)/\w'.cell? ⟨wr.heap.size,1,none⟩=some (.int .i64 r2)/\w'.cell? ⟨wr.heap.size,2,none⟩=some (.int .i64 r3)/\w'.cell? ⟨wr.heap.size,3,none⟩=some (.int .i64 r4)):=fun w' h=>by
       have aa:∀ i u,(#[.int .i64 r1,.int .i64 r2,.int .i64 r3,.int .i64 r4]:Array Value)[i]? = some u->w'.cell? ⟨wr.heap.size,i,none⟩=some u:=fun i u hi=>by
        rw [h.cell (x:=⟨wr.heap.size,i,none⟩) (by simp;omega) (.inr rfl),hW1,World.cell?_alloc_at _ _ _ _ rfl];exact hi
       exact ⟨h,aa 0 _ rfl,aa 1 _ rfl,aa 2 _ rfl,aa 3 _ rfl⟩
      have HMO:=Hh (fun w' (h:KS (fun k=>k < W0.heap.size\/k=wr.heap.size) W1 w')=>h.mono (q:=(fun k=>(k < W0.heap.size/\k≠wo.heap.size)\/k=wr.heap.size)) (fun k _ h=>h.imp And.left id));have HQ4:=Hh hq4;obtain ⟨s4,s5,s6⟩:=hq4 W1 (KS.refl _ _);clear hq4;have HOBp:=Hh (fun g hg (hh:g < W0.heap.size\/g=wr.heap.size)=>by have:=hob g hg;omega:∀ g,(Value.slice la (idxs k j).length lc).ownBlock=some g->¬ (g < W0.heap.size\/g=wr.heap.size));have HOXp:=Hh (fun g hg (hh:g < W0.heap.size\/g=wr.heap.size)=>by have:=hox g hg;omega:∀ g,(Value.slice xa (idxs k j).length xc).ownBlock=some g->¬ (g < W0.heap.size\/g=wr.heap.size));have hil:=idxs_le k j;have hz01:W0.heap.size<=W1.heap.size:=by omega
      have HALL:=Hh hall;have HRL1:=Hh hrl1;have HRX1:=Hh hrx1;have HOB:=Hh hob;have HOX:=Hh hox;have HAP:=Hh hap;have HW1:=Hh hW1;have HS1:=Hh hs1;clear hall hrl1 hrx1 hob hox hap hW1 hs1;have fin:∀ (z:World) (la' xa':Option Addr) (lc' xc':Nat),z.ownsRow W0.heap.size 3 1 (.slice la' ((idxs k j).length+1) lc') ((idxs k j).length+1) ((idxI k j).map (Value.int .i64) ++ [.int .i64 j]) ->
       z.ownsRow W0.heap.size 79 4 (.slice xa' ((idxs k j).length+1) xc') ((idxs k j).length+1) ((recsOf b.rs k j).flatMap cellsR ++ [.int .i64 r1,.int .i64 r2,.int .i64 r3,.int .i64 r4])->KS (fun k'=>k' < W0.heap.size\/k'=wr.heap.size) W1 z ->
       ClashJ b W0 (some ⟨eb,eo,none⟩) ma mc sa sc wo k (.slice la' ((idxs k j).length+1) lc') (.int .i64 ((j:Int)+1)) (z.setCell ⟨wo.heap.size,4,none⟩ (.slice xa' ((idxs k j).length+1) xc')):=fun z la' xa' lc' xc' h1 h2 h3=>by
       have i1:idxs k (j+1)=idxs k j ++ [j]:=by rw [idxs_succ,HTB.out];rfl
       have i2:idxI k (j+1)=idxI k j ++ [(j:Int)]:=by rw [idxI_succ,HTB.out];rfl
       have i3:recsOf b.rs k (j+1)=recsOf b.rs k j ++ [⟨r1,r2,r3,r4⟩]:=by rw [recsOf_succ hjt,HTB.out,HRJ.out];rfl
       have il:(idxs k (j+1)).length=(idxs k j).length+1:=by rw [i1,List.length_append];rfl
       have hwo:wo.heap.size < W1.heap.size:=by have:=HS1.out;omega
       have cc:∀ i u,i≠4->wr.cell? ⟨wo.heap.size,i,none⟩=some u->(z.setCell ⟨wo.heap.size,4,none⟩ (.slice xa' ((idxs k j).length+1) xc')).cell? ⟨wo.heap.size,i,none⟩=some u:=fun i u hi hc=>by
        rw [World.cell?_setCell_other (h:=fun e=>by injection e with _ e _;exact hi e.symm),h3.cell (x:=⟨wo.heap.size,i,none⟩) hwo (.inl hz0),HW1.out,World.cell?_alloc_past _ _ _ hq0];exact hc
       obtain ⟨q0,q1,q2,q3⟩:=HQB.out;refine ⟨j+1,la',lc',xa',xc',by omega,by simp,by rw [il],?_,?_,cc 0 _ (by decide) q0,cc 1 _ (by decide) q1,cc 2 _ (by decide) q2,cc 3 _ (by decide) q3,?_,?_,?_⟩
       ·rw [il,i2,List.map_append];exact ownsRow_setCell_below h1 (a:=⟨wo.heap.size,4,none⟩) hz0 _
       ·rw [il,i3,List.flatMap_append];exact ownsRow_setCell_below h2 (a:=⟨wo.heap.size,4,none⟩) hz0 _
       ·rw [il];exact World.cell?_setCell_same' _ _ _ (by rw [(HQ4.out _ h3).1];rfl)
       ·rw [World.frozen?_setCell];exact (HQ4.out _ h3).2.1
       ·refine HKX.out.trans ((KS.trans (by rw [HW1.out];exact KS.alloc _ _ _) (h3.mono fun k' _ hk'=>.inl hk'.1)).trans (KS.setCell (by simp) _ _))
      have HFIN:=Hh fin;clear fin;refine wp_region_held_drew (S:=(fun w'=>KS (fun k=>(k < W0.heap.size/\k≠wo.heap.size)\/k=wr.heap.size) W1 w'/\w'.cell? ⟨wr.heap.size,0,none⟩=some (.int .i64 r1)/\w'.cell? ⟨wr.heap.size,1,none⟩=some (.int .i64 r2)/\w'.cell? ⟨wr.heap.size,2,none⟩=some (.int .i64 r3)/\w'.cell? ⟨wr.heap.size,3,none⟩=some (.int .i64 r4))) (by kernel_rfl) ?_ (fun hHeld=>?_)
      ·exact HALL.out _ (HMO.out _ (KS.all (show Below W1.heap.size W1 _ from bel) _))
      refine wpAnyH_take (i:=0) (v:=.slice la (idxs k j).length lc) rfl (by kernel_rfl) (by kernel_rfl) (by kernel_rfl) (fun _ _ _ h=>h) (Or.inl ⟨by rfl,?_⟩) (by assumption) ?_
      ·intro w5 hSw;(try dsimp only at hSw);go_simp
      simp only [Act.put,List.setIfInBounds_toArray,List.set_cons_zero,List.set_cons_succ];refine wpAnyH_take (i:=1) (v:=.int .i64 (j:Int)) rfl (by kernel_rfl) (by kernel_rfl) (by kernel_rfl) (fun _ _ _ h=>h) (Or.inl ⟨by rfl,?_⟩) (by assumption) ?_
      ·intro w5 hSw;(try dsimp only at hSw);go_simp
      simp only [Act.put,List.setIfInBounds_toArray,List.set_cons_zero,List.set_cons_succ];refine wpAnyH_take (i:=4) (v:=.pointer (some ⟨wo.heap.size,4,none⟩)) rfl (by kernel_rfl) (by kernel_rfl) (by kernel_rfl) (fun _ _ _ h=>h) (Or.inl ⟨by rfl,?_⟩) (by assumption) ?_
      ·intro w5 hSw;(try dsimp only at hSw);go_simp
      simp only [Act.put,List.setIfInBounds_toArray,List.set_cons_zero,List.set_cons_succ];refine wpAnyH_take (i:=6) (v:=.agg #[.int .i64 r1,.int .i64 r2,.int .i64 r3,.int .i64 r4]) rfl (by kernel_rfl) (by kernel_rfl) (by kernel_rfl) (fun _ _ _ h=>h) (Or.inl ⟨by rfl,?_⟩) (by assumption) ?_
      ·intro w5 hSw;(try dsimp only at hSw);go_simp
      simp only [Act.put,List.setIfInBounds_toArray,List.set_cons_zero,List.set_cons_succ]
      repeat' (first
       | (show AllReadyH _ _ _ _ _ _ _ _ _ _
          first
           | exact AllReadyH.nil
           | (refine AllReadyH.cons (i:=2) rfl (fun K hK=>?_) ?_;go_simp;refine hK.out _ _ ?_ (fun hHeld=>?_);(first | exact HALL.out _ (HMO.out _ (hkA.trans (KS.all (show Below y2.heap.size y2 _ from bel) _))) | exact HALL.out _ (HMO.out _ (KS.all (show Below W1.heap.size W1 _ from bel) _)));clear hK K;(try simp only [Act.put,List.setIfInBounds_toArray,List.set_cons_zero,List.set_cons_succ]))
           | (refine AllReadyH.cons (i:=5) rfl (fun K hK=>?_) ?_;go_simp;refine hK.out _ _ ?_ (fun hHeld=>?_);(first | exact HALL.out _ (HMO.out _ (hkA.trans (KS.all (show Below y2.heap.size y2 _ from bel) _))) | exact HALL.out _ (HMO.out _ (KS.all (show Below W1.heap.size W1 _ from bel) _)));clear hK K;(try simp only [Act.put,List.setIfInBounds_toArray,List.set_cons_zero,List.set_cons_succ]))
           | (refine AllReadyH.cons (i:=7) rfl (fun K hK=>?_) ?_;go_simp;refine hK.out _ _ ?_ (fun hHeld=>?_);(first | exact HALL.out _ (HMO.out _ (hkA.trans (KS.all (show Below y2.heap.size y2 _ from bel) _))) | exact HALL.out _ (HMO.out _ (KS.all (show Below W1.heap.size W1 _ from bel) _)));clear hK K;(try simp only [Act.put,List.setIfInBounds_toArray,List.set_cons_zero,List.set_cons_succ]))
           | (refine AllReadyH.cons (i:=3) rfl (fun K hK=>?_) ?_;refine step_app1K rfl _ _ 35 rfl W0.heap.size 3 Tryz.underlying35 intInfo rfl (by decide) (by decide) (.slice la (idxs k j).length lc) (idxs k j).length ((idxI k j).map (Value.int .i64)) rfl (W1.heap.size) [.int .i64 j] rfl rfl (by simp [Value.oneCell']) ((idxs k j).length+1) rfl (by omega) ?_ ?_ ?_ ?_;exact Nat.le_trans hz01 (show Below W1.heap.size W1 _ from bel).size;exact row_keep HRL1.out (KS.all (show Below W1.heap.size W1 _ from bel) (fun _=>True)) (fun _ _=>trivial);exact (src_new (W1.drew) [.int .i64 j] 3 (n:=W1.heap.size) (by first | rfl | simp) 1);intro la2 lc2 y2 hown2 hks2;have hkA:KS (fun k'=>k' < W0.heap.size\/k'=wr.heap.size) W1 y2:=KS.trans (KS.all (show Below W1.heap.size W1 _ from bel) _) (hks2.mono (fun g _ hg e=>HOBp.out g e hg));have hz2:W1.heap.size<=y2.heap.size:=hkA.size;have hro2:=row_keep (row_keep HRX1.out (KS.all (show Below W1.heap.size W1 _ from bel) (fun _=>True)) (fun _ _=>trivial)) hks2 (fun g hg e=>HAP.out g e hg);obtain ⟨t4,t5,t6⟩:=HQ4.out _ hkA;refine hK.out _ _ ?_ (fun hHeld=>?_);exact HALL.out _ (HMO.out _ hkA);clear hK K;(try simp only [Act.put,List.setIfInBounds_toArray,List.set_cons_zero,List.set_cons_succ]))
           | (refine AllReadyH.cons (i:=3) rfl (fun K hK=>?_) ?_;refine step_app1K rfl _ _ 35 rfl W0.heap.size 3 Tryz.underlying35 intInfo rfl (by decide) (by decide) (.slice la (idxs k j).length lc) (idxs k j).length ((idxI k j).map (Value.int .i64)) rfl (W1.heap.size) [.int .i64 j] rfl rfl (by simp [Value.oneCell']) ((idxs k j).length+1) rfl (by omega) ?_ ?_ ?_ ?_;exact Nat.le_trans hz01 (show Below W1.heap.size W1 _ from bel).size;exact row_keep HRL1.out (KS.all (show Below W1.heap.size W1 _ from bel) (fun _=>True)) (fun _ _=>trivial);exact (src_new (W1.drew) [.int .i64 j] 3 (n:=W1.heap.size) (by first | rfl | simp) 1).ks (KS.alloc (fun _=>True) _ (.cells #[.int .i64 r1,.int .i64 r2,.int .i64 r3,.int .i64 r4] 79)) (fun ad e=>by cases e;exact ⟨by first | omega | (simp;done) | (simp;omega),trivial⟩);intro la2 lc2 y2 hown2 hks2;have hkA:KS (fun k'=>k' < W0.heap.size\/k'=wr.heap.size) W1 y2:=KS.trans (KS.all (show Below W1.heap.size W1 _ from bel) _) (hks2.mono (fun g _ hg e=>HOBp.out g e hg));have hz2:W1.heap.size<=y2.heap.size:=hkA.size;have hro2:=row_keep (row_keep HRX1.out (KS.all (show Below W1.heap.size W1 _ from bel) (fun _=>True)) (fun _ _=>trivial)) hks2 (fun g hg e=>HAP.out g e hg);obtain ⟨t4,t5,t6⟩:=HQ4.out _ hkA;have hsO:Src1 y2 (some ⟨W1.heap.size+1,0,none⟩) 1 [.int .i64 r1,.int .i64 r2,.int .i64 r3,.int .i64 r4]:=(src_new (W1.drew.alloc (.cells #[.int .i64 j] 3)) [.int .i64 r1,.int .i64 r2,.int .i64 r3,.int .i64 r4] 79 (n:=W1.heap.size+1) (by first | rfl | simp) 1).ks hks2 (fun ad e=>by cases e;exact ⟨by first | omega | (simp;done) | (simp;omega),fun e=>by have h8:=HOB.out _ e;have h9:=HS1.out;(try simp at h8);omega⟩);refine hK.out _ _ ?_ (fun hHeld=>?_);exact HALL.out _ (HMO.out _ hkA);clear hK K;(try simp only [Act.put,List.setIfInBounds_toArray,List.set_cons_zero,List.set_cons_succ]))
           | (refine AllReadyH.cons (i:=3) rfl (fun K hK=>?_) ?_;refine step_app1K rfl _ _ 35 rfl W0.heap.size 3 Tryz.underlying35 intInfo rfl (by decide) (by decide) (.slice la (idxs k j).length lc) (idxs k j).length ((idxI k j).map (Value.int .i64)) rfl (W1.heap.size+1) [.int .i64 j] rfl rfl (by simp [Value.oneCell']) ((idxs k j).length+1) rfl (by omega) ?_ ?_ ?_ ?_;exact Nat.le_trans hz01 (show Below W1.heap.size W1 _ from bel).size;exact row_keep HRL1.out (KS.all (show Below W1.heap.size W1 _ from bel) (fun _=>True)) (fun _ _=>trivial);exact (src_new (W1.drew.alloc (.cells #[.int .i64 r1,.int .i64 r2,.int .i64 r3,.int .i64 r4] 79)) [.int .i64 j] 3 (n:=W1.heap.size+1) (by first | rfl | simp) 1);intro la2 lc2 y2 hown2 hks2;have hkA:KS (fun k'=>k' < W0.heap.size\/k'=wr.heap.size) W1 y2:=KS.trans (KS.all (show Below W1.heap.size W1 _ from bel) _) (hks2.mono (fun g _ hg e=>HOBp.out g e hg));have hz2:W1.heap.size<=y2.heap.size:=hkA.size;have hro2:=row_keep (row_keep HRX1.out (KS.all (show Below W1.heap.size W1 _ from bel) (fun _=>True)) (fun _ _=>trivial)) hks2 (fun g hg e=>HAP.out g e hg);obtain ⟨t4,t5,t6⟩:=HQ4.out _ hkA;have hsO:Src1 y2 (some ⟨W1.heap.size,0,none⟩) 1 [.int .i64 r1,.int .i64 r2,.int .i64 r3,.int .i64 r4]:=((src_new (W1.drew) [.int .i64 r1,.int .i64 r2,.int .i64 r3,.int .i64 r4] 79 (n:=W1.heap.size) (by first | rfl | simp) 1).ks (KS.alloc (fun _=>True) _ (.cells #[.int .i64 j] 3)) (fun ad e=>by cases e;exact ⟨by first | omega | (simp;done) | (simp;omega),trivial⟩)).ks hks2 (fun ad e=>by cases e;exact ⟨by first | omega | (simp;done) | (simp;omega),fun e=>by have h8:=HOB.out _ e;have h9:=HS1.out;(try simp at h8);omega⟩);refine hK.out _ _ ?_ (fun hHeld=>?_);exact HALL.out _ (HMO.out _ hkA);clear hK K;(try simp only [Act.put,List.setIfInBounds_toArray,List.set_cons_zero,List.set_cons_succ]))
           | (refine AllReadyH.cons (i:=8) rfl (fun K hK=>?_) ?_;refine step_app1K rfl _ _ 24 rfl W0.heap.size 79 Tryz.underlying24 recInfo rfl (by decide) (by decide) (.slice xa (idxs k j).length xc) (idxs k j).length ((recsOf b.rs k j).flatMap cellsR) rfl (y2.heap.size) [.int .i64 r1,.int .i64 r2,.int .i64 r3,.int .i64 r4] rfl rfl (by simp [Value.oneCell']) ((idxs k j).length+1) rfl (by omega) ?_ ?_ ?_ ?_;exact Nat.le_trans hz01 (Nat.le_trans hz2 (show Below y2.heap.size y2 _ from bel).size);exact hro2.alloc _;exact src_new y2 [.int .i64 r1,.int .i64 r2,.int .i64 r3,.int .i64 r4] 79 rfl 1;intro xa4 xc4 y4 hown4 hks4;have hXr:=hown4;have hLr:=row_keep (hown2.alloc _) hks4 (fun g hg e=>rows_apart hown2 hro2 (by decide) g hg e);have hkB:KS (fun k'=>k' < W0.heap.size\/k'=wr.heap.size) W1 y4:=hkA.trans (KS.trans (KS.all (show Below y2.heap.size y2 _ from bel) _) (hks4.mono (fun g _ hg e=>HOXp.out g e hg)));obtain ⟨u4,u5,u6⟩:=HQ4.out _ hkB;refine hK.out _ _ ?_ (fun hHeld=>?_);exact HALL.out _ (HMO.out _ hkB);clear hK K;(try simp only [Act.put,List.setIfInBounds_toArray,List.set_cons_zero,List.set_cons_succ]))
           | (refine AllReadyH.cons (i:=8) rfl (fun K hK=>?_) ?_;refine step_app1K rfl _ _ 24 rfl W0.heap.size 79 Tryz.underlying24 recInfo rfl (by decide) (by decide) (.slice xa (idxs k j).length xc) (idxs k j).length ((recsOf b.rs k j).flatMap cellsR) rfl (W1.heap.size+1) [.int .i64 r1,.int .i64 r2,.int .i64 r3,.int .i64 r4] rfl rfl (by simp [Value.oneCell']) ((idxs k j).length+1) rfl (by omega) ?_ ?_ ?_ ?_;exact Nat.le_trans hz01 (Nat.le_trans hz2 (show Below y2.heap.size y2 _ from bel).size);exact hro2;exact hsO;intro xa4 xc4 y4 hown4 hks4;have hXr:=hown4;have hLr:=row_keep (hown2) hks4 (fun g hg e=>rows_apart hown2 hro2 (by decide) g hg e);have hkB:KS (fun k'=>k' < W0.heap.size\/k'=wr.heap.size) W1 y4:=hkA.trans (KS.trans (KS.all (show Below y2.heap.size y2 _ from bel) _) (hks4.mono (fun g _ hg e=>HOXp.out g e hg)));obtain ⟨u4,u5,u6⟩:=HQ4.out _ hkB;refine hK.out _ _ ?_ (fun hHeld=>?_);exact HALL.out _ (HMO.out _ hkB);clear hK K;(try simp only [Act.put,List.setIfInBounds_toArray,List.set_cons_zero,List.set_cons_succ]))
           | (refine AllReadyH.cons (i:=8) rfl (fun K hK=>?_) ?_;refine step_app1K rfl _ _ 24 rfl W0.heap.size 79 Tryz.underlying24 recInfo rfl (by decide) (by decide) (.slice xa (idxs k j).length xc) (idxs k j).length ((recsOf b.rs k j).flatMap cellsR) rfl (W1.heap.size) [.int .i64 r1,.int .i64 r2,.int .i64 r3,.int .i64 r4] rfl rfl (by simp [Value.oneCell']) ((idxs k j).length+1) rfl (by omega) ?_ ?_ ?_ ?_;exact Nat.le_trans hz01 (Nat.le_trans hz2 (show Below y2.heap.size y2 _ from bel).size);exact hro2;exact hsO;intro xa4 xc4 y4 hown4 hks4;have hXr:=hown4;have hLr:=row_keep (hown2) hks4 (fun g hg e=>rows_apart hown2 hro2 (by decide) g hg e);have hkB:KS (fun k'=>k' < W0.heap.size\/k'=wr.heap.size) W1 y4:=hkA.trans (KS.trans (KS.all (show Below y2.heap.size y2 _ from bel) _) (hks4.mono (fun g _ hg e=>HOXp.out g e hg)));obtain ⟨u4,u5,u6⟩:=HQ4.out _ hkB;refine hK.out _ _ ?_ (fun hHeld=>?_);exact HALL.out _ (HMO.out _ hkB);clear hK K;(try simp only [Act.put,List.setIfInBounds_toArray,List.set_cons_zero,List.set_cons_succ]))
           | (refine AllReadyH.cons (i:=9) rfl (fun K hK=>?_) ?_;go_simp;refine hK.out _ _ ?_ (fun hHeld=>?_);exact HALL.out _ (HMO.out _ hkB);clear hK K;(try simp only [Act.put,List.setIfInBounds_toArray,List.set_cons_zero,List.set_cons_succ]))
           | (refine AllReadyH.cons (i:=10) rfl (fun K hK=>?_) ?_;go_simp;refine hK.out _ _ ?_ (fun hHeld=>?_);exact HALL.out _ (HMO.out _ hkB);clear hK K;(try simp only [Act.put,List.setIfInBounds_toArray,List.set_cons_zero,List.set_cons_succ]))
           | (refine AllReadyH.cons (i:=11) rfl (fun K hK=>?_) ?_;go_simp;refine hK.out _ _ ?_ (fun hHeld=>?_);exact HALL.out _ ((HMO.out _ hkB).trans (KS.setCell (by simp;omega) _ _));clear hK K;(try simp only [Act.put,List.setIfInBounds_toArray,List.set_cons_zero,List.set_cons_succ])))
       | (show wpAnyH _ _ _ _ _ _ _ _ _;refine wpAnyH_ready (rs:=[8]) (by decide +kernel) (by simp) ?_)
       | (show wpAnyH _ _ _ _ _ _ _ _ _;refine wpAnyH_ready (rs:=[9]) (by decide +kernel) (by simp) ?_)
       | (show wpAnyH _ _ _ _ _ _ _ _ _;refine wpAnyH_ready (rs:=[10]) (by decide +kernel) (by simp) ?_)
       | (show wpAnyH _ _ _ _ _ _ _ _ _;refine wpAnyH_ready (rs:=[11]) (by decide +kernel) (by simp) ?_)
       | (show wpAnyH _ _ _ _ _ _ _ _ _;refine wpAnyH_ready (rs:=[3]) (by decide +kernel) (by simp) ?_)
       | (show wpAnyH _ _ _ _ _ _ _ _ _;refine wpAnyH_ready (rs:=[5]) (by decide +kernel) (by simp) ?_)
       | (show wpAnyH _ _ _ _ _ _ _ _ _;refine wpAnyH_ready (rs:=[7]) (by decide +kernel) (by simp) ?_)
       | (show wpAnyH _ _ _ _ _ _ _ _ _;refine wpAnyH_ready (rs:=[3,5]) (by decide +kernel) (by simp) ?_)
       | (show wpAnyH _ _ _ _ _ _ _ _ _;refine wpAnyH_ready (rs:=[3,7]) (by decide +kernel) (by simp) ?_)
       | (show wpAnyH _ _ _ _ _ _ _ _ _;refine wpAnyH_ready (rs:=[2]) (by decide +kernel) (by simp) ?_)
       | (show wpAnyH _ _ _ _ _ _ _ _ _;refine wpAnyH_ready (rs:=[5,7]) (by decide +kernel) (by simp) ?_)
       | (show wpAnyH _ _ _ _ _ _ _ _ _;refine wpAnyH_ready (rs:=[2,7]) (by decide +kernel) (by simp) ?_)
       | (show wpAnyH _ _ _ _ _ _ _ _ _;refine wpAnyH_ready (rs:=[2,5]) (by decide +kernel) (by simp) ?_)
       | (show wpAnyH _ _ _ _ _ _ _ _ _;refine wpAnyH_ready (rs:=[3,5,7]) (by decide +kernel) (by simp) ?_)
       | (show wpAnyH _ _ _ _ _ _ _ _ _;refine wpAnyH_ready (rs:=[2,5,7]) (by decide +kernel) (by simp) ?_)
       | (refine wpAnyH_done (by decide +kernel) ?_ _;have HHi:=Hh hLr;have HHr:=Hh hXr;have HHk:=Hh hkB;clear hLr hXr hkB;go_wp2;go_roundw;(case rel=>exact HFIN.out _ _ _ _ _ HHi.out HHr.out HHk.out);(case measure=>simp [intOf];omega)))
    ·obtain rfl:j=b.rs.length:=by omega
     have hil:=idxs_le k b.rs.length;have hW0w:Below wo.heap.size wo wr:=hb0.trans (hX.toBelow (n:=wo.heap.size) (by omega) (fun k' hk'=>by omega));have hzz:Below w4.heap.size w4 wr:=Below.next hW hW0w;have hbig:Below w.heap.size w wr:=Below.next hbw hzz;have hrb:RecsAt wr xa (recsOf b.rs k b.rs.length):=recs_of_row hrx;have hmo:MsgsAt w ma b.ms:=by obtain ⟨_,_,⟨_,_,e,h,_⟩,_,_⟩:=HB.out;cases e;exact h
     have hso:SessAt w sa b.ss:=by obtain ⟨_,_,_,⟨_,_,e,h,_⟩,_⟩:=HB.out;cases e;exact h
     have hrlen:(recsOf b.rs k b.rs.length).length=(idxs k b.rs.length).length:=recsOf_length (Nat.le_refl _);have hml6:b.ms.length<=1000000:=by have:=HO.out.ml;omega
     have hsl6:b.ss.length<=1000000:=by have:=HO.out.sl;omega
     have hBs:BookAt wr (subB b k) (.int .i64 b.room) (.int .i64 b.gap) (.slice ma b.ms.length mc) (.slice sa b.ss.length sc) (.slice xa (idxs k b.rs.length).length xc) :=
      ⟨rfl,rfl,⟨ma,mc,rfl,hmo.below hbig,hml6⟩,⟨sa,sc,rfl,hso.below hbig,hsl6⟩,xa,xc,by rw [<- hrlen];rfl,hrb,by show (recsOf b.rs k b.rs.length).length<=1000000;rw [hrlen];omega⟩
     have hO2:BkOk (subB b k):=⟨HO.out.groups,HO.out.ml,HO.out.sl,HO.out.pl,HO.out.part,HO.out.nodup⟩;have hR2:∀ r∈(subB b k).rs,recAl (subB b k) r=0:=fun r hr=>HRR.out r (recsOf_mem hr);have HBS:=Hh hBs;have HO2:=Hh hO2;have HR2:=Hh hR2;have HKW:=Hh (HK.out.below hbig);have hli:IntsAt wr la (idxI k b.rs.length):=ints_of_row hrl;have HLI:=Hh hli;have HSI:=Hh (HIA.out.below hW0w);have HZZ:=Hh hzz;have hstep:(List.range (k+1)).foldl (clashStep b) none=clashStep b st k:=by rw [List.range_succ,List.foldl_append,<- hst.out];rfl
     have hcs:clashStep b st k=if (match st with | none=>false | some y=>decide (y.length < (idxI k b.rs.length).length) || (decide ((idxI k b.rs.length).length=y.length) && decide (0<=cmpI (idxI k b.rs.length) y))) then st else if (pasts (subB b k)).isEmpty then some (idxI k b.rs.length) else st:=rfl;have hin:(idxs k b.rs.length).length=(idxI k b.rs.length).length:=(idxI_length _ _).symm;rw [hcs] at hstep;rw [hin] at hil ⊢;rw [hin] at HBS q4;generalize hLL:idxI k b.rs.length=L at hil hstep HLI HBS q4 ⊢;have HIN:=Hh hin;have hl5':L.length<=5:=by omega
     clear hin hLL hcs hrl hrx hrb hmo hso hrlen hBs hO2 hR2 hli;have hpe:(pasts (subB b k)).isEmpty=(((pasts (subB b k)).length:Int) == 0):=by
      cases pasts (subB b k) with
      | nil=>rfl
      | cons x l=>simp;omega
     rw [hpe] at hstep;clear hpe;have hwx:wo.heap.size < wr.heap.size:=by omega
     cases hemp:(((pasts (subB b k)).length:Int) == 0)
     all_goals
      rw [hemp] at hstep;have HST:=Hh hstep;have HOLD:=Hh hst;clear hstep
      cases st with
      | none =>
       simp only [Option.getD_none,Option.isSome_none,List.length_nil] at HST HSI ⊢;go_wp2_with (go_at_call 56;(with_reducible refine (all_at (HBS.out.below (bel)) (HKW.out.below (bel)) HO2.out HR2.out).mono ?_);rintro e w7 ⟨v7,rfl,hr7,hb7⟩;obtain ⟨a7,c7,rfl⟩:=ownsRow_slice hr7;clear hr7);go_roundw
       case rel =>
        first
         | exact ⟨k+1,_,_,none,by omega,by go_num,rfl,rfl,by have:=HST.out;simp at this;exact this.symm,HSI.out.below hb7,by simp,Below.next HZZ.out hb7⟩
         | exact ⟨k+1,_,_,some L,by omega,by go_num,rfl,rfl,by have:=HST.out;simp at this;exact this.symm,HLI.out.below hb7,by simpa using hl5',Below.next HZZ.out hb7⟩
       case measure=>simp [intOf];omega
      | some y =>
       simp only [Option.getD_some,Option.isSome_some] at HST HSI hl5 ⊢;by_cases h1:y.length < L.length
       ·go_wp2;go_roundw
        case rel=>exact ⟨k+1,a,c,some y,by omega,by go_num,rfl,rfl,by have:=HST.out;simp [h1] at this;exact this.symm,HSI.out,by simpa using hl5,HZZ.out⟩
        case measure=>simp [intOf];omega
       ·by_cases h2:L.length=y.length
        ·obtain ⟨cm,hcm⟩:∃ cm,cmpI L y=cm:=⟨_,rfl⟩;have hcmp:=fun (W:World) (hb:Below wr.heap.size wr W)=>compare_at (lc:=lc) (mc:=c) (HLI.out.below hb) (HSI.out.below hb) (by omega) (by omega) hcm;have HCM:=Hh hcm;have h2b:((L.length:Int) == (y.length:Int))=true:=by simp;omega
         have HH2:=Hh h2;clear hcm h2;have HCMP:=Hh hcmp;clear hcmp;by_cases h3:0<=cm
         ·go_wp2_with (go_at_call 71;(with_reducible refine (HCMP.out _ (Below.refl _ _)).mono ?_);rintro e w' ⟨rfl,rfl⟩);go_roundw
          case rel=>exact ⟨k+1,a,c,some y,by omega,by go_num,rfl,rfl,by have:=HST.out;simp [HH2.out,HCM.out,h3] at this;exact this.symm,HSI.out,by simpa using hl5,HZZ.out⟩
          case measure=>simp [intOf];omega
         ·have HC3:=Hh (show ¬ (L.length=y.length/\0<=cm) from fun h=>h3 h.2);go_wp2_with (first
           | (go_at_call 71;(with_reducible refine (HCMP.out _ (Below.refl _ _)).mono ?_);rintro e w' ⟨rfl,rfl⟩)
           | (go_at_call 56;(with_reducible refine (all_at (HBS.out.below (bel)) (HKW.out.below (bel)) HO2.out HR2.out).mono ?_);rintro e w7 ⟨v7,rfl,hr7,hb7⟩;obtain ⟨a7,c7,rfl⟩:=ownsRow_slice hr7;clear hr7))
          go_roundw
          case rel =>
           first
            | exact ⟨k+1,_,_,some y,by omega,by go_num,rfl,rfl,by have:=HST.out;simp [h1,HCM.out] at this;first | exact this.symm | (rw [if_neg HC3.out] at this;exact this.symm),HSI.out.below hb7,by simpa using hl5,Below.next HZZ.out hb7⟩
            | exact ⟨k+1,_,_,some L,by omega,by go_num,rfl,rfl,by have:=HST.out;simp [h1,HCM.out] at this;first | exact this.symm | (rw [if_neg HC3.out] at this;exact this.symm),HLI.out.below hb7,by simpa using hl5',Below.next HZZ.out hb7⟩
          case measure=>simp [intOf];omega
        ·have h4:L.length < y.length:=by omega
         go_wp2_with (go_at_call 56;(with_reducible refine (all_at (HBS.out.below (bel)) (HKW.out.below (bel)) HO2.out HR2.out).mono ?_);rintro e w7 ⟨v7,rfl,hr7,hb7⟩;obtain ⟨a7,c7,rfl⟩:=ownsRow_slice hr7;clear hr7);go_roundw
         case rel =>
          first
           | exact ⟨k+1,_,_,some y,by omega,by go_num,rfl,rfl,by have:=HST.out;simp [h1,h2] at this;exact this.symm,HSI.out.below hb7,by simpa using hl5,Below.next HZZ.out hb7⟩
           | exact ⟨k+1,_,_,some L,by omega,by go_num,rfl,rfl,by have:=HST.out;simp [h1,h2] at this;exact this.symm,HLI.out.below hb7,by simpa using hl5',Below.next HZZ.out hb7⟩
         case measure=>simp [intOf];omega
  ·obtain rfl:k=N:=by omega
   have hcl:clashI b=st.getD []:=by unfold clashI;rw [<- HN2.out,<- hst.out]
   have HCL:=Hh hcl;have HHB:=Hh (Below.next hbw hW);clear hcl hia hst hl5 hW;go_wp2
   try rw [Exit.noGoto_ret]
   exact bodyPost_ret (v:=.tuple #[.slice a (st.getD []).length c,.int .i64 0]) (by simp [results,Tryz.results29,go_sem, *]) rfl ⟨a,c,by rw [HCL.out],by rw [HCL.out];exact HIA.out,HHB.out⟩
end
attribute [local go_sem] Oper.semAt_some
def timedAsk (now:Int):Int:=if inB now 0 999 then 0 else 1
def planAsk (ml:Nat) (pn:Nat) (now:Int):Int:=if timedAsk now≠0 then timedAsk now else if pn≠ml then 2 else 0
section
variable {b:Bk} {vr vg vm vs vc:Value} {w:World}
def TimedOut (w:World) (now:Int) (e:Ending) (w':World):Prop:=∃ B,e=.returned (.func (.func 74) #[] #[.pointer (some ⟨B,0,none⟩)])/\B < w'.heap.size/\w'.cell? ⟨B,0,none⟩=some (.int .i64 now)/\Below w.heap.size w w'
theorem timed_at (now:Int) (w:World):Calls Tryz.prog 37 #[.int .i64 now] w (TimedOut w now):=by
 go_enter Tryz.func37,Tryz.ntmps37
 go_wp2;go_ret;refine ⟨w.heap.size,rfl,by simp,?_,bel⟩;rw [World.cell?_alloc_at _ _ _ _ rfl];rfl
theorem timed1_at {B:Nat} {now:Int} (v0 v1 v2 v3 v4:Value) (h0:w.cell? ⟨B,0,none⟩=some (.int .i64 now)) :
 Calls Tryz.prog 74 #[.agg #[v0,v1,v2,v3,v4],.pointer (some ⟨B,0,none⟩)] w fun e w'=>e=.returned (.int .i64 (timedAsk now))/\Below w.heap.size w w':=by
 have hlt:=lt_of_cell h0;simp only at hlt;unfold timedAsk;cases h:inB now 0 999
 all_goals
  have H:=Hh h;clear h
  go_enter Tryz.func74,Tryz.ntmps74
  go_wp2_with (go_at_call 58;(with_reducible refine (inside_at H.out).mono ?_);rintro e w' ⟨rfl,rfl⟩);go_ret;exact ⟨rfl,bel⟩
theorem planned1_at {BN BP:Nat} {now:Int} {pa ma:Option Addr} {pn pc ml mc:Nat} (v0 v1 v3 v4:Value) (h0:w.cell? ⟨BN,0,none⟩=some (.int .i64 now)) (h1:w.cell? ⟨BP,0,none⟩=some (.slice pa pn pc)) (hpn:pn<=1000000) (hml:ml<=1000000) {r:Int} (hr:planAsk ml pn now=r) :
 Calls Tryz.prog 78 #[.agg #[v0,v1,.slice ma ml mc,v3,v4],.pointer (some ⟨BN,0,none⟩),.pointer (some ⟨BP,0,none⟩)] w fun e w'=>e=.returned (.int .i64 r)/\Below w.heap.size w w':=by
 have hlt0:=lt_of_cell h0;have hlt1:=lt_of_cell h1;simp only at hlt0 hlt1;have HTM:=Hh (fun (w':World)=>timed_at now w')
 go_enter Tryz.func78,Tryz.ntmps78
 go_wp2;obtain ⟨W0,hW0⟩:∃ W0,W0=w.alloc (.cells #[v0,v1,.slice ma ml mc,v3,v4] 88):=⟨_,rfl⟩;rw [<- hW0];have hb0:Below w.heap.size w W0:=by rw [hW0];(exact bel)
 have hs0:w.heap.size+1<=W0.heap.size:=by rw [hW0];simp
 have q:∀ k u,(#[v0,v1,.slice ma ml mc,v3,v4]:Array Value)[k]? = some u->W0.cell? ⟨w.heap.size,k,none⟩=some u:=fun k u hk=>by rw [hW0,World.cell?_alloc_at _ _ _ _ rfl];exact hk
 have hall:∀ w':World,Below W0.heap.size W0 w'->(Below W0.heap.size W0 w'/\w'.cell? ⟨w.heap.size,0,none⟩=some v0/\w'.cell? ⟨w.heap.size,1,none⟩=some v1/\w'.cell? ⟨w.heap.size,2,none⟩=some (.slice ma ml mc)/\w'.cell? ⟨w.heap.size,3,none⟩=some v3/\w'.cell? ⟨w.heap.size,4,none⟩=some v4/\w'.cell? ⟨BN,0,none⟩=some (.int .i64 now)/\w'.cell? ⟨BP,0,none⟩=some (.slice pa pn pc)):=fun w' h=>by
  have c:=fun k u hk=>(h.cell (p:=⟨w.heap.size,k,none⟩) (by simp;omega)).trans (q k u hk);exact ⟨h,c 0 _ rfl,c 1 _ rfl,c 2 _ rfl,c 3 _ rfl,c 4 _ rfl,(h.cell (by simp;omega)).trans ((hb0.cell hlt0).trans h0),(h.cell (by simp;omega)).trans ((hb0.cell hlt1).trans h1)⟩
 have HALL:=Hh hall;have HR:=Hh hr;clear hW0 q hall h0 h1 hr;go_region_held3 (fun w'=>Below W0.heap.size W0 w'/\w'.cell? ⟨w.heap.size,0,none⟩=some v0/\w'.cell? ⟨w.heap.size,1,none⟩=some v1/\w'.cell? ⟨w.heap.size,2,none⟩=some (.slice ma ml mc)/\w'.cell? ⟨w.heap.size,3,none⟩=some v3/\w'.cell? ⟨w.heap.size,4,none⟩=some v4/\w'.cell? ⟨BN,0,none⟩=some (.int .i64 now)/\w'.cell? ⟨BP,0,none⟩=some (.slice pa pn pc))
  ((go_split_ands;exact HALL.out _ (bel)))
  (first
    | (go_at_call 37;(with_reducible refine (HTM.out _).mono ?_);rintro e w2 ⟨B,rfl,hB1,r0,hb2⟩;have hq:∀ W,Below w2.heap.size w2 W->W.cell? ⟨B,0,none⟩=some (.int .i64 now):=(fun W h=>(h.cell hB1).trans r0);have HQ:=Hh hq;clear hq r0;obtain ⟨hc2,hf2⟩:=bcell hb2;have hz2:=hb2.size;(try simp at hz2))
    | (go_at_call 74;go_split_ands;(with_reducible refine (timed1_at _ _ _ _ _ (HQ.out _ (by first | exact Below.refl _ _ | exact bal _ _))).mono ?_);rintro e w3 ⟨rfl,hb3⟩;obtain ⟨hc3,hf3⟩:=bcell hb3;have hz3:=hb3.size;(try simp at hz3)))
 have hbX:Below W0.heap.size W0 w3:=bel;have hbw:=Below.next hb0 hbX;obtain ⟨_,c0,c1,c2,c3,c4,c5,c6⟩:=HALL.out _ hbX;have hz9:=hbX.size;have hw9:w.heap.size < w3.heap.size:=by omega
 have hw10:BN < w3.heap.size:=by omega
 have hw11:BP < w3.heap.size:=by omega
 have hr:=HR.out;unfold planAsk at hr;generalize timedAsk now=T at hr ⊢;by_cases hT:T=0
 ·subst hT;simp only [ne_eq,not_true_eq_false,if_false] at hr;by_cases hp:pn=ml
  ·rw [if_neg (by simpa using hp)] at hr;have HR2:=Hh hr;subst hp;clear hr HR;go_wp2;go_ret;exact ⟨by rw [<- HR2.out];rfl,bel⟩
  ·rw [if_pos hp] at hr;have HR2:=Hh hr;have hp2:((pn:Int) != (ml:Int))=true:=bne_iff_ne.2 fun h=>hp (by omega);clear hr HR;go_wp2;go_ret;exact ⟨by rw [<- HR2.out];rfl,bel⟩
 ·rw [if_pos hT] at hr;have HR2:=Hh hr;have hT2:(T != 0)=true:=by simpa using hT
  clear hr HR;go_wp2;go_ret;exact ⟨by rw [<- HR2.out];rfl,bel⟩
end
attribute [local go_sem] Oper.semAt_some
section
variable {b:Bk} {vr vg vm vs vc:Value} {w:World}
theorem ints_kept {A B:World} {a:Option Addr} {l:List Int} {n:Nat} {p:Nat->Prop} (h:IntsAt A a l) (hb:∀ y,a=some y->n<=y.block) (hk:KS p A B) (hp:∀ k,n<=k->p k):IntsAt B a l:=fun i hi=>by
 obtain ⟨g,o,e,hlt,hc⟩:=h i hi;have:=hb _ e;exact ⟨g,o,e,Nat.lt_of_lt_of_le hlt hk.size,(hk.cell (x:=⟨g,o+i,none⟩) hlt (hp _ this)).trans hc⟩
theorem cames_kept {A B:World} {a:Option Addr} {l:List (List Int)} {n:Nat} {p:Nat->Prop} (h:CamesAt A a l) (hb:∀ y,a=some y->n<=y.block) (hk:KS p A B) (hp:∀ k,n<=k->p k):CamesAt B a l:=fun i hi=>by
 obtain ⟨g,o,e,hlt,h1,h2,h3,h4⟩:=h i hi;have:=hp _ (hb _ e);exact ⟨g,o,e,Nat.lt_of_lt_of_le hlt hk.size,(hk.cell (x:=⟨g,o+i * 4,none⟩) hlt this).trans h1,(hk.cell (x:=⟨g,o+i * 4+1,none⟩) hlt this).trans h2,(hk.cell (x:=⟨g,o+i * 4+2,none⟩) hlt this).trans h3,(hk.cell (x:=⟨g,o+i * 4+3,none⟩) hlt this).trans h4⟩
theorem row_ge {A:World} {base e size n cap:Nat} {a:Option Addr} {xs:List Value} (h:A.ownsRow base e size (.slice a n cap) n xs):∀ y,a=some y->base<=y.block:=by
 rintro y rfl;obtain ⟨_,⟨h1,_⟩ | ⟨g,cap',cur,e1,e2,_⟩⟩:=h
 ·cases h1
 ·cases e1;exact e2
theorem ks6 (w:World) (X:Nat) (v0 v1 v2 v3 v4 v5:Value):KS (fun k=>k≠X) w ((((((w.setCell ⟨X,0,none⟩ v0).setCell ⟨X,1,none⟩ v1).setCell ⟨X,2,none⟩ v2).setCell ⟨X,3,none⟩ v3).setCell ⟨X,4,none⟩ v4).setCell ⟨X,5,none⟩ v5) :=
 (((((KS.setCell (p:=fun k=>k≠X) (by simp) _ _).trans (KS.setCell (by simp) _ _)).trans (KS.setCell (by simp) _ _)).trans (KS.setCell (by simp) _ _)).trans (KS.setCell (by simp) _ _)).trans (KS.setCell (by simp) _ _)
def PlannedYes (w:World) (b:Bk) (vr vg vm vs vc:Value) (o:List Int) (e:Ending) (w':World):Prop :=
 ∃ (RB lc tc lc2:Nat) (ta la:Option Addr),e=.returned (.tuple #[.agg #[vr,vg,vm,vs,vc,.slice (some ⟨RB,0,none⟩) b.ms.length lc],.slice ta o.length tc,.slice la (pasts b).length lc2,.int .i64 0]) /\
  IntsAt w' (some ⟨RB,0,none⟩) (loadsI b)/\IntsAt w' ta o/\CamesAt w' la (pasts b)/\Below w.heap.size w w'
def PlannedNo (w:World) (e:Ending) (w':World):Prop:=e=.returned (.tuple #[.agg #[.int .i64 0,.int .i64 0,.slice none 0 0,.slice none 0 0,.slice none 0 0,.slice none 0 0],.slice none 0 0,.slice none 0 0,.int .i64 6])/\Below w.heap.size w w'
def PlannedOut (w:World) (b:Bk) (vr vg vm vs vc:Value) (plan:List Int) (e:Ending) (w':World):Prop :=
 (planOk (loadsI b) plan=none/\PlannedNo w e w')\/∃ o,planOk (loadsI b) plan=some o/\PlannedYes w b vr vg vm vs vc o e w'
theorem loadsI_len (b:Bk):(loadsI b).length=b.ms.length:=loadsOf_length _ _
theorem planAsk_ok {ml pn:Nat} {now:Int} (h:planAsk ml pn now=0):timedAsk now=0/\pn=ml:=by
 unfold planAsk at h;split at h
 ·rename_i h1;exact absurd h h1
 ·split at h
  ·cases h
  ·rename_i h1 h2
   exact ⟨by simpa using h1,by simpa using h2⟩
theorem planned_ok (hB:BookAt w b vr vg vm vs vc) (hN:∀ m∈b.ms,m.name.size<=1000000) (hK:KindsAt w) {pa:Option Addr} {pc:Nat} {plan:List Int} {pn:Nat} (hpl:pn=plan.length) (hP:IntsAt w pa plan) (now:Int) (ht:openAl b (planAsk b.ms.length pn now)=0) :
 Calls Tryz.prog 44 #[.agg #[vr,vg,vm,vs,vc],.slice pa pn pc,.int .i64 now] w (PlannedOut w b vr vg vm vs vc plan):=by
 have HB:=Hh hB;have HN:=Hh hN;have HK:=Hh hK;have HP:=Hh hP;obtain ⟨hk,hpt,hps⟩:=openAl_ok ht;have hbo:=(bookAl_ok hk).1;obtain ⟨_,hpm⟩:=planAsk_ok hpt;have HO:=Hh hbo;have HBA:=Hh hk;have HPT:=Hh hpt;have HPS:=Hh hps;have HPM:=Hh hpm;have HPL:=Hh hpl;have hple:=pasts_le hbo;have hml5:=hbo.ml;have HPC:=Hh (fun x (hx:x∈pasts b)=>pasts_came hbo hx);have hpn:pn<=1000000:=by omega
 obtain ⟨rfl,rfl,⟨ma,mc,rfl,_,hml⟩,⟨sa,sc,rfl,_,_⟩,ra,rc,rfl,_,_⟩:=id hB;clear hB hN hK hP ht hk hpt hps hbo hpm hpl
 go_enter Tryz.func44,Tryz.ntmps44
 go_wp2_with fail;obtain ⟨W0,hW0⟩:∃ W0,W0=((((w.alloc (.cells #[.int .i64 b.room,.int .i64 b.gap,.slice ma b.ms.length mc,.slice sa b.ss.length sc,.slice ra b.rs.length rc] 26)).alloc (.cells #[.slice pa pn pc] 35)).alloc (.cells #[.int .i64 now] 3)).alloc (.cells #[.int .i64 0,.int .i64 0,.slice none 0 0,.slice none 0 0,.slice none 0 0,.slice none 0 0] 96)):=⟨_,rfl⟩;rw [<- hW0];have hb0:Below w.heap.size w W0:=by rw [hW0];(exact bel)
 have hs0:w.heap.size+1+1+1 < W0.heap.size:=by rw [hW0];simp
 have y1:W0.cell? ⟨w.heap.size+1+1,0,none⟩=some (.int .i64 now):=by rw [hW0,World.cell?_alloc_past _ _ _ (by first | (simp;done) | (simp;omega)),World.cell?_alloc_at _ _ _ _ (by first | (simp;done) | (simp;omega))];rfl
 have y2:W0.cell? ⟨w.heap.size+1,0,none⟩=some (.slice pa pn pc):=by rw [hW0,World.cell?_alloc_past _ _ _ (by first | (simp;done) | (simp;omega)),World.cell?_alloc_past _ _ _ (by first | (simp;done) | (simp;omega)),World.cell?_alloc_at _ _ _ _ (by first | (simp;done) | (simp;omega))];rfl
 have HASK:=Hh (fun (hk:bookAl b=0) (W:World) (hW:Below W0.heap.size W0 W)=>planned1_at (ma:=ma) (ml:=b.ms.length) (mc:=mc) (.int .i64 b.room) (.int .i64 b.gap) (.slice sa b.ss.length sc) (.slice ra b.rs.length rc) ((hW.cell (by simp;omega)).trans y1) ((hW.cell (by simp;omega)).trans y2) hpn hml rfl);have z:∀ k u,(#[.int .i64 0,.int .i64 0,.slice none 0 0,.slice none 0 0,.slice none 0 0,.slice none 0 0]:Array Value)[k]? = some u->W0.cell? ⟨w.heap.size+1+1+1,k,none⟩=some u:=fun k u hk=>by rw [hW0,World.cell?_alloc_at _ _ _ _ (by first | (simp;done) | (simp;omega))];exact hk
 have zf:∀ k,W0.frozen? ⟨w.heap.size+1+1+1,k,none⟩=false:=fun k=>by rw [hW0,World.frozen?_alloc_at _ _ _ _ (by first | (simp;done) | (simp;omega))]
 have hz:∀ w':World,Below W0.heap.size W0 w'->∀ k u,(#[.int .i64 0,.int .i64 0,.slice none 0 0,.slice none 0 0,.slice none 0 0,.slice none 0 0]:Array Value)[k]? = some u->w'.cell? ⟨w.heap.size+1+1+1,k,none⟩=some u/\w'.frozen? ⟨w.heap.size+1+1+1,k,none⟩=false:=fun w' h k u hk=>⟨(h.cell (by simp;omega)).trans (z k u hk),(h.frozen (by simp;omega)).trans (zf k)⟩;have HZ:=Hh hz;have y0:∀ k u,(#[.int .i64 b.room,.int .i64 b.gap,.slice ma b.ms.length mc,.slice sa b.ss.length sc,.slice ra b.rs.length rc]:Array Value)[k]? = some u->W0.cell? ⟨w.heap.size,k,none⟩=some u:=fun k u hk=>by rw [hW0,World.cell?_alloc_past _ _ _ (by first | (simp;done) | (simp;omega)),World.cell?_alloc_past _ _ _ (by first | (simp;done) | (simp;omega)),World.cell?_alloc_past _ _ _ (by first | (simp;done) | (simp;omega)),World.cell?_alloc_at _ _ _ _ (by first | (simp;done) | (simp;omega))];exact hk
 obtain ⟨n0,n1,n2,n3,n4⟩:_/\_/\_/\_/\_:=⟨y0 0 _ rfl,y0 1 _ rfl,y0 2 _ rfl,y0 3 _ rfl,y0 4 _ rfl⟩;have Y2:=Hh y2;clear hW0 y1 y2 z zf hz y0;have hs1:w.heap.size < W0.heap.size:=by omega
 go_wp2_with (first
  | (go_at_call 34;(with_reducible refine (open_planned_ok (HB.out.below hb0) HN.out (HK.out.below hb0) _ _ (al:=planAsk b.ms.length pn now) HASK.out HBA.out HPT.out HPS.out).mono ?_);rintro e w3 ⟨la,rfl,hrow,hb3⟩;obtain ⟨la,lc,rfl⟩:=ownsRow_slice hrow;have HCM:=Hh (cames_of_row hrow);have HGL:=Hh (row_ge hrow);clear hrow;have hz3:=hb3.size;have hz4:w.heap.size+1+1+1 < w3.heap.size:=(by omega))
  | (go_at_call 38;(with_reducible refine (nightOf_at (HB.out.below (bel)) HO.out (HCM.out.below (bel)) HPC.out (by omega)).mono ?_);rintro e w4 ⟨RB,lc2,rfl,hld,hRB0,hRBl,hb4⟩;have HLD:=Hh (show IntsAt w4 (some ⟨RB,0,none⟩) (loadsI b) from hld);clear hld;have hz5:=hb4.size;(try simp at hz5);have hx4:Below W0.heap.size W0 w4:=Below.next (Below.al hb3 _) hb4;have y4:=(hx4.cell (p:=⟨w.heap.size+1,0,none⟩) (by simp;omega)).trans Y2.out;have hz6:w.heap.size+1 < w4.heap.size:=(by omega))
  | (go_at_call 76;(with_reducible refine (tapes_at (HLD.out.below (bel)) (loadsI_bd HBA.out) (HP.out.below (bel)) HPL.out (HPM.out.symm.trans HPL.out) ((loadsI_len b).trans (HPM.out.symm.trans HPL.out)) (by have:=HPM.out;have:=HPL.out;omega)).mono ?_);rintro e w5 ⟨ta,tc,o,ok,rfl,hto,hb5,hok⟩;have HTO:=Hh (ints_of_row hto);have HGT:=Hh (row_ge hto);obtain ⟨hc5,hf5⟩:=bcell hb5;have HOK:=Hh hok;clear hto hok;have hz7:=hb5.size;(try simp at hz7);have hz8:w.heap.size+1+1+1 < w5.heap.size:=(by omega);have hx5:Below W0.heap.size W0 w5:=Below.next (Below.al hx4 _) hb5;obtain ⟨⟨z0,f0⟩,⟨z1,f1⟩,⟨z2,f2⟩,⟨z3,f3⟩,⟨z4,f4⟩,⟨z5,f5⟩⟩:(_/\_)/\(_/\_)/\(_/\_)/\(_/\_)/\(_/\_)/\(_/\_):=⟨HZ.out w5 hx5 0 _ rfl,HZ.out w5 hx5 1 _ rfl,HZ.out w5 hx5 2 _ rfl,HZ.out w5 hx5 3 _ rfl,HZ.out w5 hx5 4 _ rfl,HZ.out w5 hx5 5 _ rfl⟩;cases ok))
 ·exact bodyPost_ret (v:=.tuple #[.agg #[.int .i64 0,.int .i64 0,.slice none 0 0,.slice none 0 0,.slice none 0 0,.slice none 0 0],.slice none 0 0,.slice none 0 0,.int .i64 6]) (by simp [results,Tryz.results44,go_sem, *]) rfl (.inl ⟨by have:=HOK.out;simpa using this,rfl,bel⟩)
 ·refine bodyPost_ret (v:=.tuple #[.agg #[.int .i64 b.room,.int .i64 b.gap,.slice ma b.ms.length mc,.slice sa b.ss.length sc,.slice ra b.rs.length rc,.slice (some ⟨RB,0,none⟩) b.ms.length lc2],.slice ta o.length tc,.slice la (pasts b).length lc,.int .i64 0]) (by simp [results,Tryz.results44,go_sem, *]) rfl (.inr ⟨o,by have:=HOK.out;simpa using this,RB,lc2,tc,lc,ta,la,rfl,?_,?_,?_,?_⟩)
  ·exact ints_kept (HLD.out.below (Below.next (bal _ _) hb5)) (n:=W0.heap.size) (fun y hy=>by cases hy;simp at hRB0;simp;omega) (ks6 _ _ _ _ _ _ _ _) (fun k hk=>by show k≠_;omega)
  ·exact ints_kept HTO.out (n:=W0.heap.size) (fun y hy=>by have:=HGT.out y hy;simp at this;omega) (ks6 _ _ _ _ _ _ _ _) (fun k hk=>by show k≠_;omega)
  ·exact cames_kept (HCM.out.below (Below.next (Below.al (Below.next (bal _ _) hb4) _) hb5)) (n:=W0.heap.size) (fun y hy=>HGL.out y hy) (ks6 _ _ _ _ _ _ _ _) (fun k hk=>by show k≠_;omega)
  ·(exact bel)
end
attribute [local go_sem] Oper.semAt_some
section
variable {b:Bk} {vr vg vm vs vc:Value} {w:World}
theorem planned_yes (hB:BookAt w b vr vg vm vs vc) (hN:∀ m∈b.ms,m.name.size<=1000000) (hK:KindsAt w) {pa:Option Addr} {pc:Nat} {plan:List Int} {pn:Nat} (hpl:pn=plan.length) (hP:IntsAt w pa plan) (now:Int) (ht:openAl b (planAsk b.ms.length plan.length now)=0) {o:List Int} (ho:planOk (loadsI b) plan=some o) :
 Calls Tryz.prog 44 #[.agg #[vr,vg,vm,vs,vc],.slice pa pn pc,.int .i64 now] w (PlannedYes w b vr vg vm vs vc o):=by
 subst hpl;refine (planned_ok hB hN hK rfl hP now ht).mono ?_;rintro e w' (⟨h,_⟩ | ⟨o2,h,h2⟩)
 ·rw [ho] at h;cases h
 ·rw [ho] at h;cases h;exact h2
theorem times_ok (hB:BookAt w b vr vg vm vs vc) (hN:∀ m∈b.ms,m.name.size<=1000000) (hK:KindsAt w) {pa:Option Addr} {pc:Nat} {plan:List Int} {pn:Nat} (hpl:pn=plan.length) (hP:IntsAt w pa plan) (now:Int) (ht:openAl b (planAsk b.ms.length plan.length now)=0) {o:List Int} (ho:planOk (loadsI b) plan=some o) :
 Calls Tryz.prog 25 #[.agg #[vr,vg,vm,vs,vc],.slice pa pn pc,.int .i64 now] w fun e w'=>∃ a c,e=.returned (.tuple #[.slice a (endsI b.gap now o).length c,.int .i64 0])/\IntsAt w' a (endsI b.gap now o)/\Below w.heap.size w w':=by
 have HB:=Hh hB;have HN:=Hh hN;have HK:=Hh hK;have HP:=Hh hP;have HT:=Hh ht;have HOO:=Hh ho;have HPL:=Hh hpl;obtain ⟨hk,hpt,hps⟩:=openAl_ok ht;have hbo:=(bookAl_ok hk).1;obtain ⟨hnow,hpm⟩:=planAsk_ok hpt;have hnow2:0<=now/\now<=1000:=by
  unfold timedAsk inB at hnow;split at hnow
  ·rename_i h;simp at h;omega
  ·cases h0:(1:Int) with
   | _=>cases hnow
 have hml5:=hbo.ml;have HBD:=Hh (planOk_bd ho (by omega) (loadsI_bd hk));have HN2:=Hh (nightOk hk);obtain ⟨rfl,rfl,⟨ma,mc,rfl,_,_⟩,⟨sa,sc,rfl,_,_⟩,ra,rc,rfl,_,_⟩:=id hB;clear hB hN hK hP ht hpl ho hk hpt hps hbo hnow
 go_enter Tryz.func25,Tryz.ntmps25
 go_wp2_with (first
  | (go_at_call 44;(with_reducible refine (planned_yes (HB.out.below (bel)) HN.out (HK.out.below (bel)) HPL.out (HP.out.below (bel)) now HT.out HOO.out).mono ?_);rintro e w3 ⟨RB,lc,tc,lc2,ta,la,rfl,hl3,ht3,hc3,hb3⟩;have HT3:=Hh ht3;clear hl3 ht3 hc3;have hz3:=hb3.size;(try simp at hz3))
  | (go_at_call 69;(with_reducible refine (ends_at (HB.out.below (bel)) _ rfl (HT3.out.below (bel)) HBD.out.2 HBD.out.1 HN2.out.gap hnow2).mono ?_);rintro e w4 ⟨ea,ec,rfl,he4,hb4⟩;have HE4:=Hh he4;clear he4;have hz4:=hb4.size;(try simp at hz4)))
 exact bodyPost_ret (v:=.tuple #[.slice ea (endsI b.gap now o).length ec,.int .i64 0]) (by simp [results,Tryz.results25,go_sem, *]) rfl ⟨ea,ec,rfl,ints_of_row HE4.out,bel⟩
theorem goodApi_ok (hB:BookAt w b vr vg vm vs vc) (hN:∀ m∈b.ms,m.name.size<=1000000) (hK:KindsAt w) {pa:Option Addr} {pc:Nat} {plan:List Int} {pn:Nat} (hpl:pn=plan.length) (hP:IntsAt w pa plan) (now:Int) (ht:openAl b (planAsk b.ms.length plan.length now)=0) {o:List Int} (ho:planOk (loadsI b) plan=some o) :
 Calls Tryz.prog 11 #[.agg #[vr,vg,vm,vs,vc],.slice pa pn pc,.int .i64 now] w fun e w'=>e=.returned (.tuple #[.bool (goodI b plan o now),.int .i64 0])/\Below w.heap.size w w':=by
 have HB:=Hh hB;have HN:=Hh hN;have HK:=Hh hK;have HP:=Hh hP;have HT:=Hh ht;have HOO:=Hh ho;have HPL:=Hh hpl;obtain ⟨hk,hpt,hps⟩:=openAl_ok ht;have hbo:=(bookAl_ok hk).1;obtain ⟨hnow,hpm⟩:=planAsk_ok hpt;have hnow2:0<=now/\now<=1000:=by
  unfold timedAsk inB at hnow;split at hnow
  ·rename_i h;simp at h;omega
  ·cases h0:(1:Int) with
   | _=>cases hnow
 have hml5:=hbo.ml;have HPM:=Hh hpm;have HLT:=Hh (planOk_lt ho ((loadsI_len b).trans hpm.symm));have HBD:=Hh (planOk_bd ho (by omega) (loadsI_bd hk));have HN2:=Hh (nightOk hk);obtain ⟨rfl,rfl,⟨ma,mc,rfl,_,_⟩,⟨sa,sc,rfl,_,_⟩,ra,rc,rfl,_,_⟩:=id hB;clear hB hN hK hP ht hpl ho hk hpt hps hbo hnow hpm
 go_enter Tryz.func11,Tryz.ntmps11
 go_wp2_with (first
  | (go_at_call 44;(with_reducible refine (planned_yes (HB.out.below (bel)) HN.out (HK.out.below (bel)) HPL.out (HP.out.below (bel)) now HT.out HOO.out).mono ?_);rintro e w3 ⟨RB,lc,tc,lc2,ta,la,rfl,hl3,ht3,hc3,hb3⟩;have HT3:=Hh ht3;clear hl3 ht3 hc3;have hz3:=hb3.size;(try simp at hz3))
  | (go_at_call 40;(with_reducible refine (good_at (HB.out.below (bel)) HN2.out.due HN2.out.gap _ rfl (HP.out.below (bel)) HPL.out HPM.out (HT3.out.below (bel)) rfl HBD.out.2 HBD.out.1 HLT.out (by omega) hnow2 rfl).mono ?_);rintro e w4 ⟨rfl,hb4⟩;have hz4:=hb4.size;(try simp at hz4)))
 exact bodyPost_ret (v:=.tuple #[.bool (goodI b plan o now),.int .i64 0]) (by simp [results,Tryz.results11,go_sem, *]) rfl ⟨rfl,bel⟩
end
end
end Go.Proofs.YtdjnkplgllakcaaGreatDoor
