/- StoreTapes -/
import Derived.Test.YtgagoahfdnnpkaaGreatDoorSG05
set_option maxHeartbeats 6000000
set_option maxRecDepth 100000
set_option linter.all false
namespace Go.Proofs.YtgagoahfdnnpkaaGreatDoor
open Go.RowKit Go.Maps Sp
section
variable {b:Bk} {vr vg vm vs vc:Value} {w:World}
def throughAsk (b:Bk) (s:Int):Int:=if inB s 0 ((b.ss.length:Int) - 1) then 0 else 6
def throughAl (b:Bk) (s:Int):Int:=openAl b (throughAsk b s)
def throughI (b:Bk) (s:Int):List Int:=Lib.compact (sortI ((pasts b).map fun x=>x.getD s.toNat 0))
theorem through1_at (hB:BookAt w b vr vg vm vs vc) {B:Nat} {s:Int} (h0:w.cell? ⟨B,0,none⟩=some (.int .i64 s)) (hlt:B < w.heap.size) :
 Calls Tryz.prog 60 #[.agg #[vr,vg,vm,vs,vc],.pointer (some ⟨B,0,none⟩)] w fun e w'=>e=.returned (.int .i64 (throughAsk b s))/\Below w.heap.size w w':=by
 obtain ⟨_,_,_,⟨sa,sc,rfl,_,hsl⟩,_⟩:=id hB;have hw:IntKind.i64.wrap ((b.ss.length:Int) - 1)=(b.ss.length:Int) - 1:=wrapI (by omega) (by omega);unfold throughAsk;clear hB;cases h:inB s 0 ((b.ss.length:Int) - 1)
 all_goals
  have H:=Hh h;clear h
  go_enter Tryz.func60,Tryz.ntmps60
  go_wp2_with (go_at_call 49;(with_reducible refine (inside_at H.out).mono ?_);rintro e w' ⟨rfl,rfl⟩);go_ret;exact ⟨rfl,bel⟩
theorem pad_getD {x:List Int} {n:Nat}:(pad x).getD n 0=x.getD n 0:=by
 unfold pad;simp only [List.getD_eq_getElem?_getD];by_cases hx:n < x.length
 ·simp [List.getElem?_append,hx]
 ·simp [List.getElem?_append,hx,List.getElem?_replicate];split <;> rfl
def nthI (n:Nat) (l:List (List Int)):List Int:=l.map fun x=>(pad x).getD n 0
theorem through_ok (hB:BookAt w b vr vg vm vs vc) (hN:∀ m∈b.ms,m.name.size<=1000000) (hK:KindsAt w) (s:Int) (ht:throughAl b s=0) :
 Calls Tryz.prog 20 #[.agg #[vr,vg,vm,vs,vc],.int .i64 s] w fun e w'=>∃ a c,e=.returned (.tuple #[.slice a (throughI b s).length c,.int .i64 0])/\IntsAt w' a (throughI b s)/\Below w.heap.size w w':=by
 have HB:=Hh hB;have HN:=Hh hN;have HK:=Hh hK;obtain ⟨hk,hpt,hps⟩:=openAl_ok ht;have hin:inB s 0 ((b.ss.length:Int) - 1)=true:=by
  cases h:inB s 0 ((b.ss.length:Int) - 1)
  ·unfold throughAsk at hpt;rw [h] at hpt;simp at hpt
  ·rfl
 have hs0:0<=s/\s<=(b.ss.length:Int) - 1:=by unfold inB at hin;simpa using hin
 have hbo:=(bookAl_ok hk).1;have hsl:=hbo.sl;have hs4:s < 4:=by omega
 obtain ⟨sn,rfl⟩:∃ sn:Nat,s=sn:=⟨s.toNat,by omega⟩;have HBA:=Hh hk;have HPS:=Hh hps;have hpl:=pasts_le hbo;have HPC:=Hh (fun x (hx:x∈pasts b)=>pasts_came hbo hx);have HPT:=Hh hpt;have hsn4:sn < 4:=by omega
 have hsn0:(0:Int)<=(sn:Int):=by omega
 have hsn4':(sn:Int) < 4:=by omega
 clear hk hpt hps hbo hin;obtain ⟨rfl,rfl,⟨ma,mc,rfl,_,_⟩,⟨sa,sc,rfl,_,_⟩,ra,rc,rfl,_,_⟩:=id hB;clear hB hN hK ht hs0 hs4
 go_enter Tryz.func20,Tryz.ntmps20
 go_wp2_with (go_at_call 31;(with_reducible refine (open_through_ok (HB.out.below (bel)) HN.out (HK.out.below (bel)) _ (al:=throughAsk b sn) (fun hk W hW=>through1_at (HB.out.below (Below.next (bel) hW)) ((hW.cell (by simp)).trans (alloc1_cell (by simp))) (Nat.lt_of_lt_of_le (by simp) hW.size)) HBA.out HPT.out HPS.out).mono ?_);rintro e w3 ⟨la,rfl,hrow,hb3⟩;obtain ⟨la,lc,rfl⟩:=ownsRow_slice hrow;have HCM:=Hh (cames_of_row hrow);clear hrow;obtain ⟨hc3,hf3⟩:=bcell hb3;have hz3:=hb3.size;(try simp at hz3));obtain ⟨W0,hW0⟩:∃ W0,W0=w3.alloc (.cells #[.int .i64 b.room,.int .i64 b.gap,.slice ma b.ms.length mc,.slice sa b.ss.length sc,.slice ra b.rs.length rc] 78):=⟨_,rfl⟩;rw [<- hW0];have hb0:Below w.heap.size w W0:=by rw [hW0];(exact bel)
 have s0:W0.cell? ⟨w.heap.size+1,0,none⟩=some (.int .i64 sn):=by rw [hW0,World.cell?_alloc_past _ _ _ (by omega),hc3 _ _ (by simp),alloc1_cell (by simp)]
 have hsz0:w.heap.size+1 < W0.heap.size:=by rw [hW0];simp;omega
 have HCM0:=Hh (HCM.out.below (w':=W0) (by rw [hW0];(exact bel)));clear hW0 hc3 hf3 hb3 hz3;go_loopw [9,24] (fun v i wr=>∃ (k:Nat) (a:Option Addr) (c:Nat),k<=(pasts b).length/\i=.int .i64 k/\v=.slice a k c/\wr.ownsRow W0.heap.size 3 1 (.slice a k c) k ((nthI sn ((pasts b).take k)).map (Value.int .i64))/\Below W0.heap.size W0 wr) (fun _ i _=>(pasts b).length - (intOf i).toNat)
 case atStart=>exact ⟨0,none,0,Nat.zero_le _,rfl,rfl,by simpa [nthI] using World.ownsRow_nil _ _ _ _,Below.refl _ _⟩
 case round =>
  obtain ⟨k,a,c,hk,rfl,rfl,hrow,hW⟩:=hrel;have hWs:=hW.size;by_cases hlt:k < (pasts b).length
  ·obtain ⟨lb,lo,rfl,hlb,e0,e1,e2,e3⟩:=HCM0.out k hlt;have d0:=(hW.cell hlb).trans e0;have d1:=(hW.cell hlb).trans e1;have d2:=(hW.cell hlb).trans e2;have d3:=(hW.cell hlb).trans e3;have hlb2:lb < wr.heap.size:=Nat.lt_of_lt_of_le hlb hW.size;have s1:=(hW.cell (p:=⟨w.heap.size+1,0,none⟩) hsz0).trans s0;obtain ⟨hcm,hc4,hcl⟩:=HPC.out _ (List.getElem_mem hlt);have htk:=List.take_succ_eq_append_getElem hlt;obtain ⟨x0,x1,x2,x3,hxp⟩:=four hc4;have hnth:nthI sn ((pasts b).take (k+1))=nthI sn ((pasts b).take k) ++ [[x0,x1,x2,x3].getD sn 0]:=by
    unfold nthI;rw [htk,List.map_append,List.map_cons,List.map_nil,hxp]
   rw [hxp] at d0 d1 d2 d3;simp only [List.getD_cons_zero,List.getD_cons_succ] at d0 d1 d2 d3;have HROW:=Hh hrow;have HNTH:=Hh hnth;clear e0 e1 e2 e3 hcm hc4 hcl htk hxp hrow hnth;have hsz1:w.heap.size+1 < wr.heap.size:=by omega
   obtain ⟨xs,hxs,hget⟩:∃ xs:Int,[x0,x1,x2,x3].getD sn 0=xs/\∀ h,[Value.int .i64 x0,Value.int .i64 x1,Value.int .i64 x2,Value.int .i64 x3][sn]'h=.int .i64 xs:=by
    rcases (show sn=0\/sn=1\/sn=2\/sn=3 by omega) with rfl | rfl | rfl | rfl <;> exact ⟨_,rfl,fun _=>rfl⟩
   have HXS:=Hh hxs;clear hxs;go_wp2_with (at_builtin;go_loud (refine wpl_append1 rfl _ _ 27 rfl W0.heap.size 3 Tryz.underlying27 intInfo rfl (by omega) (.slice a k c) k _ rfl (HROW.out.alloc _) (by simp;omega) (by omega) _ (n:=wr.heap.size+1) (by simp) rfl (by simp [Value.oneCell']) ?_;intro g cap w2 hown2 hb2));have hown3:w2.ownsRow W0.heap.size 3 1 (.slice (some ⟨g,0,none⟩) (k+1) cap) (k+1) ((nthI sn ((pasts b).take (k+1))).map (Value.int .i64)):=by
    rw [HNTH.out,List.map_append,HXS.out];exact hown2
   have HOWN:=Hh hown3;clear hown2 hown3;go_roundw
   case rel=>exact ⟨k+1,_,_,by omega,by go_num,rfl,HOWN.out,(hW.alloc hWs _).trans hb2⟩
   case measure=>simp [intOf];omega
  ·obtain rfl:k=(pasts b).length:=by omega
   rw [List.take_length] at hrow;have HROW:=Hh hrow;have hnl:(pasts b).length=(nthI sn (pasts b)).length:=by simp [nthI]
   have hnl2:(pasts b).length=(sortI (nthI sn (pasts b))).length:=by rw [sortI_length,hnl]
   have HNL:=Hh hnl;have HNL2:=Hh hnl2;clear hrow hnl hnl2;go_wp2_with (first
    | (go_at_call 61;(with_reducible refine (sort_at HNL.out hWs HROW.out (by rw [<- HNL.out];omega)).mono ?_);rintro e w4 ⟨rfl,hr4,hb4⟩;have HR4:=Hh hr4;clear hr4;have hs4:=hb4.size)
    | (go_at_call 62;(with_reducible refine (compact_at HNL2.out (Nat.le_trans hWs hs4) HR4.out (by rw [<- HNL2.out];omega)).mono ?_);rintro e w5 ⟨rfl,hi5,hb5⟩;have HI5:=Hh hi5;clear hi5))
   have hth:throughI b (sn:Int)=Lib.compact (sortI (nthI sn (pasts b))):=by
    unfold throughI nthI;congr 2;exact List.map_congr_left fun x _=>(pad_getD).symm
   exact bodyPost_ret (v:=.tuple #[.slice a (Lib.compact (sortI (nthI sn (pasts b)))).length c,.int .i64 0]) (by simp [results,Tryz.results20,go_sem, *]) rfl ⟨a,c,by rw [hth],by rw [hth];exact HI5.out,Below.next hb0 ((hW.trans hb4).trans hb5)⟩
end
section
variable {b:Bk} {vr vg vm vs vc:Value} {w:World}
theorem histories_at (hB:BookAt w b vr vg vm vs vc) (hN:∀ m∈b.ms,m.name.size<=1000000) (hK:KindsAt w) :
 Calls Tryz.prog 19 #[.agg #[vr,vg,vm,vs,vc]] w fun e w'=>e=.returned (.tuple #[.int .i64 (if bookAl b=0 then ((pasts b).length:Nat) else 0),.int .i64 (bookAl b)])/\Below w.heap.size w w':=by
 have HB:=Hh hB;have HN:=Hh hN;have HK:=Hh hK;obtain ⟨rfl,rfl,⟨ma,mc,rfl,_,_⟩,⟨sa,sc,rfl,_,_⟩,ra,rc,rfl,_,_⟩:=id hB;clear hB hN hK;by_cases hk:bookAl b=0
 ·have H0:=Hh hk;rw [hk,if_pos rfl];clear hk
  go_enter Tryz.func19,Tryz.ntmps19
  go_wp2_with (first
   | (go_at_call 58;(with_reducible refine (checkBook_at (HB.out.below (bel)) HN.out (HK.out.below (bel)) H0.out).mono ?_);rintro e w1 ⟨rfl,hb1⟩;obtain ⟨hc1,hf1⟩:=bcell hb1;have hz1:w.heap.size < w1.heap.size:=(by have:=hb1.size;simp at this;omega))
   | (go_at_call 59;(with_reducible refine (all_at2 (HB.out.below (bel)) (HK.out.below (bel)) H0.out).mono ?_);rintro e w3 ⟨l',rfl,hrow,hb3⟩;obtain ⟨la,lc,rfl⟩:=ownsRow_slice hrow;have HROW:=Hh hrow;clear hrow))
  exact bodyPost_ret (v:=.tuple #[.int .i64 ((pasts b).length:Nat),.int .i64 0]) (by simp [results,Tryz.results19,go_sem, *]) rfl ⟨rfl,bel⟩
 ·rw [if_neg hk];generalize ht:bookAl b=t at hk;have H0:=Hh ht;have hz3:(t != 0)=true:=by simpa using hk
  clear ht
  go_enter Tryz.func19,Tryz.ntmps19
  go_wp2_with (go_at_call 58;(with_reducible refine (checkBook_at (HB.out.below (bel)) HN.out (HK.out.below (bel)) H0.out).mono ?_);rintro e w1 ⟨rfl,hb1⟩;obtain ⟨hc1,hf1⟩:=bcell hb1;have hz1:w.heap.size < w1.heap.size:=(by have:=hb1.size;simp at this;omega));exact bodyPost_ret (v:=.tuple #[.int .i64 0,.int .i64 t]) (by simp [results,Tryz.results19,go_sem, *]) rfl ⟨rfl,bel⟩
end
def partsOf (i:Nat) (n:Nat):List Prt:=(List.range n).map fun (g:Nat)=>((i:Int),(g:Int))
def partsTo (b:Bk) (k:Nat):List Prt:=(List.range k).flatMap fun i=>partsOf i ((b.ms[i]?).elim 0 Msg.groups).toNat
def partsL (b:Bk):List Prt:=partsTo b b.ms.length
theorem partsOf_succ (i n:Nat):partsOf i (n+1)=partsOf i n ++ [((i:Int),(n:Int))]:=by unfold partsOf;rw [List.range_succ,List.map_append];rfl
theorem partsTo_succ (b:Bk) (k:Nat):partsTo b (k+1)=partsTo b k ++ partsOf k ((b.ms[k]?).elim 0 Msg.groups).toNat:=by unfold partsTo;rw [List.range_succ,List.flatMap_append];simp
theorem partsTo_prefix (b:Bk):∀ (n k:Nat) (_:k<=n),∃ suf,partsTo b n=partsTo b k ++ suf
 | 0,k,h=>by obtain rfl:k=0:=by omega
             exact ⟨[],by simp⟩
 | n+1,k,h=>by
  by_cases hk:k=n+1
  ·subst hk;exact ⟨[],by simp⟩
  ·obtain ⟨suf,hs⟩:=partsTo_prefix b n k (by omega);exact ⟨suf ++ partsOf n ((b.ms[n]?).elim 0 Msg.groups).toNat,by rw [partsTo_succ,hs,List.append_assoc]⟩
theorem partsOf_prefix (i:Nat):∀ (n g:Nat) (_:g<=n),∃ suf,partsOf i n=partsOf i g ++ suf
 | 0,g,h=>by obtain rfl:g=0:=by omega
             exact ⟨[],by simp⟩
 | n+1,g,h=>by
  by_cases hk:g=n+1
  ·subst hk;exact ⟨[],by simp⟩
  ·obtain ⟨suf,hs⟩:=partsOf_prefix i n g (by omega);exact ⟨suf ++ [((i:Int),(n:Int))],by rw [partsOf_succ,hs,List.append_assoc]⟩
theorem parts_next (b:Bk) {k g:Nat} (hk:k < b.ms.length) (hg:g < ((b.ms[k]?).elim 0 Msg.groups).toNat):∃ suf,partsL b=(partsTo b k ++ partsOf k g) ++ ((k:Int),(g:Int))::suf:=by
 obtain ⟨s1,h1⟩:=partsTo_prefix b b.ms.length (k+1) (by omega);obtain ⟨s2,h2⟩:=partsOf_prefix k _ (g+1) hg;exact ⟨s2 ++ s1,by unfold partsL;rw [h1,partsTo_succ,h2,partsOf_succ];simp⟩
def encP (p:Prt) (args:Array Value) (_:World):Prop:=args=#[.agg #[.int .i64 p.1,.int .i64 p.2]]
section
variable {b:Bk} {vr vg vm vs vc:Value}
theorem parts_iter {w0 W:World} (hB:BookAt w0 b vr vg vm vs vc) (hG:∀ m∈b.ms,0<=m.groups/\m.groups<=1000) (hW:Below w0.heap.size w0 W) {p:Nat->Prop} (hp0:∀ k,k < w0.heap.size->p k) :
 Iter Tryz.prog 81 (.agg #[vr,vg,vm,vs,vc]) encP (partsL b) (fun _=>False) p W:=by
 intro l J Jx hJ hJx hY h0;have HJ:=Hh (fun pre A B h k=>hJ pre A B h (KS.mono k fun _ _ _=>trivial:KS (fun k=>¬ False) A B));have HY:=Hh hY;have H0:=Hh h0;have HW:=Hh hW;have HG:=Hh hG;have HP0:=Hh hp0;have HB:=Hh hB;obtain ⟨rfl,rfl,⟨ma,mc,rfl,hms,hml⟩,⟨sa,sc,rfl,_,_⟩,ra,rc,rfl,_,_⟩:=id hB;have HM:=Hh hms;clear hms hB hJ hJx hY h0 hW hG hp0
 (refine callsIn_of_wp Tryz.func81 rfl trivial ?_ rfl;simp only [Tryz.ntmps81,List.size_toArray,List.length_cons,List.length_nil,Nat.reduceAdd,Nat.reduceSub,Array.replicate_succ,Array.replicate_zero,List.push_toArray,List.append_toArray,List.nil_append,List.cons_append])
 gi_wp2
 have hks0:KS (fun _=>True) W (W.alloc (.cells #[.int .i64 b.room,.int .i64 b.gap,.slice ma b.ms.length mc,.slice sa b.ss.length sc,.slice ra b.rs.length rc] 78)):=KS.alloc _ _ _
 gi_loopw [11] (fun i wr=>∃ k:Nat,k<=b.ms.length/\i=.int .i64 k/\J (partsTo b k) wr/\Below w0.heap.size w0 wr) (fun i _=>b.ms.length - (intOf i).toNat)
 case atStart=>exact ⟨0,Nat.zero_le _,rfl,HJ.out _ _ _ H0.out hks0,by have:=HW.out;(exact bel)⟩
 case round =>
  obtain ⟨k,hk,rfl,hj,hb⟩:=hrel;have HJ0:=Hh hj;clear hj;by_cases hlt:k < b.ms.length
  ·obtain ⟨mb,mo,rfl,hmb,e0,e1,e2⟩:=HM.out k hlt;have d0:=(hb.cell hmb).trans e0;have d1:=(hb.cell hmb).trans e1;have d2:=(hb.cell hmb).trans e2;have hmb2:mb < wr.heap.size:=Nat.lt_of_lt_of_le hmb hb.size;have hgs:=HG.out _ (List.getElem_mem hlt);have hgn:((b.ms[k]?).elim 0 Msg.groups)=b.ms[k].groups:=by rw [List.getElem?_eq_getElem hlt];rfl
   generalize hx:b.ms[k]=x at d0 d1 d2 hgs hgn;obtain ⟨n,hn⟩:∃ n:Nat,x.groups=n:=⟨x.groups.toNat,by omega⟩;rw [hn] at d1 hgn;have HGN:=Hh hgn;have hn1:n<=1000:=by omega
   clear e0 e1 e2 hgs hx hgn hn
   gi_wp2
   have hks1:KS (fun _=>True) wr (wr.alloc (.cells #[.string x.name,.int .i64 n,.int .i64 x.due] 48)):=KS.alloc _ _ _
   gi_loopw [18] (fun i wr=>∃ g:Nat,g<=n/\i=.int .i64 g/\J (partsTo b k ++ partsOf k g) wr/\Below w0.heap.size w0 wr) (fun i _=>n - (intOf i).toNat)
   case atStart=>exact ⟨0,Nat.zero_le _,rfl,by simpa [partsOf] using HJ.out _ _ _ HJ0.out hks1,bel⟩
   case round =>
    obtain ⟨g,hg,rfl,hj2,hb2⟩:=hrel;have HJ2:=Hh hj2;clear hj2;by_cases hlt2:g < n
    ·obtain ⟨fn,tmps,assign,body,hy,hR⟩:=HY.out (partsTo b k ++ partsOf k g) ((k:Int),(g:Int)) _ wr (parts_next b hlt (by rw [HGN.out];simpa using hlt2)) rfl HJ2.out;have HR:=Hh hR;clear hR
     gi_wp2
     refine HR.out.mono ?_;rintro e B (⟨rfl,hj',hk'⟩ | ⟨rfl,hjx⟩)
     ·have hj3:J (partsTo b k ++ partsOf k (g+1)) B:=by rw [partsOf_succ,<- List.append_assoc];exact hj'
      have HJ3:=Hh hj3;have hb3:Below w0.heap.size w0 B:=⟨hk'.os.trans hb2.os,hk'.tape.trans hb2.tape,hk'.output.trans hb2.output,Nat.le_trans hb2.size hk'.size,fun j hj=>(hk'.block j (Nat.lt_of_lt_of_le hj hb2.size) (HP0.out j hj)).trans (hb2.block j hj)⟩;clear hj3 hj' hk'
      gi_wp2
      go_roundw
      case rel=>exact ⟨g+1,by omega,by go_num,HJ3.out,hb3⟩
      case measure=>simp [intOf];omega
     ·have HJX:=Hh hjx;clear hjx
      gi_wp2
      exact bodyPost_ret (v:=.tuple #[]) (by simp [results,Tryz.results81,go_sem]) rfl ⟨⟨_,rfl⟩,.inr ⟨_,HJX.out⟩⟩
    ·obtain rfl:g=n:=by omega
     have hj3:J (partsTo b (k+1)) wr:=by rw [partsTo_succ,HGN.out];exact HJ2.out
     have HJ3:=Hh hj3;clear hj3
     gi_wp2
     go_roundw
     case rel=>exact ⟨k+1,by omega,by go_num,HJ3.out,hb2⟩
     case measure=>simp [intOf];omega
  ·obtain rfl:k=b.ms.length:=by omega
   gi_wp2
   go_end0
   exact ⟨⟨_,rfl⟩,.inl HJ0.out⟩
end
attribute [local go_sem] Oper.semAt_some
theorem parts_isPart {b:Bk} {x:Prt} (h:x∈partsL b):isPart b x=true:=by
 unfold partsL partsTo at h;obtain ⟨i,hi,h⟩:=List.mem_flatMap.1 h;unfold partsOf at h;obtain ⟨g,hg,rfl⟩:=List.mem_map.1 h;rw [List.mem_range] at hi hg;clear h;unfold isPart inB;simp only [Int.toNat_natCast];simp only [Bool.and_eq_true,decide_eq_true_eq];generalize hn:(b.ms[i]?).elim 0 Msg.groups=n at hg;omega
theorem parts_bd {b:Bk} (hO:BkOk b):(partsL b).length<=5000:=by
 unfold partsL partsTo;rw [List.length_flatMap];have h:=sum_map_le (fun i=>(partsOf i ((b.ms[i]?).elim 0 Msg.groups).toNat).length) 1000 (List.range b.ms.length) fun i hi=>by
  unfold partsOf;rw [List.length_map,List.length_range]
  cases hm:b.ms[i]? with
  | none=>simp
  | some m =>
   have:=(hO.groups m (List.mem_of_getElem? hm)).2;simp only [Option.elim];omega
 rw [List.length_range] at h;have:=hO.ml;omega
theorem partInfo:(Tryz.prog.info? 75).map (fun i=>(i.zero,i.size,i.bytes))=some (some (.agg #[.int .i64 0,.int .i64 0]),2,16):=by kernel_rfl
def cellsQ (p:Prt):List Value:=[.int .i64 p.1,.int .i64 p.2]
def isMiss (b:Bk) (l:List (List Int)) (p:Prt):Bool:=decide (countI (oftenI b l p) 1 < (l.length:Int))
def missL (b:Bk) (l:List (List Int)) (pre:List Prt):List Prt:=pre.filter (isMiss b l)
theorem calls_round {P:Program} {f:FuncId} {args:Array Value} {w:World} {R:Ending->World->Prop} {l n:Nat} (h:Calls P f args w R):CallsIn (Fence.wide.inRound l) n P f args w R:=(callsIn_wide (n:=n)).2 h
section
variable {b:Bk} {vr vg vm vs vc:Value}
structure MisJ (w:World) (b:Bk) (vr vg vm vs vc:Value) (la:Option Addr) (lc:Nat) (l:List (List Int)) (pre:List Prt) (A:World):Prop where
 five:Five A w.heap.size vr vg vm vs vc
 c:A.cell? ⟨w.heap.size+1,0,none⟩=some (.slice la l.length lc)
 out:∃ v,A.cell? ⟨w.heap.size+2,0,none⟩=some v/\A.frozen? ⟨w.heap.size+2,0,none⟩=false/\A.ownsRow (w.heap.size+5) 75 2 v (missL b l pre).length ((missL b l pre).flatMap cellsQ)
 base:Below w.heap.size w A
 lt:w.heap.size+4 < A.heap.size
theorem MisJ.keep {w A B:World} {la:Option Addr} {lc:Nat} {l:List (List Int)} {pre:List Prt} (h:MisJ w b vr vg vm vs vc la lc l pre A) {p:Nat->Prop} (hk:KS p A B) (hp:∀ k,k<=w.heap.size+2\/w.heap.size+5<=k->p k):MisJ w b vr vg vm vs vc la lc l pre B:=by
 obtain ⟨h1,h2,⟨v,h3,h4,h5⟩,h6,h7⟩:=h;have e:∀ o,B.cell? ⟨w.heap.size,o,none⟩=A.cell? ⟨w.heap.size,o,none⟩:=fun o=>hk.cell (x:=⟨w.heap.size,o,none⟩) (by simp;omega) (hp _ (.inl (by simp)));refine ⟨⟨(e 0).trans h1.c0,(e 1).trans h1.c1,(e 2).trans h1.c2,(e 3).trans h1.c3,(e 4).trans h1.c4,Nat.lt_of_lt_of_le h1.lt hk.size⟩,(hk.cell (x:=⟨w.heap.size+1,0,none⟩) (by simp;omega) (hp _ (.inl (by simp)))).trans h2,
  ⟨v,(hk.cell (x:=⟨w.heap.size+2,0,none⟩) (by simp;omega) (hp _ (.inl (by simp)))).trans h3,(hk.frozen (x:=⟨w.heap.size+2,0,none⟩) (by simp;omega) (hp _ (.inl (by simp)))).trans h4,ownsRow_ks h5 hk fun k hk=>hp k (.inr hk)⟩,
  ⟨hk.os.trans h6.os,hk.tape.trans h6.tape,hk.output.trans h6.output,Nat.le_trans h6.size hk.size,fun k hkk=>(hk.block k (Nat.lt_of_lt_of_le hkk h6.size) (hp k (.inl (by omega)))).trans (h6.block k hkk)⟩,Nat.lt_of_lt_of_le h7 hk.size⟩
def MisMid (w:World) (b:Bk) (vr vg vm vs vc:Value) (la:Option Addr) (lc:Nat) (l:List (List Int)) (pre:List Prt) (x:Prt) (a:Act) (A:World):Prop :=
 ∃ B,w.heap.size+5<=B/\B < A.heap.size/\A.cell? ⟨B,0,none⟩=some (.int .i64 x.1)/\A.cell? ⟨B,1,none⟩=some (.int .i64 x.2) /\
  a={ tmps:=#[.agg #[vr,vg,vm,vs,vc],.slice la l.length lc,.pointer (some ⟨w.heap.size,0,none⟩),.pointer (some ⟨w.heap.size+1,0,none⟩),.slice none 0 0,.pointer (some ⟨w.heap.size+2,0,none⟩),.pointer (some ⟨B,0,none⟩),.agg #[vr,vg,vm,vs,vc],.func (.func 81) #[.agg #[vr,vg,vm,vs,vc]] #[],.agg #[.int .i64 x.1,.int .i64 x.2],U,U,U,U,U,U,U,U,U,U,U,U,U],defers:=[] }/\MisJ w b vr vg vm vs vc la lc l pre A
def MisOut (w:World) (b:Bk) (l:List (List Int)) (e:Ending) (w':World):Prop:=∃ v,e=.returned v/\w'.ownsRow (w.heap.size+5) 75 2 v (missL b l (partsL b)).length ((missL b l (partsL b)).flatMap cellsQ)/\Below w.heap.size w w'
theorem missing_at {w:World} (hB:BookAt w b vr vg vm vs vc) (hO:BkOk b) {la:Option Addr} {lc:Nat} {l:List (List Int)} (hL:CamesAt w la l) (hl:∀ x∈l,Came b (pad x)/\(pad x).length=4/\x.length=b.ss.length) (hll:l.length<=2000) :
 Calls Tryz.prog 50 #[.agg #[vr,vg,vm,vs,vc],.slice la l.length lc] w (MisOut w b l):=by
 refine (callsIn_wide (n:=0)).1 (callsIn_of_wp_marks Tryz.func50 rfl trivial (wpIn_wide.2 ?_) rfl);have HB:=Hh hB;have HO:=Hh hO;have HL:=Hh hL;have HLL:=Hh hl;obtain ⟨rfl,rfl,⟨ma,mc,rfl,_,_⟩,⟨sa,sc,rfl,_,_⟩,ra,rc,rfl,_,_⟩:=id hB;clear hB hO hL hl;simp only [Tryz.ntmps50,List.size_toArray,List.length_cons,List.length_nil,Nat.reduceAdd,Nat.reduceSub,Array.replicate_succ,Array.replicate_zero,List.push_toArray,List.append_toArray,List.nil_append,List.cons_append];go_wp2;obtain ⟨W1,hW1⟩:∃ W1,W1=((w.alloc (.cells #[.int .i64 b.room,.int .i64 b.gap,.slice ma b.ms.length mc,.slice sa b.ss.length sc,.slice ra b.rs.length rc] 78)).alloc (.cells #[.slice la l.length lc] 79)).alloc (.cells #[.slice none 0 0] 38):=⟨_,rfl⟩;rw [<- hW1];have hb1:Below w.heap.size w W1:=by rw [hW1];(exact bel)
 have hs1:W1.heap.size=w.heap.size+1+1+1:=by rw [hW1];simp
 have hj1:∀ W,Below W1.heap.size W1 W->W.heap.size=W1.heap.size+1+1->MisJ w b (.int .i64 b.room) (.int .i64 b.gap) (.slice ma b.ms.length mc) (.slice sa b.ss.length sc) (.slice ra b.rs.length rc) la lc l [] W:=by
  intro W hW hsz;have five:=((Five.new w (.int .i64 b.room) (.int .i64 b.gap) (.slice ma b.ms.length mc) (.slice sa b.ss.length sc) (.slice ra b.rs.length rc) 78).below ((bal _ (.cells #[.slice la l.length lc] 79)).alloc (by simp) (.cells #[.slice none 0 0] 38)) (by simp));rw [<- hW1] at five;refine ⟨five.below hW five.lt,?_,⟨.slice none 0 0,?_,?_,by simpa [missL] using World.ownsRow_nil _ _ _ _⟩,Below.next hb1 hW,by omega⟩
  ·refine (hW.cell (p:=⟨w.heap.size+1,0,none⟩) (by simp;omega)).trans ?_;rw [hW1,World.cell?_alloc_past _ _ _ (by simp),alloc1_cell (by simp)]
  ·refine (hW.cell (p:=⟨w.heap.size+2,0,none⟩) (by simp;omega)).trans ?_;rw [hW1,alloc1_cell (by simp)]
  ·refine (hW.frozen (p:=⟨w.heap.size+2,0,none⟩) (by simp;omega)).trans ?_;rw [hW1,World.frozen?_alloc_at _ _ _ _ (by simp)]
 have HJ1:=Hh hj1;clear hj1 hW1;have e3:W1.heap.size+1=w.heap.size+4:=by omega
 refine wpIn_wide.1 (wpIn_range (gf:=81) (recv:=.agg #[.int .i64 b.room,.int .i64 b.gap,.slice ma b.ms.length mc,.slice sa b.ss.length sc,.slice ra b.rs.length rc]) rfl (enters_of Tryz.func81 (by kernel_rfl) rfl)
  encP (fun x args W h=>by rw [h];rfl) (partsL b) (fun _=>False) (fun k=>k < w.heap.size) ⟨fun h=>h,fun h=>h⟩ (by omega)
  (fun W hW hsz=>?seq) (MisJ w b (.int .i64 b.room) (.int .i64 b.gap) (.slice ma b.ms.length mc) (.slice sa b.ss.length sc) (.slice ra b.rs.length rc) la lc l) (fun _ _=>False) ?hJ ?hJx ?h0 (MisMid w b (.int .i64 b.room) (.int .i64 b.gap) (.slice ma b.ms.length mc) (.slice sa b.ss.length sc) (.slice ra b.rs.length rc) la lc l) ?hMid ?assign ?body ?done ?stop)
 case seq=>exact parts_iter HB.out HO.out.groups (Below.next hb1 hW) (fun k hk=>hk)
 case hJ=>exact fun pre A B h hk=>h.keep hk fun k hk h=>h.elim id fun h=>by omega
 case hJx=>exact fun _ _ _ h _=>h
 case h0=>exact fun W hW hsz=>HJ1.out W hW hsz
 case hMid =>
  rintro pre x a₁ A B ⟨Bx,h1,h2,c0,c1,ha,hj⟩ hk hsz;exact ⟨Bx,h1,by omega,(hk.cell h2 (by simp;omega)).trans c0,(hk.cell h2 (by simp;omega)).trans c1,ha,hj.keep hk (by omega)⟩
 case assign =>
  rintro pre x args A hx rfl hj hlt;have HJ:=Hh hj;clear hj hx;rw [one_param];show Code.wpIn _ _ _ _ _ { tmps:=#[.agg #[.int .i64 b.room,.int .i64 b.gap,.slice ma b.ms.length mc,.slice sa b.ss.length sc,.slice ra b.rs.length rc],.slice la l.length lc,.pointer (some ⟨w.heap.size,0,none⟩),.pointer (some ⟨w.heap.size+1,0,none⟩),.slice none 0 0,.pointer (some ⟨w.heap.size+1+1,0,none⟩),U,.agg #[.int .i64 b.room,.int .i64 b.gap,.slice ma b.ms.length mc,.slice sa b.ss.length sc,.slice ra b.rs.length rc],.func (.func 81) #[.agg #[.int .i64 b.room,.int .i64 b.gap,.slice ma b.ms.length mc,.slice sa b.ss.length sc,.slice ra b.rs.length rc]] #[],.agg #[.int .i64 x.1,.int .i64 x.2],U,U,U,U,U,U,U,U,U,U,U,U,U],defers:=[] } _
  gi_wp2
  refine ⟨(KS.alloc _ _ _),A.heap.size,by omega,by simp,?_,?_,rfl,HJ.out.keep (KS.alloc (fun _=>True) _ _) (fun _ _=>trivial)⟩
  ·rw [World.cell?_alloc_at _ _ _ _ rfl];rfl
  ·rw [World.cell?_alloc_at _ _ _ _ rfl];rfl
 case body =>
  rintro pre x a₁ A hx ⟨Bx,h1,h2,c0,c1,rfl,hj⟩ hlt;have hlen:pre.length < 5000:=by
   obtain ⟨suf,hx⟩:=hx;have:=parts_bd HO.out;rw [hx] at this;simp at this;omega
  have hpx:isPart b x=true:=parts_isPart (by obtain ⟨suf,hx⟩:=hx;rw [hx];simp);obtain ⟨f0,f1,f2,f3,f4,f5⟩:=hj.five;have fc:=hj.c;have hbel:=hj.base;have HBA:=Hh (HB.out.below hbel);have HLA:=Hh (HL.out.below hbel);have HPX:=Hh hpx;have HJ:=Hh hj;clear hj hpx hx;obtain ⟨x1,x2⟩:=x;simp only at c0 c1;have hA1:w.heap.size+1 < A.heap.size:=by omega
  have hA2:w.heap.size+2 < A.heap.size:=by omega
  gi_wp2
  refine wpIn_mono (Q:=fun e a' w'=>e=.normal/\Below A.heap.size A w'/\∃ u10 u11 u12 u13 u14 u15 u16,a'={ tmps:=#[.agg #[.int .i64 b.room,.int .i64 b.gap,.slice ma b.ms.length mc,.slice sa b.ss.length sc,.slice ra b.rs.length rc],.slice la l.length lc,.pointer (some ⟨w.heap.size,0,none⟩),.pointer (some ⟨w.heap.size+1,0,none⟩),.slice none 0 0,.pointer (some ⟨w.heap.size+2,0,none⟩),.pointer (some ⟨Bx,0,none⟩),.agg #[.int .i64 b.room,.int .i64 b.gap,.slice ma b.ms.length mc,.slice sa b.ss.length sc,.slice ra b.rs.length rc],.func (.func 81) #[.agg #[.int .i64 b.room,.int .i64 b.gap,.slice ma b.ms.length mc,.slice sa b.ss.length sc,.slice ra b.rs.length rc]] #[],.agg #[.int .i64 x1,.int .i64 x2],u10,u11,u12,u13,u14,u15,u16,.bool (decide (countI (oftenI b l (x1,x2)) 1 < (l.length:Int))),U,U,U,U,U],defers:=[] }) ?_ ?_
  ·gi_region_with (first
    | (gi_at_call 66;(with_reducible refine (calls_round (often_at (p:=(x1,x2)) (HBA.out.below (bel)) HO.out (HLA.out.below (bel)) HLL.out hll HPX.out)).mono ?_);rintro e w4 ⟨ia,ic,rfl,hir,hb4⟩;have HIR:=Hh hir;obtain ⟨hc4,hf4⟩:=bcell hb4;have hz4:=hb4.size;(try simp at hz4);have fc4:w4.cell? ⟨w.heap.size+1,0,none⟩=some (.slice la l.length lc):=(hb4.cell (p:=⟨w.heap.size+1,0,none⟩) (by simp;omega)).trans fc;clear hir)
    | (gi_at_call 65;(with_reducible refine (calls_round (count_at 1 (ints_of_row HIR.out) (by simp [oftenI];omega) rfl)).mono ?_);rintro e w5 ⟨rfl,rfl⟩))
   all_goals exact ⟨rfl,bel,_,_,_,_,_,_,_,rfl⟩
  rintro e a' w4 ⟨rfl,hb4,u10,u11,u12,u13,u14,u15,u16,rfl⟩;have hJ4:=HJ.out.keep (KS.all hb4 (fun _=>True)) (fun _ _=>trivial);have d0:=(hb4.cell (p:=⟨Bx,0,none⟩) h2).trans c0;have d1:=(hb4.cell (p:=⟨Bx,1,none⟩) h2).trans c1;clear f0 f1 f2 f3 f4 f5 fc c0 c1;have hB2:Bx < w4.heap.size:=Nat.lt_of_lt_of_le h2 hb4.size;obtain ⟨v,o1,o2,hrow⟩:=hJ4.out;have HJ4:=Hh hJ4;have HROW:=Hh hrow;have hlt4:=hJ4.lt;have hbel4:=hJ4.base;have hmb:(missL b l pre).length < 5000:=Nat.lt_of_le_of_lt (List.length_filter_le _ _) hlen;clear hJ4 hrow;by_cases hm:countI (oftenI b l (x1,x2)) 1 < (l.length:Int)
  ·have hd:decide (countI (oftenI b l (x1,x2)) 1 < (l.length:Int))=true:=decide_eq_true hm;have hml:missL b l (pre ++ [(x1,x2)])=missL b l pre ++ [(x1,x2)]:=by
    unfold missL;rw [List.filter_append,List.filter_cons,if_pos (show isMiss b l (x1,x2)=true from hd),List.filter_nil]
   have HML:=Hh hml;rw [hd];obtain ⟨i0,hi,hz0,hz1,hz2⟩:=info_parts partInfo;clear hd hml hm
   gi_wp2_with (gi_at_builtin;go_loud (refine wpListIn_append_own _ rfl _ _ 38 rfl (w.heap.size+5) 75 i0 (.agg #[.int .i64 0,.int .i64 0]) 2 16 Tryz.underlying38 hi hz0 hz1 hz2 rfl (by decide) _ _ _ rfl (ownsRow_ks HROW.out (KS.alloc (fun _=>True) _ _) (fun _ _=>trivial)) ⟨w4.heap.size,0,none⟩ 1 1 [.int .i64 x1,.int .i64 x2] rfl rfl (cells_new _ _ _) (by simp [Value.oneCell']) (by unfold maxLen;omega) (by omega) (by simp;omega) ?_;intro v' w1 hown' hgrow _;obtain ⟨g',cap',rfl⟩:=ownsRow_succ hown';have hks:=grow_ks (ownsRow_ks HROW.out (KS.alloc (fun _=>True) w4 _) (fun _ _=>trivial)) hgrow;have q1:=(hks.cell (x:=⟨w.heap.size+2,0,none⟩) (by simp;omega) (by simp));have q2:=(hks.frozen (x:=⟨w.heap.size+2,0,none⟩) (by simp;omega) (by simp));rw [World.cell?_alloc_past _ _ _ (by omega),o1] at q1;rw [World.frozen?_alloc_past _ _ _ (by omega),o2] at q2))
   have hks3:KS (fun k=>k≠w.heap.size+2) w1 (w1.setCell ⟨w.heap.size+2,0,none⟩ (.slice (some ⟨g',0,none⟩) ((missL b l pre).length+1) cap')):=KS.setCell (by simp) _ _;have hks1:=KS.alloc (fun k=>k < w.heap.size+5) w4 (.cells #[.int .i64 x1,.int .i64 x2] 75);have hks4:KS (fun k=>k < w.heap.size+5/\k≠w.heap.size+2) w4 (w1.setCell ⟨w.heap.size+2,0,none⟩ (.slice (some ⟨g',0,none⟩) ((missL b l pre).length+1) cap')):=((hks1.trans hks).mono fun k _ h=>h.1).trans (hks3.mono fun k _ h=>h.2);have hks5:=(KS.all hb4 (fun k=>k < w.heap.size+5/\k≠w.heap.size+2)).trans hks4;refine ⟨hks5.mono fun k _ h=>by omega,?_⟩;have e:∀ o,(w1.setCell ⟨w.heap.size+2,0,none⟩ (.slice (some ⟨g',0,none⟩) ((missL b l pre).length+1) cap')).cell? ⟨w.heap.size,o,none⟩=A.cell? ⟨w.heap.size,o,none⟩:=fun o=>hks5.cell (x:=⟨w.heap.size,o,none⟩) (by simp;omega) (by simp);have h5:=HJ.out.five;refine ⟨⟨(e 0).trans h5.c0,(e 1).trans h5.c1,(e 2).trans h5.c2,(e 3).trans h5.c3,(e 4).trans h5.c4,Nat.lt_of_lt_of_le h5.lt hks5.size⟩,(hks5.cell (x:=⟨w.heap.size+1,0,none⟩) (by simp;omega) (by simp)).trans HJ.out.c,⟨_,World.cell?_setCell_same' _ _ _ (by rw [q1];rfl),by rw [World.frozen?_setCell];exact q2,?_⟩,?_,Nat.lt_of_lt_of_le hlt4 hks4.size⟩
   ·rw [HML.out,List.flatMap_append,List.length_append,List.flatMap_cons,List.flatMap_nil,List.append_nil];exact ownsRow_ks hown' hks3 (fun k hk=>by omega)
   ·exact ⟨hks4.os.trans hbel4.os,hks4.tape.trans hbel4.tape,hks4.output.trans hbel4.output,Nat.le_trans hbel4.size hks4.size,fun k hkk=>(hks4.block k (Nat.lt_of_lt_of_le hkk hbel4.size) ⟨by omega,by omega⟩).trans (hbel4.block k hkk)⟩
  ·have hd:decide (countI (oftenI b l (x1,x2)) 1 < (l.length:Int))=false:=decide_eq_false hm;have hml:missL b l (pre ++ [(x1,x2)])=missL b l pre:=by
    unfold missL;rw [List.filter_append,List.filter_cons,if_neg (by rw [show isMiss b l (x1,x2)=false from hd];simp),List.filter_nil,List.append_nil]
   have HML:=Hh hml;rw [hd];clear hd hml hm
   gi_wp2
   refine ⟨(KS.all hb4 _),?_⟩;have h:=HJ4.out;exact ⟨h.five,h.c,by rw [HML.out];exact h.out,h.base,h.lt⟩
 case done =>
  rintro W hj hd;obtain ⟨h1,h2,⟨v,o1,o2,hrow⟩,hbel,hlt⟩:=hj;clear h1 h2;go_wp2;refine ⟨by simp,.inl ⟨_,_,rfl,run_takeDeferred hd,?_⟩⟩;have hks:KS (fun k=>k≠W1.heap.size) W (W.putObj W1.heap.size (.deferred none)):=KS.putObj (by simp) _ _;exact ⟨_,results_tmp rfl _ _ _,⟨_,rfl,ownsRow_ks hrow hks (fun k hk=>by omega),⟨hks.os.trans hbel.os,hks.tape.trans hbel.tape,hks.output.trans hbel.output,Nat.le_trans hbel.size hks.size,fun k hkk=>(hks.block k (Nat.lt_of_lt_of_le hkk hbel.size) (by omega)).trans (hbel.block k hkk)⟩⟩⟩
 case stop=>exact fun _ _ h _=>h.elim
end
end Go.Proofs.YtgagoahfdnnpkaaGreatDoor
namespace Go.Proofs.YtgagoahfdnnpkaaGreatDoor
namespace Sp
def endAt (gap now:Int) (tapes:List Int) (k:Nat):Int:=now+((tapes.take k).map fun x=>gap+x).sum
def endsTo (gap now:Int) (tapes:List Int) (k:Nat):List Int:=(List.range k).map fun i=>endAt gap now tapes (i+1)
def endsI (gap now:Int) (tapes:List Int):List Int:=endsTo gap now tapes tapes.length
theorem endAt_zero (gap now:Int) (tapes:List Int):endAt gap now tapes 0=now:=by simp [endAt]
theorem endAt_succ (gap now:Int) (tapes:List Int) {k:Nat} (h:k < tapes.length):endAt gap now tapes (k+1)=endAt gap now tapes k+(gap+tapes[k]):=by
 unfold endAt;rw [List.take_succ_eq_append_getElem h,List.map_append,List.sum_append];simp;omega
theorem endsTo_succ (gap now:Int) (tapes:List Int) (k:Nat):endsTo gap now tapes (k+1)=endsTo gap now tapes k ++ [endAt gap now tapes (k+1)]:=by
 unfold endsTo;rw [List.range_succ,List.map_append];rfl
theorem endsTo_length (gap now:Int) (tapes:List Int) (k:Nat):(endsTo gap now tapes k).length=k:=by simp [endsTo]
theorem endsI_length (gap now:Int) (tapes:List Int):(endsI gap now tapes).length=tapes.length:=endsTo_length ..
theorem endAt_bd {gap now:Int} {tapes:List Int} (hg:0<=gap/\gap<=100) (hn:0<=now/\now<=1000) (ht:∀ x∈tapes,0<=x/\x<=100000):∀ k,k<=tapes.length->0<=endAt gap now tapes k/\endAt gap now tapes k<=1000+k * 100100
 | 0,_=>by rw [endAt_zero];omega
 | k+1,h=>by
  have ih:=endAt_bd hg hn ht k (by omega);rw [endAt_succ _ _ _ (by omega)];have:=ht _ (List.getElem_mem (show k < tapes.length by omega));omega
theorem endsI_bd {gap now:Int} {tapes:List Int} (hg:0<=gap/\gap<=100) (hn:0<=now/\now<=1000) (ht:∀ x∈tapes,0<=x/\x<=100000) (hl:tapes.length<=100):∀ x∈endsI gap now tapes,0<=x/\x<=20000000:=fun x hx=>by
 obtain ⟨i,hi,rfl⟩:=List.mem_map.1 hx;have:=List.mem_range.1 hi;have:=endAt_bd hg hn ht (i+1) (by omega);omega
def tapeStep (n:Int) (out:List Int) (k ld:Int):Option (List Int) :=
 if k < -1\/n<=k\/¬ (k=-1↔ld=0) then none
 else if k < 0 then some out
 else some ((out ++ List.replicate (k.toNat+1 - out.length) 0).set k.toNat ((out ++ List.replicate (k.toNat+1 - out.length) 0).getD k.toNat 0+ld))
def tapesGo (n:Int) (out:List Int):List (Int × Int)->Option (List Int)
 | []=>some out
 | (k,ld)::l=>(tapeStep n out k ld).bind fun o=>tapesGo n o l
def tapesI (loads plan:List Int):Option (List Int):=tapesGo plan.length [] (plan.zip loads)
def planOk (loads plan:List Int):Option (List Int):=(tapesI loads plan).bind fun o=>if 0∈o then none else some o
theorem tapeStep_bd {n:Int} {out o:List Int} {k ld:Int} (h:tapeStep n out k ld=some o) {m:Int} (hn:n<=100) (hm:0<=m) (hl:0<=ld/\ld<=1000) (ho:∀ x∈out,0<=x/\x<=m) (hlen:out.length<=100) :
 (∀ x∈o,0<=x/\x<=m+1000)/\o.length<=100:=by
 unfold tapeStep at h;split at h
 ·cases h
 ·rename_i hk
  split at h
  ·cases h;exact ⟨fun x hx=>by have:=ho x hx;omega,hlen⟩
  ·cases h;have h1:∀ x∈out ++ List.replicate (k.toNat+1 - out.length) 0,0<=x/\x<=m:=fun x hx=>by
    rcases List.mem_append.1 hx with hx | hx
    ·exact ho x hx
    ·rw [List.eq_of_mem_replicate hx];omega
   refine ⟨fun x hx=>?_,?_⟩
   ·rcases List.mem_or_eq_of_mem_set hx with hx | rfl
    ·have:=h1 x hx;omega
    ·have:0<=(out ++ List.replicate (k.toNat+1 - out.length) 0).getD k.toNat 0/\(out ++ List.replicate (k.toNat+1 - out.length) 0).getD k.toNat 0<=m:=by
      rw [List.getD_eq_getElem?_getD]
      cases hg:(out ++ List.replicate (k.toNat+1 - out.length) 0)[k.toNat]? with
      | none=>simpa using hm
      | some y=>simpa using h1 y (List.mem_of_getElem? hg)
     omega
   ·rw [List.length_set,List.length_append,List.length_replicate];omega
theorem tapesGo_bd {n:Int} (hn:n<=100):∀ (l:List (Int × Int)) (out o:List Int) (m:Int) (_:tapesGo n out l=some o) (_:0<=m) (_:∀ x∈l,0<=x.2/\x.2<=1000) (_:∀ x∈out,0<=x/\x<=m) (_:out.length<=100),(∀ x∈o,0<=x/\x<=m+l.length * 1000)/\o.length<=100
 | [],out,o,m,h,hm,hl,ho,hlen=>by cases h;exact ⟨fun x hx=>by have:=ho x hx;simp;omega,hlen⟩
 | (k,ld)::l,out,o,m,h,hm,hl,ho,hlen=>by
  unfold tapesGo at h
  cases h1:tapeStep n out k ld with
  | none=>rw [h1] at h;cases h
  | some o1 =>
   rw [h1] at h;obtain ⟨h2,h3⟩:=tapeStep_bd h1 hn hm (hl (k,ld) (by simp)) ho hlen;obtain ⟨h4,h5⟩:=tapesGo_bd hn l o1 o (m+1000) h (by omega) (fun x hx=>hl x (by simp [hx])) h2 h3;exact ⟨fun x hx=>by have:=h4 x hx;simp only [List.length_cons];omega,h5⟩
theorem planOk_bd {loads plan o:List Int} (h:planOk loads plan=some o) (hp:plan.length<=50) (hl:∀ x∈loads,0<=x/\x<=1000):(∀ x∈o,0<=x/\x<=100000)/\o.length<=100:=by
 unfold planOk tapesI at h
 cases h1:tapesGo plan.length [] (plan.zip loads) with
 | none=>rw [h1] at h;cases h
 | some o1 =>
  rw [h1] at h;have h:(if 0∈o1 then none else some o1)=some o:=h;split at h
  ·cases h
  ·cases h;obtain ⟨h2,h3⟩:=tapesGo_bd (by omega) _ _ _ 0 h1 (by omega) (fun x hx=>hl _ (List.of_mem_zip hx).2) (by simp) (by simp);refine ⟨fun x hx=>?_,h3⟩;have:=h2 x hx;have h5:(plan.zip loads).length<=50:=by rw [List.length_zip];omega
   omega
def lateGo (ends:List Int):List Int->List Msg->Int->Int
 | k::ks,m::ms,t=>lateGo ends ks ms (if 0<=k then max t (ends.getD k.toNat 0 - m.due) else t)
 | _,_,t=>t
def lateI (b:Bk) (plan tapes:List Int):Int:=lateGo (endsI b.gap 0 tapes) plan b.ms (-999)
def fitsI (b:Bk) (tapes:List Int):Bool:=tapes.all fun n=>decide (n<=b.room)
def goodI (b:Bk) (plan tapes:List Int) (now:Int):Bool:=fitsI b tapes && (decide (lateI b plan tapes+now<=0) || decide (tapes=[]))
def plansFrom (loads:List Int) (pre:List Int):List Int->List (List Int × List Int)
 | []=>match planOk loads pre with
  | some t=>[(pre,t)]
  | none=>[]
 | ld::rest=>(if ld=0 then [(-1:Int)] else (List.range loads.length).map fun (k:Nat)=>(k:Int)).flatMap fun k=>plansFrom loads (pre ++ [k]) rest
def plansI (loads:List Int):List (List Int × List Int):=plansFrom loads [] loads
def packStep (b:Bk) (now:Int) (st:Option (List Int × List Int)) (x:List Int × List Int):Option (List Int × List Int) :=
 if goodI b x.1 x.2 now && (match st with | none=>true | some y=>decide (x.2.length < y.2.length)) then some x else st
def packI (b:Bk) (loads:List Int) (now:Int):Option (List Int × List Int):=(plansI loads).foldl (packStep b now) none
def latestStep (b:Bk) (st:Option Int) (x:List Int × List Int):Option Int :=
 if fitsI b x.2 && decide (lateI b x.1 x.2<=0) && (match st with | none=>true | some y=>decide (y < - lateI b x.1 x.2)) then some (- lateI b x.1 x.2) else st
def latestI (b:Bk) (loads:List Int):Option Int:=(plansI loads).foldl (latestStep b) none
end Sp
end Go.Proofs.YtgagoahfdnnpkaaGreatDoor
namespace Go.Proofs.YtgagoahfdnnpkaaGreatDoor
open Go.RowKit Go.Maps Sp
section
variable {b:Bk} {vr vg vm vs vc:Value} {w:World}
theorem ends_at (hB:BookAt w b vr vg vm vs vc) (ls:Value) (hls:ls.oneCell'=true) {ta:Option Addr} {tc:Nat} {tapes:List Int} (hT:IntsAt w ta tapes) (htl:tapes.length<=100) (htb:∀ x∈tapes,0<=x/\x<=100000) (hg:0<=b.gap/\b.gap<=100) {now:Int} (hn:0<=now/\now<=1000) :
 Calls Tryz.prog 46 #[.agg #[vr,vg,vm,vs,vc,ls],.slice ta tapes.length tc,.int .i64 now] w (IntsOut w (endsI b.gap now tapes)):=by
 have HB:=Hh hB;have HT:=Hh hT;have HTB:=Hh htb;have HBD:=Hh (endAt_bd hg hn htb);obtain ⟨rfl,rfl,⟨ma,mc,rfl,_,_⟩,⟨sa,sc,rfl,_,_⟩,ra,rc,rfl,_,_⟩:=id hB;clear hB hT htb
 go_enter Tryz.func46,Tryz.ntmps46
 go_wp2;obtain ⟨W0,hW0⟩:∃ W0,W0=w.alloc (.cells #[.int .i64 b.room,.int .i64 b.gap,.slice ma b.ms.length mc,.slice sa b.ss.length sc,.slice ra b.rs.length rc,ls] 85):=⟨_,rfl⟩;rw [<- hW0];have hb0:Below w.heap.size w W0:=by rw [hW0];(exact bel)
 have g0:W0.cell? ⟨w.heap.size,1,none⟩=some (.int .i64 b.gap):=by rw [hW0,World.cell?_alloc_at _ _ _ _ rfl];rfl
 have hsz0:w.heap.size < W0.heap.size:=by rw [hW0];simp
 have HT0:=Hh (HT.out.below hb0);clear hW0;have hz0:endAt b.gap now tapes 0=now:=endAt_zero ..;go_loopw [2,7,12] (fun nw v i wr=>∃ (k:Nat) (a:Option Addr) (c:Nat) (t:Int),k<=tapes.length/\i=.int .i64 k/\nw=.int .i64 t/\Hid (t=endAt b.gap now tapes k)/\v=.slice a k c/\wr.ownsRow W0.heap.size 3 1 (.slice a k c) k ((endsTo b.gap now tapes k).map (Value.int .i64))/\Below W0.heap.size W0 wr) (fun _ _ i _=>tapes.length - (intOf i).toNat)
 case atStart=>exact ⟨0,none,0,now,Nat.zero_le _,rfl,rfl,hz0.symm,rfl,by simpa [endsTo] using World.ownsRow_nil _ _ _ _,Below.refl _ _⟩
 case round =>
  obtain ⟨k,a,c,t,hk,rfl,rfl,ht,rfl,hrow,hW⟩:=hrel;have hWs:=hW.size;by_cases hlt:k < tapes.length
  ·obtain ⟨lb,lo,rfl,hlb,e0⟩:=HT0.out k hlt;have d0:=(hW.cell hlb).trans e0;have hlb2:lb < wr.heap.size:=Nat.lt_of_lt_of_le hlb hW.size;have s1:=(hW.cell (p:=⟨w.heap.size,1,none⟩) hsz0).trans g0;have hsz1:w.heap.size < wr.heap.size:=by omega
   have hx:=HTB.out _ (List.getElem_mem hlt);have hE:=endAt_succ b.gap now tapes hlt;have hb1:=HBD.out k (by omega);have hb2:=HBD.out (k+1) (by omega);have hS:=endsTo_succ b.gap now tapes k;have ht':=ht.out;rw [<- ht'] at hE hb1;generalize tapes[k]=x at d0 hx hE;rw [hE] at hb2 hS;have w1:IntKind.i64.wrap (b.gap+x)=b.gap+x:=IntWalk.i64_in _ (by omega);have w2:IntKind.i64.wrap (t+(b.gap+x))=t+(b.gap+x):=IntWalk.i64_in _ (by omega);have HROW:=Hh hrow;have HS:=Hh hS;have HE:=Hh hE;clear hrow hS hE e0 ht';go_wp2_with (at_builtin;go_loud (refine wpl_append1 rfl _ _ 27 rfl W0.heap.size 3 Tryz.underlying27 intInfo rfl (by omega) (.slice a k c) k _ rfl HROW.out (by omega) (by omega) _ (n:=wr.heap.size) (by simp) rfl (by simp [Value.oneCell']) ?_;intro g cap w2 hown2 hb2));have hown3:w2.ownsRow W0.heap.size 3 1 (.slice (some ⟨g,0,none⟩) (k+1) cap) (k+1) ((endsTo b.gap now tapes (k+1)).map (Value.int .i64)):=by
    rw [HS.out,List.map_append];exact hown2
   have HOWN:=Hh hown3;clear hown2 hown3;go_roundw
   case rel=>exact ⟨k+1,_,_,_,by omega,by go_num,rfl,HE.out.symm,rfl,HOWN.out,hW.trans hb2⟩
   case measure=>simp [intOf];omega
  ·obtain rfl:k=tapes.length:=by omega
   have hl2:(endsI b.gap now tapes).length=tapes.length:=endsI_length ..;have HROW:=Hh hrow;have HL2:=Hh hl2;clear hrow hl2;go_wp2;go_ret;refine ⟨a,c,by rw [HL2.out];rfl,?_,bel⟩;rw [HL2.out];exact ownsRow_base HROW.out (by omega)
end
theorem containsI_at {w:World} {a:Option Addr} {c:Nat} {l:List Int} {n:Nat} (hn:n=l.length) (h:IntsAt w a l) (hl:l.length<=1000000) (x:Int):Calls Tryz.prog 98 #[.slice a n c,.int .i64 x] w fun e w'=>e=.returned (.bool (l.contains x))/\w'=w:=by
 subst hn
 cases l with
 | nil=>exact Tryz.slices_Contains_int_empty a c x w
 | cons y l =>
  obtain ⟨b,o,rfl,_⟩:=h 0 (by simp);have:=Tryz.slices_Contains_int b o (y::l).length c (y::l) x w (Nat.le_refl _) (by omega) h.cells;rw [List.take_length] at this;exact this
theorem tapesGo_cons {n:Int} {out:List Int} {k ld:Int} {l:List (Int × Int)}:tapesGo n out ((k,ld)::l)=(tapeStep n out k ld).bind fun o=>tapesGo n o l:=rfl
theorem tapeStep_none {n:Int} {out:List Int} {k ld:Int} (h:k < -1\/n<=k\/¬ (k=-1↔ld=0)):tapeStep n out k ld=none:=if_pos h
theorem tapeStep_skip {n:Int} {out:List Int} {k ld:Int} (h:¬ (k < -1\/n<=k\/¬ (k=-1↔ld=0))) (h0:k < 0):tapeStep n out k ld=some out:=by unfold tapeStep;rw [if_neg h,if_pos h0]
theorem tapeStep_add {n:Int} {out:List Int} {k:Nat} {ld:Int} (h:¬ ((k:Int) < -1\/n<=k\/¬ ((k:Int)=-1↔ld=0))) :
 tapeStep n out k ld=some ((out ++ List.replicate (k+1 - out.length) 0).set k ((out ++ List.replicate (k+1 - out.length) 0).getD k 0+ld)):=by
 unfold tapeStep;rw [if_neg h,if_neg (by omega)];simp only [Int.toNat_natCast]
theorem planOk_none {loads plan:List Int} (h:tapesI loads plan=none):planOk loads plan=none:=by unfold planOk;rw [h];rfl
theorem planOk_some {loads plan o:List Int} (h:tapesI loads plan=some o):planOk loads plan=if (!o.contains 0)=true then some o else none:=by
 unfold planOk;rw [h];show (if 0∈o then none else some o)=_;by_cases h0:0∈o
 ·simp [h0]
 ·simp [h0]
def TapesOut (w:World) (loads plan:List Int) (e:Ending) (w':World):Prop :=
 ∃ a c o ok,e=.returned (.tuple #[.slice a o.length c,.bool ok])/\w'.ownsRow w.heap.size 3 1 (.slice a o.length c) o.length (o.map (Value.int .i64))/\Below w.heap.size w w'/\planOk loads plan=if ok=true then some o else none
section
variable {b:Bk} {vr vg vm vs vc:Value} {w:World}
theorem tapes_at {la:Option Addr} {lc:Nat} {loads:List Int} (hL:IntsAt w la loads) (hlb:∀ x∈loads,0<=x/\x<=1000) {pa:Option Addr} {pc:Nat} {plan:List Int} (hP:IntsAt w pa plan) {pn ln:Nat} (hpn:pn=plan.length) (hln:ln=plan.length) (hlen:loads.length=plan.length) (hpl:plan.length<=50) :
 Calls Tryz.prog 74 #[.agg #[vr,vg,vm,vs,vc,.slice la ln lc],.slice pa pn pc] w (TapesOut w loads plan):=by
 have HL:=Hh hL;have HP:=Hh hP;have HLB:=Hh hlb;have HLEN:=Hh hlen;have HPN:=Hh hpn;have HLN:=Hh hln;have hpn50:pn<=50:=by omega
 clear hL hP hlb hlen hpl hpn hln
 go_enter Tryz.func74,Tryz.ntmps74
 go_wp2;obtain ⟨W0,hW0⟩:∃ W0,W0=w.alloc (.cells #[vr,vg,vm,vs,vc,.slice la ln lc] 85):=⟨_,rfl⟩;rw [<- hW0];have hb0:Below w.heap.size w W0:=by rw [hW0];(exact bel)
 have g0:W0.cell? ⟨w.heap.size,5,none⟩=some (.slice la ln lc):=by rw [hW0,World.cell?_alloc_at _ _ _ _ rfl];rfl
 have hsz0:w.heap.size < W0.heap.size:=by rw [hW0];simp
 have HL0:=Hh (HL.out.below hb0);have HP0:=Hh (HP.out.below hb0);clear hW0;go_loopw [6,11] (fun v i wr=>∃ (k m:Nat) (a:Option Addr) (c:Nat) (o:List Int),k<=pn/\i=.int .i64 k/\v=.slice a m c/\Hid (o.length=m)/\m<=pn/\wr.ownsRow W0.heap.size 3 1 (.slice a m c) m (o.map (Value.int .i64))/\Below W0.heap.size W0 wr/\Hid (tapesGo pn o ((plan.zip loads).drop k)=tapesI loads plan)/\Hid (∀ x∈o,0<=x/\x<=(k:Int) * 1000)) (fun _ i _=>pn - (intOf i).toNat)
 case atStart=>exact ⟨0,0,none,0,[],Nat.zero_le _,rfl,rfl,rfl,Nat.zero_le _,by simpa using World.ownsRow_nil _ _ _ _,Below.refl _ _,by rw [HPN.out];rfl,by intro x hx;cases hx⟩
 case round =>
  obtain ⟨k,m,a,c,o,hk,rfl,rfl,hm,hmp,hrow,hW,hgo,hob⟩:=hrel;have hWs:=hW.size;by_cases hlt:k < pn
  ·have hkp:k < plan.length:=by rw [<- HPN.out];exact hlt
   have hkl:k < loads.length:=by rw [HLEN.out];exact hkp
   obtain ⟨pb,po,rfl,hpb,e0⟩:=HP0.out k hkp;obtain ⟨lb,lo,rfl,hlb,e1⟩:=HL0.out k hkl;have d0:=(hW.cell hpb).trans e0;have d1:=(hW.cell hlb).trans e1;have hpb2:pb < wr.heap.size:=Nat.lt_of_lt_of_le hpb hW.size;have hlb2:lb < wr.heap.size:=Nat.lt_of_lt_of_le hlb hW.size;have s1:=(hW.cell (p:=⟨w.heap.size,5,none⟩) hsz0).trans g0;have hsz1:w.heap.size < wr.heap.size:=by omega
   have hdr:(plan.zip loads).drop k=(plan[k],loads[k])::(plan.zip loads).drop (k+1):=by
    rw [List.drop_eq_getElem_cons (by rw [List.length_zip];omega),List.getElem_zip]
   have hkn:k < ln:=by rw [HLN.out];exact hkp
   have hldb:=HLB.out _ (List.getElem_mem hkl);have hgo2:=hgo.out;rw [hdr,tapesGo_cons] at hgo2;generalize plan[k]=p at d0 hgo2;generalize loads[k]=ld at d1 e1 hgo2 hldb;have E1:=Hh e1;have HGO:=Hh hgo2;have HROW:=Hh hrow;clear hgo2 hgo hdr e0 e1 hrow;by_cases c1:p < -1
   ·have hn:=HGO.out;rw [tapeStep_none (.inl c1)] at hn;have HN:=Hh hn;clear hn;go_wp2;exact bodyPost_ret (v:=.tuple #[.slice none 0 0,.bool false]) (by simp [results,Tryz.results74,go_sem]) rfl ⟨none,0,[],false,rfl,by simpa using World.ownsRow_nil _ _ _ _,bel,planOk_none HN.out.symm⟩
   ·by_cases c2:(pn:Int)<=p
    ·have hn:=HGO.out;rw [tapeStep_none (.inr (.inl c2))] at hn;have HN:=Hh hn;clear hn;go_wp2;exact bodyPost_ret (v:=.tuple #[.slice none 0 0,.bool false]) (by simp [results,Tryz.results74,go_sem]) rfl ⟨none,0,[],false,rfl,by simpa using World.ownsRow_nil _ _ _ _,bel,planOk_none HN.out.symm⟩
    ·by_cases c3:p=-1
     ·subst c3;by_cases c4:ld=0
      ·subst c4;have hn:=HGO.out;rw [tapeStep_skip (by omega) (by omega)] at hn;have HN:=Hh hn;clear hn;go_wp2;go_roundw
       case rel=>exact ⟨k+1,m,a,c,o,by omega,by go_num,rfl,hm,hmp,HROW.out,hW,HN.out,fun x hx=>by have:=hob.out x hx;omega⟩
       case measure=>simp [intOf];omega
      ·have hn:=HGO.out;rw [tapeStep_none (.inr (.inr (by simpa using c4)))] at hn;have e4:(ld == 0)=false:=by simpa using c4
       have HN:=Hh hn;clear hn;go_wp2;exact bodyPost_ret (v:=.tuple #[.slice none 0 0,.bool false]) (by simp [results,Tryz.results74,go_sem]) rfl ⟨none,0,[],false,rfl,by simpa using World.ownsRow_nil _ _ _ _,bel,planOk_none HN.out.symm⟩
     ·by_cases c4:ld=0
      ·subst c4;have hn:=HGO.out;rw [tapeStep_none (.inr (.inr (by simpa using c3)))] at hn;have e3:(p == -1)=false:=by simpa using c3
       have HN:=Hh hn;clear hn;go_wp2;exact bodyPost_ret (v:=.tuple #[.slice none 0 0,.bool false]) (by simp [results,Tryz.results74,go_sem]) rfl ⟨none,0,[],false,rfl,by simpa using World.ownsRow_nil _ _ _ _,bel,planOk_none HN.out.symm⟩
      ·obtain ⟨q,rfl⟩:∃ q:Nat,p=q:=⟨p.toNat,by omega⟩;have hqn:q < pn:=by omega
       have hn:=HGO.out;rw [tapeStep_add (by omega)] at hn;have e3:((q:Int) == -1)=false:=by simp
       have e4:(ld == 0)=false:=by simpa using c4
       have HN:=Hh hn;have HO:=Hh hob.out;have c5:¬ pn<=q:=by omega
       have c6:¬ (q:Int) < 0:=by omega
       clear hn hob;go_wp2;go_loopw [6] (fun v wr2=>∃ (j:Nat) (a2:Option Addr) (c2:Nat) (o2:List Int),v=.slice a2 j c2/\j<=pn/\Hid (o2.length=j)/\Hid (o2=o ++ List.replicate (j - m) 0)/\m<=j/\(m=j\/j<=q+1)/\wr2.ownsRow W0.heap.size 3 1 (.slice a2 j c2) j (o2.map (Value.int .i64))/\Below W0.heap.size W0 wr2) (fun v _=>q+1 - (match v with | .slice _ n _=>n | _=>0))
       case atStart=>exact ⟨m,a,c,o,rfl,hmp,hm,(by show o=o ++ List.replicate (m - m) 0;simp),Nat.le_refl _,.inl rfl,HROW.out,hW⟩
       case round =>
        obtain ⟨j,a2,c2,o2,rfl,hjp,hj,ho2,hmj,hjq,hrow2,hW2⟩:=hrel;have hW2s:=hW2.size;by_cases hle:j<=q
        ·have hle2:(j:Int)<=q:=by omega
         have HROW2:=Hh hrow2;clear hrow2;go_wp2_with (at_builtin;go_loud (refine wpl_append1 rfl _ _ 27 rfl W0.heap.size 3 Tryz.underlying27 intInfo rfl (by omega) (.slice a2 j c2) j _ rfl HROW2.out (by omega) (by omega) _ (n:=wr.heap.size) (by simp) rfl (by simp [Value.oneCell']) ?_;intro g cap w2 hown2 hb2));have hown3:w2.ownsRow W0.heap.size 3 1 (.slice (some ⟨g,0,none⟩) (j+1) cap) (j+1) ((o2 ++ [0]).map (Value.int .i64)):=by
          rw [List.map_append];exact hown2
         have HOWN:=Hh hown3;clear hown2 hown3;go_roundw
         case rel=>exact ⟨j+1,_,_,o2 ++ [0],rfl,by omega,by simp [Hid,hj.out],by show o2 ++ [0]=_;rw [ho2.out,show j+1 - m=(j - m)+1 by omega,List.replicate_succ',List.append_assoc],by omega,.inr (by omega),HOWN.out,hW2.trans hb2⟩
         case measure=>simp;omega
        ·have hle2:(q:Int) < j:=by omega
         have hqj:q < j:=by omega
         have hj2:j - m=q+1 - m:=by rcases hjq with h | h <;> omega
         obtain ⟨g,rfl,hg,hgl,hc0⟩:=row_cell hrow2 q (by rw [List.length_map,hj.out];exact hqj);have hfr:=row_free hrow2 q;have ho3:=ho2.out;rw [hj2] at ho3;have hoq:o2[q]? = some (o2.getD q 0):=by rw [List.getD_eq_getElem?_getD,List.getElem?_eq_getElem (by rw [hj.out];exact hqj)];rfl
         have HNN:=HN.out;rw [show o ++ List.replicate (q+1 - o.length) 0=o2 by rw [hm.out];exact ho3.symm] at HNN;have HO2:Hid (∀ x∈o2,0<=x/\x<=(k:Int) * 1000):=fun x hx=>by
          rw [ho3] at hx;rcases List.mem_append.1 hx with hx | hx
          ·exact HO.out x hx
          ·rw [List.eq_of_mem_replicate hx];omega
         have hbq:=HO2.out (o2.getD q 0) (List.mem_of_getElem? hoq);rw [List.getElem?_map,hoq] at hc0;generalize o2.getD q 0=y at hc0 hbq HNN;have hset:=ownsRow_put hrow2 (k:=q) (.int .i64 (y+ld));have HSET:=Hh hset;have HNX:=Hh HNN;have e2:IntKind.i64.wrap (y+ld)=y+ld:=IntWalk.i64_in _ (by omega);have d1':=(hW2.cell hlb).trans E1.out;have t1:=(hW2.cell (p:=⟨w.heap.size,5,none⟩) hsz0).trans g0;have hsz2:w.heap.size < wr.heap.size:=by omega
         have hlbA:lb < wr.heap.size:=by omega
         clear hset hrow2 HNN hoq ho3;go_wp2
         go_region
         go_wp2;go_roundw
         case rel =>
          refine ⟨k+1,j,_,c2,o2.set q (y+ld),by omega,by go_num,rfl,by simp [Hid,hj.out],hjp,?_,?_,HNX.out,fun x hx=>?_⟩
          ·rw [List.map_set];exact ownsRow_ks HSET.out (KS.drew (fun _=>True) _) (fun _ _=>trivial)
          ·exact Below.drew (Below.setCell hW2 hg _)
          ·rcases List.mem_or_eq_of_mem_set hx with hx | rfl
           ·have:=HO2.out x hx;omega
           ·omega
         case measure=>simp [intOf];omega
  ·obtain rfl:k=pn:=by omega
   have hn:=hgo.out;rw [List.drop_of_length_le (by rw [List.length_zip,HPN.out];omega)] at hn;have HN:=Hh (show some o=tapesI loads plan from hn);have HROW:=Hh hrow;clear hn hrow hgo;go_wp2_with (go_at_call 98;(with_reducible refine (containsI_at hm.out.symm (ints_of_row HROW.out) (by have:=hm.out;omega) 0).mono ?_);rintro e w5 ⟨rfl,rfl⟩);exact bodyPost_ret (v:=.tuple #[.slice a m c,.bool (!o.contains 0)]) (by simp [results,Tryz.results74,go_sem]) rfl ⟨a,c,o,!o.contains 0,by rw [hm.out],by rw [hm.out];exact ownsRow_base HROW.out (by omega),bel,planOk_some HN.out.symm⟩
end
end Go.Proofs.YtgagoahfdnnpkaaGreatDoor
