/- StoreRecords -/
import Derived.Test.YtojkofjcblmnjaaGreatDoorRC26
import Derived.Laws.CopyOwn
import Derived.Test.YtojkofjcblmnjaaGreatDoorRows
import Derived.LaidMore
import Derived.ProofKit
import Derived.Conc.Holds
import Derived.SevenTiedAt
set_option maxHeartbeats 4000000
set_option maxRecDepth 100000
set_option linter.all false
namespace Go.Proofs.YtojkofjcblmnjaaGreatDoor
section
open Go.RowKit Go.Maps Sp
theorem flat_succ (f:Nat->List (List Int)) (k:Nat):(List.range (k+1)).flatMap f=(List.range k).flatMap f ++ f k:=by
 rw [List.range_succ,List.flatMap_append];simp
theorem intsV_pre {w:World} {B n c:Nat} {a:Option Addr} {pre:List Int} {k:Int} (h:w.ownsRow B 3 1 (.slice a n c) n ([] ++ pre.map (Value.int .i64) ++ [.int .i64 k])):IntsV w (.slice a n c) (pre ++ [k]):=IntsV.of (l:=pre ++ [k]) (by simpa using h)
section
variable {b:Bk} {vr vg vm vs vc:Value} {w:World}
theorem rPasts_step (hB:BookAt w b vr vg vm vs vc) (hp5:∀ s∈b.ss,s.length<=5) (h4:b.ss.length<=4) {pre:List Int} {s:List Prt} {l:List (List Prt)} (hs:b.ss.drop pre.length=s::l)
 (hin:∀ n:Nat,n<=s.length->∀ W la lc,Below w.heap.size w W->IntsV W (.slice la (pre.length+1) lc) (pre ++ [(n:Int)])->Calls Tryz.prog 80 #[.agg #[vr,vg,vm,vs,vc],.slice la (pre.length+1) lc] W (PastsOut W (pastsFrom b (pre ++ [(n:Int)]) l)))
 {la:Option Addr} {lc:Nat} (hL:IntsV w (.slice la pre.length lc) pre) :
 Calls Tryz.prog 80 #[.agg #[vr,vg,vm,vs,vc],.slice la pre.length lc] w (PastsOut w ((List.range (s.length+1)).flatMap fun (n:Nat)=>pastsFrom b (pre ++ [(n:Int)]) l)):=by
 have hlt:pre.length < b.ss.length:=by
  apply Classical.byContradiction;intro h;rw [List.drop_eq_nil_of_le (by omega)] at hs;cases hs
 have hsl:(s::l).length<=4:=by rw [<- hs,List.length_drop];omega
 have hall:∀ x∈s::l,x.length<=5:=fun x hx=>hp5 x (List.mem_of_mem_drop (hs ▸ hx));have hfew:=fun n (hn:n<=s.length+1)=>fuel_pasts (b:=b) (pre:=pre) hp5 hall hsl hn;have hsx:b.ss[pre.length]=s:=by
  rw [List.drop_eq_getElem_cons hlt] at hs;exact (List.cons.inj hs).1
 have hs5:s.length<=5:=hall s (List.mem_cons_self ..);obtain ⟨sa,sc,rfl,hS,hsl6⟩:=hB.ss;obtain ⟨sb,so,rfl,hsb,pa,pc,h0,hpc,hpl,hPx⟩:=hS pre.length hlt;clear hPx;rw [hsx] at h0 hpc hpl;obtain ⟨_,_,e,hI,hz,hlc⟩:=hL.form;cases e;have hlat0:∀ ad,la=some ad->ad.block < w.heap.size:=fun ad e=>(ownBlock_row hL ad.block (by rw [e];rfl)).2;have HLAT:=Hh hlat0;clear hlat0;have HB:=Hh hB;have HIN:=Hh hin;have HI:=Hh hI;have HZ:=Hh hz;have HFEW:=Hh hfew;have heq:((pre.length:Int) == (b.ss.length:Int))=false:=by simp;omega
 have hpi:(pre.length:Int) < b.ss.length:=by omega
 have hp0:(0:Int)<=(pre.length:Int):=by omega
 have hp4:pre.length < 4:=by omega
 generalize hflat:(fun (n:Nat)=>pastsFrom b (pre ++ [(n:Int)]) l)=f at hfew;have HF:=Hh hflat;have HIN2:Hid (∀ n:Nat,n<=s.length->∀ W la lc,Below w.heap.size w W->IntsV W (.slice la (pre.length+1) lc) (pre ++ [(n:Int)])->Calls Tryz.prog 80 #[.agg #[vr,vg,vm,.slice (some ⟨sb,so,none⟩) b.ss.length sc,vc],.slice la (pre.length+1) lc] W (PastsOut W (f n))):=by rw [<- hflat];exact hin
 have HFEW2:Hid (∀ n,n<=s.length+1->((List.range n).flatMap f).length<=1296):=hfew;clear hB hp5 hin hI hz hfew hS hs hsx hlt hall hsl hL HIN HFEW hflat;generalize hpn:pre.length=pn at heq hpi hp0 hp4 h0 hlc;have HPN:=Hh hpn;rw [hpn] at HIN2;clear hpn
 go_enter Tryz.func80,Tryz.ntmps80
 go_wp2;obtain ⟨W0,hW0⟩:∃ W0,W0=w.alloc (.cells #[vr,vg,vm,.slice (some ⟨sb,so,none⟩) b.ss.length sc,vc] 26):=⟨_,rfl⟩;rw [<- hW0];have hb0:Below w.heap.size w W0:=by rw [hW0];(exact bel)
 have nn:∀ k u,(#[vr,vg,vm,.slice (some ⟨sb,so,none⟩) b.ss.length sc,vc]:Array Value)[k]? = some u->W0.cell? ⟨w.heap.size,k,none⟩=some u:=fun k u hk=>by
  rw [hW0,World.cell?_alloc_at _ _ _ _ rfl];exact hk
 have hs0:w.heap.size < W0.heap.size:=by rw [hW0];simp
 have hall:∀ w':World,Below W0.heap.size W0 w'->(Below W0.heap.size W0 w'/\w'.cell? ⟨w.heap.size,0,none⟩=some vr/\w'.cell? ⟨w.heap.size,1,none⟩=some vg/\w'.cell? ⟨w.heap.size,2,none⟩=some vm/\w'.cell? ⟨w.heap.size,3,none⟩=some (.slice (some ⟨sb,so,none⟩) b.ss.length sc)/\w'.cell? ⟨w.heap.size,4,none⟩=some vc):=fun w' h =>
  ⟨h,(h.cell (p:=⟨w.heap.size,0,none⟩) hs0).trans (nn 0 _ rfl),(h.cell (p:=⟨w.heap.size,1,none⟩) hs0).trans (nn 1 _ rfl),(h.cell (p:=⟨w.heap.size,2,none⟩) hs0).trans (nn 2 _ rfl),(h.cell (p:=⟨w.heap.size,3,none⟩) hs0).trans (nn 3 _ rfl),(h.cell (p:=⟨w.heap.size,4,none⟩) hs0).trans (nn 4 _ rfl)⟩
 have HALL:=Hh hall;clear hW0 nn hall;go_loopw [5,6] (fun v i wr=>∃ (k:Nat) (a:Option Addr) (c:Nat) (vs:List Value),k<=s.length+1/\i=.int .i64 k/\v=.slice a ((List.range k).flatMap f).length c/\wr.ownsRow W0.heap.size 35 1 (.slice a ((List.range k).flatMap f).length c) ((List.range k).flatMap f).length vs/\ListsV wr vs ((List.range k).flatMap f)/\Below W0.heap.size W0 wr) (fun _ i _=>s.length+1 - (intOf i).toNat)
 case atStart=>exact ⟨0,none,0,[],Nat.zero_le _,rfl,rfl,World.ownsRow_nil _ _ _ _,ListsV.nil _,Below.refl _ _⟩
 case round =>
  obtain ⟨k,a,c,vs,hk,rfl,rfl,hrow,hlv,hW⟩:=hrel;have hWs:=hW.size;obtain ⟨_,m0,m1,m2,m3,m4⟩:=HALL.out _ hW;have hbw:=Below.next hb0 hW;have hx1:w.heap.size < wr.heap.size:=by omega
  have g0:=(hbw.cell hsb).trans h0;have hsb2:sb < wr.heap.size:=Nat.lt_of_lt_of_le hsb hbw.size;have HROW:=Hh hrow;have HLV:=Hh hlv;by_cases hlt:k<=s.length
  ·have hfl:=flat_succ f k;have hf1:=HFEW2.out (k+1) (by omega);rw [hfl,List.length_append] at hf1;have HFL:=Hh hfl;clear hrow hlv hfl;have hcall:=HIN2.out k hlt;have HCALL:=Hh hcall;have hsrc:Src1 wr la lc (pre.map (Value.int .i64)):=(ints_src (HI.out.below hbw) HZ.out);have HSRC:=Hh hsrc;have HBW:=Hh hbw;have HLEN:=Hh (show (pre.map (Value.int .i64)).length=pn by rw [List.length_map];exact HPN.out);have HONE:=Hh (show ∀ u∈pre.map (Value.int .i64),u.oneCell'=true from fun u hu=>by obtain ⟨x,_,rfl⟩:=List.mem_map.1 hu;rfl);have HLT:=Hh (show ∀ ad,la=some ad->ad.block < wr.heap.size from fun ad e=>Nat.lt_of_lt_of_le (HLAT.out ad e) hbw.size);clear hcall hsrc;generalize hout:(List.range k).flatMap f=out at hf1 HROW HLV HFL;generalize hnew:f k=new at hf1 HFL HCALL;have HO1:=Hh hout;have HNW:=Hh hnew;clear hout hnew;go_wp2;go_region_held3 (fun w'=>Below W0.heap.size W0 w'/\w'.cell? ⟨w.heap.size,0,none⟩=some vr/\w'.cell? ⟨w.heap.size,1,none⟩=some vg/\w'.cell? ⟨w.heap.size,2,none⟩=some vm/\w'.cell? ⟨w.heap.size,3,none⟩=some (.slice (some ⟨sb,so,none⟩) b.ss.length sc)/\w'.cell? ⟨w.heap.size,4,none⟩=some vc)
    ((go_split_ands;exact HALL.out _ (bel)))
    (first
      | (refine step_appW wr rfl _ _ 35 rfl 3 Tryz.underlying35 intInfo rfl (by omega) (.slice (some ⟨wr.heap.size,0,none⟩) 0 0) 0 [] rfl la pn lc (pre.map (Value.int .i64)) rfl HLEN.out HONE.out pn (by omega) (by omega) ?_ ?_ ?_ ?_;(focus ((exact bel)));exact own_lit rfl (Nat.le_refl _);exact (HSRC.out).ks (KS.all (show Below wr.heap.size wr _ from bel) (fun _=>True)) (fun ad e=>⟨HLT.out ad e,trivial⟩);intro a2 c2 w2 hown2 hks2 hbw2)
      | (refine step_appW wr rfl _ _ 35 rfl 3 Tryz.underlying35 intInfo rfl (by omega) (.slice (some ⟨wr.heap.size,0,none⟩) 0 0) 0 [] rfl la pn lc (pre.map (Value.int .i64)) rfl HLEN.out HONE.out pn (by omega) (by omega) ?_ ?_ ?_ ?_;(focus ((exact bel)));exact (own_lit (w:=wr.drew) rfl (Nat.le_refl _)).alloc _;exact (HSRC.out).ks (KS.all (show Below wr.heap.size wr _ from bel) (fun _=>True)) (fun ad e=>⟨HLT.out ad e,trivial⟩);intro a2 c2 w2 hown2 hks2 hbw2;have hsrc2:Src1 w2 (some ⟨wr.heap.size+1,0,none⟩) 1 [.int .i64 k]:=(src_new (wr.drew.alloc (.cells #[] 3)) [.int .i64 k] 3 (n:=wr.heap.size+1) (by simp) 1).ks hks2 (fun ad e=>by cases e;exact ⟨by simp,by simp [Value.ownBlock]⟩))
      | (refine step_appW wr rfl _ _ 35 rfl 3 Tryz.underlying35 intInfo rfl (by omega) (.slice (some ⟨wr.heap.size+1,0,none⟩) 0 0) 0 [] rfl la pn lc (pre.map (Value.int .i64)) rfl HLEN.out HONE.out pn (by omega) (by omega) ?_ ?_ ?_ ?_;(focus ((exact bel)));exact own_lit (by simp) (by omega);exact (HSRC.out).ks (KS.all (show Below wr.heap.size wr _ from bel) (fun _=>True)) (fun ad e=>⟨HLT.out ad e,trivial⟩);intro a2 c2 w2 hown2 hks2 hbw2;have hsrc2:Src1 w2 (some ⟨wr.heap.size,0,none⟩) 1 [.int .i64 k]:=((src_new wr.drew [.int .i64 k] 3 (n:=wr.heap.size) rfl 1).ks (KS.alloc (fun _=>True) _ (.cells #[] 3)) (fun ad e=>by cases e;exact ⟨by simp,trivial⟩)).ks hks2 (fun ad e=>by cases e;exact ⟨by simp;omega,by simp [Value.ownBlock]⟩))
      | (refine step_appW wr rfl _ _ 35 rfl 3 Tryz.underlying35 intInfo rfl (by omega) (.slice a2 pn c2) pn ([] ++ pre.map (Value.int .i64)) rfl (some ⟨w2.heap.size,0,none⟩) 1 1 [.int .i64 k] rfl rfl (by simp [Value.oneCell']) (pn+1) rfl (by omega) ?_ ?_ ?_ ?_;(focus ((exact bel)));exact hown2.alloc _;exact src_new w2 [.int .i64 k] 3 rfl 1;intro a4 c4 w4 hown4 hks4 hbw4)
      | (refine step_appW wr rfl _ _ 35 rfl 3 Tryz.underlying35 intInfo rfl (by omega) (.slice a2 pn c2) pn ([] ++ pre.map (Value.int .i64)) rfl (some ⟨wr.heap.size+1,0,none⟩) 1 1 [.int .i64 k] rfl rfl (by simp [Value.oneCell']) (pn+1) rfl (by omega) ?_ ?_ ?_ ?_;(focus ((exact bel)));exact hown2;exact hsrc2;intro a4 c4 w4 hown4 hks4 hbw4)
      | (refine step_appW wr rfl _ _ 35 rfl 3 Tryz.underlying35 intInfo rfl (by omega) (.slice a2 pn c2) pn ([] ++ pre.map (Value.int .i64)) rfl (some ⟨wr.heap.size,0,none⟩) 1 1 [.int .i64 k] rfl rfl (by simp [Value.oneCell']) (pn+1) rfl (by omega) ?_ ?_ ?_ ?_;(focus ((exact bel)));exact hown2;exact hsrc2;intro a4 c4 w4 hown4 hks4 hbw4)
      | (go_at_call 80;go_split_ands;(with_reducible refine (HCALL.out w4 a4 c4 (Below.next hbw hbw4) (intsV_pre hown4)).mono ?_);rintro e w5 ⟨a5,c5,vs5,rfl,hrow5,hl5,hb5⟩;have hbr5:Below wr.heap.size wr w5:=Below.next hbw4 hb5;have hown5:=ownsRow_below HROW.out hbr5)
      | (refine step_appW W0 rfl _ _ 84 rfl 35 Tryz.underlying84 listInfo rfl (by omega) (.slice a out.length c) out.length vs rfl a5 new.length c5 vs5 rfl hl5.1 hl5.one (out.length+new.length) rfl (by omega) ?_ ?_ ?_ ?_;exact Below.next hW hbr5;exact hown5;exact src_row hrow5;intro a6 c6 w6 hown6 hks6 hbw6))
   all_goals
    have hl6:=((HLV.out.below hbr5).append hl5).keep hown5 (by decide) hks6;rw [<- HFL.out] at hl6;have hlen6:out.length+new.length=((List.range (k+1)).flatMap f).length:=by rw [HFL.out,List.length_append]
    rw [hlen6] at hown6;have HL6:=Hh hl6;have HR6:=Hh hown6;have HE6:=Hh hlen6;have HB6:=Hh hbw6;clear hl6 hown6 hlen6 hks6;go_wp2;go_roundw
    case rel=>exact ⟨k+1,a6,c6,_,by omega,by go_num,by rw [HE6.out],HR6.out,HL6.out,HB6.out⟩
    case measure=>simp [intOf];omega
  ·obtain rfl:k=s.length+1:=by omega
   clear hrow hlv;go_wp2;go_ret;exact ⟨a,c,vs,rfl,ownsRow_base HROW.out (by omega),HLV.out,hbw⟩
end
section
variable {b:Bk} {vr vg vm vs vc:Value} {w:World}
theorem rPasts_at (hO:BkOk b) (hr:∀ r∈b.rs,recAl b r=0):∀ (l:List (List Prt)) (pre:List Int) (w:World) (la:Option Addr) (lc:Nat),BookAt w b vr vg vm vs vc->b.ss.drop pre.length=l->pre.length<=b.ss.length->PreIn b.ss pre->IntsV w (.slice la pre.length lc) pre ->
 Calls Tryz.prog 80 #[.agg #[vr,vg,vm,vs,vc],.slice la pre.length lc] w (PastsOut w (pastsFrom b pre l))
 | [],pre,w,la,lc,hB,hs,hle,hp,hL=>by
  have hl:pre.length=b.ss.length:=by
   apply Classical.byContradiction;intro h;have:=congrArg List.length hs;rw [List.length_drop,List.length_nil] at this;omega
  unfold pastsFrom;exact rPasts_leaf hB hO hr hl hp hL
 | s::l,pre,w,la,lc,hB,hs,hle,hp,hL=>by
  have hlt:pre.length < b.ss.length:=by
   apply Classical.byContradiction;intro h;rw [List.drop_eq_nil_of_le (by omega)] at hs;cases hs
  have hd:=List.drop_eq_getElem_cons hlt;rw [hs] at hd;obtain ⟨h1,h2⟩:=List.cons.inj hd;unfold pastsFrom;refine rPasts_step hB hO.pl hO.sl hs (fun n hn W la' lc' hW hL'=>?_) hL;have:=rPasts_at hO hr l (pre ++ [(n:Int)]) W la' lc' (hB.below hW) (by rw [List.length_append];exact h2.symm) (by rw [List.length_append];simp;omega) (fun i hi=>?_) (by rw [List.length_append];exact hL')
  ·rw [List.length_append] at this;exact this
  ·rw [List.length_append] at hi;by_cases hip:i < pre.length
   ·rw [List.getElem_append_left hip];exact hp i hip
   ·obtain rfl:i=pre.length:=by simp at hi;omega
    rw [List.getElem_append_right (Nat.le_refl _)];simp only [Nat.sub_self,List.getElem_cons_zero];exact ⟨by omega,hlt,by rw [<- h1];omega⟩
theorem rPastsOf_at (hB:BookAt w b vr vg vm vs vc) (hO:BkOk b) (hr:∀ r∈b.rs,recAl b r=0) :
 Calls Tryz.prog 35 #[.agg #[vr,vg,vm,vs,vc]] w (PastsOut w (pasts b)):=by
 have hc:∀ (W:World) (hb:Below w.heap.size w W),Calls Tryz.prog 80 #[.agg #[vr,vg,vm,vs,vc],.slice none 0 0] W (PastsOut W (pasts b)):=fun (W:World) (hb:Below w.heap.size w W)=>rPasts_at (vr:=vr) (vg:=vg) (vm:=vm) (vs:=vs) (vc:=vc) hO hr b.ss [] W none 0 (hB.below hb) rfl (Nat.zero_le _) (fun i hi=>absurd hi (Nat.not_lt_zero _)) (IntsV.nil _);have HC:=Hh hc;clear hc hB hO hr
 go_enter Tryz.func35,Tryz.ntmps35
 go_wp2_with (go_at_call 80;(with_reducible refine (HC.out _ (bel)).mono ?_);rintro e w1 ⟨a,c,vs',rfl,h1,h2,h3⟩);go_ret;exact ⟨a,c,vs',rfl,ownsRow_base h1 (by simp),h2,bel⟩
def askedAl (b:Bk) (is:Bool):Int:=if bookAl b≠0 then bookAl b else if is=false then 6 else if pasts b=[] then 10 else 0
theorem askedAl_ok {b:Bk} {is:Bool} (h:askedAl b is=0):bookAl b=0/\is=true/\pasts b≠[]:=by
 unfold askedAl at h;split at h
 ·rename_i hh;exact absurd h hh
 ·rename_i hh
  split at h
  ·cases h
  ·rename_i h2
   split at h
   ·cases h
   ·rename_i h3;exact ⟨Classical.not_not.1 hh,by simpa using h2,h3⟩
theorem rAsked_no (hB:BookAt w b vr vg vm vs vc) (hN:∀ m∈b.ms,m.name.size<=1000000) (is:Bool) {t:Int} (ht:askedAl b is=t) (h0:t≠0) :
 Calls Tryz.prog 44 #[.agg #[vr,vg,vm,vs,vc],.bool is] w fun e w'=>e=.returned (.tuple #[.slice none 0 0,.int .i64 t])/\Below w.heap.size w w':=by
 have HB:=Hh hB;have HN:=Hh hN;obtain ⟨rfl,rfl,⟨ma,mc,rfl,_,_⟩,⟨sa,sc,rfl,_,_⟩,ra,rc,rfl,_,_⟩:=id hB;clear hB hN;by_cases hk:bookAl b=0
 case neg =>
  have h1:askedAl b is=bookAl b:=by unfold askedAl;rw [if_pos hk]
  rw [h1] at ht;have H0:=Hh ht;have hz3:(t != 0)=true:=by simpa using h0
  clear ht h1 hk h0
  go_enter Tryz.func44,Tryz.ntmps44
  go_wp2_with (go_at_call 34;(with_reducible refine (rCheckBook_at (HB.out.below (bel)) HN.out H0.out).mono ?_);rintro e w1 ⟨rfl,hb1⟩;obtain ⟨hc1,hf1⟩:=bcell hb1;have hz1:w.heap.size < w1.heap.size:=(by have:=hb1.size;simp at this;omega));exact bodyPost_ret (v:=.tuple #[.slice none 0 0,.int .i64 t]) (by simp [results,Tryz.results44,go_sem, *]) rfl ⟨rfl,bel⟩
 have H0:=Hh hk;have HO:=Hh (bookAl_ok hk).1;have HR:=Hh (bookAl_ok hk).2;cases is
 ·have h1:t=6:=by rw [<- ht];unfold askedAl;rw [if_neg (by simpa using hk),if_pos rfl]
  subst h1;clear ht hk h0
  go_enter Tryz.func44,Tryz.ntmps44
  go_wp2_with (go_at_call 34;(with_reducible refine (rCheckBook_at (HB.out.below (bel)) HN.out H0.out).mono ?_);rintro e w1 ⟨rfl,hb1⟩;obtain ⟨hc1,hf1⟩:=bcell hb1;have hz1:w.heap.size < w1.heap.size:=(by have:=hb1.size;simp at this;omega));exact bodyPost_ret (v:=.tuple #[.slice none 0 0,.int .i64 6]) (by simp [results,Tryz.results44,go_sem, *]) rfl ⟨rfl,bel⟩
 ·have hp:pasts b=[]:=by
   apply Classical.byContradiction;intro hp;apply h0;rw [<- ht];unfold askedAl;rw [if_neg (by simpa using hk),if_neg (by simp),if_neg hp]
  have h1:t=10:=by rw [<- ht];unfold askedAl;rw [if_neg (by simpa using hk),if_neg (by simp),if_pos hp]
  subst h1;have hpl:(pasts b).length=0:=by rw [hp];rfl
  have HP:=Hh hpl;clear ht hk h0 hp hpl
  go_enter Tryz.func44,Tryz.ntmps44
  go_wp2_with (first
   | (go_at_call 34;(with_reducible refine (rCheckBook_at (HB.out.below (bel)) HN.out H0.out).mono ?_);rintro e w1 ⟨rfl,hb1⟩;obtain ⟨hc1,hf1⟩:=bcell hb1;have hz1:w.heap.size < w1.heap.size:=(by have:=hb1.size;simp at this;omega))
   | (go_at_call 35;(with_reducible refine (rPastsOf_at (HB.out.below (bel)) HO.out HR.out).mono ?_);rintro e w3 ⟨a,c,vs',rfl,h1,h2,hb3⟩;rw [HP.out]))
  exact bodyPost_ret (v:=.tuple #[.slice none 0 0,.int .i64 10]) (by simp [results,Tryz.results44,go_sem, *]) rfl ⟨rfl,bel⟩
def AskedOut (W:World) (ls:List (List Int)) (e:Ending) (W':World):Prop:=∃ a c vs,e=.returned (.tuple #[.slice a ls.length c,.int .i64 0])/\W'.ownsRow W.heap.size 35 1 (.slice a ls.length c) ls.length vs/\ListsV W' vs ls/\Below W.heap.size W W'
theorem rAsked_ok (hB:BookAt w b vr vg vm vs vc) (hN:∀ m∈b.ms,m.name.size<=1000000) (ht:askedAl b true=0) :
 Calls Tryz.prog 44 #[.agg #[vr,vg,vm,vs,vc],.bool true] w (AskedOut w (pasts b)):=by
 obtain ⟨hk,_,hp⟩:=askedAl_ok ht;have HB:=Hh hB;have HN:=Hh hN;obtain ⟨rfl,rfl,⟨ma,mc,rfl,_,_⟩,⟨sa,sc,rfl,_,_⟩,ra,rc,rfl,_,_⟩:=id hB;have H0:=Hh hk;have HO:=Hh (bookAl_ok hk).1;have HR:=Hh (bookAl_ok hk).2;have hpl:(((pasts b).length:Nat):Int) == 0↔False:=by
  have:(pasts b).length≠0:=fun h=>hp (List.length_eq_zero_iff.1 h);simp;exact hp
 have hpl2:((((pasts b).length:Nat):Int) == 0)=false:=by simpa using hp
 clear hB hN hk hp ht hpl
 go_enter Tryz.func44,Tryz.ntmps44
 go_wp2_with (first
  | (go_at_call 34;(with_reducible refine (rCheckBook_at (HB.out.below (bel)) HN.out H0.out).mono ?_);rintro e w1 ⟨rfl,hb1⟩;obtain ⟨hc1,hf1⟩:=bcell hb1;have hz1:w.heap.size < w1.heap.size:=(by have:=hb1.size;simp at this;omega))
  | (go_at_call 35;(with_reducible refine (rPastsOf_at (HB.out.below (bel)) HO.out HR.out).mono ?_);rintro e w3 ⟨a,c,vs',rfl,h1,h2,hb3⟩))
 have hbw:Below w.heap.size w w1:=bel;exact bodyPost_ret (v:=.tuple #[.slice a (pasts b).length c,.int .i64 0]) (by simp [results,Tryz.results44,go_sem, *]) rfl ⟨a,c,vs',rfl,ownsRow_base h1 hbw.size,h2,bel⟩
end
section
variable {b:Bk} {vr vg vm vs vc:Value} {w:World}
end
attribute [local go_sem] Oper.semAt_some
theorem mem_pastsFrom {b:Bk}:∀ (l:List (List Prt)) (pre x:List Int),x∈pastsFrom b pre l↔∃ suf,x=pre ++ suf/\suf.length=l.length/\(∀ i (h:i < suf.length),0<=suf[i]/\∃ h2:i < l.length,suf[i]<=(l[i].length:Int))/\right b x=true
 | [],pre,x=>by
  unfold pastsFrom;constructor
  ·intro h;split at h
   ·rename_i hr
    simp only [List.mem_singleton] at h;exact ⟨[],by simp [h],rfl,fun i hi=>absurd hi (Nat.not_lt_zero _),by rw [h];exact hr⟩
   ·simp at h
  ·rintro ⟨suf,rfl,hl,_,hr⟩;obtain rfl:suf=[]:=List.length_eq_zero_iff.1 hl;rw [List.append_nil] at hr ⊢;rw [if_pos hr];simp
 | s::l,pre,x=>by
  unfold pastsFrom;rw [List.mem_flatMap];constructor
  ·rintro ⟨n,hn,hx⟩;obtain ⟨suf,rfl,hl,hr,hri⟩:=(mem_pastsFrom l _ x).1 hx;rw [List.mem_range] at hn;refine ⟨(n:Int)::suf,by simp,by simp [hl],fun i hi=>?_,hri⟩
   cases i with
   | zero=>simp;omega
   | succ i =>
    obtain ⟨h1,h2,h3⟩:=hr i (by simpa using hi);exact ⟨by simpa using h1,by simpa using h2,by simpa using h3⟩
  ·rintro ⟨suf,rfl,hl,hr,hri⟩
   match suf,hl with
   | y::suf,hl =>
    obtain ⟨h1,_,h3⟩:=hr 0 (by simp);simp only [List.getElem_cons_zero] at h1 h3;refine ⟨y.toNat,List.mem_range.2 (by omega),(mem_pastsFrom l _ _).2 ⟨suf,?_,by simpa using hl,fun i hi=>?_,?_⟩⟩
    ·rw [Int.toNat_of_nonneg h1];simp
    ·obtain ⟨h4,h5,h6⟩:=hr (i+1) (by simpa using hi);exact ⟨by simpa using h4,by simpa using h5,by simpa using h6⟩
    ·exact hri
section
variable {b:Bk} {vr vg vm vs vc:Value} {w:World}
end
end
section
open Go.RowKit Sp
end
section
open Go.RowKit Go.Maps Sp
def SesRaw (w:World) (a:Option Addr) (l:List (List Prt)):Prop:=∀ i (h:i < l.length),∃ b o,a=some ⟨b,o,none⟩/\b < w.heap.size /\
 ∃ pa pc,w.cell? ⟨b,o+i,none⟩=some (.slice pa l[i].length pc)/\l[i].length<=pc/\PartsAt w pa l[i]
structure RawAt (w:World) (b:Bk) (vr vg vm vs vc:Value):Prop where
 room:vr=.int .i64 b.room
 gap:vg=.int .i64 b.gap
 ms:∃ a c,vm=.slice a b.ms.length c/\MsgsAt w a b.ms
 ss:∃ a c,vs=.slice a b.ss.length c/\SesRaw w a b.ss
 rs:∃ a c,vc=.slice a b.rs.length c/\RecsAt w a b.rs
theorem SesRaw.below {w w':World} {a:Option Addr} {l:List (List Prt)} (h:SesRaw w a l) (hb:Below w.heap.size w w'):SesRaw w' a l:=fun i hi=>by
 obtain ⟨b,o,e,hlt,pa,pc,h1,h2,h4⟩:=h i hi;exact ⟨b,o,e,Nat.lt_of_lt_of_le hlt hb.size,pa,pc,(hb.cell hlt).trans h1,h2,h4.below hb⟩
def SmallB (b:Bk):Prop:=b.ms.length<=20/\b.ss.length<=20/\b.rs.length<=20/\(∀ m∈b.ms,m.name.size<=100)/\∀ s∈b.ss,s.length<=20
theorem RawAt.book {w:World} {b:Bk} {vr vg vm vs vc:Value} (h:RawAt w b vr vg vm vs vc) (hs:SmallB b):BookAt w b vr vg vm vs vc:=by
 obtain ⟨h1,h2,⟨a1,c1,e1,h3⟩,⟨a2,c2,e2,h4⟩,a3,c3,e3,h5⟩:=h;obtain ⟨s1,s2,s3,s4,s5⟩:=hs;refine ⟨h1,h2,⟨a1,c1,e1,h3,by omega⟩,⟨a2,c2,e2,fun i hi=>?_,by omega⟩,a3,c3,e3,h5,by omega⟩;obtain ⟨b',o,e,hlt,pa,pc,q1,q2,q4⟩:=h4 i hi;have:=s5 _ (List.getElem_mem hi);exact ⟨b',o,e,hlt,pa,pc,q1,q2,by omega,q4⟩
theorem great_at {b:Bk} {vr vg vm vs vc:Value} {w:World} (hB:RawAt w b vr vg vm vs vc) {g:Bool} (hg:g=true↔¬ SmallB b) :
 Calls Tryz.prog 4 #[.agg #[vr,vg,vm,vs,vc]] w fun e w'=>e=.returned (.bool g)/\Below w.heap.size w w':=by
 have HG:=Hh hg;clear hg;obtain ⟨rfl,rfl,⟨ma,mc,rfl,hM⟩,⟨sa,sc,rfl,hS⟩,ra,rc,rfl,_⟩:=hB;have HM:=Hh hM;clear hM;have HS:=Hh hS;clear hS;by_cases h1:20 < b.ms.length
 ·obtain rfl:g=true:=HG.out.2 fun h=>by have:=h.1;omega
  go_enter Tryz.func4,Tryz.ntmps4
  go_wp2;go_ret;exact ⟨rfl,bel⟩
 by_cases h2:20 < b.ss.length
 ·obtain rfl:g=true:=HG.out.2 fun h=>by have:=h.2.1;omega
  go_enter Tryz.func4,Tryz.ntmps4
  go_wp2;go_ret;exact ⟨rfl,bel⟩
 by_cases h3:20 < b.rs.length
 ·obtain rfl:g=true:=HG.out.2 fun h=>by have:=h.2.2.1;omega
  go_enter Tryz.func4,Tryz.ntmps4
  go_wp2;go_ret;exact ⟨rfl,bel⟩
 have hl1:b.ms.length<=20:=by omega
 have hl2:b.ss.length<=20:=by omega
 have hl3:b.rs.length<=20:=by omega
 go_enter Tryz.func4,Tryz.ntmps4
 go_wp2;obtain ⟨W0,hW0⟩:∃ W0,W0=w.alloc (.cells #[.int .i64 b.room,.int .i64 b.gap,.slice ma b.ms.length mc,.slice sa b.ss.length sc,.slice ra b.rs.length rc] 26):=⟨_,rfl⟩;rw [<- hW0];have five:=Five.new w (.int .i64 b.room) (.int .i64 b.gap) (.slice ma b.ms.length mc) (.slice sa b.ss.length sc) (.slice ra b.rs.length rc) 26;rw [<- hW0] at five;have hb0:Below w.heap.size w W0:=by rw [hW0];(exact bel)
 clear hW0;obtain ⟨n0,n1,n2,n3,n4,nl⟩:=five;go_loopw [3] (fun i wr=>∃ (k:Nat),k<=b.ms.length/\i=.int .i64 k/\Hid (∀ m∈b.ms.take k,m.name.size<=100)/\Below W0.heap.size W0 wr) (fun i _=>b.ms.length - (intOf i).toNat)
 case atStart=>exact ⟨0,Nat.zero_le _,rfl,by simp [Hid],Below.refl _ _⟩
 case round =>
  obtain ⟨k,hk,rfl,hG,hW⟩:=hrel;obtain ⟨wo,rfl⟩:∃ wo:World,wo=wr:=⟨_,rfl⟩;have hWs:=hW.size;have m2:=(hW.cell (p:=⟨w.heap.size,2,none⟩) nl).trans n2;have m3:=(hW.cell (p:=⟨w.heap.size,3,none⟩) nl).trans n3;have ml:w.heap.size < wo.heap.size:=by omega
  have hbw:=Below.next hb0 hW;clear n0 n1 n2 n3 n4;by_cases hlt:k < b.ms.length
  ·obtain ⟨mb,mo,rfl,hmb,h0,_,_⟩:=HM.out k hlt;have c0:=(hbw.cell hmb).trans h0;have hmb2:mb < wo.heap.size:=Nat.lt_of_lt_of_le hmb hbw.size;have htk:=List.take_succ_eq_append_getElem hlt;clear h0;have hgr:100 < b.ms[k].name.size->g=true:=fun h=>HG.out.2 fun hs=>by have:=hs.2.2.2.1 _ (List.getElem_mem hlt);omega
   generalize b.ms[k]=m at c0 htk hgr;have HT:=Hh htk;clear htk;obtain ⟨nm,gr,du⟩:=m;dsimp only at c0 hgr;by_cases h100:100 < nm.size
   ·obtain rfl:=hgr h100;clear hgr;go_wp2;go_ret;exact ⟨rfl,bel⟩
   ·clear hgr;have hle:nm.size<=100:=by omega
    go_wp2;go_roundw
    case rel =>
     refine ⟨k+1,by omega,by go_num,?_,bel⟩;intro m hm;rw [HT.out,List.mem_append,List.mem_singleton] at hm;rcases hm with hm | rfl
     ·exact hG.out m hm
     ·exact hle
    case measure=>simp [intOf];omega
  ·obtain rfl:k=b.ms.length:=by omega
   have hN:Hid (∀ m∈b.ms,m.name.size<=100):=by have:=hG.out;rwa [List.take_length] at this
   clear hG;go_wp2;go_loopw [4] (fun i wr=>∃ (k:Nat),k<=b.ss.length/\i=.int .i64 k/\Hid (∀ s∈b.ss.take k,s.length<=20)/\Below wo.heap.size wo wr) (fun i _=>b.ss.length - (intOf i).toNat)
   case atStart=>exact ⟨0,Nat.zero_le _,rfl,by simp [Hid],Below.refl _ _⟩
   case round =>
    obtain ⟨j,hj,rfl,hG,hX⟩:=hrel;have hXs:=hX.size;have l3:=(hX.cell (p:=⟨w.heap.size,3,none⟩) ml).trans m3;have ll:w.heap.size < wr.heap.size:=by omega
    have hbx:=Below.next hbw hX;clear m2 m3;by_cases hjt:j < b.ss.length
    ·obtain ⟨sb,so,rfl,hsb,pa,pc,h0,hpc,_⟩:=HS.out j hjt;have c0:=(hbx.cell hsb).trans h0;have hsb2:sb < wr.heap.size:=Nat.lt_of_lt_of_le hsb hbx.size;have htk:=List.take_succ_eq_append_getElem hjt;clear h0;have hgr:20 < b.ss[j].length->g=true:=fun h=>HG.out.2 fun hs=>by have:=hs.2.2.2.2 _ (List.getElem_mem hjt);omega
     generalize b.ss[j]=s at c0 htk hpc hgr;have HT:=Hh htk;clear htk;by_cases h20:20 < s.length
     ·obtain rfl:=hgr h20;clear hgr;go_wp2;go_ret;exact ⟨rfl,bel⟩
     ·clear hgr;have hle:s.length<=20:=by omega
      go_wp2;go_roundw
      case rel =>
       refine ⟨j+1,by omega,by go_num,?_,bel⟩;intro m hm;rw [HT.out,List.mem_append,List.mem_singleton] at hm;rcases hm with hm | rfl
       ·exact hG.out m hm
       ·exact hle
      case measure=>simp [intOf];omega
    ·obtain rfl:j=b.ss.length:=by omega
     have hQ:Hid (∀ s∈b.ss,s.length<=20):=by have:=hG.out;rwa [List.take_length] at this
     clear hG;obtain rfl:g=false:=by
      cases g with
      | false=>rfl
      | true=>exact absurd ⟨hl1,hl2,hl3,hN.out,hQ.out⟩ (HG.out.1 rfl)
     go_wp2;go_ret;exact ⟨rfl,bel⟩
attribute [local go_sem] Oper.semAt_some
section
variable {b:Bk} {vr vg vm vs vc:Value} {w:World}
end
end
section
open Go.RowKit Go.Maps Sp Mt Go.Conc
theorem Twin.raw {n:Nat} {w w1:World} (h:Twin n w w1) {b:Bk} {vr vg vm vs vc:Value} (k:RawAt w b vr vg vm vs vc):RawAt w1 b vr vg vm vs vc:=by
 obtain ⟨h1,h2,⟨a1,c1,e1,h3⟩,⟨a2,c2,e2,h4⟩,a3,c3,e3,h5⟩:=k;refine ⟨h1,h2,⟨a1,c1,e1,h.msgs h3⟩,⟨a2,c2,e2,fun i hi=>?_⟩,a3,c3,e3,h.recs h5⟩;obtain ⟨b,o,e,hlt,pa,pc,q1,q2,q4⟩:=h4 i hi;exact ⟨b,o,e,by rw [h.size];exact hlt,pa,pc,(h.cell _).trans q1,q2,h.parts q4⟩
theorem RawAt.below {w w1:World} (h:Below w.heap.size w w1) {b:Bk} {vr vg vm vs vc:Value} (k:RawAt w b vr vg vm vs vc):RawAt w1 b vr vg vm vs vc:=by
 obtain ⟨h1,h2,⟨a1,c1,e1,h3⟩,⟨a2,c2,e2,h4⟩,a3,c3,e3,h5⟩:=k;exact ⟨h1,h2,⟨a1,c1,e1,h3.below h⟩,⟨a2,c2,e2,h4.below h⟩,a3,c3,e3,h5.below h⟩
theorem Old.raw {w w1:World} (h:Old w w1) {b:Bk} {vr vg vm vs vc:Value} (k:RawAt w b vr vg vm vs vc):RawAt w1 b vr vg vm vs vc:=(on_twin w1 w.tape 0).raw (k.below h.below)
structure LawAt (w:World) (B:Nat) (b:Bk) (l:List Int) (vr vg vm vs vc:Value) (la:Option Addr):Prop where
 c0:w.cell? ⟨B,0,none⟩=some vr
 c1:w.cell? ⟨B,1,none⟩=some vg
 c2:w.cell? ⟨B,2,none⟩=some vm
 c3:w.cell? ⟨B,3,none⟩=some vs
 c4:w.cell? ⟨B,4,none⟩=some vc
 raw:RawAt w b vr vg vm vs vc
 kd:KindsAt w
 im:IntsAt w la l
section
variable {w w1:World} {B:Nat} {b:Bk} {l:List Int} {vr vg vm vs vc:Value} {la:Option Addr}
theorem LawAt.twin {n:Nat} (h:LawAt w B b l vr vg vm vs vc la) (t:Twin n w w1):LawAt w1 B b l vr vg vm vs vc la:=⟨(t.cell _).trans h.c0,(t.cell _).trans h.c1,(t.cell _).trans h.c2,(t.cell _).trans h.c3,(t.cell _).trans h.c4,t.raw h.raw,t.kinds h.kd,t.ints h.im⟩
theorem LawAt.old (h:LawAt w B b l vr vg vm vs vc la) (t:Old w w1):LawAt w1 B b l vr vg vm vs vc la:=⟨t.cell2 h.c0,t.cell2 h.c1,t.cell2 h.c2,t.cell2 h.c3,t.cell2 h.c4,t.raw h.raw,t.kinds h.kd,t.ints h.im⟩
theorem ints_nil {a:Option Addr}:IntsAt w a []:=fun i hi=>absurd hi (Nat.not_lt_zero _)
theorem SmallB.names {b:Bk} (h:SmallB b):∀ m∈b.ms,m.name.size<=1000000:=fun m hm=>Nat.le_trans (h.2.2.2.1 m hm) (by decide)
theorem SmallB.groups {b:Bk} (h:SmallB b):True:=trivial
end
end
section
open Go.RowKit Sp
theorem cellsStr:Tryz.prog.cellsOf 9=1:=by kernel_rfl
theorem cellsInt:Tryz.prog.cellsOf 3=1:=by kernel_rfl
theorem cellsKd:Tryz.prog.cellsOf 27=1:=by kernel_rfl
theorem cellsBook:Tryz.prog.cellsOf 26=5:=by kernel_rfl
theorem cellsMsg:Tryz.prog.cellsOf 48=3:=by kernel_rfl
theorem cellsSes:Tryz.prog.cellsOf 32=1:=by kernel_rfl
theorem cellsPart:Tryz.prog.cellsOf 76=2:=by kernel_rfl
theorem cellsRec:Tryz.prog.cellsOf 29=4:=by kernel_rfl
theorem cellsParts:Tryz.prog.cellsOf 30=1:=by kernel_rfl
theorem cellsMsgs:Tryz.prog.cellsOf 22=1:=by kernel_rfl
theorem cellsSess:Tryz.prog.cellsOf 23=1:=by kernel_rfl
theorem cellsRecs:Tryz.prog.cellsOf 24=1:=by kernel_rfl
theorem addr_plus (b o k:Nat):Addr.add ⟨b,o,none⟩ k=⟨b,o+k,none⟩:=by
 unfold Addr.add;split
 ·rename_i h;subst h;rfl
 ·rfl
theorem spot_of {w:World} {base:Nat} {a:Addr} {k q:Nat} {cs:List Value} (h:w.cells? base (a.add (0 * q)) k=some cs) (hk:0 < k):a.spot=none:=by
 obtain ⟨_,hl,hc⟩:=World.cells?_some h;have:=hc 0 hk;rw [List.getElem?_eq_getElem (by omega)] at this;simpa [Addr.add] using World.cell?_spot this
section
variable {H:Type} {enc:TypeId × Value->H} {w:World} {base:Nat} {sp:Nat->Bool} {held:Bool} {n:Nat} {cs:List Value} {y:DataW H × List MemPlace}
theorem open_msg (h:DataW.trod enc Tryz.prog w base sp held n 48 cs=some y):∃ m:Msg,cs=[.string m.name,.int .i64 m.groups,.int .i64 m.due]:=by
 obtain ⟨xs,k,_,_,hl,hx,hf⟩:=DataW.trod_struct Tryz.underlying48 h;rw [cellsMsg] at hl;have hx3:xs.length=3:=hx;have h0:=hf 0 _ rfl;have h1:=hf 1 _ rfl;have h2:=hf 2 _ rfl
 match cs,hl,xs,hx3 with
 | [a,b,c],_,[x0,x1,x2],_ =>
  simp [cellsStr,cellsInt] at h0 h1 h2;obtain ⟨s,e0,_⟩:=DataW.trod_string Tryz.underlying9 h0;obtain ⟨g,e1,_⟩:=DataW.trod_int Tryz.underlying3 h1;obtain ⟨d,e2,_⟩:=DataW.trod_int Tryz.underlying3 h2;cases e0;cases e1;cases e2;exact ⟨⟨s,g,d⟩,rfl⟩
theorem open_part (h:DataW.trod enc Tryz.prog w base sp held n 76 cs=some y):∃ m:Prt,cs=[.int .i64 m.1,.int .i64 m.2]:=by
 obtain ⟨xs,k,_,_,hl,hx,hf⟩:=DataW.trod_struct Tryz.underlying76 h;rw [cellsPart] at hl;have hx3:xs.length=2:=hx;have h0:=hf 0 _ rfl;have h1:=hf 1 _ rfl
 match cs,hl,xs,hx3 with
 | [a,b],_,[x0,x1],_ =>
  simp [cellsInt] at h0 h1;obtain ⟨g,e1,_⟩:=DataW.trod_int Tryz.underlying3 h0;obtain ⟨d,e2,_⟩:=DataW.trod_int Tryz.underlying3 h1;cases e1;cases e2;exact ⟨(g,d),rfl⟩
theorem open_rec (h:DataW.trod enc Tryz.prog w base sp held n 29 cs=some y):∃ m:Rec,cs=[.int .i64 m.k,.int .i64 m.a,.int .i64 m.b,.int .i64 m.m]:=by
 obtain ⟨xs,k,_,_,hl,hx,hf⟩:=DataW.trod_struct Tryz.underlying29 h;rw [cellsRec] at hl;have hx3:xs.length=4:=hx;have h0:=hf 0 _ rfl;have h1:=hf 1 _ rfl;have h2:=hf 2 _ rfl;have h3:=hf 3 _ rfl
 match cs,hl,xs,hx3 with
 | [a,b,c,d],_,[x0,x1,x2,x3],_ =>
  simp [cellsInt,cellsKd] at h0 h1 h2 h3;obtain ⟨q0,e0,_⟩:=DataW.trod_int Tryz.underlying27 h0;obtain ⟨q1,e1,_⟩:=DataW.trod_int Tryz.underlying3 h1;obtain ⟨q2,e2,_⟩:=DataW.trod_int Tryz.underlying3 h2;obtain ⟨q3,e3,_⟩:=DataW.trod_int Tryz.underlying3 h3;cases e0;cases e1;cases e2;cases e3;exact ⟨⟨q0,q1,q2,q3⟩,rfl⟩
instance : Inhabited Msg := ⟨⟨ByteArray.empty, 0, 0⟩⟩
instance : Inhabited Rec := ⟨⟨0, 0, 0, 0⟩⟩
theorem open_msgs (h:DataW.trod enc Tryz.prog w base (fun _=>true) held n 22 cs=some y):∃ a l c,cs=[.slice a (List.length l) c]/\MsgsAt w a l:=by
 rcases Deep.open_slice Tryz.underlying22 h with ⟨hcs,_⟩ | ⟨a,len,cap,m,k,D,Pl,hcs,hb,hl,hm,hmm,_,hx⟩
 ·exact ⟨none,[],0,hcs,fun i hi=>absurd hi (Nat.not_lt_zero _)⟩
 ·rw [cellsMsg] at hx;simp only [if_true] at hmm;obtain ⟨M,hM⟩:=Deep.choose_lt (α:=Msg) (p:=fun i m=>w.cells? base (a.add (i * 3)) 3=some [.string m.name,.int .i64 m.groups,.int .i64 m.due]) (fun i hi=>by
   obtain ⟨cs',h1,h2⟩:=hx i (show i < m from hi)
   obtain ⟨q,rfl⟩:=open_msg h2
   exact ⟨q,h1⟩)
  refine ⟨some a,(List.range len).map M,cap,by rw [hcs];simp,fun i hi=>?_⟩;have hi2:i < len:=by simpa using hi
  have hs:=spot_of (hM 0 (by omega)) (by decide);obtain ⟨b,o,spot⟩:=a;simp only at hs;subst hs;obtain ⟨_,_,hc⟩:=World.cells?_some (hM i (by omega));have c0:=hc 0 (by decide);have c1:=hc 1 (by decide);have c2:=hc 2 (by decide);simp only [addr_plus,Nat.add_zero,List.getElem?_cons_zero,List.getElem?_cons_succ] at c0 c1 c2;refine ⟨b,o,rfl,lt_of_cell c0,?_,?_,?_⟩ <;> simp only [List.getElem_map,List.getElem_range] <;> assumption
theorem open_parts (h:DataW.trod enc Tryz.prog w base (fun _=>true) held n 30 cs=some y):∃ a l c,cs=[.slice a (List.length l) c]/\List.length l<=c/\PartsAt w a l:=by
 rcases Deep.open_slice Tryz.underlying30 h with ⟨hcs,_⟩ | ⟨a,len,cap,m,k,D,Pl,hcs,hb,hl,hm,hmm,_,hx⟩
 ·exact ⟨none,[],0,hcs,Nat.le_refl _,fun i hi=>absurd hi (Nat.not_lt_zero _)⟩
 ·rw [cellsPart] at hx;simp only [if_true] at hmm;obtain ⟨M,hM⟩:=Deep.choose_lt (α:=Prt) (p:=fun i m=>w.cells? base (a.add (i * 2)) 2=some [.int .i64 m.1,.int .i64 m.2]) (fun i hi=>by
   obtain ⟨cs',h1,h2⟩:=hx i (show i < m from hi)
   obtain ⟨q,rfl⟩:=open_part h2
   exact ⟨q,h1⟩)
  refine ⟨some a,(List.range len).map M,cap,by rw [hcs];simp,by simpa using hl,fun i hi=>?_⟩;have hi2:i < len:=by simpa using hi
  have hs:=spot_of (hM 0 (by omega)) (by decide);obtain ⟨b,o,spot⟩:=a;simp only at hs;subst hs;obtain ⟨_,_,hc⟩:=World.cells?_some (hM i (by omega));have c0:=hc 0 (by decide);have c1:=hc 1 (by decide);simp only [addr_plus,Nat.add_zero,List.getElem?_cons_zero,List.getElem?_cons_succ] at c0 c1;refine ⟨b,o,rfl,lt_of_cell c0,?_,?_⟩ <;> simp only [List.getElem_map,List.getElem_range] <;> assumption
theorem open_recs (h:DataW.trod enc Tryz.prog w base (fun _=>true) held n 24 cs=some y):∃ a l c,cs=[.slice a (List.length l) c]/\RecsAt w a l:=by
 rcases Deep.open_slice Tryz.underlying24 h with ⟨hcs,_⟩ | ⟨a,len,cap,m,k,D,Pl,hcs,hb,hl,hm,hmm,_,hx⟩
 ·exact ⟨none,[],0,hcs,fun i hi=>absurd hi (Nat.not_lt_zero _)⟩
 ·rw [cellsRec] at hx;simp only [if_true] at hmm;obtain ⟨M,hM⟩:=Deep.choose_lt (α:=Rec) (p:=fun i m=>w.cells? base (a.add (i * 4)) 4=some [.int .i64 m.k,.int .i64 m.a,.int .i64 m.b,.int .i64 m.m]) (fun i hi=>by
   obtain ⟨cs',h1,h2⟩:=hx i (show i < m from hi)
   obtain ⟨q,rfl⟩:=open_rec h2
   exact ⟨q,h1⟩)
  refine ⟨some a,(List.range len).map M,cap,by rw [hcs];simp,fun i hi=>?_⟩;have hi2:i < len:=by simpa using hi
  have hs:=spot_of (hM 0 (by omega)) (by decide);obtain ⟨b,o,spot⟩:=a;simp only at hs;subst hs;obtain ⟨_,_,hc⟩:=World.cells?_some (hM i (by omega));have c0:=hc 0 (by decide);have c1:=hc 1 (by decide);have c2:=hc 2 (by decide);have c3:=hc 3 (by decide);simp only [addr_plus,Nat.add_zero,List.getElem?_cons_zero,List.getElem?_cons_succ] at c0 c1 c2 c3;refine ⟨b,o,rfl,lt_of_cell c0,?_,?_,?_,?_⟩ <;> simp only [List.getElem_map,List.getElem_range] <;> assumption
theorem open_sess (h:DataW.trod enc Tryz.prog w base (fun _=>true) held n 23 cs=some y):∃ a l c,cs=[.slice a (List.length l) c]/\SesRaw w a l:=by
 rcases Deep.open_slice Tryz.underlying23 h with ⟨hcs,_⟩ | ⟨a,len,cap,m,k,D,Pl,hcs,hb,hl,hm,hmm,_,hx⟩
 ·exact ⟨none,[],0,hcs,fun i hi=>absurd hi (Nat.not_lt_zero _)⟩
 ·rw [cellsSes] at hx;simp only [if_true] at hmm;obtain ⟨M,hM⟩:=Deep.choose_lt (α:=List Prt) (p:=fun i m=>∃ pa pc,w.cells? base (a.add (i * 1)) 1=some [.slice pa m.length pc]/\m.length<=pc/\PartsAt w pa m) (fun i hi=>by
   obtain ⟨cs',h1,h2⟩:=hx i (show i < m from hi)
   obtain ⟨xs,k',_,_,hl2,hx2,hf⟩:=DataW.trod_struct Tryz.underlying32 h2
   rw [cellsSes] at hl2
   have hx3:xs.length=1:=hx2
   have h0:=hf 0 _ rfl
   match cs',hl2,xs,hx3 with
   | [v],_,[x0],_ =>
    simp [cellsParts] at h0
    obtain ⟨pa,q,pc,e,hq,hp⟩:=open_parts h0
    cases e
    exact ⟨q,pa,pc,h1,hq,hp⟩)
  refine ⟨some a,(List.range len).map M,cap,by rw [hcs];simp,fun i hi=>?_⟩;have hi2:i < len:=by simpa using hi
  obtain ⟨_,_,hM0,_⟩:=hM 0 (by omega);have hs:=spot_of hM0 (by decide);obtain ⟨b,o,spot⟩:=a;simp only at hs;subst hs;obtain ⟨pa,pc,hMi,hq,hp⟩:=hM i (by omega);obtain ⟨_,_,hc⟩:=World.cells?_some hMi;have c0:=hc 0 (by decide);simp only [addr_plus,Nat.add_zero,Nat.mul_one,List.getElem?_cons_zero] at c0;refine ⟨b,o,rfl,lt_of_cell c0,pa,pc,?_,?_,?_⟩ <;> simp only [List.getElem_map,List.getElem_range] <;> assumption
theorem open_book {v:Value} (h:DataW.trod enc Tryz.prog w base (fun _=>true) held n 26 v.cells.toList=some y):∃ b vr vg vm vs vc,v=.agg #[vr,vg,vm,vs,vc]/\RawAt w b vr vg vm vs vc:=by
 obtain ⟨xs,k,_,_,hl,hx,hf⟩:=DataW.trod_struct Tryz.underlying26 h;rw [cellsBook] at hl;obtain ⟨c,rfl⟩:∃ c,v=.agg c:=by
  cases v <;> first | exact ⟨_,rfl⟩ | (simp [Value.cells] at hl)
 simp only [Value.cells] at hl hf;have hx3:xs.length=5:=hx;have h0:=hf 0 _ rfl;have h1:=hf 1 _ rfl;have h2:=hf 2 _ rfl;have h3:=hf 3 _ rfl;have h4:=hf 4 _ rfl;obtain ⟨c⟩:=c;simp only at hl h0 h1 h2 h3 h4
 match c,hl,xs,hx3 with
 | [a0,a1,a2,a3,a4],_,[x0,x1,x2,x3,x4],_ =>
  simp [cellsInt,cellsMsgs,cellsSess,cellsRecs] at h0 h1 h2 h3 h4;obtain ⟨q0,e0,_⟩:=DataW.trod_int Tryz.underlying3 h0;obtain ⟨q1,e1,_⟩:=DataW.trod_int Tryz.underlying3 h1;obtain ⟨ma,ml,mc,e2,hm⟩:=open_msgs h2;obtain ⟨sa,sl,sc,e3,hs⟩:=open_sess h3;obtain ⟨ra,rl,rc,e4,hr⟩:=open_recs h4;cases e0;cases e1;cases e2;cases e3;cases e4;exact ⟨⟨q0,q1,ml,sl,rl⟩,_,_,_,_,_,rfl,rfl,rfl,⟨_,_,rfl,hm⟩,⟨_,_,rfl,hs⟩,_,_,rfl,hr⟩
end
theorem trod_array {H:Type} {enc:TypeId × Value->H} {P:Program} {w:World} {base:Nat} {spare:Nat->Bool} {held:Bool} {fuel n:Nat} {t e:TypeId} {cs:List Value} {x:DataW H × List MemPlace} (ht:P.underlying t=some (.array n e)) (h:DataW.trod enc P w base spare held fuel t cs=some x) :
 ∃ (xs:List (DataW H × List MemPlace)) (m:Nat),x=(.agg (xs.map (·.1)),xs.flatMap (·.2))/\cs.length=P.cellsOf t/\xs.length=n /\
  ∀ (i:Nat),i < n->DataW.trod enc P w base spare held m e ((cs.drop (i * P.cellsOf e)).take (P.cellsOf e))=xs[i]? := by
 cases fuel with
 | zero=>simp [DataW.trod] at h
 | succ m =>
  unfold DataW.trod at h;rw [ht] at h;split at h <;> simp_all;obtain ⟨hl,xs,hp,hd⟩:=h;exact ⟨xs,hd.symm,by simpa using mapM_some_length hp,m,fun i hi=>mapM_some_get hp i i (List.getElem?_range hi)⟩
theorem cellsKindRow:Tryz.prog.cellsOf 171=5:=by kernel_rfl
theorem cellsW:Tryz.prog.cellsOf 9=1:=by kernel_rfl
theorem cellsB:Tryz.prog.cellsOf 4=1:=by kernel_rfl
theorem cellsF1:Tryz.prog.cellsOf 168=1:=by kernel_rfl
theorem cellsF2:Tryz.prog.cellsOf 169=1:=by kernel_rfl
theorem kind_row {w:World} {sp:Nat->Bool} {n:Nat} {cs:List Value} {wd:List UInt8} {ub um:Bool} {b1 b2:UInt8} {r1 r2:List UInt8} {f1 f2:FuncId} {q:List MemPlace}
 (h:DataW.trod (funcToken Tryz.prog) Tryz.prog w 0 sp true n 171 cs=some (.agg [.lit (.string wd),.lit (.bool ub),.lit (.bool um),.held (b1::r1),.held (b2::r2)],q))
 (h1:((List.range Tryz.prog.funcs.size).filter fun f=>(Tryz.prog.funcs[f]?).any (·.name.toUTF8.data.toList == b1::r1))=[f1])
 (h2:((List.range Tryz.prog.funcs.size).filter fun f=>(Tryz.prog.funcs[f]?).any (·.name.toUTF8.data.toList == b2::r2))=[f2]) :
 ∃ s:ByteArray,s.data.toList=wd/\cs=[.string s,.bool ub,.bool um,.func (.func f1) #[] #[],.func (.func f2) #[] #[]]:=by
 obtain ⟨xs,k,_,he,hl,hx,hf⟩:=DataW.trod_struct Tryz.underlying171 h;rw [cellsKindRow] at hl;have hx3:xs.length=5:=hx;have g0:=hf 0 _ rfl;have g1:=hf 1 _ rfl;have g2:=hf 2 _ rfl;have g3:=hf 3 _ rfl;have g4:=hf 4 _ rfl
 match cs,hl,xs,hx3 with
 | [a0,a1,a2,a3,a4],_,[⟨x0,p0⟩,⟨x1,p1⟩,⟨x2,p2⟩,⟨x3,p3⟩,⟨x4,p4⟩],_ =>
  simp only [List.map_cons,List.map_nil,Prod.mk.injEq,DataW.agg.injEq,List.cons.injEq,and_true] at he;obtain ⟨⟨e0,e1,e2,e3,e4⟩,_⟩:=he;subst e0 e1 e2 e3 e4;simp [cellsW,cellsB,cellsF1,cellsF2] at g0 g1 g2 g3 g4;obtain ⟨s,c0,d0,_⟩:=DataW.trod_string Tryz.underlying9 g0;obtain ⟨u,c1,d1⟩:=DataW.trod_bool Tryz.underlying4 g1;obtain ⟨v,c2,d2⟩:=DataW.trod_bool Tryz.underlying4 g2;have c3:=func_of_trod Tryz.underlying168 h1 g3;have c4:=func_of_trod Tryz.underlying169 h2 g4;cases c0;cases c1;cases c2;simp only [Prod.mk.injEq,DataW.lit.injEq,Lit.string.injEq,Lit.bool.injEq,and_true] at d0 d1 d2;obtain ⟨rfl,_⟩:=d1;obtain ⟨rfl,_⟩:=d2;subst c3;subst c4;exact ⟨s,d0.1.symm,rfl⟩
theorem five_at {l:List Value} {k:Nat} {a b c d e:Value} (h:(l.drop k).take 5=[a,b,c,d,e]):l[k]? = some a/\l[k+1]? = some b/\l[k+2]? = some c/\l[k+3]? = some d/\l[k+4]? = some e:=by
 have g:∀ j,j < 5->l[k+j]? = [a,b,c,d,e][j]? := fun j hj=>by
  rw [<- h,List.getElem?_take,if_pos hj,List.getElem?_drop]
 exact ⟨g 0 (by decide),g 1 (by decide),g 2 (by decide),g 3 (by decide),g 4 (by decide)⟩
theorem gKinds:Tryz.prog.globalNamed "baudot/store.kinds"=some 0:=by kernel_rfl
theorem tKinds:(Tryz.prog.globals[0]?).map (·.type)=some 172:=by kernel_rfl
theorem kinds_of_laid {W:World} (h:laidMetH Tryz.prog [("baudot/store.kinds",Rows.laid_baudot_store_kinds)] W):KindsAt W:=by
 obtain ⟨g,t,cs,fuel,p,hg,ht,hv,hd⟩:=h.funcs (List.mem_singleton.2 rfl);obtain rfl:=Option.some.inj (gKinds.symm.trans hg);obtain rfl:=Option.some.inj (tKinds.symm.trans ht);obtain ⟨xs,m,he,_,hx,hel⟩:=trod_array Tryz.underlying172 hd;have hcell:∀ i,W.cell? ⟨0,i,none⟩=cs.toList[i]? := fun i=>by
  rw [World.var?_cell hg hv i];simp
 rw [cellsKindRow] at hel;have e0:=hel 0 (by decide);have e1:=hel 1 (by decide);have e2:=hel 2 (by decide);have e3:=hel 3 (by decide);have e4:=hel 4 (by decide);have e5:=hel 5 (by decide)
 match xs,hx with
 | [⟨x0,p0⟩,⟨x1,p1⟩,⟨x2,p2⟩,⟨x3,p3⟩,⟨x4,p4⟩,⟨x5,p5⟩],_ =>
  have hes:[x0,x1,x2,x3,x4,x5]=_:=(DataW.agg.inj (congrArg Prod.fst he)).symm;simp only [List.getElem?_cons_zero,List.getElem?_cons_succ] at e0 e1 e2 e3 e4 e5;injection hes with h0 hes;injection hes with h1 hes;injection hes with h2 hes;injection hes with h3 hes;injection hes with h4 hes;injection hes with h5 hes;subst h0 h1 h2 h3 h4 h5;obtain ⟨s0,w0,c0⟩:=kind_row (f1:=kindMost 0) (f2:=kindRight 0) e0 (by kernel_rfl) (by kernel_rfl);obtain ⟨s1,w1,c1⟩:=kind_row (f1:=kindMost 1) (f2:=kindRight 1) e1 (by kernel_rfl) (by kernel_rfl);obtain ⟨s2,w2,c2⟩:=kind_row (f1:=kindMost 2) (f2:=kindRight 2) e2 (by kernel_rfl) (by kernel_rfl);obtain ⟨s3,w3,c3⟩:=kind_row (f1:=kindMost 3) (f2:=kindRight 3) e3 (by kernel_rfl) (by kernel_rfl);obtain ⟨s4,w4,c4⟩:=kind_row (f1:=kindMost 4) (f2:=kindRight 4) e4 (by kernel_rfl) (by kernel_rfl);obtain ⟨s5,w5,c5⟩:=kind_row (f1:=kindMost 5) (f2:=kindRight 5) e5 (by kernel_rfl) (by kernel_rfl);have z0:=five_at c0;have z1:=five_at c1;have z2:=five_at c2;have z3:=five_at c3;have z4:=five_at c4;have z5:=five_at c5;refine ⟨lt_of_cell ((hcell 0).trans z0.1),fun i hi=>?_⟩
  match i,hi with
  | 0,_=>exact ⟨⟨s0,w0,(hcell _).trans z0.1⟩,(hcell _).trans z0.2.1,(hcell _).trans z0.2.2.1,(hcell _).trans z0.2.2.2.1,(hcell _).trans z0.2.2.2.2⟩
  | 1,_=>exact ⟨⟨s1,w1,(hcell _).trans z1.1⟩,(hcell _).trans z1.2.1,(hcell _).trans z1.2.2.1,(hcell _).trans z1.2.2.2.1,(hcell _).trans z1.2.2.2.2⟩
  | 2,_=>exact ⟨⟨s2,w2,(hcell _).trans z2.1⟩,(hcell _).trans z2.2.1,(hcell _).trans z2.2.2.1,(hcell _).trans z2.2.2.2.1,(hcell _).trans z2.2.2.2.2⟩
  | 3,_=>exact ⟨⟨s3,w3,(hcell _).trans z3.1⟩,(hcell _).trans z3.2.1,(hcell _).trans z3.2.2.1,(hcell _).trans z3.2.2.2.1,(hcell _).trans z3.2.2.2.2⟩
  | 4,_=>exact ⟨⟨s4,w4,(hcell _).trans z4.1⟩,(hcell _).trans z4.2.1,(hcell _).trans z4.2.2.1,(hcell _).trans z4.2.2.2.1,(hcell _).trans z4.2.2.2.2⟩
  | 5,_=>exact ⟨⟨s5,w5,(hcell _).trans z5.1⟩,(hcell _).trans z5.2.1,(hcell _).trans z5.2.2.1,(hcell _).trans z5.2.2.2.1,(hcell _).trans z5.2.2.2.2⟩
  | i+6,h=>omega
end
section
open Go.ChangeShapes Go.WideShapes Go.ChangeAt Go.RowKit Go.Conc
theorem ownNone:ownKnob Tryz.prog.godebug=none:=by kernel_rfl
theorem laidOutAll:laidOutB Tryz.prog=true:=by kernel_rfl
theorem door_met (os:Os) (args:Array Value):laidMetH Tryz.prog [("baudot/store.kinds",Rows.laid_baudot_store_kinds)] ((World.doorLaid Tryz.prog 20 os).forCall (fun _ _=>0) ⟨#[],args,[]⟩).memory :=
 laidMetH_of_parts3 (fuel:=8) (laidMet_of_run' 8 (by kernel_rfl) (by kernel_rfl)) (by kernel_rfl) (by kernel_rfl)
theorem arg_stays {H:Type} {enc:TypeId × Value->H} {t:TypeId} (hr:Tryz.prog.readableRec t=true) (hrow:t < Tryz.prog.types.size) {W W':World} {v:Value} {d:DataW H} {ps:List MemPlace}
 (h:DataW.Trod enc Tryz.prog W 0 (fun _=>true) true t v d ps) (ho:Old W W') (hlt:∀ x∈ps,x.block < W.heap.size) :
 DataW.Trod enc Tryz.prog W' 0 (fun b=>decide (b < W.heap.size)) true t v d ps :=
 DataW.Trod.of_heap (w:=W'.on W.tape 0) (by rfl) (Below.trod laidOutAll hr hrow h ho.below hlt)
theorem kept_old {W W':World} (ho:Old W W') (may:MemPlace->Prop):W.keptBut W' may:=ho.below.frame may
end
section
open Go.RowKit Sp Mt Go.Conc
def wps (P:Program):List Code->(Act->World->Prop)->Act->World->Prop
 | [],Q,a,w=>Q a w
 | c::l,Q,a,w=>c.wp P (fun e a' w'=>e=.normal/\a'.defers=[]/\∀ t,wps P l Q a' (w'.on t 0)) a w
theorem wps_mono {P:Program} {Q Q':Act->World->Prop} (hq:∀ a w,Q a w->Q' a w):∀ (l:List Code) {a:Act} {w:World},wps P l Q a w->wps P l Q' a w
 | [],_,_,h=>hq _ _ h
 | c::l,_,_,h=>Code.wp_mono (fun e a' w' ⟨h1,h2,h3⟩=>⟨h1,h2,fun t=>wps_mono hq l (h3 t)⟩) h
def seqs:List Code->Code->Code
 | [],R=>R
 | c::l,R=>.seq c (seqs l R)
section
variable {P:Program} {b:Frame} {k:List Item} {cs:List Frame} {S:Mute} {R:Code}
theorem Like.unat {w w':World} {d:Nat} (h:Like P S w w'):Like P S (w.at d) w':=⟨⟨rfl,rfl,0,rfl,rfl⟩,h.os,h.output,h.size,h.block,h.mute,h.heapOk⟩
theorem wps_leads (hP:ProgOk P) (hb:b.kind=.normal) {Q:Act->World->Prop}:∀ (l:List Code) {a:Act} {w w':World},Like P S w w'->(∀ c∈l,codeOk P c=true)->a.defers=[]->(∀ t,wps P l Q a (w'.on t 0)) ->
 Leads P (fun fr' cs' w1=>∃ a' w1',fr'=b.at a' (.code R::k)/\cs'=cs/\Like P S w1 w1'/\∀ t,Q a' (w1'.on t 0)) (b.at a (.code (seqs l R)::k)) cs w
 | [],a,w,w',hl,_,_,h=>.done ⟨a,w',rfl,rfl,hl,h⟩
 | c::l,a,w,w',hl,hc,hd,h=>by
  refine leads_seq fun d=>?_;refine (wp_leads (Z:=fun a' W=>a'.defers=[]/\∀ t,wps P l Q a' (W.on t 0)) hP (Like.unat (d:=d) hl) (hc c (List.mem_cons_self ..)) hb (by rw [hd];exact fun x hx=>(by cases hx)) fun t=>?_).trans ?_
  ·refine Code.wp_mono ?_ (h t);rintro e a' w2 ⟨he,h1,h2⟩;exact ⟨he,w2.tape,w2.drawn,h1,h2⟩
  ·rintro fr' cs' w1 ⟨a',w1',e1,e2,hl1,t,d,h1,h2⟩;rw [e1,e2];exact wps_leads hP hb l hl1 (fun c hm=>hc c (List.mem_cons_of_mem _ hm)) h1 h2
end
theorem pieces_co {b:Frame} {a:Act} {w:World} {k:List Item} {cs:List Frame} {R:Code} (l:List Code) (hc:∀ c∈l,codeOk Tryz.prog c=true) (hb:b.kind=.normal) (hd:a.defers=[]) {Z:Act->World->Prop} (hZ:∀ a w1 w2,Twin w.heap.size w1 w2->Z a w1->Z a w2)
 (h:∀ W,Twin w.heap.size w W->wps Tryz.prog l (fun a' w2=>Z a' w2/\Old W w2) a W) {K:Frame->List Frame->World->Prop} (hk:∀ a' w',Z a' w'->Old w w'->Leads Tryz.prog K (b.at a' (.code R::k)) cs w') :
 Leads Tryz.prog K (b.at a (.code (seqs l R)::k)) cs w:=by
 have hl:=muted_like Tryz.prog w;refine (wps_leads (Q:=fun a' W2=>Z a' W2/\Old (muted w) W2) progOk hb l hl hc hd fun t=>?_).trans ?_
 ·refine wps_mono ?_ l (h _ (muted_twin w t));rintro a' w2 ⟨h1,h2⟩;exact ⟨h1,h2.os,h2.output,h2.size,h2.block⟩
 ·rintro fr' cs' w1 ⟨a',w1',e1,e2,h3,hq⟩;rw [e1,e2];obtain ⟨hz,ho⟩:=hq w1'.tape;exact hk a' w1 (hZ _ _ _ (like_twin hl h3 w1'.tape 0) hz) (like_old hl h3 (d2:=0) (t:=w1'.tape) (t2:=w1'.tape) ⟨ho.os,rfl,ho.output,ho.size,ho.block⟩)
end
section
open Go.RowKit Go.Maps Sp
section
variable {b:Bk} {vr vg vm vs vc:Value} {w:World}
end
end
section
open Go.RowKit Sp
theorem mem_pasts {b:Bk} {x:List Int}:x∈pasts b↔x.length=b.ss.length/\(∀ i (h:i < x.length),0<=x[i]/\∃ h2:i < b.ss.length,x[i]<=(b.ss[i].length:Int))/\right b x=true:=by
 unfold pasts;rw [mem_pastsFrom];constructor
 ·rintro ⟨suf,rfl,h1,h2,h3⟩;exact ⟨h1,h2,h3⟩
 ·rintro ⟨h1,h2,h3⟩;exact ⟨x,rfl,h1,h2,h3⟩
def Really (b:Bk) (c:List Int):Prop:=c.length=b.ss.length/\∀ i (h:i < c.length),0<=c[i]/\∃ h2:i < b.ss.length,c[i]<=(b.ss[i].length:Int)
theorem Really.at {b:Bk} {c:List Int} (h:Really b c) {a:Int} (h0:0<=a) (h1:a<=(b.ss.length:Int) - 1):∃ s,b.ss[a.toNat]? = some s/\0<=c.getD a.toNat 0/\c.getD a.toNat 0<=(s.length:Int):=by
 have hl:a.toNat < c.length:=by rw [h.1];omega
 obtain ⟨k1,k2,k3⟩:=h.2 _ hl;refine ⟨b.ss[a.toNat],List.getElem?_eq_getElem k2,?_,?_⟩ <;> simp only [List.getD_eq_getElem?_getD,List.getElem?_eq_getElem hl,Option.getD_some] <;> assumption
theorem recs_len {b:Bk} (h:bookAl b=0):b.rs.length<=5:=by
 obtain ⟨_,_,_,h3⟩:=bookAl_parts h;unfold recsAl at h3;split at h3
 ·cases h3
 ·omega
end
section
open Go.RowKit Go.Maps Sp Mt Go.Conc
end
end Go.Proofs.YtojkofjcblmnjaaGreatDoor
