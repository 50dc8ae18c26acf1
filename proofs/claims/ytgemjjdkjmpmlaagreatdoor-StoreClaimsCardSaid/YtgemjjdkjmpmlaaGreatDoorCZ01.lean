/- Leads to StoreClaims of chapter 6: E12 E13 G2 Law Law3 Co5 G4 G9 RF0 U10 U13. -/
import Derived.Test.YtgemjjdkjmpmlaaGreatDoorCZ00
import Derived.StillTailTactics
set_option maxHeartbeats 4000000
set_option maxRecDepth 100000
set_option linter.all false
namespace Go.Proofs.YtgemjjdkjmpmlaaGreatDoor
open Go.RowKit Go.Maps Sp
theorem flat_succ (f:Nat->List (List Int)) (k:Nat):(List.range (k+1)).flatMap f=(List.range k).flatMap f ++ f k:=by
 rw [List.range_succ,List.flatMap_append];simp
theorem intsV_pre {w:World} {B n c:Nat} {a:Option Addr} {pre:List Int} {k:Int} (h:w.ownsRow B 3 1 (.slice a n c) n ([] ++ pre.map (Value.int .i64) ++ [.int .i64 k])):IntsV w (.slice a n c) (pre ++ [k]):=IntsV.of (l:=pre ++ [k]) (by simpa using h)
section
variable {b:Bk} {vr vg vm vs vc:Value} {w:World}
theorem rPasts_step (hB:BookAt w b vr vg vm vs vc) (hp5:∀ s∈b.ss,s.length<=5) (h4:b.ss.length<=4) {pre:List Int} {s:List Prt} {l:List (List Prt)} (hs:b.ss.drop pre.length=s::l)
 (hin:∀ n:Nat,n<=s.length->∀ W la lc,Below w.heap.size w W->IntsV W (.slice la (pre.length+1) lc) (pre ++ [(n:Int)])->Calls Tryz.prog 71 #[.agg #[vr,vg,vm,vs,vc],.slice la (pre.length+1) lc] W (PastsOut W (pastsFrom b (pre ++ [(n:Int)]) l)))
 {la:Option Addr} {lc:Nat} (hL:IntsV w (.slice la pre.length lc) pre) :
 Calls Tryz.prog 71 #[.agg #[vr,vg,vm,vs,vc],.slice la pre.length lc] w (PastsOut w ((List.range (s.length+1)).flatMap fun (n:Nat)=>pastsFrom b (pre ++ [(n:Int)]) l)):=by
 have hlt:pre.length < b.ss.length:=by
  apply Classical.byContradiction;intro h;rw [List.drop_eq_nil_of_le (by omega)] at hs;cases hs
 have hsl:(s::l).length<=4:=by rw [← hs,List.length_drop];omega
 have hall:∀ x∈s::l,x.length<=5:=fun x hx=>hp5 x (List.mem_of_mem_drop (hs ▸ hx));have hfew:=fun n (hn:n<=s.length+1)=>fuel_pasts (b:=b) (pre:=pre) hp5 hall hsl hn;have hsx:b.ss[pre.length]=s:=by
  rw [List.drop_eq_getElem_cons hlt] at hs;exact (List.cons.inj hs).1
 have hs5:s.length<=5:=hall s (List.mem_cons_self ..);obtain ⟨sa,sc,rfl,hS,hsl6⟩:=hB.ss;obtain ⟨sb,so,rfl,hsb,pa,pc,h0,hpc,hpl,hPx⟩:=hS pre.length hlt;clear hPx;rw [hsx] at h0 hpc hpl;obtain ⟨_,_,e,hI,hz,hlc⟩:=hL.form;cases e;have hlat0:∀ ad,la=some ad->ad.block < w.heap.size:=fun ad e=>(ownBlock_row hL ad.block (by rw [e];rfl)).2;have HLAT:=Hh hlat0;clear hlat0;have HB:=Hh hB;have HIN:=Hh hin;have HI:=Hh hI;have HZ:=Hh hz;have HFEW:=Hh hfew;have heq:((pre.length:Int) == (b.ss.length:Int))=false:=by simp;omega
 have hpi:(pre.length:Int) < b.ss.length:=by omega
 have hp0:(0:Int)<=(pre.length:Int):=by omega
 have hp4:pre.length < 4:=by omega
 generalize hflat:(fun (n:Nat)=>pastsFrom b (pre ++ [(n:Int)]) l)=f at hfew;have HF:=Hh hflat;have HIN2:Hid (∀ n:Nat,n<=s.length->∀ W la lc,Below w.heap.size w W->IntsV W (.slice la (pre.length+1) lc) (pre ++ [(n:Int)])->Calls Tryz.prog 71 #[.agg #[vr,vg,vm,.slice (some ⟨sb,so,none⟩) b.ss.length sc,vc],.slice la (pre.length+1) lc] W (PastsOut W (f n))):=by rw [← hflat];exact hin
 have HFEW2:Hid (∀ n,n<=s.length+1->((List.range n).flatMap f).length<=1296):=hfew;clear hB hp5 hin hI hz hfew hS hs hsx hlt hall hsl hL HIN HFEW hflat;generalize hpn:pre.length=pn at heq hpi hp0 hp4 h0 hlc;have HPN:=Hh hpn;rw [hpn] at HIN2;clear hpn
 go_enter Tryz.func71,Tryz.ntmps71
 go_wp2;obtain ⟨W0,hW0⟩:∃ W0,W0=w.alloc (.cells #[vr,vg,vm,.slice (some ⟨sb,so,none⟩) b.ss.length sc,vc] 26):=⟨_,rfl⟩;rw [← hW0];have hb0:Below w.heap.size w W0:=by rw [hW0];(exact bel)
 have nn:∀ k u,(#[vr,vg,vm,.slice (some ⟨sb,so,none⟩) b.ss.length sc,vc]:Array Value)[k]? = some u->W0.cell? ⟨w.heap.size,k,none⟩=some u:=fun k u hk=>by
  rw [hW0,World.cell?_alloc_at _ _ _ _ rfl];exact hk
 have hs0:w.heap.size < W0.heap.size:=by rw [hW0];simp
 have hall:∀ w':World,Below W0.heap.size W0 w'->(Below W0.heap.size W0 w'/\w'.cell? ⟨w.heap.size,0,none⟩=some vr/\w'.cell? ⟨w.heap.size,1,none⟩=some vg/\w'.cell? ⟨w.heap.size,2,none⟩=some vm/\w'.cell? ⟨w.heap.size,3,none⟩=some (.slice (some ⟨sb,so,none⟩) b.ss.length sc)/\w'.cell? ⟨w.heap.size,4,none⟩=some vc):=fun w' h =>
  ⟨h,(h.cell (p:=⟨w.heap.size,0,none⟩) hs0).trans (nn 0 _ rfl),(h.cell (p:=⟨w.heap.size,1,none⟩) hs0).trans (nn 1 _ rfl),(h.cell (p:=⟨w.heap.size,2,none⟩) hs0).trans (nn 2 _ rfl),(h.cell (p:=⟨w.heap.size,3,none⟩) hs0).trans (nn 3 _ rfl),(h.cell (p:=⟨w.heap.size,4,none⟩) hs0).trans (nn 4 _ rfl)⟩
 have HALL:=Hh hall;clear hW0 nn hall;go_loopw [5,6] (fun v i wr=>∃ (k:Nat) (a:Option Addr) (c:Nat) (vs:List Value),k<=s.length+1/\i=.int .i64 k/\v=.slice a ((List.range k).flatMap f).length c/\wr.ownsRow W0.heap.size 30 1 (.slice a ((List.range k).flatMap f).length c) ((List.range k).flatMap f).length vs/\ListsV wr vs ((List.range k).flatMap f)/\Below W0.heap.size W0 wr) (fun _ i _=>s.length+1 - (intOf i).toNat)
 case atStart=>exact ⟨0,none,0,[],Nat.zero_le _,rfl,rfl,World.ownsRow_nil _ _ _ _,ListsV.nil _,Below.refl _ _⟩
 case round =>
  obtain ⟨k,a,c,vs,hk,rfl,rfl,hrow,hlv,hW⟩:=hrel;have hWs:=hW.size;obtain ⟨_,m0,m1,m2,m3,m4⟩:=HALL.out _ hW;have hbw:=Below.next hb0 hW;have hx1:w.heap.size < wr.heap.size:=by omega
  have g0:=(hbw.cell hsb).trans h0;have hsb2:sb < wr.heap.size:=Nat.lt_of_lt_of_le hsb hbw.size;have HROW:=Hh hrow;have HLV:=Hh hlv;by_cases hlt:k<=s.length
  ·have hfl:=flat_succ f k;have hf1:=HFEW2.out (k+1) (by omega);rw [hfl,List.length_append] at hf1;have HFL:=Hh hfl;clear hrow hlv hfl;have hcall:=HIN2.out k hlt;have HCALL:=Hh hcall;have hsrc:Src1 wr la lc (pre.map (Value.int .i64)):=(ints_src (HI.out.below hbw) HZ.out);have HSRC:=Hh hsrc;have HBW:=Hh hbw;have HLEN:=Hh (show (pre.map (Value.int .i64)).length=pn by rw [List.length_map];exact HPN.out);have HONE:=Hh (show ∀ u∈pre.map (Value.int .i64),u.oneCell'=true from fun u hu=>by obtain ⟨x,_,rfl⟩:=List.mem_map.1 hu;rfl);have HLT:=Hh (show ∀ ad,la=some ad->ad.block < wr.heap.size from fun ad e=>Nat.lt_of_lt_of_le (HLAT.out ad e) hbw.size);clear hcall hsrc;generalize hout:(List.range k).flatMap f=out at hf1 HROW HLV HFL;generalize hnew:f k=new at hf1 HFL HCALL;have HO1:=Hh hout;have HNW:=Hh hnew;clear hout hnew;go_wp2;go_region_held3 (fun w'=>Below W0.heap.size W0 w'/\w'.cell? ⟨w.heap.size,0,none⟩=some vr/\w'.cell? ⟨w.heap.size,1,none⟩=some vg/\w'.cell? ⟨w.heap.size,2,none⟩=some vm/\w'.cell? ⟨w.heap.size,3,none⟩=some (.slice (some ⟨sb,so,none⟩) b.ss.length sc)/\w'.cell? ⟨w.heap.size,4,none⟩=some vc)
    ((go_split_ands;exact HALL.out _ (bel)))
    (first
      | (refine step_appW wr rfl _ _ 30 rfl 3 Tryz.underlying30 intInfo rfl (by omega) (.slice (some ⟨wr.heap.size,0,none⟩) 0 0) 0 [] rfl la pn lc (pre.map (Value.int .i64)) rfl HLEN.out HONE.out pn (by omega) (by omega) ?_ ?_ ?_ ?_;(focus ((exact bel)));exact own_lit rfl (Nat.le_refl _);exact (HSRC.out).ks (KS.all (show Below wr.heap.size wr _ from bel) (fun _=>True)) (fun ad e=>⟨HLT.out ad e,trivial⟩);intro a2 c2 w2 hown2 hks2 hbw2)
      | (refine step_appW wr rfl _ _ 30 rfl 3 Tryz.underlying30 intInfo rfl (by omega) (.slice (some ⟨wr.heap.size,0,none⟩) 0 0) 0 [] rfl la pn lc (pre.map (Value.int .i64)) rfl HLEN.out HONE.out pn (by omega) (by omega) ?_ ?_ ?_ ?_;(focus ((exact bel)));exact (own_lit (w:=wr.drew) rfl (Nat.le_refl _)).alloc _;exact (HSRC.out).ks (KS.all (show Below wr.heap.size wr _ from bel) (fun _=>True)) (fun ad e=>⟨HLT.out ad e,trivial⟩);intro a2 c2 w2 hown2 hks2 hbw2;have hsrc2:Src1 w2 (some ⟨wr.heap.size+1,0,none⟩) 1 [.int .i64 k]:=(src_new (wr.drew.alloc (.cells #[] 3)) [.int .i64 k] 3 (n:=wr.heap.size+1) (by simp) 1).ks hks2 (fun ad e=>by cases e;exact ⟨by simp,by simp [Value.ownBlock]⟩))
      | (refine step_appW wr rfl _ _ 30 rfl 3 Tryz.underlying30 intInfo rfl (by omega) (.slice (some ⟨wr.heap.size+1,0,none⟩) 0 0) 0 [] rfl la pn lc (pre.map (Value.int .i64)) rfl HLEN.out HONE.out pn (by omega) (by omega) ?_ ?_ ?_ ?_;(focus ((exact bel)));exact own_lit (by simp) (by omega);exact (HSRC.out).ks (KS.all (show Below wr.heap.size wr _ from bel) (fun _=>True)) (fun ad e=>⟨HLT.out ad e,trivial⟩);intro a2 c2 w2 hown2 hks2 hbw2;have hsrc2:Src1 w2 (some ⟨wr.heap.size,0,none⟩) 1 [.int .i64 k]:=((src_new wr.drew [.int .i64 k] 3 (n:=wr.heap.size) rfl 1).ks (KS.alloc (fun _=>True) _ (.cells #[] 3)) (fun ad e=>by cases e;exact ⟨by simp,trivial⟩)).ks hks2 (fun ad e=>by cases e;exact ⟨by simp;omega,by simp [Value.ownBlock]⟩))
      | (refine step_appW wr rfl _ _ 30 rfl 3 Tryz.underlying30 intInfo rfl (by omega) (.slice a2 pn c2) pn ([] ++ pre.map (Value.int .i64)) rfl (some ⟨w2.heap.size,0,none⟩) 1 1 [.int .i64 k] rfl rfl (by simp [Value.oneCell']) (pn+1) rfl (by omega) ?_ ?_ ?_ ?_;(focus ((exact bel)));exact hown2.alloc _;exact src_new w2 [.int .i64 k] 3 rfl 1;intro a4 c4 w4 hown4 hks4 hbw4)
      | (refine step_appW wr rfl _ _ 30 rfl 3 Tryz.underlying30 intInfo rfl (by omega) (.slice a2 pn c2) pn ([] ++ pre.map (Value.int .i64)) rfl (some ⟨wr.heap.size+1,0,none⟩) 1 1 [.int .i64 k] rfl rfl (by simp [Value.oneCell']) (pn+1) rfl (by omega) ?_ ?_ ?_ ?_;(focus ((exact bel)));exact hown2;exact hsrc2;intro a4 c4 w4 hown4 hks4 hbw4)
      | (refine step_appW wr rfl _ _ 30 rfl 3 Tryz.underlying30 intInfo rfl (by omega) (.slice a2 pn c2) pn ([] ++ pre.map (Value.int .i64)) rfl (some ⟨wr.heap.size,0,none⟩) 1 1 [.int .i64 k] rfl rfl (by simp [Value.oneCell']) (pn+1) rfl (by omega) ?_ ?_ ?_ ?_;(focus ((exact bel)));exact hown2;exact hsrc2;intro a4 c4 w4 hown4 hks4 hbw4)
      | (go_at_call 71;go_split_ands;(with_reducible refine (HCALL.out w4 a4 c4 (Below.next hbw hbw4) (intsV_pre hown4)).mono ?_);rintro e w5 ⟨a5,c5,vs5,rfl,hrow5,hl5,hb5⟩;have hbr5:Below wr.heap.size wr w5:=Below.next hbw4 hb5;have hown5:=ownsRow_below HROW.out hbr5)
      | (refine step_appW W0 rfl _ _ 43 rfl 30 Tryz.underlying43 listInfo rfl (by omega) (.slice a out.length c) out.length vs rfl a5 new.length c5 vs5 rfl hl5.1 hl5.one (out.length+new.length) rfl (by omega) ?_ ?_ ?_ ?_;exact Below.next hW hbr5;exact hown5;exact src_row hrow5;intro a6 c6 w6 hown6 hks6 hbw6))
   all_goals
    have hl6:=((HLV.out.below hbr5).append hl5).keep hown5 (by decide) hks6;rw [← HFL.out] at hl6;have hlen6:out.length+new.length=((List.range (k+1)).flatMap f).length:=by rw [HFL.out,List.length_append]
    rw [hlen6] at hown6;have HL6:=Hh hl6;have HR6:=Hh hown6;have HE6:=Hh hlen6;have HB6:=Hh hbw6;clear hl6 hown6 hlen6 hks6;go_wp2;go_roundw
    case rel=>exact ⟨k+1,a6,c6,_,by omega,by go_num,by rw [HE6.out],HR6.out,HL6.out,HB6.out⟩
    case measure=>simp [intOf];omega
  ·obtain rfl:k=s.length+1:=by omega
   clear hrow hlv;go_wp2;go_ret;exact ⟨a,c,vs,rfl,ownsRow_base HROW.out (by omega),HLV.out,hbw⟩
end
section
variable {b:Bk} {vr vg vm vs vc:Value} {w:World}
theorem rPasts_at (hO:BkOk b) (hr:∀ r∈b.rs,recAl b r=0):∀ (l:List (List Prt)) (pre:List Int) (w:World) (la:Option Addr) (lc:Nat),BookAt w b vr vg vm vs vc->b.ss.drop pre.length=l->pre.length<=b.ss.length->PreIn b.ss pre->IntsV w (.slice la pre.length lc) pre ->
 Calls Tryz.prog 71 #[.agg #[vr,vg,vm,vs,vc],.slice la pre.length lc] w (PastsOut w (pastsFrom b pre l))
 | [],pre,w,la,lc,hB,hs,hle,hp,hL=>by
  have hl:pre.length=b.ss.length:=by
   apply Classical.byContradiction;intro h;have:=congrArg List.length hs;rw [List.length_drop,List.length_nil] at this;omega
  unfold pastsFrom;exact rPasts_leaf hB hO hr hl hp hL
 | s::l,pre,w,la,lc,hB,hs,hle,hp,hL=>by
  have hlt:pre.length < b.ss.length:=by
   apply Classical.byContradiction;intro h;rw [List.drop_eq_nil_of_le (by omega)] at hs;cases hs
  have hd:=List.drop_eq_getElem_cons hlt;rw [hs] at hd;obtain ⟨h1,h2⟩:=List.cons.inj hd;unfold pastsFrom;refine rPasts_step hB hO.pl hO.sl hs (fun n hn W la' lc' hW hL'=>?_) hL;have:=rPasts_at hO hr l (pre ++ [(n:Int)]) W la' lc' (hB.below hW) (by rw [List.length_append];exact h2.symm) (by rw [List.length_append];simp;omega) (fun i hi=>?_) (by rw [List.length_append];exact hL')
  ·rw [List.length_append] at this;exact this
  ·rw [List.length_append] at hi;by_cases hip:i < pre.length
   ·rw [List.getElem_append_left hip];exact hp i hip
   ·obtain rfl:i=pre.length:=by simp at hi;omega
    rw [List.getElem_append_right (Nat.le_refl _)];simp only [Nat.sub_self,List.getElem_cons_zero];exact ⟨by omega,hlt,by rw [← h1];omega⟩
theorem rPastsOf_at (hB:BookAt w b vr vg vm vs vc) (hO:BkOk b) (hr:∀ r∈b.rs,recAl b r=0) :
 Calls Tryz.prog 22 #[.agg #[vr,vg,vm,vs,vc]] w (PastsOut w (pasts b)):=by
 have hc:∀ (W:World) (hb:Below w.heap.size w W),Calls Tryz.prog 71 #[.agg #[vr,vg,vm,vs,vc],.slice none 0 0] W (PastsOut W (pasts b)):=fun (W:World) (hb:Below w.heap.size w W)=>rPasts_at (vr:=vr) (vg:=vg) (vm:=vm) (vs:=vs) (vc:=vc) hO hr b.ss [] W none 0 (hB.below hb) rfl (Nat.zero_le _) (fun i hi=>absurd hi (Nat.not_lt_zero _)) (IntsV.nil _);have HC:=Hh hc;clear hc hB hO hr
 go_enter Tryz.func22,Tryz.ntmps22
 go_wp2_with (go_at_call 71;(with_reducible refine (HC.out _ (bel)).mono ?_);rintro e w1 ⟨a,c,vs',rfl,h1,h2,h3⟩);go_ret;exact ⟨a,c,vs',rfl,ownsRow_base h1 (by simp),h2,bel⟩
def askedAl (b:Bk) (is:Bool):Int:=if bookAl b≠0 then bookAl b else if is=false then 6 else if pasts b=[] then 10 else 0
theorem askedAl_ok {b:Bk} {is:Bool} (h:askedAl b is=0):bookAl b=0/\is=true/\pasts b≠[]:=by
 unfold askedAl at h;split at h
 ·rename_i hh;exact absurd h hh
 ·rename_i hh
  split at h
  ·cases h
  ·rename_i h2
   split at h
   ·cases h
   ·rename_i h3;exact ⟨Classical.not_not.1 hh,by simpa using h2,h3⟩
theorem rAsked_no (hB:BookAt w b vr vg vm vs vc) (hN:∀ m∈b.ms,m.name.size<=1000000) (is:Bool) {t:Int} (ht:askedAl b is=t) (h0:t≠0) :
 Calls Tryz.prog 94 #[.agg #[vr,vg,vm,vs,vc],.bool is] w fun e w'=>e=.returned (.tuple #[.slice none 0 0,.int .i64 t])/\Below w.heap.size w w':=by
 have HB:=Hh hB;have HN:=Hh hN;obtain ⟨rfl,rfl,⟨ma,mc,rfl,_,_⟩,⟨sa,sc,rfl,_,_⟩,ra,rc,rfl,_,_⟩:=id hB;clear hB hN;by_cases hk:bookAl b=0
 case neg =>
  have h1:askedAl b is=bookAl b:=by unfold askedAl;rw [if_pos hk]
  rw [h1] at ht;have H0:=Hh ht;have hz3:(t != 0)=true:=by simpa using h0
  clear ht h1 hk h0
  go_enter Tryz.func94,Tryz.ntmps94
  go_wp2_with (go_at_call 63;(with_reducible refine (rCheckBook_at (HB.out.below (bel)) HN.out H0.out).mono ?_);rintro e w1 ⟨rfl,hb1⟩;obtain ⟨hc1,hf1⟩:=bcell hb1;have hz1:w.heap.size < w1.heap.size:=(by have:=hb1.size;simp at this;omega));exact bodyPost_ret (v:=.tuple #[.slice none 0 0,.int .i64 t]) (by simp [results,Tryz.results94,go_sem, *]) rfl ⟨rfl,bel⟩
 have H0:=Hh hk;have HO:=Hh (bookAl_ok hk).1;have HR:=Hh (bookAl_ok hk).2;cases is
 ·have h1:t=6:=by rw [← ht];unfold askedAl;rw [if_neg (by simpa using hk),if_pos rfl]
  subst h1;clear ht hk h0
  go_enter Tryz.func94,Tryz.ntmps94
  go_wp2_with (go_at_call 63;(with_reducible refine (rCheckBook_at (HB.out.below (bel)) HN.out H0.out).mono ?_);rintro e w1 ⟨rfl,hb1⟩;obtain ⟨hc1,hf1⟩:=bcell hb1;have hz1:w.heap.size < w1.heap.size:=(by have:=hb1.size;simp at this;omega));exact bodyPost_ret (v:=.tuple #[.slice none 0 0,.int .i64 6]) (by simp [results,Tryz.results94,go_sem, *]) rfl ⟨rfl,bel⟩
 ·have hp:pasts b=[]:=by
   apply Classical.byContradiction;intro hp;apply h0;rw [← ht];unfold askedAl;rw [if_neg (by simpa using hk),if_neg (by simp),if_neg hp]
  have h1:t=10:=by rw [← ht];unfold askedAl;rw [if_neg (by simpa using hk),if_neg (by simp),if_pos hp]
  subst h1;have hpl:(pasts b).length=0:=by rw [hp];rfl
  have HP:=Hh hpl;clear ht hk h0 hp hpl
  go_enter Tryz.func94,Tryz.ntmps94
  go_wp2_with (first
   | (go_at_call 63;(with_reducible refine (rCheckBook_at (HB.out.below (bel)) HN.out H0.out).mono ?_);rintro e w1 ⟨rfl,hb1⟩;obtain ⟨hc1,hf1⟩:=bcell hb1;have hz1:w.heap.size < w1.heap.size:=(by have:=hb1.size;simp at this;omega))
   | (go_at_call 22;(with_reducible refine (rPastsOf_at (HB.out.below (bel)) HO.out HR.out).mono ?_);rintro e w3 ⟨a,c,vs',rfl,h1,h2,hb3⟩;rw [HP.out]))
  exact bodyPost_ret (v:=.tuple #[.slice none 0 0,.int .i64 10]) (by simp [results,Tryz.results94,go_sem, *]) rfl ⟨rfl,bel⟩
def AskedOut (W:World) (ls:List (List Int)) (e:Ending) (W':World):Prop:=∃ a c vs,e=.returned (.tuple #[.slice a ls.length c,.int .i64 0])/\W'.ownsRow W.heap.size 30 1 (.slice a ls.length c) ls.length vs/\ListsV W' vs ls/\Below W.heap.size W W'
theorem rAsked_ok (hB:BookAt w b vr vg vm vs vc) (hN:∀ m∈b.ms,m.name.size<=1000000) (ht:askedAl b true=0) :
 Calls Tryz.prog 94 #[.agg #[vr,vg,vm,vs,vc],.bool true] w (AskedOut w (pasts b)):=by
 obtain ⟨hk,_,hp⟩:=askedAl_ok ht;have HB:=Hh hB;have HN:=Hh hN;obtain ⟨rfl,rfl,⟨ma,mc,rfl,_,_⟩,⟨sa,sc,rfl,_,_⟩,ra,rc,rfl,_,_⟩:=id hB;have H0:=Hh hk;have HO:=Hh (bookAl_ok hk).1;have HR:=Hh (bookAl_ok hk).2;have hpl:(((pasts b).length:Nat):Int) == 0↔False:=by
  have:(pasts b).length≠0:=fun h=>hp (List.length_eq_zero_iff.1 h);simp;exact hp
 have hpl2:((((pasts b).length:Nat):Int) == 0)=false:=by simpa using hp
 clear hB hN hk hp ht hpl
 go_enter Tryz.func94,Tryz.ntmps94
 go_wp2_with (first
  | (go_at_call 63;(with_reducible refine (rCheckBook_at (HB.out.below (bel)) HN.out H0.out).mono ?_);rintro e w1 ⟨rfl,hb1⟩;obtain ⟨hc1,hf1⟩:=bcell hb1;have hz1:w.heap.size < w1.heap.size:=(by have:=hb1.size;simp at this;omega))
  | (go_at_call 22;(with_reducible refine (rPastsOf_at (HB.out.below (bel)) HO.out HR.out).mono ?_);rintro e w3 ⟨a,c,vs',rfl,h1,h2,hb3⟩))
 have hbw:Below w.heap.size w w1:=bel;exact bodyPost_ret (v:=.tuple #[.slice a (pasts b).length c,.int .i64 0]) (by simp [results,Tryz.results94,go_sem, *]) rfl ⟨a,c,vs',rfl,ownsRow_base h1 hbw.size,h2,bel⟩
end
section
variable {b:Bk} {vr vg vm vs vc:Value} {w:World}
theorem delivered_no (hB:BookAt w b vr vg vm vs vc) (hN:∀ m∈b.ms,m.name.size<=1000000) (hK:KindsAt w) {t:Int} (ht:openAl b 0=t) (h0:t≠0) :
 Calls Tryz.prog 39 #[.agg #[vr,vg,vm,vs,vc]] w fun e w'=>e=.returned (.tuple #[.slice none 0 0,.int .i64 t])/\Below w.heap.size w w':=by
 have HB:=Hh hB;have HN:=Hh hN;have HK:=Hh hK;have HT:=Hh ht;have HH0:=Hh h0;have hz3:(t != 0)=true:=by simpa using h0
 obtain ⟨rfl,rfl,⟨ma,mc,rfl,_,_⟩,⟨sa,sc,rfl,_,_⟩,ra,rc,rfl,_,_⟩:=id hB;clear hB hN hK ht
 go_enter Tryz.func39,Tryz.ntmps39
 go_wp2_with (go_at_call 66;(with_reducible refine (open_nothing_no (HB.out.below (bel)) HN.out (HK.out.below (bel)) (al:=0) (fun hk W hW=>nothing_any _ _ _ _ _ _) HT.out HH0.out).mono ?_);rintro e w3 ⟨rfl,hb3⟩;obtain ⟨hc3,hf3⟩:=bcell hb3;have hz3:=hb3.size;(try simp at hz3));exact bodyPost_ret (v:=.tuple #[.slice none 0 0,.int .i64 t]) (by simp [results,Tryz.results39,go_sem, *]) rfl ⟨rfl,bel⟩
end
end Go.Proofs.YtgemjjdkjmpmlaaGreatDoor
namespace Go.Proofs.YtgemjjdkjmpmlaaGreatDoor
open Go.RowKit Sp Mt Go.Conc
section
variable {P:Program} {b:Frame} {a:Act} {w:World} {k:List Item} {cs:List Frame} {K:Frame->List Frame->World->Prop}
theorem Twin.refl0 (w:World):Twin 0 w w:=⟨rfl,rfl,rfl,fun _=>rfl,fun _=>rfl,fun _ _=>rfl⟩
theorem Twin.at0 {w w1:World} (h:Twin 0 w w1) (d:Nat):Twin 0 w (w1.at d):=⟨h.os,h.output,h.size,h.cell,h.frozen,h.block⟩
theorem Twin.old0 {w w1 w2:World} (h:Twin 0 w w1) (k:Old w1 w2):Old w w2:=⟨k.os.trans h.os,k.output.trans h.output,by rw [← h.size];exact k.size,fun i hi=>(k.block i (by rw [h.size];exact hi)).trans (h.block i (Nat.zero_le _))⟩
def LeadsA (P:Program) (K:Frame->List Frame->World->Prop) (fr:Frame) (cs:List Frame) (w:World):Prop:=∀ w',Twin 0 w w'->Leads P K fr cs w'
theorem LeadsA.here {fr:Frame} (h:LeadsA P K fr cs w):Leads P K fr cs w:=h w (Twin.refl0 w)
theorem all_region {id:Nat} {ops:Array Oper} (h:LeadsA P K (b.at a (.inRegion ops (List.range ops.size)::k)) cs w):LeadsA P K (b.at a (.code (.region id ops false)::k)) cs w:=fun _ t=>leads_region fun d=>h _ (t.at0 d)
theorem all_end {ops:Array Oper} (h:LeadsA P K (b.at a k) cs w):LeadsA P K (b.at a (.inRegion ops []::k)) cs w:=fun _ t=>leads_inRegion fun d=>h _ (t.at0 d)
theorem all_seq {x y:Code} (h:LeadsA P K (b.at a (.code x::.code y::k)) cs w):LeadsA P K (b.at a (.code (.seq x y)::k)) cs w:=fun _ t=>leads_seq fun d=>h _ (t.at0 d)
theorem all_ret (h:LeadsA P K { b.at a (.code .ret::k) with mode:=.returning } cs w):LeadsA P K (b.at a (.code .ret::k)) cs w:=fun _ t=>leads_ret fun d=>h _ (t.at0 d)
theorem all_op {ops:Array Oper} {i:Nat} {rest:List Nat} (v:Value) (hb:b.kind=.normal) {o:Oper} (ho:ops[i]? = some o) (hw:Region.wanted o (yielded ops a.tmps)=true)
 (hr:∀ w',(execOp a.eval o).run P w'=.ok (.value v) w') (he:∀ w',(execOp a.eval o).events P w' #[]=#[])
 (h:LeadsA P K (b.at (a.put o.dst v) (.inRegion ops rest::k)) cs w):LeadsA P K (b.at a (.inRegion ops (i::rest)::k)) cs w:=fun _ t =>
 leads_op v hb ho hw (fun d=>hr _) (fun d e hm=>by rw [he] at hm;simp at hm) fun d=>h _ (t.at0 d)
theorem all_call {ops:Array Oper} {i:Nat} {rest:List Nat} (f:FuncId) (args:Array Value) (hb:b.kind=.normal) {o:Oper} (ho:ops[i]? = some o) (hw:Region.wanted o (yielded ops a.tmps)=true)
 (hr:∀ w',(execOp a.eval o).run P w'=.ok (.enter f args) w') (he:∀ w',(execOp a.eval o).events P w' #[]=#[]) {Z:Value->World->Prop}
 (hc:∀ (c:Frame) (w':World),Twin 0 w w'->Leads P (fun fr' cs' w1=>∃ v,fr'=c.finish v/\cs'=cs/\Z v w1) (Frame.enter P f args .normal) (c::cs) w')
 (h:∀ v w1,Z v w1->LeadsA P K (b.at (a.put o.dst v) (.inRegion ops rest::k)) cs w1):LeadsA P K (b.at a (.inRegion ops (i::rest)::k)) cs w:=fun w' t =>
 leads_call hb ho hw (fun d=>hr _) (fun d=>he _) (fun d=>hc _ _ (t.at0 d)) fun v w1 hz=>(h v w1 hz).here
end
section
variable {w:World} {cs:List Frame} {c:Frame}
theorem lone_call {f:FuncId} {args:Array Value} {v:Value} {w':World} (t:Twin 0 w w') (h:∀ W,Twin w.heap.size w W->Calls Tryz.prog f args W fun e w2=>e=.returned v/\Below W.heap.size W w2) :
 Leads Tryz.prog (fun fr' cs' w1=>∃ v',fr'=c.finish v'/\cs'=cs/\v'=v/\Old w w1) (Frame.enter Tryz.prog f args .normal) (c::cs) w':=by
 refine (calls_co (Z:=fun v' _=>v'=v) (fun _ _ _ _ h=>h) fun W hW=>?_).mono ?_
 ·refine (h W ⟨hW.os.trans t.os,hW.output.trans t.output,hW.size.trans t.size,fun a=>(hW.cell a).trans (t.cell a),fun a=>(hW.frozen a).trans (t.frozen a),fun k hk=>(hW.block k (by rw [t.size];exact hk)).trans (t.block k (Nat.zero_le _))⟩).mono ?_;rintro e w2 ⟨rfl,hb⟩;exact ⟨_,rfl,rfl,hb⟩
 ·rintro fr' cs' w1 ⟨v',h1,h2,h3,ho⟩;exact ⟨v',h1,h2,h3,t.old0 ho⟩
end
theorem wps_cons {P:Program} {c:Code} {l:List Code} {Q:Act->World->Prop} {a:Act} {w:World} (h:c.wp P (fun e a' w'=>e=.normal/\a'.defers=[]/\∀ X,Twin 0 w' X->wps P l Q a' X) a w):wps P (c::l) Q a w :=
 Code.wp_mono (fun _ _ _ ⟨h1,h2,h3⟩=>⟨h1,h2,fun _=>h3 _ ⟨rfl,rfl,rfl,fun _=>rfl,fun _=>rfl,fun _ _=>rfl⟩⟩) h
theorem Old.twin0 {w w1 X:World} (h:Old w w1) (t:Twin 0 w1 X):Old w X:=⟨t.os.trans h.os,t.output.trans h.output,by rw [t.size];exact h.size,fun k hk=>(t.block k (Nat.zero_le _)).trans (h.block k hk)⟩
theorem Old.ofBelow {w w1:World} (h:Below w.heap.size w w1):Old w w1:=⟨h.os,h.output,h.size,h.block⟩
def NQ (R:Act->World->Prop):Exit->Act->World->Prop
 | .normal,a,w=>R a w
 | _,_,_=>False
theorem wps_nq {P:Program} {c:Code} {l:List Code} {Q:Act->World->Prop} {a:Act} {w:World} (h:c.wp P (NQ fun a' w'=>a'.defers=[]/\∀ X,Twin 0 w' X->wps P l Q a' X) a w):wps P (c::l) Q a w:=by
 refine wps_cons (Code.wp_mono (fun e a' w' hq=>?_) h);cases e <;> first | exact ⟨rfl,hq.1,hq.2⟩ | exact hq.elim
section
variable {P:Program} {b:Frame} {a:Act} {w:World} {k:List Item} {cs:List Frame} {K:Frame->List Frame->World->Prop}
theorem put_at {a:Act} {j:Nat} {v:Value} (h:j < a.tmps.size):(a.put (some j) v).tmps[j]? = some v:=by
 show (a.tmps.setIfInBounds j v)[j]? = some v;simp [h]
theorem put_keep {a:Act} {j i:Nat} {v:Value} (hne:i≠j):(a.put (some j) v).tmps[i]? = a.tmps[i]? := by
 show (a.tmps.setIfInBounds j v)[i]? = a.tmps[i]?;rw [Array.getElem?_setIfInBounds_ne (by omega)]
theorem wanted_g {o ok:Oper} {ops:Array Oper} {tmps:Array Value} {m j:Nat} {want:Bool} (hg:o.guard=some (m,want)) (hk:ops[m]? = some ok) (hd:ok.dst=some j) (hA:tmps[j]? = some (.bool want)):Region.wanted o (yielded ops tmps)=true:=by
 unfold Region.wanted yielded;rw [hg];simp [hk,hd,hA]
end
def KnL (a:Act):List (Nat × Value)->Prop
 | []=>True
 | x::l=>a.tmps[x.1]? = some x.2/\KnL a l
structure Kn (a:Act) (n:Nat) (l:List (Nat × Value)):Prop where
 sz:a.tmps.size=n
 df:a.defers=[]
 kn:KnL a l
theorem KnL.get {a:Act} {j:Nat} {v:Value}:∀ {l:List (Nat × Value)},KnL a l->l.lookup j=some v->a.tmps[j]? = some v
 | [],_,e=>by simp at e
 | (i,u)::l,h,e=>by
  rw [List.lookup_cons] at e;by_cases hji:j=i
  ·subst hji;simp at e;rw [← e];exact h.1
  ·rw [beq_eq_false_iff_ne.2 hji] at e;exact KnL.get h.2 e
theorem KnL.put {a:Act} {j:Nat} {v:Value}:∀ {l:List (Nat × Value)},KnL a l->(l.all fun x=>x.1 != j)=true->KnL (a.put (some j) v) l
 | [],_,_=>trivial
 | x::l,h,e=>by
  simp only [List.all_cons,Bool.and_eq_true,bne_iff_ne] at e;exact ⟨(put_keep e.1).trans h.1,KnL.put h.2 e.2⟩
section
variable {P:Program} {b:Frame} {a:Act} {w:World} {k:List Item} {cs:List Frame} {K:Frame->List Frame->World->Prop} {n:Nat} {l:List (Nat × Value)}
theorem Kn.g (q:Kn a n l) (j:Nat) {v:Value} (e:l.lookup j=some v):a.tmps[j]? = some v:=q.kn.get e
theorem Kn.cons (q:Kn a n l) {j:Nat} (hj:j < n) (e:(l.all fun x=>x.1 != j)=true) (v:Value):Kn (a.put (some j) v) n ((j,v)::l):=⟨(Array.size_setIfInBounds).trans q.sz,q.df,put_at (by rw [q.sz];exact hj),q.kn.put e⟩
theorem st {ops:Array Oper} {i j:Nat} {rest:List Nat} (v:Value) (hb:b.kind=.normal) {o:Oper} (ho:ops[i]? = some o) (hd:o.dst=some j) (hw:Region.wanted o (yielded ops a.tmps)=true)
 (hx:∀ w',(execOp a.eval o).run P w'=.ok (.value v) w'/\(execOp a.eval o).events P w' #[]=#[]) (q:Kn a n l) (hj:j < n) (e:(l.all fun x=>x.1 != j)=true)
 (h:∀ a1,Kn a1 n ((j,v)::l)->LeadsA P K (b.at a1 (.inRegion ops rest::k)) cs w):LeadsA P K (b.at a (.inRegion ops (i::rest)::k)) cs w:=by
 refine all_op v hb ho hw (fun w'=>(hx w').1) (fun w'=>(hx w').2) ?_;rw [hd];exact h _ (q.cons hj e v)
theorem sc {ops:Array Oper} {i j:Nat} {rest:List Nat} (f:FuncId) (args:Array Value) (hb:b.kind=.normal) {o:Oper} (ho:ops[i]? = some o) (hd:o.dst=some j) (hw:Region.wanted o (yielded ops a.tmps)=true)
 (hx:∀ w',(execOp a.eval o).run P w'=.ok (.enter f args) w'/\(execOp a.eval o).events P w' #[]=#[]) (q:Kn a n l) (hj:j < n) (e:(l.all fun x=>x.1 != j)=true) {v:Value}
 (hc:∀ (c:Frame) (w':World),Twin 0 w w'->Leads P (fun fr' cs' w1=>∃ v',fr'=c.finish v'/\cs'=cs/\v'=v/\Old w w1) (Frame.enter P f args .normal) (c::cs) w')
 (h:∀ (a1:Act) (w1:World),Old w w1->Kn a1 n ((j,v)::l)->LeadsA P K (b.at a1 (.inRegion ops rest::k)) cs w1):LeadsA P K (b.at a (.inRegion ops (i::rest)::k)) cs w:=by
 refine all_call f args hb ho hw (fun w'=>(hx w').1) (fun w'=>(hx w').2) (Z:=fun v' w1=>v'=v/\Old w w1) hc ?_;rintro v' w1 ⟨rfl,ho1⟩;rw [hd];exact h _ _ ho1 (q.cons hj e v')
end
def sql:Code->Code
 | .seq a _=>a
 | c=>c
def sqr:Code->Code
 | .seq _ b=>b
 | c=>c
def cnd:Code->Code
 | .cond _ a _=>a
 | c=>c
def sqN:Nat->Code->Code
 | 0,c=>c
 | k+1,c=>sqN k (sqr c)
theorem fr_of {F:(Nat->Value)->Act} {a':Act} (h:a'=F fun i=>a'.tmps.getD i undef):∃ d,a'=F d:=⟨_,h⟩
section
variable {P:Program} {b:Frame} {a:Act} {w:World} {k:List Item} {cs:List Frame} {K:Frame->List Frame->World->Prop}
end
def blk:Code->Code
 | .block _ c=>c
 | c=>c
def lpc:Code->Code
 | .loop c=>c
 | c=>c
end Go.Proofs.YtgemjjdkjmpmlaaGreatDoor
namespace Go.Proofs.YtgemjjdkjmpmlaaGreatDoor
open Go.RowKit Sp
def mostJ (x:Int) (l:List Int):Int:=l.foldl max x
theorem mostJ_succ (x:Int) (l:List Int) (k:Nat) (h:k < l.length):mostJ x (l.take (k+1))=max (mostJ x (l.take k)) l[k]:=by
 rw [List.take_succ_eq_append_getElem h];unfold mostJ;rw [List.foldl_append];rfl
theorem neg_least:∀ (l:List Int) (x:Int),- leastI (-x) (negI l)=mostJ x l
 | [],x=>by simp [leastI,mostJ,negI]
 | y::l,x=>by
  have:=neg_least l (max x y);have e:min (-x) (-y)=- max x y:=by omega
  simp only [leastI,mostJ,negI,List.map_cons,List.foldl_cons,e] at this ⊢;exact this
theorem leastI_head (l:List Int):leastI (l.headD 0) l=leastI (l.headD 0) l.tail:=by
 cases l with
 | nil=>rfl
 | cons x l =>
  have e:min x x=x:=by omega
  simp only [leastI,List.headD_cons,List.foldl_cons,List.tail_cons,e]
theorem mostJ_head (l:List Int):mostJ (l.headD 0) l=mostJ (l.headD 0) l.tail:=by
 cases l with
 | nil=>rfl
 | cons x l =>
  have e:max x x=x:=by omega
  simp only [mostJ,List.headD_cons,List.foldl_cons,List.tail_cons,e]
theorem loI_all (b:Bk) (p:Prt):loI b p=leastI ((oftenI b (pasts b) p).headD 0) (oftenI b (pasts b) p):=(leastI_head _).symm
theorem hiI_all (b:Bk) (p:Prt):hiI b p=mostJ ((oftenI b (pasts b) p).headD 0) (oftenI b (pasts b) p):=by
 rw [mostJ_head];exact neg_least _ _
theorem often_len (b:Bk) (l:List (List Int)) (p:Prt):(oftenI b l p).length=l.length:=by simp [oftenI]
theorem past_len {b:Bk} {x:List Int} (hx:x∈pasts b):x.length=b.ss.length:=(mem_pasts.1 hx).1
theorem past_came {b:Bk} {x:List Int} (hx:x∈pasts b):Came b x:=by
 obtain ⟨h1,h2,_⟩:=mem_pasts.1 hx;intro i hi;obtain ⟨k1,k2,k3⟩:=h2 i (by omega);simp only [List.getD_eq_getElem?_getD,List.getElem?_eq_getElem (show i < x.length by omega),Option.getD_some];exact ⟨k1,k3⟩
def lowK (b:Bk) (p:Prt) (k:Nat):Int:=leastI ((oftenI b (pasts b) p).headD 0) ((oftenI b (pasts b) p).take k)
def topK (b:Bk) (p:Prt) (k:Nat):Int:=mostJ ((oftenI b (pasts b) p).headD 0) ((oftenI b (pasts b) p).take k)
theorem lowK_one (b:Bk) (p:Prt):lowK b p 0=(oftenI b (pasts b) p).headD 0/\topK b p 0=(oftenI b (pasts b) p).headD 0:=⟨rfl,rfl⟩
theorem oftenI_at (b:Bk) (p:Prt) {k:Nat} (h:k < (pasts b).length):(oftenI b (pasts b) p)[k]'(by rw [often_len];exact h)=copies b (pasts b)[k] p:=by simp [oftenI]
theorem lowK_succ (b:Bk) (p:Prt) {k:Nat} (h:k < (pasts b).length):lowK b p (k+1)=min (lowK b p k) (copies b (pasts b)[k] p)/\topK b p (k+1)=max (topK b p k) (copies b (pasts b)[k] p):=by
 have hl:k < (oftenI b (pasts b) p).length:=by rw [often_len];exact h
 refine ⟨?_,?_⟩
 ·unfold lowK;rw [leastI_succ _ _ _ hl,oftenI_at b p h]
 ·unfold topK;rw [mostJ_succ _ _ _ hl,oftenI_at b p h]
theorem lowK_all (b:Bk) (p:Prt):lowK b p (pasts b).length=loI b p/\topK b p (pasts b).length=hiI b p:=by
 unfold lowK topK;rw [show (pasts b).length=(oftenI b (pasts b) p).length from (often_len _ _ _).symm,List.take_length];exact ⟨(loI_all b p).symm,(hiI_all b p).symm⟩
theorem headD_often (b:Bk) (p:Prt) (h:0 < (pasts b).length):(oftenI b (pasts b) p).headD 0=copies b (pasts b)[0] p:=by
 have hg:∀ (l:List (List Int)) (h:0 < l.length),(oftenI b l p).headD 0=copies b (l[0]'h) p:=fun l h=>by
  cases l with
  | nil=>simp at h
  | cons x l=>rfl
 exact hg _ h
def wholeK (b:Bk) (m k:Nat):Nat:=((pasts b).take k).countP fun x=>decide (haveOf b x m=(b.ms[m]?).elim 0 Msg.groups)
theorem wholeK_succ (b:Bk) (m:Nat) {k:Nat} (h:k < (pasts b).length):wholeK b m (k+1)=wholeK b m k+if haveOf b (pasts b)[k] m=(b.ms[m]?).elim 0 Msg.groups then 1 else 0:=by
 unfold wholeK;rw [List.take_succ_eq_append_getElem h,List.countP_append];simp [List.countP_cons]
theorem wholeK_all (b:Bk) (m:Nat):(wholeK b m (pasts b).length:Int)=wholeI b (pasts b) m:=by
 unfold wholeK wholeI;rw [List.take_length];congr 1;refine List.countP_congr fun x hx=>?_;unfold isWhole;have e:haveOf b (pad x) m=haveOf b x m:=by
  unfold haveOf;simp only [copies_pad (past_len hx)]
 rw [e]
end Go.Proofs.YtgemjjdkjmpmlaaGreatDoor
namespace Go.Proofs.YtgemjjdkjmpmlaaGreatDoor
open Go.RowKit Go.Maps Sp Mt Go.Conc
variable {B pl iN mN pc xc dc P Q C ec wn:Nat} {b:Bk} {s s2 s3 g u c lo hi gr:Int} {vr vg vm vs vc x:Value} {w w0:World} {pa xa da ea:Option Addr} {q dq sn:List Int} {d:Nat->Value}
section
variable {b:Bk} {vr vg vm vs vc:Value} {w:World}
def cameQ (b:Bk) (p:Prt):Int:=if groupAl b p=0 then sayI (countI (oftenI b (pasts b) p) 1) (pasts b).length else 0
def loQ (b:Bk) (p:Prt):Int:=if groupAl b p=0 then loI b p else 0
def hiQ (b:Bk) (p:Prt):Int:=if groupAl b p=0 then hiI b p else 0
def delQ (b:Bk):List Int:=if openAl b 0=0 then deliveredI b else []
theorem came2_at (hB:BookAt w b vr vg vm vs vc) (hN:∀ m∈b.ms,m.name.size<=1000000) (hK:KindsAt w) (m g:Int) {c u:Int} (hc:cameQ b (m,g)=c) (hu:groupAl b (m,g)=u) :
 Calls Tryz.prog 48 #[.agg #[vr,vg,vm,vs,vc],.int .i64 m,.int .i64 g] w fun e w'=>e=.returned (.tuple #[.int .i64 c,.int .i64 u])/\Below w.heap.size w w':=by
 subst hc hu;unfold cameQ;by_cases h:groupAl b (m,g)=0
 ·rw [if_pos h,h];exact came_ok hB hN hK m g h
 ·rw [if_neg h];exact came_no hB hN hK m g rfl h
theorem copies2_at (hB:BookAt w b vr vg vm vs vc) (hN:∀ m∈b.ms,m.name.size<=1000000) (hK:KindsAt w) (m g:Int) {lo hi u:Int} (hl:loQ b (m,g)=lo) (hh:hiQ b (m,g)=hi) (hu:groupAl b (m,g)=u) :
 Calls Tryz.prog 50 #[.agg #[vr,vg,vm,vs,vc],.int .i64 m,.int .i64 g] w fun e w'=>e=.returned (.tuple #[.agg #[.int .i64 lo,.int .i64 hi],.int .i64 u])/\Below w.heap.size w w':=by
 subst hl hh hu;unfold loQ hiQ;by_cases h:groupAl b (m,g)=0
 ·rw [if_pos h,if_pos h,h];exact copies_api_ok hB hN hK m g h
 ·rw [if_neg h,if_neg h];exact copies_api_no hB hN hK m g rfl h
theorem delivered2_at (hB:BookAt w b vr vg vm vs vc) (hN:∀ m∈b.ms,m.name.size<=1000000) (hK:KindsAt w) {q:List Int} {u:Int} (hq:delQ b=q) (hu:openAl b 0=u) :
 Calls Tryz.prog 39 #[.agg #[vr,vg,vm,vs,vc]] w fun e w'=>∃ a c,e=.returned (.tuple #[.slice a q.length c,.int .i64 u])/\IntsAt w' a q/\Below w.heap.size w w':=by
 subst hq hu;unfold delQ;by_cases h:openAl b 0=0
 ·rw [if_pos h,h];exact delivered_ok hB hN hK h
 ·rw [if_neg h];refine (delivered_no hB hN hK rfl h).mono ?_;rintro e w' ⟨rfl,hb⟩;exact ⟨none,0,rfl,ints_nil,hb⟩
end
def ListI (w:World) (a:Option Addr) (ls:List (List Int)):Prop:=∀ i (h:i < ls.length),∃ b o xa xc,a=some ⟨b,o,none⟩/\b < w.heap.size/\w.cell? ⟨b,o+i,none⟩=some (.slice xa ls[i].length xc)/\IntsAt w xa ls[i]
theorem ListI.of {w:World} {a:Option Addr} {ls:List (List Int)} (h:ListsAt w a ls):ListI w a ls:=fun i hi=>by
 obtain ⟨b,o,e,hlt,v,hc,hv⟩:=h i hi;obtain ⟨xa,xc,rfl,hx,_⟩:=hv.form;exact ⟨b,o,xa,xc,e,hlt,hc,hx⟩
end Go.Proofs.YtgemjjdkjmpmlaaGreatDoor
namespace Go.Proofs.YtgemjjdkjmpmlaaGreatDoor
open Go.RowKit Go.Maps Sp
section
variable {w:World} {la:Option Addr} {lc n:Nat} {l:List Int}
end
section
variable {b:Bk} {vr vg vm vs vc:Value} {w:World} {la:Option Addr} {lc n:Nat} {l:List Int}
end
def PartsAll (w:World) (l:List Prt) (e:Ending) (w':World):Prop:=∃ a c,e=.returned (.slice a l.length c)/\PartsAt w' a l/\Below w.heap.size w w'
section
variable {b:Bk} {vr vg vm vs vc:Value} {w:World}
theorem rPartsOf_all (hB:BookAt w b vr vg vm vs vc) (hO:BkOk b) (hms:b.ms.length<=20) :
 Calls Tryz.prog 19 #[.agg #[vr,vg,vm,vs,vc]] w (PartsAll w (partsL b)):=by
 obtain ⟨ma,mc,rfl,hM,_⟩:=hB.ms;have HM:=Hh hM;have HBD:=Hh (parts_bd hO);have HG:=Hh hO.groups;clear hM hB hO;obtain ⟨i0,hi,hz0,hz1,hz2⟩:=info_parts partInfo
 go_enter Tryz.func19,Tryz.ntmps19
 go_wp2;obtain ⟨W0,hW0⟩:∃ W0,W0=w.alloc (.cells #[vr,vg,.slice ma b.ms.length mc,vs,vc] 26):=⟨_,rfl⟩;rw [← hW0];have hb0:Below w.heap.size w W0:=by rw [hW0];(exact bel)
 have hsz:W0.heap.size=w.heap.size+1:=by rw [hW0];simp
 have c2:W0.cell? ⟨w.heap.size,2,none⟩=some (.slice ma b.ms.length mc):=by rw [hW0,World.cell?_alloc_at _ _ _ _ rfl];rfl
 have HB0:=Hh hb0;have hlw:w.heap.size < W0.heap.size:=by omega
 clear hW0 hb0;go_loopw [3,4] (fun v t wr=>∃ (k:Nat) (a:Option Addr) (c n:Nat),k<=b.ms.length/\t=.int .i64 k/\v=.slice a n c/\Hid (n=(partsTo b k).length)/\Hid (wr.ownsRow W0.heap.size 41 2 (.slice a n c) n ((partsTo b k).flatMap cellsQ))/\Below W0.heap.size W0 wr) (fun _ t _=>b.ms.length - (intOf t).toNat)
 case atStart=>exact ⟨0,none,0,0,Nat.zero_le _,rfl,rfl,rfl,by show World.ownsRow _ _ _ _ _ _ _;simpa [partsTo] using World.ownsRow_nil _ _ _ _,Below.refl _ _⟩
 case round =>
  obtain ⟨k,a,c,n,hk,rfl,rfl,HN,HROW,hW⟩:=hrel;have hWs:=hW.size;have d2:=(hW.cell (p:=⟨w.heap.size,2,none⟩) hlw).trans c2;have hlr:w.heap.size < wr.heap.size:=by omega
  by_cases hlt:k < b.ms.length
  ·obtain ⟨mb,mo,rfl,hmb,_,eg,_⟩:=HM.out k hlt;have hmb0:mb < W0.heap.size:=by omega
   have fg:=(HB0.out.cell (p:=⟨mb,mo+k * 3+1,none⟩) hmb).trans eg;obtain ⟨hg0,hg1⟩:=HG.out _ (List.getElem_mem hlt);have hsu:=partsTo_succ b k;have hnx:=fun g (h:g < ((b.ms[k]?).elim 0 Msg.groups).toNat)=>parts_next b hlt h;have hge:(b.ms[k]?).elim 0 Msg.groups=b.ms[k].groups:=by rw [List.getElem?_eq_getElem hlt];rfl
   rw [hge] at hsu hnx;generalize b.ms[k].groups=gr at fg hg0 hg1 hsu hnx eg;obtain ⟨m,rfl⟩:∃ m:Nat,gr=m:=⟨gr.toNat,by omega⟩;rw [Int.toNat_natCast] at hsu hnx;have HSU:=Hh hsu;have HNX:=Hh hnx;clear hsu hnx hge eg;go_wp2;go_loopw [3,5] (fun v t wo=>∃ (g:Nat) (a:Option Addr) (c n:Nat),g<=m/\t=.int .i64 g/\v=.slice a n c/\Hid (n=(partsTo b k ++ partsOf k g).length)/\Hid (wo.ownsRow W0.heap.size 41 2 (.slice a n c) n ((partsTo b k ++ partsOf k g).flatMap cellsQ))/\Below W0.heap.size W0 wo) (fun _ t _=>m - (intOf t).toNat)
   case atStart=>exact ⟨0,a,c,n,Nat.zero_le _,rfl,rfl,by show n=_;rw [HN.out];simp [partsOf],by simpa [Hid,partsOf] using HROW.out,hW⟩
   case round =>
    obtain ⟨g,a2,c2',n2,hg,rfl,rfl,HN2,HROW2,hW2⟩:=hrel;have hWs2:=hW2.size;have x2:=(hW2.cell (p:=⟨w.heap.size,2,none⟩) hlw).trans c2;have xg:=(hW2.cell (p:=⟨mb,mo+k * 3+1,none⟩) hmb0).trans fg;by_cases hlg:g < m
    ·obtain ⟨suf,hsuf⟩:=HNX.out g hlg;have hbd:=HBD.out;rw [hsuf,List.length_append,← HN2.out,List.length_cons] at hbd;have hn5:n2<=5000:=by omega
     have hne:partsTo b k ++ partsOf k (g+1)=(partsTo b k ++ partsOf k g) ++ [((k:Int),(g:Int))]:=by rw [partsOf_succ,List.append_assoc]
     have HNE:=Hh hne;clear hsuf hbd hne;go_wp2_with (at_builtin;go_loud (refine wpList_append_own _ rfl _ _ 33 rfl W0.heap.size 41 i0 (.agg #[.int .i64 0,.int .i64 0]) 2 16 Tryz.underlying33 hi hz0 hz1 hz2 rfl (by decide) _ _ _ rfl (HROW2.out.alloc _) ⟨wr.heap.size,0,none⟩ 1 1 [.int .i64 (k:Int),.int .i64 (g:Int)] rfl rfl (cells_new _ _ _) (by simp [Value.oneCell']) (by unfold maxLen;omega) (by omega) (by simp;omega) ?_;intro v' w5 hown' hgrow _;obtain ⟨g',cap',rfl⟩:=ownsRow_succ hown';have hb5:=below_own (HROW2.out.alloc (.cells #[.int .i64 (k:Int),.int .i64 (g:Int)] 41)) hgrow (by simp;omega)));have hb6:Below W0.heap.size W0 w5:=(hW2.alloc (by omega) _).trans hb5;have HO:=Hh hown';have HB6:=Hh hb6;clear hb5 hb6 hown' hgrow;go_roundw
     case rel=>exact ⟨g+1,some ⟨g',0,none⟩,cap',n2+1,by omega,by go_num,rfl,by show n2+1=_;rw [HNE.out,List.length_append,← HN2.out];rfl,by rw [HNE.out,List.flatMap_append];exact HO.out,HB6.out⟩
     case measure=>simp [intOf];omega
    ·obtain rfl:g=m:=by omega
     go_wp2;go_roundw
     case rel=>exact ⟨k+1,a2,c2',n2,by omega,by go_num,rfl,by show n2=_;rw [HSU.out];exact HN2.out,by rw [HSU.out];exact HROW2,hW2⟩
     case measure=>simp [intOf];omega
  ·obtain rfl:k=b.ms.length:=by omega
   go_wp2;go_ret;exact ⟨a,c,by rw [HN.out];rfl,parts_of_row (by have:=HROW.out;rwa [HN.out] at this),Below.next HB0.out hW⟩
end
end Go.Proofs.YtgemjjdkjmpmlaaGreatDoor

