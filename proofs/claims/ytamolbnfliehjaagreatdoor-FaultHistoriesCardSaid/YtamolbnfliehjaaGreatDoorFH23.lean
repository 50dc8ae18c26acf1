/- FaultHistories -/
import Derived.Test.YtamolbnfliehjaaGreatDoorFH22
set_option maxHeartbeats 2000000
set_option maxRecDepth 100000
set_option linter.all false
namespace Go.Proofs.YtamolbnfliehjaaGreatDoor
namespace Mt
open Go Go.RowKit Go.Maps
attribute [local go_sem] Oper.semAt_some
theorem hists_1000 {b:Fbk} (h:bookAl b=0):(histsI b).length<=1000:=(bk6 h).2
theorem devAl_asked (b:Fbk) (k:Int):devAl b k=askedI (inB k 0 ((b.devs.length:Int) - 1)) 0:=by
 unfold devAl askedI;cases inB k 0 ((b.devs.length:Int) - 1) <;> rfl
section
variable {b:Fbk} {vm vd vt:Value} {w:World}
theorem rState_no {k:Int} (hB:FBookAt w b vm vd vt) (hN:∀ m∈b.devs,m.name.size<=1000000) {t:Int} (h:openAl b (devAl b k)=t) (h0:t≠0) :
 Calls Mz.prog 13 #[.agg #[vm,vd,vt],.int .i64 k] w fun e w'=>e=.returned (.tuple #[.int .i64 0,.int .i64 0,.int .i64 t])/\Below w.heap.size w w':=by
 have HB:=Hh hB;have HN:=Hh hN;rw [devAl_asked] at h;obtain ⟨is,his⟩:∃ is,inB k 0 ((b.devs.length:Int) - 1)=is:=⟨_,rfl⟩;rw [his] at h;have H:=Hh h;have HIS:=Hh his;have hz:(t != 0)=true:=by simpa using h0
 obtain ⟨rfl,⟨da,dc,rfl,_,hdl⟩,ta,tc,rfl,_,_⟩:=hB;clear hN h his
 go_enter (mz_func (i:=13) rfl Tryz.func13),Tryz.ntmps13
 go_wp2;obtain ⟨W0,hW0⟩:∃ W0,W0=w.alloc (.cells #[.int .i64 b.most,.slice da b.devs.length dc,.slice ta b.tests.length tc] 25):=⟨_,rfl⟩;rw [<- hW0];have hb0:Below w.heap.size w W0:=by rw [hW0];(exact bel)
 have nn:∀ k u,(#[.int .i64 b.most,.slice da b.devs.length dc,.slice ta b.tests.length tc]:Array Value)[k]? = some u->W0.cell? ⟨w.heap.size,k,none⟩=some u:=fun k u hk=>by
  rw [hW0,World.cell?_alloc_at _ _ _ _ rfl];exact hk
 have hs0:w.heap.size < W0.heap.size:=by rw [hW0];simp
 have HALL:=Hh (show ∀ w':World,Below W0.heap.size W0 w'->(Below W0.heap.size W0 w'/\w'.cell? ⟨w.heap.size,0,none⟩=some (.int .i64 b.most)/\w'.cell? ⟨w.heap.size,1,none⟩=some (.slice da b.devs.length dc)/\w'.cell? ⟨w.heap.size,2,none⟩=some (.slice ta b.tests.length tc)) from fun w' h =>
  ⟨h,(h.cell (p:=⟨w.heap.size,0,none⟩) hs0).trans (nn 0 _ rfl),(h.cell (p:=⟨w.heap.size,1,none⟩) hs0).trans (nn 1 _ rfl),(h.cell (p:=⟨w.heap.size,2,none⟩) hs0).trans (nn 2 _ rfl)⟩)
 clear hW0 nn;go_region_held3 (fun w'=>Below W0.heap.size W0 w'/\w'.cell? ⟨w.heap.size,0,none⟩=some (.int .i64 b.most)/\w'.cell? ⟨w.heap.size,1,none⟩=some (.slice da b.devs.length dc)/\w'.cell? ⟨w.heap.size,2,none⟩=some (.slice ta b.tests.length tc))
  ((go_split_ands;exact HALL.out _ (bel)))
  (first
    | (go_at_call 46;(with_reducible refine (there8_at hdl HIS.out).mono ?_);rintro e w1 ⟨rfl,rfl⟩)
    | (go_at_call 45;(with_reducible refine (rAsked_no (HB.out.below (bel)) HN.out is 0 H.out h0).mono ?_);rintro e w2 ⟨rfl,hb2⟩))
 all_goals
  go_wp2;exact bodyPost_ret (v:=.tuple #[.int .i64 0,.int .i64 0,.int .i64 t]) (by simp [results,Tryz.results13,go_sem, *]) rfl ⟨rfl,bel⟩
end
attribute [local go_sem] Oper.semAt_some
section
variable {b:Fbk} {vm vd vt:Value} {w:World}
theorem rStateInI_at {la:Option Addr} {lc n:Nat} {L:List (Nat->Nat)} {k v:Nat} {vI:Int} (hv:(v:Int)=vI) (hL:StaAt w la (L.map (stL n))) (hl:L.length<=1000) (hk:k < n) (hn:n<=1000000) {t:Nat} (ht:(L.countP fun s=>decide (s k=v))=t) :
 Calls Mz.prog 48 #[.slice la L.length lc,.int .i64 (k:Int),.int .i64 vI] w fun e w'=>e=.returned (.int .i64 (t:Int))/\w'=w:=by
 rw [<- hv];exact rStateIn_at hL hl hk hn ht
theorem rState_ok {k:Int} (hB:FBookAt w b vm vd vt) (hN:∀ m∈b.devs,m.name.size<=1000000) (h:openAl b (devAl b k)=0) :
 Calls Mz.prog 13 #[.agg #[vm,vd,vt],.int .i64 k] w fun e w'=>e=.returned (.tuple #[.int .i64 (heldI b k 1),.int .i64 (heldI b k 2),.int .i64 0])/\Below w.heap.size w w':=by
 have HB:=Hh hB;have HN:=Hh hN;obtain ⟨g1,g2,g3⟩:=openAl_ok h;have gd:inB k 0 ((b.devs.length:Int) - 1)=true:=by
  unfold devAl at g2;cases hh:inB k 0 ((b.devs.length:Int) - 1)
  ·rw [hh] at g2;exact absurd g2 (by decide)
  ·rfl
 rw [g2] at h;have hkr:0<=k/\k < (b.devs.length:Int):=by unfold inB at gd;simp at gd;omega
 obtain ⟨n,rfl⟩:∃ n:Nat,k=(n:Int):=⟨k.toNat,by omega⟩;have hnd:n < b.devs.length:=by omega
 have hle:=hists_1000 g1;have H:=Hh h;have HIS:=Hh gd;have hd6:=(bk6 g1).1;obtain ⟨c1,hc1⟩:∃ c,((histsI b).countP fun s=>decide (s n=1))=c:=⟨_,rfl⟩;obtain ⟨c2,hc2⟩:∃ c,((histsI b).countP fun s=>decide (s n=2))=c:=⟨_,rfl⟩;have hh1:heldI b (n:Int) 1=claimI c1 (histsI b).length:=by unfold heldI;rw [Int.toNat_natCast,hc1]
 have hh2:heldI b (n:Int) 2=claimI c2 (histsI b).length:=by unfold heldI;rw [Int.toNat_natCast,hc2]
 rw [hh1,hh2];have HC1:=Hh hc1;have HC2:=Hh hc2;have HAK:=Hh (show ∀ W,Below w.heap.size w W->Calls Mz.prog 45 #[.agg #[vm,vd,vt],.bool true,.int .i64 0] W fun e W'=>∃ a c,e=.returned (.tuple #[.slice a (histsI b).length c,.int .i64 0])/\Hid (StaAt W' a ((histsI b).map (stL b.devs.length)))/\Below W.heap.size W W' from fun W hb=>by
  have h2:=rAsked_ok (HB.out.below hb) HN.out H.out
  refine h2.mono ?_
  rintro e W' ⟨a,c,rfl,h3,h4⟩
  exact ⟨a,c,by rw [List.length_map],h3,h4⟩)
 obtain ⟨rfl,⟨da,dc,rfl,_,hdl⟩,ta,tc,rfl,_,_⟩:=hB;clear hN h gd g1 g2 g3 hh1 hh2 hc1 hc2 hkr
 go_enter (mz_func (i:=13) rfl Tryz.func13),Tryz.ntmps13
 go_wp2;obtain ⟨W0,hW0⟩:∃ W0,W0=w.alloc (.cells #[.int .i64 b.most,.slice da b.devs.length dc,.slice ta b.tests.length tc] 25):=⟨_,rfl⟩;rw [<- hW0];have hb0:Below w.heap.size w W0:=by rw [hW0];(exact bel)
 have nn:∀ k u,(#[.int .i64 b.most,.slice da b.devs.length dc,.slice ta b.tests.length tc]:Array Value)[k]? = some u->W0.cell? ⟨w.heap.size,k,none⟩=some u:=fun k u hk=>by
  rw [hW0,World.cell?_alloc_at _ _ _ _ rfl];exact hk
 have hs0:w.heap.size < W0.heap.size:=by rw [hW0];simp
 have HALL:=Hh (show ∀ w':World,Below W0.heap.size W0 w'->(Below W0.heap.size W0 w'/\w'.cell? ⟨w.heap.size,0,none⟩=some (.int .i64 b.most)/\w'.cell? ⟨w.heap.size,1,none⟩=some (.slice da b.devs.length dc)/\w'.cell? ⟨w.heap.size,2,none⟩=some (.slice ta b.tests.length tc)) from fun w' h =>
  ⟨h,(h.cell (p:=⟨w.heap.size,0,none⟩) hs0).trans (nn 0 _ rfl),(h.cell (p:=⟨w.heap.size,1,none⟩) hs0).trans (nn 1 _ rfl),(h.cell (p:=⟨w.heap.size,2,none⟩) hs0).trans (nn 2 _ rfl)⟩)
 clear hW0 nn;go_region_held3 (fun w'=>Below W0.heap.size W0 w'/\w'.cell? ⟨w.heap.size,0,none⟩=some (.int .i64 b.most)/\w'.cell? ⟨w.heap.size,1,none⟩=some (.slice da b.devs.length dc)/\w'.cell? ⟨w.heap.size,2,none⟩=some (.slice ta b.tests.length tc))
  ((go_split_ands;exact HALL.out _ (bel)))
  (first
    | (go_at_call 46;(with_reducible refine (there8_at hdl HIS.out).mono ?_);rintro e w1 ⟨rfl,rfl⟩)
    | (go_at_call 45;(with_reducible refine (HAK.out _ (bel)).mono ?_);rintro e w2 ⟨la,lc,rfl,hst,hb2⟩))
 all_goals
  have HST:=Hh hst.out;clear hst;go_wp2_with (first
   | (go_at_call 48;(with_reducible refine (rStateInI_at (v:=1) (vI:=1) rfl (lc:=lc) HST.out hle hnd hdl HC1.out).mono ?_);rintro e w' ⟨rfl,rfl⟩)
   | (go_at_call 48;(with_reducible refine (rStateInI_at (v:=2) (vI:=2) rfl (lc:=lc) HST.out hle hnd hdl HC2.out).mono ?_);rintro e w' ⟨rfl,rfl⟩)
   | (go_at_call 47;(with_reducible refine (rSay_at _ _ _ (say_claim _ _)).mono ?_);rintro e w' ⟨rfl,rfl⟩))
  exact bodyPost_ret (v:=.tuple #[.int .i64 (claimI c1 (histsI b).length),.int .i64 (claimI c2 (histsI b).length),.int .i64 0]) (by simp [results,Tryz.results13,go_sem, *]) rfl ⟨rfl,bel⟩
theorem rSuspectsOf_at {a:Option Addr} {c:Nat} {l:List (Nat->Nat)} (hB:FBookAt w b vm vd vt) (hS:StaAt w a (l.map (stL b.devs.length))) (hl:l.length<=1000) (h0:l≠[]) (hd6:b.devs.length<=6) :
 Calls Mz.prog 51 #[.agg #[vm,vd,vt],.slice a l.length c] w (IntsRet w (suspTo l b.devs.length)):=by
 obtain ⟨rfl,⟨da,dc,rfl,_,hdl⟩,ta,tc,rfl,_,_⟩:=hB;have HS:=Hh hS;have hl0:0 < l.length:=List.length_pos_iff.2 h0;clear hS h0
 go_enter (mz_func (i:=51) rfl Tryz.func51),Tryz.ntmps51
 go_wp2;obtain ⟨W0,hW0⟩:∃ W0,W0=w.alloc (.cells #[.int .i64 b.most,.slice da b.devs.length dc,.slice ta b.tests.length tc] 25):=⟨_,rfl⟩;rw [<- hW0];have hb0:Below w.heap.size w W0:=by rw [hW0];(exact bel)
 have nn:∀ k u,(#[.int .i64 b.most,.slice da b.devs.length dc,.slice ta b.tests.length tc]:Array Value)[k]? = some u->W0.cell? ⟨w.heap.size,k,none⟩=some u:=fun k u hk=>by
  rw [hW0,World.cell?_alloc_at _ _ _ _ rfl];exact hk
 have hs0:w.heap.size < W0.heap.size:=by rw [hW0];simp
 have HALL:=Hh (show ∀ w':World,Below W0.heap.size W0 w'->(Below W0.heap.size W0 w'/\w'.cell? ⟨w.heap.size,0,none⟩=some (.int .i64 b.most)/\w'.cell? ⟨w.heap.size,1,none⟩=some (.slice da b.devs.length dc)/\w'.cell? ⟨w.heap.size,2,none⟩=some (.slice ta b.tests.length tc)) from fun w' h =>
  ⟨h,(h.cell (p:=⟨w.heap.size,0,none⟩) hs0).trans (nn 0 _ rfl),(h.cell (p:=⟨w.heap.size,1,none⟩) hs0).trans (nn 1 _ rfl),(h.cell (p:=⟨w.heap.size,2,none⟩) hs0).trans (nn 2 _ rfl)⟩)
 clear hW0 nn;have q1:=(HALL.out W0 (Below.refl _ _)).2.2.1;clear HALL;go_loopw [5,6] (fun v i wr=>∃ (k:Nat) (a:Option Addr) (c:Nat),k<=b.devs.length/\i=.int .i64 k/\v=.slice a (suspTo l k).length c/\wr.ownsRow W0.heap.size 3 1 (.slice a (suspTo l k).length c) (suspTo l k).length ((suspTo l k).map (Value.int .i64))/\Below W0.heap.size W0 wr) (fun _ i _=>b.devs.length - (intOf i).toNat)
 case atStart=>exact ⟨0,none,0,Nat.zero_le _,rfl,rfl,by simpa [suspTo] using World.ownsRow_nil _ _ _ _,Below.refl _ _⟩
 case round =>
  obtain ⟨k,a2,c2,hk,rfl,rfl,hrow,hW⟩:=hrel;have hWs:=hW.size;obtain ⟨wo,rfl⟩:∃ x,x=wr:=⟨_,rfl⟩;have hle:=suspTo_le l k;have HROW:=Hh hrow;have x1:=(hW.cell (p:=⟨w.heap.size,1,none⟩) hs0).trans q1;have hbw:=Below.next hb0 hW;clear hrow;by_cases hlt:k < b.devs.length
  ·obtain ⟨ct,hct⟩:∃ ct,(l.countP fun s=>decide (s k=0))=ct:=⟨_,rfl⟩;have hcl:ct<=l.length:=by rw [<- hct];exact List.countP_le_length
   have hgc:goodC l k=claimI ct l.length:=by unfold goodC;rw [hct]
   have hsu:=suspTo_succ l k;rw [hgc] at hsu;have HSI:=Hh (rStateInI_at (v:=0) (vI:=0) rfl (lc:=c) (HS.out.below hbw) hl hlt hdl hct);have HBW:=Hh hbw;clear hct hgc hbw;by_cases hz:ct=l.length
   ·have hsu2:suspTo l (k+1)=suspTo l k:=by
     have hc1:claimI ct l.length=1:=by unfold claimI;rw [if_neg (by omega),if_pos hz]
     rw [hsu,hc1];simp
    have hnI:¬ ((ct:Int) < (l.length:Int)):=by omega
    have HS2:=Hh hsu2;clear hsu hsu2 hz;go_wp2_with (go_at_call 48;(with_reducible refine HSI.out.mono ?_);rintro e w' ⟨rfl,rfl⟩);go_roundw
    case rel=>exact ⟨k+1,a2,c2,by omega,by go_num,by rw [HS2.out],by rw [HS2.out];exact HROW.out,hW⟩
    case measure=>simp [intOf];omega
   ·have hsu2:suspTo l (k+1)=suspTo l k ++ [(k:Int)]:=by
     have hc1:claimI ct l.length≠1:=by
      unfold claimI;by_cases h0:ct=0
      ·rw [if_pos h0];decide
      ·rw [if_neg h0,if_neg hz];decide
     rw [hsu,if_pos hc1]
    have hln:(suspTo l (k+1)).length=(suspTo l k).length+1:=by rw [hsu2];simp
    have hnI:((ct:Int) < (l.length:Int)):=by omega
    have HS2:=Hh hsu2;have HLN:=Hh hln;clear hsu hsu2 hln hz;go_wp2_with (first
     | (go_at_call 48;(with_reducible refine HSI.out.mono ?_);rintro e wz ⟨rfl,rfl⟩)
     | (at_builtin;go_loud (refine wpl_append1 rfl _ _ 27 rfl W0.heap.size 3 (mzu Tryz.underlying27) mz_intInfo rfl (by omega) (.slice a2 (suspTo l k).length c2) (suspTo l k).length _ rfl HROW.out (by omega) (by omega) _ (n:=wz.heap.size) (by first | rfl | simp | omega) rfl (by simp [Value.oneCell']) ?_;intro g cap w6 hown6 hb6)))
    have hown7:w6.ownsRow W0.heap.size 3 1 (.slice (some ⟨g,0,none⟩) (suspTo l (k+1)).length cap) (suspTo l (k+1)).length ((suspTo l (k+1)).map (Value.int .i64)):=by
     rw [HLN.out,HS2.out,List.map_append];exact hown6
    have HOWN:=Hh hown7;clear hown6 hown7;go_roundw
    case rel=>exact ⟨k+1,_,_,by omega,by go_num,by rw [HLN.out],HOWN.out,hW.trans hb6⟩
    case measure=>simp [intOf];omega
  ·obtain rfl:k=b.devs.length:=by omega
   have HW:=Hh hW;clear hW;go_wp2;exact bodyPost_ret (v:=.slice a2 (suspTo l b.devs.length).length c2) (by simp [results,Tryz.results51,go_sem, *]) rfl ⟨a2,c2,rfl,ints_row HROW.out,Below.next hb0 HW.out⟩
end
attribute [local go_sem] Oper.semAt_some
section
variable {b:Fbk} {vm vd vt:Value} {w:World}
theorem rSuspects_no (hB:FBookAt w b vm vd vt) (hN:∀ m∈b.devs,m.name.size<=1000000) {t:Int} (h:openAl b 0=t) (h0:t≠0) :
 Calls Mz.prog 15 #[.agg #[vm,vd,vt]] w fun e w'=>e=.returned (.tuple #[.slice none 0 0,.int .i64 t])/\Below w.heap.size w w':=by
 have HB:=Hh hB;have HN:=Hh hN;have H:=Hh (show openAl b (askedI true 0)=t from h);have hz:(t != 0)=true:=by simpa using h0
 obtain ⟨rfl,⟨da,dc,rfl,_,hdl⟩,ta,tc,rfl,_,_⟩:=hB;clear hN h
 go_enter (mz_func (i:=15) rfl Tryz.func15),Tryz.ntmps15
 go_wp2_with (go_at_call 45;(with_reducible refine (rAsked_no (HB.out.below (bel)) HN.out true 0 H.out h0).mono ?_);rintro e w2 ⟨rfl,hb2⟩);exact bodyPost_ret (v:=.tuple #[.slice none 0 0,.int .i64 t]) (by simp [results,Tryz.results15,go_sem, *]) rfl ⟨rfl,bel⟩
theorem rSuspects_ok (hB:FBookAt w b vm vd vt) (hN:∀ m∈b.devs,m.name.size<=1000000) (h:openAl b 0=0) :
 Calls Mz.prog 15 #[.agg #[vm,vd,vt]] w fun e w'=>∃ a c,e=.returned (.tuple #[.slice a (suspTo (histsI b) b.devs.length).length c,.int .i64 0])/\IntsAt w' a (suspTo (histsI b) b.devs.length)/\Below w.heap.size w w':=by
 have HB:=Hh hB;have HN:=Hh hN;have H:=Hh h;obtain ⟨g1,_,g3⟩:=openAl_ok h;have hle:=hists_1000 g1;have hd6:=(bk6 g1).1;have HNE:=Hh g3;have HAK:=Hh (show ∀ W,Below w.heap.size w W->Calls Mz.prog 45 #[.agg #[vm,vd,vt],.bool true,.int .i64 0] W fun e W'=>∃ a c,e=.returned (.tuple #[.slice a (histsI b).length c,.int .i64 0])/\Hid (StaAt W' a ((histsI b).map (stL b.devs.length)))/\Below W.heap.size W W' from fun W hb=>by
  have h2:=rAsked_ok (HB.out.below hb) HN.out H.out
  refine h2.mono ?_
  rintro e W' ⟨a,c,rfl,h3,h4⟩
  exact ⟨a,c,by rw [List.length_map],h3,h4⟩)
 obtain ⟨sl,hsl⟩:∃ sl,suspTo (histsI b) b.devs.length=sl:=⟨_,rfl⟩;have HSO:=Hh (show ∀ W a c,Below w.heap.size w W->StaAt W a ((histsI b).map (stL b.devs.length))->Calls Mz.prog 51 #[.agg #[vm,vd,vt],.slice a (histsI b).length c] W (IntsRet W sl) from fun W a c hb hst=>by
  have:=rSuspectsOf_at (c:=c) (HB.out.below hb) hst hle HNE.out hd6
  rw [hsl] at this
  exact this)
 rw [hsl];obtain ⟨rfl,⟨da,dc,rfl,_,hdl⟩,ta,tc,rfl,_,_⟩:=hB;clear hN h g1 g3 hsl
 go_enter (mz_func (i:=15) rfl Tryz.func15),Tryz.ntmps15
 go_wp2_with (first
  | (go_at_call 45;(with_reducible refine (HAK.out _ (bel)).mono ?_);rintro e w2 ⟨la,lc,rfl,hst,hb2⟩;have HST:=Hh hst.out;have hbw2:Below w.heap.size w w2:=(bel);have y0:w2.cell? ⟨w.heap.size,0,none⟩=some (.int .i64 b.most):=(hb2.cell (p:=⟨w.heap.size,0,none⟩) (by simp)).trans (by rw [World.cell?_alloc_at _ _ _ _ rfl];rfl);have y1:w2.cell? ⟨w.heap.size,1,none⟩=some (.slice da b.devs.length dc):=(hb2.cell (p:=⟨w.heap.size,1,none⟩) (by simp)).trans (by rw [World.cell?_alloc_at _ _ _ _ rfl];rfl);have y2:w2.cell? ⟨w.heap.size,2,none⟩=some (.slice ta b.tests.length tc):=(hb2.cell (p:=⟨w.heap.size,2,none⟩) (by simp)).trans (by rw [World.cell?_alloc_at _ _ _ _ rfl];rfl);clear hst)
  | (go_at_call 51;(with_reducible refine (HSO.out _ _ _ hbw2 HST.out).mono ?_);rintro e w3 ⟨xa,xc,rfl,hxi,hb3⟩;have HXI:=Hh hxi;clear hxi))
 exact bodyPost_ret (v:=.tuple #[.slice xa sl.length xc,.int .i64 0]) (by simp [results,Tryz.results15,go_sem, *]) rfl ⟨xa,xc,rfl,HXI.out,Below.next hbw2 hb3⟩
end
attribute [local go_sem] Oper.semAt_some
theorem stL_steps {l:List Int} (h:∀ x∈l,isSt x=true):stL l.length (stepsOf l)=l:=by
 apply List.ext_getElem
 ·rw [stL_len]
 ·intro i h1 h2;have:=h _ (List.getElem_mem h2);unfold isSt at this;simp at this;rw [stL_get];simp [stepsOf,List.getD,h2];omega
theorem steps_lt {l:List Int} (h:∀ x∈l,isSt x=true):∀ k,stepsOf l k < 3:=fun k=>by
 unfold stepsOf;by_cases hk:k < l.length
 ·have:=h _ (List.getElem_mem hk);unfold isSt at this;simp at this;simp [List.getD,hk];omega
 ·simp [List.getD,hk]
section
variable {b:Fbk} {vm vd vt:Value} {w:World} {sa pa:Option Addr} {l path:List Int} {sc pc:Nat}
theorem rPlay_at (hB:FBookAt w b vm vd vt) (hN:∀ m∈b.devs,m.name.size<=1000000) (hI:IntsAt w sa l) (hsl:l.length<=1000000) (hP:IntsAt w pa path) (hpl:path.length<=1000000) (hpc:path.length<=pc) {t:Int} (h:playAl b l path=t) {r:Bool} {m:Nat} (hno:t≠0->r=false/\m=0) (hok:t=0->playI (stepsOf l) path=(r,m)) :
 Calls Mz.prog 7 #[.agg #[vm,vd,vt],.slice sa l.length sc,.slice pa path.length pc] w fun e w'=>e=.returned (.tuple #[.bool r,.int .i64 (m:Int),.int .i64 t])/\Below w.heap.size w w':=by
 have HB:=Hh hB;have HN:=Hh hN;have HI:=Hh hI;have HP:=Hh hP;have HOK:=Hh hok;obtain ⟨rfl,⟨da,dc,rfl,_,hdl⟩,ta,tc,rfl,_,_⟩:=hB;unfold playAl at h;clear hN hI hP hok;by_cases hk:bookAl b=0
 ·rw [if_neg (by simpa using hk)] at h;have H0:=Hh hk;clear hk;by_cases hll:l.length=b.devs.length
  ·rw [if_neg (by simpa using hll)] at h;have hleb:((l.length:Int) != (b.devs.length:Int))=false:=by simp [hll]
   have HLL:=Hh hll;have HH:=Hh h;clear hll h
   go_enter (mz_func (i:=7) rfl Tryz.func7),Tryz.ntmps7
   go_wp2_with (go_at_call 9;(with_reducible refine (rCheckBook_at (HB.out.below (bel)) HN.out H0.out).mono ?_);rintro e w1 ⟨rfl,hb1⟩;have y0:w1.cell? ⟨w.heap.size,0,none⟩=some (.int .i64 b.most):=(hb1.cell (p:=⟨w.heap.size,0,none⟩) (by simp)).trans (by rw [World.cell?_alloc_at _ _ _ _ rfl];rfl);have y1:w1.cell? ⟨w.heap.size,1,none⟩=some (.slice da b.devs.length dc):=(hb1.cell (p:=⟨w.heap.size,1,none⟩) (by simp)).trans (by rw [World.cell?_alloc_at _ _ _ _ rfl];rfl);have y2:w1.cell? ⟨w.heap.size,2,none⟩=some (.slice ta b.tests.length tc):=(hb1.cell (p:=⟨w.heap.size,2,none⟩) (by simp)).trans (by rw [World.cell?_alloc_at _ _ _ _ rfl];rfl);have hbw1:Below w.heap.size w w1:=(bel);have hs1:w.heap.size < w1.heap.size:=(by have:=hb1.size;simp at this;omega));go_loopw [10] (fun i wr=>∃ k:Nat,k<=l.length/\i=.int .i64 (k:Int)/\Hid (∀ x∈l.take k,isSt x=true)/\wr=w1) (fun i _=>l.length - (intOf i).toNat)
   case atStart=>exact ⟨0,Nat.zero_le _,rfl,by simp [Hid],rfl⟩
   case round =>
    obtain ⟨k,hk,rfl,hst,rfl⟩:=hrel;by_cases hlt:k < l.length
    ·obtain ⟨ib,io,rfl,hib,c0⟩:=(HI.out.below hbw1) k hlt;have htk:=List.take_succ_eq_append_getElem hlt;have hin:l[k]∈l:=List.getElem_mem hlt;obtain ⟨x,hx⟩:∃ x,l[k]=x:=⟨_,rfl⟩;rw [hx] at c0 htk hin;clear hx;by_cases hx0:x < 0
     ·have ht:t=1:=by
       rw [<- HH.out,if_pos];rw [List.any_eq_true];exact ⟨x,hin,by unfold isSt;simp;omega⟩
      subst ht;obtain ⟨rfl,rfl⟩:=hno (by decide);clear htk hin hst;go_wp2;exact bodyPost_ret (v:=.tuple #[.bool false,.int .i64 0,.int .i64 1]) (by simp [results,Tryz.results7,go_sem, *]) rfl ⟨rfl,hbw1⟩
     ·by_cases hx2:2 < x
      ·have ht:t=1:=by
        rw [<- HH.out,if_pos];rw [List.any_eq_true];exact ⟨x,hin,by unfold isSt;simp;omega⟩
       subst ht;obtain ⟨rfl,rfl⟩:=hno (by decide);clear htk hin hst;go_wp2;exact bodyPost_ret (v:=.tuple #[.bool false,.int .i64 0,.int .i64 1]) (by simp [results,Tryz.results7,go_sem, *]) rfl ⟨rfl,hbw1⟩
      ·have HST:=Hh (show ∀ y∈l.take (k+1),isSt y=true by
        rw [htk]
        intro y hy
        rcases List.mem_append.1 hy with hy | hy
        ·exact hst.out y hy
        ·rw [List.mem_singleton] at hy
         subst hy
         unfold isSt
         simp
         omega)
       clear htk hin hst;go_wp2;go_roundw
       case rel=>exact ⟨k+1,hlt,by go_num,HST.out,by first | rfl | trivial⟩
       case measure=>simp [intOf];omega
    ·obtain rfl:k=l.length:=by omega
     have hall:∀ x∈l,isSt x=true:=by
      have:=hst.out;rw [List.take_length] at this;exact this
     have h:=HH.out;rw [if_neg (by rw [List.any_eq_true];rintro ⟨x,hx,h2⟩;rw [hall x hx] at h2;simp at h2)] at h;have HPA:=Hh (show Calls Mz.prog 31 _ _ _ from rPath_at (HB.out.below hbw1) (HP.out.below hbw1) hpl hpc);by_cases hz:t=0
     ·subst hz;have hrm:=HOK.out rfl;have hp2:=(pathAl_ok h).2;have HS:=Hh (show ∀ W,Below w.heap.size w W->Calls Mz.prog 32 #[.slice sa l.length sc,.slice pa path.length pc] W fun e w'=>e=.returned (.tuple #[.bool r,.int .i64 (m:Int)])/\w'=W from fun W hb=>by
       have h1:=HI.out.below hb
       rw [<- stL_steps hall] at h1
       exact rPlayOf_at h1 hsl (HP.out.below hb) (by rw [HLL.out];exact hp2) (steps_lt hall) hpl hrm)
      rw [h] at HPA;clear hall hrm hp2 h hno;go_wp2_with (first
       | (go_at_call 31;(with_reducible refine HPA.out.mono ?_);rintro e w2 ⟨rfl,hb2⟩;have hbw2:=Below.next hbw1 hb2)
       | (go_at_call 32;(with_reducible refine (HS.out _ hbw2).mono ?_);rintro e wz ⟨rfl,rfl⟩))
      exact bodyPost_ret (v:=.tuple #[.bool r,.int .i64 (m:Int),.int .i64 0]) (by simp [results,Tryz.results7,go_sem, *]) rfl ⟨rfl,hbw2⟩
     ·have hzb:(t != 0)=true:=by simpa using hz
      obtain ⟨rfl,rfl⟩:=hno hz;rw [h] at HPA;clear hall h hno hz;go_wp2_with (go_at_call 31;(with_reducible refine HPA.out.mono ?_);rintro e w2 ⟨rfl,hb2⟩;have hbw2:=Below.next hbw1 hb2);exact bodyPost_ret (v:=.tuple #[.bool false,.int .i64 0,.int .i64 t]) (by simp [results,Tryz.results7,go_sem, *]) rfl ⟨rfl,hbw2⟩
  ·rw [if_pos (by simpa using hll)] at h;subst h;obtain ⟨rfl,rfl⟩:=hno (by decide);have hleb:((l.length:Int) != (b.devs.length:Int))=true:=by simp;omega
   clear hll
   go_enter (mz_func (i:=7) rfl Tryz.func7),Tryz.ntmps7
   go_wp2_with (go_at_call 9;(with_reducible refine (rCheckBook_at (HB.out.below (bel)) HN.out H0.out).mono ?_);rintro e w1 ⟨rfl,hb1⟩;have y0:w1.cell? ⟨w.heap.size,0,none⟩=some (.int .i64 b.most):=(hb1.cell (p:=⟨w.heap.size,0,none⟩) (by simp)).trans (by rw [World.cell?_alloc_at _ _ _ _ rfl];rfl);have y1:w1.cell? ⟨w.heap.size,1,none⟩=some (.slice da b.devs.length dc):=(hb1.cell (p:=⟨w.heap.size,1,none⟩) (by simp)).trans (by rw [World.cell?_alloc_at _ _ _ _ rfl];rfl);have y2:w1.cell? ⟨w.heap.size,2,none⟩=some (.slice ta b.tests.length tc):=(hb1.cell (p:=⟨w.heap.size,2,none⟩) (by simp)).trans (by rw [World.cell?_alloc_at _ _ _ _ rfl];rfl);have hbw1:Below w.heap.size w w1:=(bel);have hs1:w.heap.size < w1.heap.size:=(by have:=hb1.size;simp at this;omega));exact bodyPost_ret (v:=.tuple #[.bool false,.int .i64 0,.int .i64 2]) (by simp [results,Tryz.results7,go_sem, *]) rfl ⟨rfl,hbw1⟩
 ·rw [if_pos hk] at h;have H0:=Hh h;have ht0:t≠0:=by rw [<- h];exact hk
  have hz:(t != 0)=true:=by simpa using ht0
  obtain ⟨rfl,rfl⟩:=hno ht0;clear h hk ht0 hno
  go_enter (mz_func (i:=7) rfl Tryz.func7),Tryz.ntmps7
  go_wp2_with (go_at_call 9;(with_reducible refine (rCheckBook_at (HB.out.below (bel)) HN.out H0.out).mono ?_);rintro e w1 ⟨rfl,hb1⟩;have y0:w1.cell? ⟨w.heap.size,0,none⟩=some (.int .i64 b.most):=(hb1.cell (p:=⟨w.heap.size,0,none⟩) (by simp)).trans (by rw [World.cell?_alloc_at _ _ _ _ rfl];rfl);have y1:w1.cell? ⟨w.heap.size,1,none⟩=some (.slice da b.devs.length dc):=(hb1.cell (p:=⟨w.heap.size,1,none⟩) (by simp)).trans (by rw [World.cell?_alloc_at _ _ _ _ rfl];rfl);have y2:w1.cell? ⟨w.heap.size,2,none⟩=some (.slice ta b.tests.length tc):=(hb1.cell (p:=⟨w.heap.size,2,none⟩) (by simp)).trans (by rw [World.cell?_alloc_at _ _ _ _ rfl];rfl);have hbw1:Below w.heap.size w w1:=(bel);have hs1:w.heap.size < w1.heap.size:=(by have:=hb1.size;simp at this;omega));exact bodyPost_ret (v:=.tuple #[.bool false,.int .i64 0,.int .i64 t]) (by simp [results,Tryz.results7,go_sem, *]) rfl ⟨rfl,hbw1⟩
end
attribute [local go_sem] Oper.semAt_some
def greatI (b:Fbk):Bool:=decide (20 < b.devs.length) || decide (20 < b.tests.length) || (b.devs.any fun m=>decide (100 < m.name.size)) || (b.tests.any fun t=>decide (20 < t.path.length))
def TestsRaw (w:World) (a:Option Addr) (l:List Tst):Prop:=∀ i (h:i < l.length),∃ b o,a=some ⟨b,o,none⟩/\b < w.heap.size /\
 ∃ pa pc,w.cell? ⟨b,o+i * 2,none⟩=some (.slice pa l[i].path.length pc)/\l[i].path.length<=pc/\IntsAt w pa l[i].path/\w.cell? ⟨b,o+i * 2+1,none⟩=some (.int .i64 l[i].seen)
structure FRaw (w:World) (b:Fbk) (vm vd vt:Value):Prop where
 most:vm=.int .i64 b.most
 devs:∃ a c,vd=.slice a b.devs.length c/\DevsAt w a b.devs
 tests:∃ a c,vt=.slice a b.tests.length c/\TestsRaw w a b.tests
theorem TestsRaw.below {w w':World} {a:Option Addr} {l:List Tst} (h:TestsRaw w a l) (hb:Below w.heap.size w w'):TestsRaw w' a l:=fun i hi=>by
 obtain ⟨b,o,e,hlt,pa,pc,h1,h2,h3,h4⟩:=h i hi;exact ⟨b,o,e,Nat.lt_of_lt_of_le hlt hb.size,pa,pc,(hb.cell (p:=⟨b,_,none⟩) hlt).trans h1,h2,h3.below hb,(hb.cell (p:=⟨b,_,none⟩) hlt).trans h4⟩
theorem great_no {b:Fbk} (h:greatI b=false):b.devs.length<=20/\b.tests.length<=20/\(∀ m∈b.devs,m.name.size<=100)/\∀ t∈b.tests,t.path.length<=20:=by
 unfold greatI at h;simp only [Bool.or_eq_false_iff,decide_eq_false_iff_not,List.any_eq_false,decide_eq_true_eq] at h;exact ⟨by omega,by omega,fun m hm=>by have:=h.1.2 m hm;omega,fun t ht=>by have:=h.2 t ht;omega⟩
theorem FRaw.book {w:World} {b:Fbk} {vm vd vt:Value} (h:FRaw w b vm vd vt) (hg:greatI b=false):FBookAt w b vm vd vt:=by
 obtain ⟨h1,h2,h3,h4⟩:=great_no hg;obtain ⟨hm,⟨da,dc,e1,hD⟩,ta,tc,e2,hT⟩:=h;refine ⟨hm,⟨da,dc,e1,hD,by omega⟩,ta,tc,e2,fun i hi=>?_,by omega⟩;obtain ⟨b',o,e,hlt,pa,pc,k1,k2,k3,k4⟩:=hT i hi;have:=h4 _ (List.getElem_mem hi);exact ⟨b',o,e,hlt,pa,pc,k1,k2,by omega,k3,k4⟩
section
variable {b:Fbk} {vm vd vt:Value} {w:World}
theorem great_at (hB:FRaw w b vm vd vt) {t:Bool} (h:greatI b=t) :
 Calls Mz.prog 4 #[.agg #[vm,vd,vt]] w fun e w'=>e=.returned (.bool t)/\Below w.heap.size w w':=by
 obtain ⟨rfl,⟨da,dc,rfl,hD⟩,ta,tc,rfl,hT⟩:=hB;have HD:=Hh hD;have HT:=Hh hT;clear hD hT;unfold greatI at h;by_cases h1:20 < b.devs.length
 ·have ht:t=true:=by rw [<- h];simp [h1]
  subst ht;have h1I:(20:Int) < (b.devs.length:Int):=by omega
  clear h h1
  go_enter (mz_func (i:=4) rfl Tryz.func4),Tryz.ntmps4
  go_wp2;go_ret;exact ⟨rfl,bel⟩
 ·by_cases h2:20 < b.tests.length
  ·have ht:t=true:=by rw [<- h];simp [h2]
   subst ht;have h1I:¬ (20:Int) < (b.devs.length:Int):=by omega
   have h2I:(20:Int) < (b.tests.length:Int):=by omega
   clear h h1 h2
   go_enter (mz_func (i:=4) rfl Tryz.func4),Tryz.ntmps4
   go_wp2;go_ret;exact ⟨rfl,bel⟩
  ·simp only [h1,h2,decide_false,Bool.false_or] at h;have h1I:¬ (20:Int) < (b.devs.length:Int):=by omega
   have h2I:¬ (20:Int) < (b.tests.length:Int):=by omega
   have H:=Hh h;clear h h1 h2;have hb0:Below w.heap.size w (w.alloc (.cells #[.int .i64 b.most,.slice da b.devs.length dc,.slice ta b.tests.length tc] 25)):=bel;have HD0:=Hh (HD.out.below hb0);have HT0:=Hh (HT.out.below hb0)
   go_enter (mz_func (i:=4) rfl Tryz.func4),Tryz.ntmps4
   go_wp2;obtain ⟨W0,hW0⟩:∃ W0,W0=w.alloc (.cells #[.int .i64 b.most,.slice da b.devs.length dc,.slice ta b.tests.length tc] 25):=⟨_,rfl⟩;rw [<- hW0] at hb0 HD0 HT0 ⊢;have q1:W0.cell? ⟨w.heap.size,1,none⟩=some (.slice da b.devs.length dc):=by rw [hW0,World.cell?_alloc_at _ _ _ _ rfl];rfl
   have q2:W0.cell? ⟨w.heap.size,2,none⟩=some (.slice ta b.tests.length tc):=by rw [hW0,World.cell?_alloc_at _ _ _ _ rfl];rfl
   have HB:=Hh hb0;have hs0:w.heap.size < W0.heap.size:=by rw [hW0];simp
   clear hW0 hb0;go_loopw [3] (fun i wr=>∃ k:Nat,k<=b.devs.length/\i=.int .i64 (k:Int)/\Hid (((b.devs.take k).any fun m=>decide (100 < m.name.size))=false)/\wr=W0) (fun i _=>b.devs.length - (intOf i).toNat)
   case atStart=>exact ⟨0,Nat.zero_le _,rfl,by simp [Hid],rfl⟩
   case round =>
    obtain ⟨k,hk,rfl,hno,hww⟩:=hrel;subst wr;by_cases hlt:k < b.devs.length
    ·obtain ⟨db,dof,rfl,hdb,c0,_⟩:=HD0.out k hlt;have htk:=List.take_succ_eq_append_getElem hlt;have hin:b.devs[k]∈b.devs:=List.getElem_mem hlt;obtain ⟨m,hm⟩:∃ m,b.devs[k]=m:=⟨_,rfl⟩;rw [hm] at c0 htk hin;by_cases hbig:100 < m.name.size
     ·have ht:t=true:=by
       rw [<- H.out,List.any_eq_true.2 ⟨m,hin,by simpa using hbig⟩];rfl
      subst ht;have hbI:(100:Int) < (m.name.size:Int):=by omega
      clear htk hin hno hm;go_wp2;go_ret;exact ⟨rfl,HB.out⟩
     ·have HNO:=Hh (show ((b.devs.take (k+1)).any fun m=>decide (100 < m.name.size))=false by
       rw [htk,List.any_append,hno.out]
       simpa using hbig)
      have hbI:¬ (100:Int) < (m.name.size:Int):=by omega
      clear htk hin hno hm;go_wp2;go_roundw
      case rel=>exact ⟨k+1,hlt,by go_num,HNO.out,by first | rfl | trivial⟩
      case measure=>simp [intOf];omega
    ·obtain rfl:k=b.devs.length:=by omega
     have hdv:(b.devs.any fun m=>decide (100 < m.name.size))=false:=by
      have:=hno.out;rw [List.take_length] at this;exact this
     have H2:=Hh (show (b.tests.any fun t=>decide (20 < t.path.length))=t by have:=H.out;rw [hdv,Bool.false_or] at this;exact this);clear hno hdv;go_wp2;go_loopw [4] (fun i wr=>∃ k:Nat,k<=b.tests.length/\i=.int .i64 (k:Int)/\Hid (((b.tests.take k).any fun t=>decide (20 < t.path.length))=false)/\wr=W0) (fun i _=>b.tests.length - (intOf i).toNat)
     case atStart=>exact ⟨0,Nat.zero_le _,rfl,by simp [Hid],by first | rfl | trivial⟩
     case round =>
      obtain ⟨k,hk,rfl,hno,hww⟩:=hrel;subst wr;by_cases hlt:k < b.tests.length
      ·obtain ⟨tb,to,rfl,htb,pa,pc,c0,_,_,_⟩:=HT0.out k hlt;have htk:=List.take_succ_eq_append_getElem hlt;have hin:b.tests[k]∈b.tests:=List.getElem_mem hlt;obtain ⟨m,hm⟩:∃ m,b.tests[k]=m:=⟨_,rfl⟩;rw [hm] at c0 htk hin;by_cases hbig:20 < m.path.length
       ·have ht:t=true:=by
         rw [<- H2.out,List.any_eq_true.2 ⟨m,hin,by simpa using hbig⟩]
        subst ht;have hbI:(20:Int) < (m.path.length:Int):=by omega
        clear htk hin hno hm;go_wp2;go_ret;exact ⟨rfl,HB.out⟩
       ·have HNO:=Hh (show ((b.tests.take (k+1)).any fun t=>decide (20 < t.path.length))=false by
         rw [htk,List.any_append,hno.out]
         simpa using hbig)
        have hbI:¬ (20:Int) < (m.path.length:Int):=by omega
        clear htk hin hno hm;go_wp2;go_roundw
        case rel=>exact ⟨k+1,hlt,by go_num,HNO.out,by first | rfl | trivial⟩
        case measure=>simp [intOf];omega
      ·obtain rfl:k=b.tests.length:=by omega
       have ht:t=false:=by
        have:=hno.out;rw [List.take_length] at this;rw [<- H2.out,this]
       subst ht;clear hno;go_wp2;go_ret;exact ⟨rfl,HB.out⟩
end
attribute [local go_sem] Oper.semAt_some
def exB:Fbk:=⟨1,[⟨⟨#[97]⟩,true,false,5⟩,⟨⟨#[98]⟩,true,false,9⟩,⟨⟨#[99]⟩,true,true,2⟩,⟨⟨#[100]⟩,true,false,4⟩],[⟨[0,1,2],2⟩,⟨[0],0⟩,⟨[2,3],0⟩,⟨[1],0⟩]⟩
theorem example_at (w:World):Calls Mz.prog 17 #[] w fun e w'=>∃ vm vd vt,e=.returned (.agg #[vm,vd,vt])/\FBookAt w' exB vm vd vt/\Below w.heap.size w w':=by
 go_enter (mz_func (i:=17) rfl Tryz.func17),Tryz.ntmps17
 go_wp2;obtain ⟨WF,hWF⟩:∃ WF,WF=(((((((w.alloc (.cells #[.int .i64 1,.slice (some ⟨w.heap.size+1,0,none⟩) 4 4,.slice (some ⟨w.heap.size+1+1+1+1+1+1,0,none⟩) 4 4] 25)).alloc (.cells #[.string ⟨#[97]⟩,.bool true,.bool false,.int .i64 5,.string ⟨#[98]⟩,.bool true,.bool false,.int .i64 9,.string ⟨#[99]⟩,.bool true,.bool true,.int .i64 2,.string ⟨#[100]⟩,.bool true,.bool false,.int .i64 4] 44)).alloc (.cells #[.int .i64 0,.int .i64 1,.int .i64 2] 3)).alloc (.cells #[.int .i64 0] 3)).alloc (.cells #[.int .i64 2,.int .i64 3] 3)).alloc (.cells #[.int .i64 1] 3)).alloc (.cells #[.slice (some ⟨w.heap.size+1+1,0,none⟩) 3 3,.int .i64 2,.slice (some ⟨w.heap.size+1+1+1,0,none⟩) 1 1,.int .i64 0,.slice (some ⟨w.heap.size+1+1+1+1,0,none⟩) 2 2,.int .i64 0,.slice (some ⟨w.heap.size+1+1+1+1+1,0,none⟩) 1 1,.int .i64 0] 46)):=⟨_,rfl⟩;rw [<- hWF];have hsz:WF.heap.size=w.heap.size+1+1+1+1+1+1+1:=by rw [hWF];simp
 have c0:∀ k u,(#[.int .i64 1,.slice (some ⟨w.heap.size+1,0,none⟩) 4 4,.slice (some ⟨w.heap.size+1+1+1+1+1+1,0,none⟩) 4 4]:Array Value)[k]? = some u->WF.cell? ⟨w.heap.size,k,none⟩=some u:=fun k u hk=>by
  rw [hWF];rw [World.cell?_alloc_past _ _ _ (by first | (simp;done) | (simp;omega))];rw [World.cell?_alloc_past _ _ _ (by first | (simp;done) | (simp;omega))];rw [World.cell?_alloc_past _ _ _ (by first | (simp;done) | (simp;omega))];rw [World.cell?_alloc_past _ _ _ (by first | (simp;done) | (simp;omega))];rw [World.cell?_alloc_past _ _ _ (by first | (simp;done) | (simp;omega))];rw [World.cell?_alloc_past _ _ _ (by first | (simp;done) | (simp;omega))];rw [World.cell?_alloc_at _ _ _ _ (by simp)];exact hk
 have c1:∀ k u,(#[.string ⟨#[97]⟩,.bool true,.bool false,.int .i64 5,.string ⟨#[98]⟩,.bool true,.bool false,.int .i64 9,.string ⟨#[99]⟩,.bool true,.bool true,.int .i64 2,.string ⟨#[100]⟩,.bool true,.bool false,.int .i64 4]:Array Value)[k]? = some u->WF.cell? ⟨w.heap.size+1,k,none⟩=some u:=fun k u hk=>by
  rw [hWF];rw [World.cell?_alloc_past _ _ _ (by first | (simp;done) | (simp;omega))];rw [World.cell?_alloc_past _ _ _ (by first | (simp;done) | (simp;omega))];rw [World.cell?_alloc_past _ _ _ (by first | (simp;done) | (simp;omega))];rw [World.cell?_alloc_past _ _ _ (by first | (simp;done) | (simp;omega))];rw [World.cell?_alloc_past _ _ _ (by first | (simp;done) | (simp;omega))];rw [World.cell?_alloc_at _ _ _ _ (by simp)];exact hk
 have c2:∀ k u,(#[.int .i64 0,.int .i64 1,.int .i64 2]:Array Value)[k]? = some u->WF.cell? ⟨w.heap.size+1+1,k,none⟩=some u:=fun k u hk=>by
  rw [hWF];rw [World.cell?_alloc_past _ _ _ (by first | (simp;done) | (simp;omega))];rw [World.cell?_alloc_past _ _ _ (by first | (simp;done) | (simp;omega))];rw [World.cell?_alloc_past _ _ _ (by first | (simp;done) | (simp;omega))];rw [World.cell?_alloc_past _ _ _ (by first | (simp;done) | (simp;omega))];rw [World.cell?_alloc_at _ _ _ _ (by simp)];exact hk
 have c3:∀ k u,(#[.int .i64 0]:Array Value)[k]? = some u->WF.cell? ⟨w.heap.size+1+1+1,k,none⟩=some u:=fun k u hk=>by
  rw [hWF];rw [World.cell?_alloc_past _ _ _ (by first | (simp;done) | (simp;omega))];rw [World.cell?_alloc_past _ _ _ (by first | (simp;done) | (simp;omega))];rw [World.cell?_alloc_past _ _ _ (by first | (simp;done) | (simp;omega))];rw [World.cell?_alloc_at _ _ _ _ (by simp)];exact hk
 have c4:∀ k u,(#[.int .i64 2,.int .i64 3]:Array Value)[k]? = some u->WF.cell? ⟨w.heap.size+1+1+1+1,k,none⟩=some u:=fun k u hk=>by
  rw [hWF];rw [World.cell?_alloc_past _ _ _ (by first | (simp;done) | (simp;omega))];rw [World.cell?_alloc_past _ _ _ (by first | (simp;done) | (simp;omega))];rw [World.cell?_alloc_at _ _ _ _ (by simp)];exact hk
 have c5:∀ k u,(#[.int .i64 1]:Array Value)[k]? = some u->WF.cell? ⟨w.heap.size+1+1+1+1+1,k,none⟩=some u:=fun k u hk=>by
  rw [hWF];rw [World.cell?_alloc_past _ _ _ (by first | (simp;done) | (simp;omega))];rw [World.cell?_alloc_at _ _ _ _ (by simp)];exact hk
 have c6:∀ k u,(#[.slice (some ⟨w.heap.size+1+1,0,none⟩) 3 3,.int .i64 2,.slice (some ⟨w.heap.size+1+1+1,0,none⟩) 1 1,.int .i64 0,.slice (some ⟨w.heap.size+1+1+1+1,0,none⟩) 2 2,.int .i64 0,.slice (some ⟨w.heap.size+1+1+1+1+1,0,none⟩) 1 1,.int .i64 0]:Array Value)[k]? = some u->WF.cell? ⟨w.heap.size+1+1+1+1+1+1,k,none⟩=some u:=fun k u hk=>by
  rw [hWF];rw [World.cell?_alloc_at _ _ _ _ (by simp)];exact hk
 have hb:Below w.heap.size w WF:=by rw [hWF];(exact bel)
 clear hWF;have x0:=c0 0 _ rfl;have x1:=c0 1 _ rfl;have x2:=c0 2 _ rfl;have hfb:FBookAt WF exB (.int .i64 1) (.slice (some ⟨w.heap.size+1,0,none⟩) 4 4) (.slice (some ⟨w.heap.size+1+1+1+1+1+1,0,none⟩) 4 4):=by
  refine ⟨rfl,⟨_,_,rfl,fun i hi=>⟨_,0,rfl,by omega,?_⟩,by decide⟩,_,_,rfl,fun i hi=>⟨_,0,rfl,by omega,?_⟩,by decide⟩
  ·have h4:i=0\/i=1\/i=2\/i=3:=by
    have:i < 4:=hi;omega
   rcases h4 with rfl | rfl | rfl | rfl
   all_goals exact ⟨c1 _ _ rfl,c1 _ _ rfl,c1 _ _ rfl,c1 _ _ rfl⟩
  ·have h4:i=0\/i=1\/i=2\/i=3:=by
    have:i < 4:=hi;omega
   rcases h4 with rfl | rfl | rfl | rfl
   ·refine ⟨_,_,c6 _ _ rfl,by show 3<=3;decide,by show 3<=1000000;decide,fun j hj=>⟨_,0,rfl,by omega,?_⟩,c6 _ _ rfl⟩;have h3:j=0\/j=1\/j=2:=by
     have:j < 3:=hj;omega
    rcases h3 with rfl | rfl | rfl
    all_goals exact c2 _ _ rfl
   ·refine ⟨_,_,c6 _ _ rfl,by show 1<=1;decide,by show 1<=1000000;decide,fun j hj=>⟨_,0,rfl,by omega,?_⟩,c6 _ _ rfl⟩;have h3:j=0:=by
     have:j < 1:=hj;omega
    subst h3;exact c3 _ _ rfl
   ·refine ⟨_,_,c6 _ _ rfl,by show 2<=2;decide,by show 2<=1000000;decide,fun j hj=>⟨_,0,rfl,by omega,?_⟩,c6 _ _ rfl⟩;have h3:j=0\/j=1:=by
     have:j < 2:=hj;omega
    rcases h3 with rfl | rfl
    all_goals exact c4 _ _ rfl
   ·refine ⟨_,_,c6 _ _ rfl,by show 1<=1;decide,by show 1<=1000000;decide,fun j hj=>⟨_,0,rfl,by omega,?_⟩,c6 _ _ rfl⟩;have h3:j=0:=by
     have:j < 1:=hj;omega
    subst h3;exact c5 _ _ rfl
 clear c0 c1 c2 c3 c4 c5 c6;exact bodyPost_ret (v:=.agg #[.int .i64 1,.slice (some ⟨w.heap.size+1,0,none⟩) 4 4,.slice (some ⟨w.heap.size+1+1+1+1+1+1,0,none⟩) 4 4]) (by simp [results,Tryz.results17,go_sem,x0,x1,x2]) rfl ⟨_,_,_,rfl,hfb,hb⟩
end Mt
end Go.Proofs.YtamolbnfliehjaaGreatDoor
