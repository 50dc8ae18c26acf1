/- StoreLoaded -/
import Derived.Test.YtdjnkplgllakcaaGreatDoorSL03
set_option maxHeartbeats 1000000
set_option maxRecDepth 100000
set_option linter.all false
namespace Go.Proofs.YtdjnkplgllakcaaGreatDoor
section
open Go.RowKit Go.Maps Sp
section
variable {b:Bk} {vr vg vm vs vc:Value} {w:World}
theorem ownsRow_base {w:World} {base base' e size n:Nat} {v:Value} {xs:List Value} (h:w.ownsRow base e size v n xs) (hb:base'<=base):w.ownsRow base' e size v n xs:=by
 obtain ⟨h1,h2 | ⟨g,cap,cur,e1,e2,e3,e4⟩⟩:=h
 ·exact ⟨h1,.inl h2⟩
 ·exact ⟨h1,.inr ⟨g,cap,cur,e1,Nat.le_trans hb e2,e3,e4⟩⟩
theorem ownsRow_below {A B:World} {base e size n:Nat} {v:Value} {xs:List Value} (h:A.ownsRow base e size v n xs) (hb:Below A.heap.size A B):B.ownsRow base e size v n xs:=ownsRow_ks h (KS.all hb (fun _=>True)) (fun _ _=>trivial)
theorem ownsRow_slice {A:World} {base e size n:Nat} {v:Value} {xs:List Value} (h:A.ownsRow base e size v n xs):∃ a cap,v=.slice a n cap:=by
 obtain ⟨h1,⟨rfl,rfl⟩ | ⟨g,cap,cur,rfl,_⟩⟩:=h
 ·exact ⟨_,_,rfl⟩
 ·exact ⟨_,_,rfl⟩
def OpenOk (w:World) (b:Bk) (vr vg vm vs vc:Value) (e:Ending) (w':World):Prop :=
 ∃ l',e=.returned (.tuple #[.agg #[vr,vg,vm,vs,vc],l',.int .i64 0])/\w'.ownsRow w.heap.size 116 4 l' (pasts b).length ((pasts b).flatMap cellsP)/\Below w.heap.size w w'
abbrev AskC (b:Bk) (w:World) (f:FuncId) (args:Array Value) (al:Int):Prop:=bookAl b=0->∀ W,Below w.heap.size w W->Calls Tryz.prog f args W fun e w'=>e=.returned (.int .i64 al)/\Below W.heap.size W w'
abbrev OpenNo (w:World) (t:Int) (e:Ending) (w':World):Prop:=e=.returned (.tuple #[.agg #[.int .i64 0,.int .i64 0,.slice none 0 0,.slice none 0 0,.slice none 0 0],.slice none 0 0,.int .i64 t])/\Below w.heap.size w w'
theorem all_at2 {w:World} (hB:BookAt w b vr vg vm vs vc) (hK:KindsAt w) (hk:bookAl b=0):Calls Tryz.prog 56 #[.agg #[vr,vg,vm,vs,vc]] w (AllOut w b):=all_at hB hK (bookAl_ok hk).1 (bookAl_ok hk).2
theorem open_nothing_no1 (hB:BookAt w b vr vg vm vs vc) (hN:∀ m∈b.ms,m.name.size<=1000000) (hK:KindsAt w) {al:Int} (hask:AskC b w 35 #[.agg #[vr,vg,vm,vs,vc]] al) {t:Int} (ht:bookAl b=t) (h0:t≠0) :
 Calls Tryz.prog 34 #[.agg #[vr,vg,vm,vs,vc],.func (.func 35) #[] #[]] w (OpenNo w t):=by
 have HB:=Hh hB;have HN:=Hh hN;have HK:=Hh hK;have HA:=Hh hask;obtain ⟨rfl,rfl,⟨ma,mc,rfl,_,_⟩,⟨sa,sc,rfl,_,_⟩,ra,rc,rfl,_,_⟩:=id hB;clear hB hN hK hask;have H0:=Hh ht;have hz3:(t != 0)=true:=by simpa using h0
 clear ht
 go_enter Tryz.func34,Tryz.ntmps34
 go_wp2_with (go_at_call 55;(with_reducible refine (checkBook_at (HB.out.below (Below.al (Below.al (Below.refl _ _) _) _)) HN.out (HK.out.below (Below.al (Below.al (Below.refl _ _) _) _)) H0.out).mono ?_);rintro e w1 ⟨rfl,hb1⟩;obtain ⟨hc1,hf1⟩:=bcell hb1;have hz1:w.heap.size < w1.heap.size:=(by have:=hb1.size;simp at this;omega);have hz1b:w.heap.size+1 < w1.heap.size:=(by have:=hb1.size;simp at this;omega));exact bodyPost_ret (v:=.tuple #[.agg #[.int .i64 0,.int .i64 0,.slice none 0 0,.slice none 0 0,.slice none 0 0],.slice none 0 0,.int .i64 t]) (by simp [results,Tryz.results34,go_sem, *]) rfl ⟨rfl,bel⟩
theorem open_nothing_no2 (hB:BookAt w b vr vg vm vs vc) (hN:∀ m∈b.ms,m.name.size<=1000000) (hK:KindsAt w) {al:Int} (hask:AskC b w 35 #[.agg #[vr,vg,vm,vs,vc]] al) {t:Int} (hk:bookAl b=0) (ht:al=t) (h0:t≠0) :
 Calls Tryz.prog 34 #[.agg #[vr,vg,vm,vs,vc],.func (.func 35) #[] #[]] w (OpenNo w t):=by
 subst ht;have HB:=Hh hB;have HN:=Hh hN;have HK:=Hh hK;have HA:=Hh hask;obtain ⟨rfl,rfl,⟨ma,mc,rfl,_,_⟩,⟨sa,sc,rfl,_,_⟩,ra,rc,rfl,_,_⟩:=id hB;clear hB hN hK hask;have H0:=Hh hk;have hz3:(al != 0)=true:=by simpa using h0
 clear hk
 go_enter Tryz.func34,Tryz.ntmps34
 go_wp2_with (first | (go_at_call 55;(with_reducible refine (checkBook_at (HB.out.below (Below.al (Below.al (Below.refl _ _) _) _)) HN.out (HK.out.below (Below.al (Below.al (Below.refl _ _) _) _)) H0.out).mono ?_);rintro e w1 ⟨rfl,hb1⟩;obtain ⟨hc1,hf1⟩:=bcell hb1;have hz1:w.heap.size < w1.heap.size:=(by have:=hb1.size;simp at this;omega);have hz1b:w.heap.size+1 < w1.heap.size:=(by have:=hb1.size;simp at this;omega)) | (go_at_call 35;(with_reducible refine (HA.out H0.out _ (Below.al (Below.next (Below.al (Below.al (Below.refl _ _) _) _) hb1) _)).mono ?_);rintro e w2 ⟨rfl,hb2⟩;obtain ⟨hc2,hf2⟩:=bcell hb2;have hz2:w1.heap.size < w2.heap.size:=(by have:=hb2.size;simp at this;omega);have hz2a:w.heap.size < w2.heap.size:=(by omega);have hz2b:w.heap.size+1 < w2.heap.size:=(by omega)));exact bodyPost_ret (v:=.tuple #[.agg #[.int .i64 0,.int .i64 0,.slice none 0 0,.slice none 0 0,.slice none 0 0],.slice none 0 0,.int .i64 al]) (by simp [results,Tryz.results34,go_sem, *]) rfl ⟨rfl,bel⟩
theorem open_nothing_no3 (hB:BookAt w b vr vg vm vs vc) (hN:∀ m∈b.ms,m.name.size<=1000000) (hK:KindsAt w) {al:Int} (hask:AskC b w 35 #[.agg #[vr,vg,vm,vs,vc]] al) (hk:bookAl b=0) (ht:al=0) (hp:pasts b=[]) :
 Calls Tryz.prog 34 #[.agg #[vr,vg,vm,vs,vc],.func (.func 35) #[] #[]] w (OpenNo w 10):=by
 subst ht;have HB:=Hh hB;have HN:=Hh hN;have HK:=Hh hK;have HA:=Hh hask;obtain ⟨rfl,rfl,⟨ma,mc,rfl,_,_⟩,⟨sa,sc,rfl,_,_⟩,ra,rc,rfl,_,_⟩:=id hB;clear hB hN hK hask;have H0:=Hh hk;have HL:=Hh (show (pasts b).length=0 by rw [hp];rfl);clear hk hp
 go_enter Tryz.func34,Tryz.ntmps34
 go_wp2_with (first | (go_at_call 55;(with_reducible refine (checkBook_at (HB.out.below (Below.al (Below.al (Below.refl _ _) _) _)) HN.out (HK.out.below (Below.al (Below.al (Below.refl _ _) _) _)) H0.out).mono ?_);rintro e w1 ⟨rfl,hb1⟩;obtain ⟨hc1,hf1⟩:=bcell hb1;have hz1:w.heap.size < w1.heap.size:=(by have:=hb1.size;simp at this;omega);have hz1b:w.heap.size+1 < w1.heap.size:=(by have:=hb1.size;simp at this;omega)) | (go_at_call 35;(with_reducible refine (HA.out H0.out _ (Below.al (Below.next (Below.al (Below.al (Below.refl _ _) _) _) hb1) _)).mono ?_);rintro e w2 ⟨rfl,hb2⟩;obtain ⟨hc2,hf2⟩:=bcell hb2;have hz2:w1.heap.size < w2.heap.size:=(by have:=hb2.size;simp at this;omega);have hz2a:w.heap.size < w2.heap.size:=(by omega);have hz2b:w.heap.size+1 < w2.heap.size:=(by omega)) | (go_at_call 56;(with_reducible refine (all_at2 (HB.out.below (Below.next (Below.al (Below.next (Below.al (Below.al (Below.refl _ _) _) _) hb1) _) hb2)) (HK.out.below (Below.next (Below.al (Below.next (Below.al (Below.al (Below.refl _ _) _) _) hb1) _) hb2)) H0.out).mono ?_);rintro e w3 ⟨l',rfl,hrow,hb3⟩;obtain ⟨hc3,hf3⟩:=bcell hb3;have hz3:w2.heap.size<=w3.heap.size:=hb3.size;have hz3a:w.heap.size < w3.heap.size:=(by omega);have hz3b:w.heap.size+1 < w3.heap.size:=(by omega);have hz3c:w1.heap.size < w3.heap.size:=(by omega);obtain ⟨la,lc,rfl⟩:=ownsRow_slice hrow;rw [HL.out];have HROW:=Hh hrow;clear hrow));exact bodyPost_ret (v:=.tuple #[.agg #[.int .i64 0,.int .i64 0,.slice none 0 0,.slice none 0 0,.slice none 0 0],.slice none 0 0,.int .i64 10]) (by simp [results,Tryz.results34,go_sem, *]) rfl ⟨rfl,bel⟩
theorem open_nothing_ok (hB:BookAt w b vr vg vm vs vc) (hN:∀ m∈b.ms,m.name.size<=1000000) (hK:KindsAt w) {al:Int} (hask:AskC b w 35 #[.agg #[vr,vg,vm,vs,vc]] al) (hk:bookAl b=0) (ht:al=0) (hp:pasts b≠[]) :
 Calls Tryz.prog 34 #[.agg #[vr,vg,vm,vs,vc],.func (.func 35) #[] #[]] w (OpenOk w b vr vg vm vs vc):=by
 subst ht;have HB:=Hh hB;have HN:=Hh hN;have HK:=Hh hK;have HA:=Hh hask;obtain ⟨rfl,rfl,⟨ma,mc,rfl,_,_⟩,⟨sa,sc,rfl,_,_⟩,ra,rc,rfl,_,_⟩:=id hB;clear hB hN hK hask;have H0:=Hh hk;have hpos:0 < (pasts b).length:=List.length_pos_iff.2 hp;have hne:(((pasts b).length:Int) == 0)=false:=by simp;exact fun h=>by rw [h] at hpos;simp at hpos
 have hne2:¬ ((pasts b).length:Int)=0:=by omega
 clear hk hp
 go_enter Tryz.func34,Tryz.ntmps34
 go_wp2_with (first | (go_at_call 55;(with_reducible refine (checkBook_at (HB.out.below (Below.al (Below.al (Below.refl _ _) _) _)) HN.out (HK.out.below (Below.al (Below.al (Below.refl _ _) _) _)) H0.out).mono ?_);rintro e w1 ⟨rfl,hb1⟩;obtain ⟨hc1,hf1⟩:=bcell hb1;have hz1:w.heap.size < w1.heap.size:=(by have:=hb1.size;simp at this;omega);have hz1b:w.heap.size+1 < w1.heap.size:=(by have:=hb1.size;simp at this;omega)) | (go_at_call 35;(with_reducible refine (HA.out H0.out _ (Below.al (Below.next (Below.al (Below.al (Below.refl _ _) _) _) hb1) _)).mono ?_);rintro e w2 ⟨rfl,hb2⟩;obtain ⟨hc2,hf2⟩:=bcell hb2;have hz2:w1.heap.size < w2.heap.size:=(by have:=hb2.size;simp at this;omega);have hz2a:w.heap.size < w2.heap.size:=(by omega);have hz2b:w.heap.size+1 < w2.heap.size:=(by omega)) | (go_at_call 56;(with_reducible refine (all_at2 (HB.out.below (Below.next (Below.al (Below.next (Below.al (Below.al (Below.refl _ _) _) _) hb1) _) hb2)) (HK.out.below (Below.next (Below.al (Below.next (Below.al (Below.al (Below.refl _ _) _) _) hb1) _) hb2)) H0.out).mono ?_);rintro e w3 ⟨l',rfl,hrow,hb3⟩;obtain ⟨hc3,hf3⟩:=bcell hb3;have hz3:w2.heap.size<=w3.heap.size:=hb3.size;have hz3a:w.heap.size < w3.heap.size:=(by omega);have hz3b:w.heap.size+1 < w3.heap.size:=(by omega);have hz3c:w1.heap.size < w3.heap.size:=(by omega);obtain ⟨la,lc,rfl⟩:=ownsRow_slice hrow;have HROW:=Hh hrow;clear hrow));exact bodyPost_ret (v:=.tuple #[.agg #[.int .i64 b.room,.int .i64 b.gap,.slice ma b.ms.length mc,.slice sa b.ss.length sc,.slice ra b.rs.length rc],.slice la (pasts b).length lc,.int .i64 0]) (by simp [results,Tryz.results34,go_sem, *]) rfl ⟨_,rfl,ownsRow_base (base:=w.heap.size+1+1) (by repeat (first | (with_reducible refine ownsRow_setCell_below ?_ (by simp) _) | exact ownsRow_base HROW.out (by omega))) (by omega),bel⟩
theorem open_nothing_no (hB:BookAt w b vr vg vm vs vc) (hN:∀ m∈b.ms,m.name.size<=1000000) (hK:KindsAt w) {al:Int} (hask:AskC b w 35 #[.agg #[vr,vg,vm,vs,vc]] al) {t:Int} (ht:openAl b al=t) (h0:t≠0) :
 Calls Tryz.prog 34 #[.agg #[vr,vg,vm,vs,vc],.func (.func 35) #[] #[]] w (OpenNo w t):=by
 unfold openAl at ht;split at ht
 ·exact open_nothing_no1 hB hN hK  hask ht h0
 ·rename_i hk
  have hk:bookAl b=0:=by simpa using hk
  split at ht
  ·exact open_nothing_no2 hB hN hK  hask hk ht h0
  ·rename_i ha
   split at ht
   ·rename_i hp
    subst ht;exact open_nothing_no3 hB hN hK  hask hk (by simpa using ha) hp
   ·exact absurd ht.symm h0
theorem open_through_ok (hB:BookAt w b vr vg vm vs vc) (hN:∀ m∈b.ms,m.name.size<=1000000) (hK:KindsAt w) (c0:Value) {al:Int} (hask:AskC b w 57 #[.agg #[vr,vg,vm,vs,vc],c0] al) (hk:bookAl b=0) (ht:al=0) (hp:pasts b≠[]) :
 Calls Tryz.prog 34 #[.agg #[vr,vg,vm,vs,vc],.func (.func 57) #[] #[c0]] w (OpenOk w b vr vg vm vs vc):=by
 subst ht;have HB:=Hh hB;have HN:=Hh hN;have HK:=Hh hK;have HA:=Hh hask;obtain ⟨rfl,rfl,⟨ma,mc,rfl,_,_⟩,⟨sa,sc,rfl,_,_⟩,ra,rc,rfl,_,_⟩:=id hB;clear hB hN hK hask;have H0:=Hh hk;have hpos:0 < (pasts b).length:=List.length_pos_iff.2 hp;have hne:(((pasts b).length:Int) == 0)=false:=by simp;exact fun h=>by rw [h] at hpos;simp at hpos
 have hne2:¬ ((pasts b).length:Int)=0:=by omega
 clear hk hp
 go_enter Tryz.func34,Tryz.ntmps34
 go_wp2_with (first | (go_at_call 55;(with_reducible refine (checkBook_at (HB.out.below (Below.al (Below.al (Below.refl _ _) _) _)) HN.out (HK.out.below (Below.al (Below.al (Below.refl _ _) _) _)) H0.out).mono ?_);rintro e w1 ⟨rfl,hb1⟩;obtain ⟨hc1,hf1⟩:=bcell hb1;have hz1:w.heap.size < w1.heap.size:=(by have:=hb1.size;simp at this;omega);have hz1b:w.heap.size+1 < w1.heap.size:=(by have:=hb1.size;simp at this;omega)) | (go_at_call 57;(with_reducible refine (HA.out H0.out _ (Below.al (Below.next (Below.al (Below.al (Below.refl _ _) _) _) hb1) _)).mono ?_);rintro e w2 ⟨rfl,hb2⟩;obtain ⟨hc2,hf2⟩:=bcell hb2;have hz2:w1.heap.size < w2.heap.size:=(by have:=hb2.size;simp at this;omega);have hz2a:w.heap.size < w2.heap.size:=(by omega);have hz2b:w.heap.size+1 < w2.heap.size:=(by omega)) | (go_at_call 56;(with_reducible refine (all_at2 (HB.out.below (Below.next (Below.al (Below.next (Below.al (Below.al (Below.refl _ _) _) _) hb1) _) hb2)) (HK.out.below (Below.next (Below.al (Below.next (Below.al (Below.al (Below.refl _ _) _) _) hb1) _) hb2)) H0.out).mono ?_);rintro e w3 ⟨l',rfl,hrow,hb3⟩;obtain ⟨hc3,hf3⟩:=bcell hb3;have hz3:w2.heap.size<=w3.heap.size:=hb3.size;have hz3a:w.heap.size < w3.heap.size:=(by omega);have hz3b:w.heap.size+1 < w3.heap.size:=(by omega);have hz3c:w1.heap.size < w3.heap.size:=(by omega);obtain ⟨la,lc,rfl⟩:=ownsRow_slice hrow;have HROW:=Hh hrow;clear hrow));exact bodyPost_ret (v:=.tuple #[.agg #[.int .i64 b.room,.int .i64 b.gap,.slice ma b.ms.length mc,.slice sa b.ss.length sc,.slice ra b.rs.length rc],.slice la (pasts b).length lc,.int .i64 0]) (by simp [results,Tryz.results34,go_sem, *]) rfl ⟨_,rfl,ownsRow_base (base:=w.heap.size+1+1) (by repeat (first | (with_reducible refine ownsRow_setCell_below ?_ (by simp) _) | exact ownsRow_base HROW.out (by omega))) (by omega),bel⟩
theorem open_group_ok (hB:BookAt w b vr vg vm vs vc) (hN:∀ m∈b.ms,m.name.size<=1000000) (hK:KindsAt w) (c0:Value) {al:Int} (hask:AskC b w 94 #[.agg #[vr,vg,vm,vs,vc],c0] al) (hk:bookAl b=0) (ht:al=0) (hp:pasts b≠[]) :
 Calls Tryz.prog 34 #[.agg #[vr,vg,vm,vs,vc],.func (.func 94) #[] #[c0]] w (OpenOk w b vr vg vm vs vc):=by
 subst ht;have HB:=Hh hB;have HN:=Hh hN;have HK:=Hh hK;have HA:=Hh hask;obtain ⟨rfl,rfl,⟨ma,mc,rfl,_,_⟩,⟨sa,sc,rfl,_,_⟩,ra,rc,rfl,_,_⟩:=id hB;clear hB hN hK hask;have H0:=Hh hk;have hpos:0 < (pasts b).length:=List.length_pos_iff.2 hp;have hne:(((pasts b).length:Int) == 0)=false:=by simp;exact fun h=>by rw [h] at hpos;simp at hpos
 have hne2:¬ ((pasts b).length:Int)=0:=by omega
 clear hk hp
 go_enter Tryz.func34,Tryz.ntmps34
 go_wp2_with (first | (go_at_call 55;(with_reducible refine (checkBook_at (HB.out.below (Below.al (Below.al (Below.refl _ _) _) _)) HN.out (HK.out.below (Below.al (Below.al (Below.refl _ _) _) _)) H0.out).mono ?_);rintro e w1 ⟨rfl,hb1⟩;obtain ⟨hc1,hf1⟩:=bcell hb1;have hz1:w.heap.size < w1.heap.size:=(by have:=hb1.size;simp at this;omega);have hz1b:w.heap.size+1 < w1.heap.size:=(by have:=hb1.size;simp at this;omega)) | (go_at_call 94;(with_reducible refine (HA.out H0.out _ (Below.al (Below.next (Below.al (Below.al (Below.refl _ _) _) _) hb1) _)).mono ?_);rintro e w2 ⟨rfl,hb2⟩;obtain ⟨hc2,hf2⟩:=bcell hb2;have hz2:w1.heap.size < w2.heap.size:=(by have:=hb2.size;simp at this;omega);have hz2a:w.heap.size < w2.heap.size:=(by omega);have hz2b:w.heap.size+1 < w2.heap.size:=(by omega)) | (go_at_call 56;(with_reducible refine (all_at2 (HB.out.below (Below.next (Below.al (Below.next (Below.al (Below.al (Below.refl _ _) _) _) hb1) _) hb2)) (HK.out.below (Below.next (Below.al (Below.next (Below.al (Below.al (Below.refl _ _) _) _) hb1) _) hb2)) H0.out).mono ?_);rintro e w3 ⟨l',rfl,hrow,hb3⟩;obtain ⟨hc3,hf3⟩:=bcell hb3;have hz3:w2.heap.size<=w3.heap.size:=hb3.size;have hz3a:w.heap.size < w3.heap.size:=(by omega);have hz3b:w.heap.size+1 < w3.heap.size:=(by omega);have hz3c:w1.heap.size < w3.heap.size:=(by omega);obtain ⟨la,lc,rfl⟩:=ownsRow_slice hrow;have HROW:=Hh hrow;clear hrow));exact bodyPost_ret (v:=.tuple #[.agg #[.int .i64 b.room,.int .i64 b.gap,.slice ma b.ms.length mc,.slice sa b.ss.length sc,.slice ra b.rs.length rc],.slice la (pasts b).length lc,.int .i64 0]) (by simp [results,Tryz.results34,go_sem, *]) rfl ⟨_,rfl,ownsRow_base (base:=w.heap.size+1+1) (by repeat (first | (with_reducible refine ownsRow_setCell_below ?_ (by simp) _) | exact ownsRow_base HROW.out (by omega))) (by omega),bel⟩
theorem open_timed_no1 (hB:BookAt w b vr vg vm vs vc) (hN:∀ m∈b.ms,m.name.size<=1000000) (hK:KindsAt w) (c0:Value) {al:Int} (hask:AskC b w 74 #[.agg #[vr,vg,vm,vs,vc],c0] al) {t:Int} (ht:bookAl b=t) (h0:t≠0) :
 Calls Tryz.prog 34 #[.agg #[vr,vg,vm,vs,vc],.func (.func 74) #[] #[c0]] w (OpenNo w t):=by
 have HB:=Hh hB;have HN:=Hh hN;have HK:=Hh hK;have HA:=Hh hask;obtain ⟨rfl,rfl,⟨ma,mc,rfl,_,_⟩,⟨sa,sc,rfl,_,_⟩,ra,rc,rfl,_,_⟩:=id hB;clear hB hN hK hask;have H0:=Hh ht;have hz3:(t != 0)=true:=by simpa using h0
 clear ht
 go_enter Tryz.func34,Tryz.ntmps34
 go_wp2_with (go_at_call 55;(with_reducible refine (checkBook_at (HB.out.below (Below.al (Below.al (Below.refl _ _) _) _)) HN.out (HK.out.below (Below.al (Below.al (Below.refl _ _) _) _)) H0.out).mono ?_);rintro e w1 ⟨rfl,hb1⟩;obtain ⟨hc1,hf1⟩:=bcell hb1;have hz1:w.heap.size < w1.heap.size:=(by have:=hb1.size;simp at this;omega);have hz1b:w.heap.size+1 < w1.heap.size:=(by have:=hb1.size;simp at this;omega));exact bodyPost_ret (v:=.tuple #[.agg #[.int .i64 0,.int .i64 0,.slice none 0 0,.slice none 0 0,.slice none 0 0],.slice none 0 0,.int .i64 t]) (by simp [results,Tryz.results34,go_sem, *]) rfl ⟨rfl,bel⟩
theorem open_timed_no2 (hB:BookAt w b vr vg vm vs vc) (hN:∀ m∈b.ms,m.name.size<=1000000) (hK:KindsAt w) (c0:Value) {al:Int} (hask:AskC b w 74 #[.agg #[vr,vg,vm,vs,vc],c0] al) {t:Int} (hk:bookAl b=0) (ht:al=t) (h0:t≠0) :
 Calls Tryz.prog 34 #[.agg #[vr,vg,vm,vs,vc],.func (.func 74) #[] #[c0]] w (OpenNo w t):=by
 subst ht;have HB:=Hh hB;have HN:=Hh hN;have HK:=Hh hK;have HA:=Hh hask;obtain ⟨rfl,rfl,⟨ma,mc,rfl,_,_⟩,⟨sa,sc,rfl,_,_⟩,ra,rc,rfl,_,_⟩:=id hB;clear hB hN hK hask;have H0:=Hh hk;have hz3:(al != 0)=true:=by simpa using h0
 clear hk
 go_enter Tryz.func34,Tryz.ntmps34
 go_wp2_with (first | (go_at_call 55;(with_reducible refine (checkBook_at (HB.out.below (Below.al (Below.al (Below.refl _ _) _) _)) HN.out (HK.out.below (Below.al (Below.al (Below.refl _ _) _) _)) H0.out).mono ?_);rintro e w1 ⟨rfl,hb1⟩;obtain ⟨hc1,hf1⟩:=bcell hb1;have hz1:w.heap.size < w1.heap.size:=(by have:=hb1.size;simp at this;omega);have hz1b:w.heap.size+1 < w1.heap.size:=(by have:=hb1.size;simp at this;omega)) | (go_at_call 74;(with_reducible refine (HA.out H0.out _ (Below.al (Below.next (Below.al (Below.al (Below.refl _ _) _) _) hb1) _)).mono ?_);rintro e w2 ⟨rfl,hb2⟩;obtain ⟨hc2,hf2⟩:=bcell hb2;have hz2:w1.heap.size < w2.heap.size:=(by have:=hb2.size;simp at this;omega);have hz2a:w.heap.size < w2.heap.size:=(by omega);have hz2b:w.heap.size+1 < w2.heap.size:=(by omega)));exact bodyPost_ret (v:=.tuple #[.agg #[.int .i64 0,.int .i64 0,.slice none 0 0,.slice none 0 0,.slice none 0 0],.slice none 0 0,.int .i64 al]) (by simp [results,Tryz.results34,go_sem, *]) rfl ⟨rfl,bel⟩
theorem open_timed_no3 (hB:BookAt w b vr vg vm vs vc) (hN:∀ m∈b.ms,m.name.size<=1000000) (hK:KindsAt w) (c0:Value) {al:Int} (hask:AskC b w 74 #[.agg #[vr,vg,vm,vs,vc],c0] al) (hk:bookAl b=0) (ht:al=0) (hp:pasts b=[]) :
 Calls Tryz.prog 34 #[.agg #[vr,vg,vm,vs,vc],.func (.func 74) #[] #[c0]] w (OpenNo w 10):=by
 subst ht;have HB:=Hh hB;have HN:=Hh hN;have HK:=Hh hK;have HA:=Hh hask;obtain ⟨rfl,rfl,⟨ma,mc,rfl,_,_⟩,⟨sa,sc,rfl,_,_⟩,ra,rc,rfl,_,_⟩:=id hB;clear hB hN hK hask;have H0:=Hh hk;have HL:=Hh (show (pasts b).length=0 by rw [hp];rfl);clear hk hp
 go_enter Tryz.func34,Tryz.ntmps34
 go_wp2_with (first | (go_at_call 55;(with_reducible refine (checkBook_at (HB.out.below (Below.al (Below.al (Below.refl _ _) _) _)) HN.out (HK.out.below (Below.al (Below.al (Below.refl _ _) _) _)) H0.out).mono ?_);rintro e w1 ⟨rfl,hb1⟩;obtain ⟨hc1,hf1⟩:=bcell hb1;have hz1:w.heap.size < w1.heap.size:=(by have:=hb1.size;simp at this;omega);have hz1b:w.heap.size+1 < w1.heap.size:=(by have:=hb1.size;simp at this;omega)) | (go_at_call 74;(with_reducible refine (HA.out H0.out _ (Below.al (Below.next (Below.al (Below.al (Below.refl _ _) _) _) hb1) _)).mono ?_);rintro e w2 ⟨rfl,hb2⟩;obtain ⟨hc2,hf2⟩:=bcell hb2;have hz2:w1.heap.size < w2.heap.size:=(by have:=hb2.size;simp at this;omega);have hz2a:w.heap.size < w2.heap.size:=(by omega);have hz2b:w.heap.size+1 < w2.heap.size:=(by omega)) | (go_at_call 56;(with_reducible refine (all_at2 (HB.out.below (Below.next (Below.al (Below.next (Below.al (Below.al (Below.refl _ _) _) _) hb1) _) hb2)) (HK.out.below (Below.next (Below.al (Below.next (Below.al (Below.al (Below.refl _ _) _) _) hb1) _) hb2)) H0.out).mono ?_);rintro e w3 ⟨l',rfl,hrow,hb3⟩;obtain ⟨hc3,hf3⟩:=bcell hb3;have hz3:w2.heap.size<=w3.heap.size:=hb3.size;have hz3a:w.heap.size < w3.heap.size:=(by omega);have hz3b:w.heap.size+1 < w3.heap.size:=(by omega);have hz3c:w1.heap.size < w3.heap.size:=(by omega);obtain ⟨la,lc,rfl⟩:=ownsRow_slice hrow;rw [HL.out];have HROW:=Hh hrow;clear hrow));exact bodyPost_ret (v:=.tuple #[.agg #[.int .i64 0,.int .i64 0,.slice none 0 0,.slice none 0 0,.slice none 0 0],.slice none 0 0,.int .i64 10]) (by simp [results,Tryz.results34,go_sem, *]) rfl ⟨rfl,bel⟩
theorem open_timed_ok (hB:BookAt w b vr vg vm vs vc) (hN:∀ m∈b.ms,m.name.size<=1000000) (hK:KindsAt w) (c0:Value) {al:Int} (hask:AskC b w 74 #[.agg #[vr,vg,vm,vs,vc],c0] al) (hk:bookAl b=0) (ht:al=0) (hp:pasts b≠[]) :
 Calls Tryz.prog 34 #[.agg #[vr,vg,vm,vs,vc],.func (.func 74) #[] #[c0]] w (OpenOk w b vr vg vm vs vc):=by
 subst ht;have HB:=Hh hB;have HN:=Hh hN;have HK:=Hh hK;have HA:=Hh hask;obtain ⟨rfl,rfl,⟨ma,mc,rfl,_,_⟩,⟨sa,sc,rfl,_,_⟩,ra,rc,rfl,_,_⟩:=id hB;clear hB hN hK hask;have H0:=Hh hk;have hpos:0 < (pasts b).length:=List.length_pos_iff.2 hp;have hne:(((pasts b).length:Int) == 0)=false:=by simp;exact fun h=>by rw [h] at hpos;simp at hpos
 have hne2:¬ ((pasts b).length:Int)=0:=by omega
 clear hk hp
 go_enter Tryz.func34,Tryz.ntmps34
 go_wp2_with (first | (go_at_call 55;(with_reducible refine (checkBook_at (HB.out.below (Below.al (Below.al (Below.refl _ _) _) _)) HN.out (HK.out.below (Below.al (Below.al (Below.refl _ _) _) _)) H0.out).mono ?_);rintro e w1 ⟨rfl,hb1⟩;obtain ⟨hc1,hf1⟩:=bcell hb1;have hz1:w.heap.size < w1.heap.size:=(by have:=hb1.size;simp at this;omega);have hz1b:w.heap.size+1 < w1.heap.size:=(by have:=hb1.size;simp at this;omega)) | (go_at_call 74;(with_reducible refine (HA.out H0.out _ (Below.al (Below.next (Below.al (Below.al (Below.refl _ _) _) _) hb1) _)).mono ?_);rintro e w2 ⟨rfl,hb2⟩;obtain ⟨hc2,hf2⟩:=bcell hb2;have hz2:w1.heap.size < w2.heap.size:=(by have:=hb2.size;simp at this;omega);have hz2a:w.heap.size < w2.heap.size:=(by omega);have hz2b:w.heap.size+1 < w2.heap.size:=(by omega)) | (go_at_call 56;(with_reducible refine (all_at2 (HB.out.below (Below.next (Below.al (Below.next (Below.al (Below.al (Below.refl _ _) _) _) hb1) _) hb2)) (HK.out.below (Below.next (Below.al (Below.next (Below.al (Below.al (Below.refl _ _) _) _) hb1) _) hb2)) H0.out).mono ?_);rintro e w3 ⟨l',rfl,hrow,hb3⟩;obtain ⟨hc3,hf3⟩:=bcell hb3;have hz3:w2.heap.size<=w3.heap.size:=hb3.size;have hz3a:w.heap.size < w3.heap.size:=(by omega);have hz3b:w.heap.size+1 < w3.heap.size:=(by omega);have hz3c:w1.heap.size < w3.heap.size:=(by omega);obtain ⟨la,lc,rfl⟩:=ownsRow_slice hrow;have HROW:=Hh hrow;clear hrow));exact bodyPost_ret (v:=.tuple #[.agg #[.int .i64 b.room,.int .i64 b.gap,.slice ma b.ms.length mc,.slice sa b.ss.length sc,.slice ra b.rs.length rc],.slice la (pasts b).length lc,.int .i64 0]) (by simp [results,Tryz.results34,go_sem, *]) rfl ⟨_,rfl,ownsRow_base (base:=w.heap.size+1+1) (by repeat (first | (with_reducible refine ownsRow_setCell_below ?_ (by simp) _) | exact ownsRow_base HROW.out (by omega))) (by omega),bel⟩
theorem open_timed_no (hB:BookAt w b vr vg vm vs vc) (hN:∀ m∈b.ms,m.name.size<=1000000) (hK:KindsAt w) (c0:Value) {al:Int} (hask:AskC b w 74 #[.agg #[vr,vg,vm,vs,vc],c0] al) {t:Int} (ht:openAl b al=t) (h0:t≠0) :
 Calls Tryz.prog 34 #[.agg #[vr,vg,vm,vs,vc],.func (.func 74) #[] #[c0]] w (OpenNo w t):=by
 unfold openAl at ht;split at ht
 ·exact open_timed_no1 hB hN hK c0 hask ht h0
 ·rename_i hk
  have hk:bookAl b=0:=by simpa using hk
  split at ht
  ·exact open_timed_no2 hB hN hK c0 hask hk ht h0
  ·rename_i ha
   split at ht
   ·rename_i hp
    subst ht;exact open_timed_no3 hB hN hK c0 hask hk (by simpa using ha) hp
   ·exact absurd ht.symm h0
theorem open_planned_ok (hB:BookAt w b vr vg vm vs vc) (hN:∀ m∈b.ms,m.name.size<=1000000) (hK:KindsAt w) (c0 c1:Value) {al:Int} (hask:AskC b w 78 #[.agg #[vr,vg,vm,vs,vc],c0,c1] al) (hk:bookAl b=0) (ht:al=0) (hp:pasts b≠[]) :
 Calls Tryz.prog 34 #[.agg #[vr,vg,vm,vs,vc],.func (.func 78) #[] #[c0,c1]] w (OpenOk w b vr vg vm vs vc):=by
 subst ht;have HB:=Hh hB;have HN:=Hh hN;have HK:=Hh hK;have HA:=Hh hask;obtain ⟨rfl,rfl,⟨ma,mc,rfl,_,_⟩,⟨sa,sc,rfl,_,_⟩,ra,rc,rfl,_,_⟩:=id hB;clear hB hN hK hask;have H0:=Hh hk;have hpos:0 < (pasts b).length:=List.length_pos_iff.2 hp;have hne:(((pasts b).length:Int) == 0)=false:=by simp;exact fun h=>by rw [h] at hpos;simp at hpos
 have hne2:¬ ((pasts b).length:Int)=0:=by omega
 clear hk hp
 go_enter Tryz.func34,Tryz.ntmps34
 go_wp2_with (first | (go_at_call 55;(with_reducible refine (checkBook_at (HB.out.below (Below.al (Below.al (Below.refl _ _) _) _)) HN.out (HK.out.below (Below.al (Below.al (Below.refl _ _) _) _)) H0.out).mono ?_);rintro e w1 ⟨rfl,hb1⟩;obtain ⟨hc1,hf1⟩:=bcell hb1;have hz1:w.heap.size < w1.heap.size:=(by have:=hb1.size;simp at this;omega);have hz1b:w.heap.size+1 < w1.heap.size:=(by have:=hb1.size;simp at this;omega)) | (go_at_call 78;(with_reducible refine (HA.out H0.out _ (Below.al (Below.next (Below.al (Below.al (Below.refl _ _) _) _) hb1) _)).mono ?_);rintro e w2 ⟨rfl,hb2⟩;obtain ⟨hc2,hf2⟩:=bcell hb2;have hz2:w1.heap.size < w2.heap.size:=(by have:=hb2.size;simp at this;omega);have hz2a:w.heap.size < w2.heap.size:=(by omega);have hz2b:w.heap.size+1 < w2.heap.size:=(by omega)) | (go_at_call 56;(with_reducible refine (all_at2 (HB.out.below (Below.next (Below.al (Below.next (Below.al (Below.al (Below.refl _ _) _) _) hb1) _) hb2)) (HK.out.below (Below.next (Below.al (Below.next (Below.al (Below.al (Below.refl _ _) _) _) hb1) _) hb2)) H0.out).mono ?_);rintro e w3 ⟨l',rfl,hrow,hb3⟩;obtain ⟨hc3,hf3⟩:=bcell hb3;have hz3:w2.heap.size<=w3.heap.size:=hb3.size;have hz3a:w.heap.size < w3.heap.size:=(by omega);have hz3b:w.heap.size+1 < w3.heap.size:=(by omega);have hz3c:w1.heap.size < w3.heap.size:=(by omega);obtain ⟨la,lc,rfl⟩:=ownsRow_slice hrow;have HROW:=Hh hrow;clear hrow));exact bodyPost_ret (v:=.tuple #[.agg #[.int .i64 b.room,.int .i64 b.gap,.slice ma b.ms.length mc,.slice sa b.ss.length sc,.slice ra b.rs.length rc],.slice la (pasts b).length lc,.int .i64 0]) (by simp [results,Tryz.results34,go_sem, *]) rfl ⟨_,rfl,ownsRow_base (base:=w.heap.size+1+1) (by repeat (first | (with_reducible refine ownsRow_setCell_below ?_ (by simp) _) | exact ownsRow_base HROW.out (by omega))) (by omega),bel⟩
theorem openAl_ok {al:Int} (h:openAl b al=0):bookAl b=0/\al=0/\pasts b≠[]:=by
 unfold openAl at h;split at h
 ·rename_i h2;exact absurd h h2
 ·split at h
  ·rename_i h2;exact absurd h h2
  ·split at h
   ·cases h
   ·rename_i h1 h2 h3;exact ⟨by simpa using h1,by simpa using h2,h3⟩
end
end
section
open Go.RowKit Sp
def IntsAt (w:World) (a:Option Addr) (l:List Int):Prop:=∀ i (h:i < l.length),∃ b o,a=some ⟨b,o,none⟩/\b < w.heap.size/\w.cell? ⟨b,o+i,none⟩=some (.int .i64 l[i])
def CamesAt (w:World) (a:Option Addr) (l:List (List Int)):Prop:=∀ i (h:i < l.length),∃ b o,a=some ⟨b,o,none⟩/\b < w.heap.size /\
 w.cell? ⟨b,o+i * 4,none⟩=some (.int .i64 ((pad l[i]).getD 0 0))/\w.cell? ⟨b,o+i * 4+1,none⟩=some (.int .i64 ((pad l[i]).getD 1 0))/\w.cell? ⟨b,o+i * 4+2,none⟩=some (.int .i64 ((pad l[i]).getD 2 0))/\w.cell? ⟨b,o+i * 4+3,none⟩=some (.int .i64 ((pad l[i]).getD 3 0))
section
variable {w w':World} {a:Option Addr}
theorem IntsAt.below {l:List Int} (h:IntsAt w a l) (hb:Below w.heap.size w w'):IntsAt w' a l:=fun i hi=>by
 obtain ⟨b,o,e,hlt,h1⟩:=h i hi;exact ⟨b,o,e,Nat.lt_of_lt_of_le hlt hb.size,(hb.cell hlt).trans h1⟩
theorem CamesAt.below {l:List (List Int)} (h:CamesAt w a l) (hb:Below w.heap.size w w'):CamesAt w' a l:=fun i hi=>by
 obtain ⟨b,o,e,hlt,h1,h2,h3,h4⟩:=h i hi;exact ⟨b,o,e,Nat.lt_of_lt_of_le hlt hb.size,(hb.cell hlt).trans h1,(hb.cell hlt).trans h2,(hb.cell hlt).trans h3,(hb.cell hlt).trans h4⟩
theorem row_cell {base e size n c:Nat} {xs:List Value} (h:w.ownsRow base e size (.slice a n c) n xs) (k:Nat) (hk:k < xs.length):∃ g,a=some ⟨g,0,none⟩/\base<=g/\g < w.heap.size/\w.cell? ⟨g,k,none⟩=xs[k]? := by
 obtain ⟨h1,⟨h2,h3⟩ | ⟨g,cap,cur,e1,e2,e3,e4,e5,e6,e7⟩⟩:=h
 ·rw [h3,Nat.zero_mul] at h1;omega
 ·cases e1;refine ⟨g,rfl,e2,(Array.getElem?_eq_some_iff.1 e3).1,?_⟩;rw [<- e7];unfold World.cell?;rw [e3,List.getElem?_take,if_pos (by omega)];simp
theorem ints_of_row {base n c:Nat} {l:List Int} (h:w.ownsRow base 3 1 (.slice a n c) n (l.map (Value.int .i64))):IntsAt w a l:=fun i hi=>by
 obtain ⟨g,rfl,_,h2,h3⟩:=row_cell h i (by simpa using hi);refine ⟨g,0,rfl,h2,?_⟩;rw [Nat.zero_add,h3];simp [hi]
theorem flat4 {f:List Int->List Value} (hf:∀ x,(f x).length=4):∀ (l:List (List Int)) (i j:Nat) (_:j < 4) (h:i < l.length),(l.flatMap f)[i * 4+j]? = (f l[i])[j]?
 | [],i,j,_,h=>by simp at h
 | x::l,0,j,hj,h=>by
  rw [List.flatMap_cons,List.getElem?_append_left (by rw [hf];omega)];simp
 | x::l,i+1,j,hj,h=>by
  rw [List.flatMap_cons,List.getElem?_append_right (by rw [hf];omega),hf,show (i+1) * 4+j - 4=i * 4+j by omega,flat4 hf l i j hj (by simpa using h)];simp
theorem flat4_length {f:List Int->List Value} (hf:∀ x,(f x).length=4):∀ (l:List (List Int)),(l.flatMap f).length=l.length * 4
 | []=>rfl
 | x::l=>by rw [List.flatMap_cons,List.length_append,hf,flat4_length hf l,List.length_cons];omega
theorem cames_of_row {base n c:Nat} {l:List (List Int)} (h:w.ownsRow base 116 4 (.slice a n c) n (l.flatMap cellsP)):CamesAt w a l:=fun i hi=>by
 have hlen:=flat4_length (f:=cellsP) (fun _=>rfl) l;have hj:∀ j,j < 4->i * 4+j < (l.flatMap cellsP).length:=fun j hj=>by omega
 obtain ⟨g,rfl,_,h2,_⟩:=row_cell h (i * 4) (by have:=hj 0 (by omega);omega);have hc:∀ j,j < 4->w.cell? ⟨g,i * 4+j,none⟩=(cellsP l[i])[j]? := fun j hj4=>by
  obtain ⟨g',e,_,_,h3⟩:=row_cell h (i * 4+j) (hj j hj4);cases e;rw [h3,flat4 (fun _=>rfl) l i j hj4 hi]
 refine ⟨g,0,rfl,h2,?_,?_,?_,?_⟩
 ·rw [Nat.zero_add];exact hc 0 (by omega)
 ·rw [Nat.zero_add];exact hc 1 (by omega)
 ·rw [Nat.zero_add];exact hc 2 (by omega)
 ·rw [Nat.zero_add];exact hc 3 (by omega)
end
end
section
open Go.RowKit Go.Maps Sp
theorem rIsName_at (s:ByteArray) (w:World) (hs:s.size<=1000000) {t:Bool} (h:isName s.data.toList=t) :
 Calls Tryz.prog 85 #[.string s] w fun e w'=>e=.returned (.bool t)/\w'=w:=by
 have H:=Hh h;clear h
 go_enter Tryz.func85,Tryz.ntmps85
 go_wp2;go_loop [3] (fun i=>∃ k:Nat,k<=s.size/\i=.int .i64 k/\∀ j,j < k->okAt j (s.data.toList.getD j 0)=true) (fun i=>s.size - (intOf i).toNat)
 case atStart=>exact ⟨0,Nat.zero_le _,rfl,fun j hj=>absurd hj (Nat.not_lt_zero _)⟩
 case round =>
  obtain ⟨k,hk,rfl,hok⟩:=hrel;by_cases hlt:k < s.size
  ·obtain ⟨n,hn⟩:∃ n:Nat,s[k].toNat=n:=⟨_,rfl⟩;have hok1:okAt k (s.data.toList.getD k 0)=okAt k s[k]:=by simp [hlt];rfl
   have hokn:okAt k s[k]=(decide (97<=n/\n<=122) || (decide (0 < k) && decide (48<=n/\n<=57))):=by simp [okAt,letter,digit,hn]
   have H1:=Hh hok1;have H2:=Hh hokn;clear hok1 hokn;have H3:=Hh hok;clear hok;have hcases:(97<=n/\n<=122)\/(97<=n/\122 < n/\0 < k)\/(97<=n/\122 < n/\k=0)\/(n < 97/\k=0)\/(n < 97/\0 < k/\n < 48)\/(n < 97/\0 < k/\48<=n/\n<=57)\/(n < 97/\0 < k/\48<=n/\57 < n):=by omega
   have yes:((97<=n/\n<=122)\/(0 < k/\48<=n/\n<=57))->∀ j,j < k+1->okAt j (s.data.toList.getD j 0)=true:=fun hh j hj=>by
    by_cases hjk:j < k
    ·exact H3.out j hjk
    ·obtain rfl:j=k:=by omega
     rw [H1.out,H2.out];simp;omega
   have no:¬ ((97<=n/\n<=122)\/(0 < k/\48<=n/\n<=57))->t=false:=fun hh=>by
    have h0:okAt k s[k]=false:=by
     rw [H2.out];simp;omega
    rw [<- H.out];simp only [isName,okName];have:((List.range s.data.toList.length).all fun i=>okAt i (s.data.toList.getD i 0))=false:=by
     rw [List.all_eq_false];refine ⟨k,by simpa using hlt,?_⟩;rw [H1.out,h0];simp
    rw [this,Bool.false_and]
   rcases hcases with ⟨g1,g2⟩ | ⟨g1,g2,g3⟩ | ⟨g1,g2,g3⟩ | ⟨g1,g3⟩ | ⟨g1,g2,g3⟩ | ⟨g1,g2,g3,g4⟩ | ⟨g1,g2,g3,g4⟩
   case inl | inr.inr.inr.inr.inr.inl =>
    have Y:=Hh (yes (by omega));clear yes no;go_wp2
    all_goals first
     | (exfalso;simp_all;omega)
     | (go_round
        case rel=>exact ⟨k+1,hlt,by go_num,Y.out⟩
        case measure=>simp [intOf];omega)
   all_goals
    have N:=no (by omega);clear yes no;subst N;go_wp2
    all_goals first
     | (exfalso;simp_all;omega)
     | (go_ret
        exact ⟨rfl,rfl⟩)
  ·have hke:k=s.size:=by omega
   have hN:okName s.data.toList=true:=by
    simp only [okName,List.all_eq_true,List.mem_range];exact fun j hj=>hok j (by rw [hke];simpa using hj)
   have hI:inB s.size 1 9=t:=by rw [<- H.out];simp [isName,hN]
   have HI:=Hh hI;clear hI hN hke hok;go_wp2_with (go_at_call 51;(with_reducible refine (rin_at HI.out).mono ?_);rintro e w' ⟨rfl,rfl⟩);go_ret;exact ⟨rfl,rfl⟩
def lesserI:List Int->List Int->Bool
 | x::l,y::m=>if x=y then lesserI l m else decide (x < y)
 | [],_::_=>true
 | _,[]=>false
theorem rIs_no1 (vr vg:Value) (ma:Option Addr) (ml mc:Nat) (se re:Value) (m g:Int) (w:World) (hl:ml<=1000000) (h:inB m 0 ((ml:Int) - 1)=false) :
 Calls Tryz.prog 42 #[.agg #[vr,vg,.slice ma ml mc,se,re],.agg #[.int .i64 m,.int .i64 g]] w fun e w'=>e=.returned (.bool false)/\Below w.heap.size w w':=by
 have H:=Hh h;clear h
 go_enter Tryz.func42,Tryz.ntmps42
 go_wp2;go_quiet ((go_at_call 77;with_reducible exact Calls.quiet_of_same (there_at hl H.out)));go_wp2;go_ret;exact ⟨rfl,bel⟩
theorem rIs_at1 (vr vg:Value) (mb mo:Nat) (ml mc:Nat) (se re:Value) (m g gr:Int) (w:World) (hl:ml<=1000000) (h:inB m 0 ((ml:Int) - 1)=true) (hm1:0<=m) (hm2:m < ml)
 (hg1:0<=gr) (hg2:gr<=1000) (hlt:mb < w.heap.size) (hc:w.cell? ⟨mb,mo+m.toNat * 3+1,none⟩=some (.int .i64 gr)) {t:Bool} (h2:inB g 0 (gr - 1)=t) :
 Calls Tryz.prog 42 #[.agg #[vr,vg,.slice (some ⟨mb,mo,none⟩) ml mc,se,re],.agg #[.int .i64 m,.int .i64 g]] w fun e w'=>e=.returned (.bool t)/\Below w.heap.size w w':=by
 have hgr:0<=gr/\gr<=1000000:=by omega
 have H:=Hh h;clear h;have H2:=Hh h2;clear h2
 go_enter Tryz.func42,Tryz.ntmps42
 go_wp2;go_quiet ((first | (go_at_call 77;with_reducible exact Calls.quiet_of_same (there_at hl H.out)) | (go_at_call 77;with_reducible exact Calls.quiet_of_same (thereI_at hgr H2.out))));go_wp2;go_ret;exact ⟨rfl,bel⟩
theorem rIs_at {b:Bk} {vr vg vm vs vc:Value} {p:Prt} {w:World} {t:Bool} (hB:BookAt w b vr vg vm vs vc) (hG:∀ m∈b.ms,0<=m.groups/\m.groups<=1000) (h:isPart b p=t) :
 Calls Tryz.prog 42 #[.agg #[vr,vg,vm,vs,vc],.agg #[.int .i64 p.1,.int .i64 p.2]] w fun e w'=>e=.returned (.bool t)/\Below w.heap.size w w':=by
 obtain ⟨ma,mc,rfl,hM,hl⟩:=hB.ms;unfold isPart at h;cases h1:inB p.1 0 ((b.ms.length:Int) - 1)
 ·simp only [h1,Bool.false_and] at h;subst h;exact rIs_no1 _ _ _ _ _ _ _ _ _ _ hl h1
 ·simp only [h1,Bool.true_and] at h;have h1':=h1;simp only [inB,decide_eq_true_eq] at h1';have hi:p.1.toNat < b.ms.length:=by omega
  obtain ⟨mb,mo,rfl,hlt,_,hc,_⟩:=hM _ hi;rw [List.getElem?_eq_getElem hi] at h;have:=hG _ (List.getElem_mem hi);exact rIs_at1 _ _ _ _ _ _ _ _ _ _ _ _ hl h1 h1'.1 (by omega) this.1 this.2 hlt hc h
theorem eqPart (a b c d:Int) (w:World):(binOp .eql 85 (.agg #[.int .i64 a,.int .i64 b]) (.agg #[.int .i64 c,.int .i64 d])).run Tryz.prog w=.ok (.bool (a == c && b == d)) w:=by
 have u3:=Tryz.underlying3;have hS:Tryz.prog.underlying 85=some (.struct (Tryz.prog.fieldsOf 85)):=by kernel_rfl
 have hp:Tryz.prog.stoodInHeld 85=false:=by kernel_rfl
 rw [run_eql_struct,show (10000:Nat)=9999+1 from rfl,run_equalIn_agg w 9999 85 _ _ hS hp];simp only [Program.fieldsOf,Tryz.underlying85];go_simp;by_cases h1:a=c <;> by_cases h2:b=d <;> simp [h1,h2]
theorem has_at {pa:Option Addr} {pc n:Nat} {l:List Prt} {p:Prt} {w:World} {t:Bool} (hP:PartsAt w pa l) (hn:n=l.length) (hl:l.length<=1000000) (h:decide (p∈l)=t) :
 Calls Tryz.prog 86 #[.slice pa n pc,.agg #[.int .i64 p.1,.int .i64 p.2]] w fun e w'=>e=.returned (.bool t)/\Below w.heap.size w w':=by
 subst hn;obtain ⟨pm,pg⟩:=p;have H:=Hh h;clear h;have HP:=Hh hP;clear hP
 go_enter Tryz.func86,Tryz.ntmps86
 go_wp2;obtain ⟨W0,hW0⟩:∃ W0,W0=w.alloc (.cells #[.int .i64 pm,.int .i64 pg] 85):=⟨_,rfl⟩;rw [<- hW0];have hb0:Below w.heap.size w W0:=by rw [hW0];(exact bel)
 have c0:W0.cell? ⟨w.heap.size,0,none⟩=some (.int .i64 pm):=by rw [hW0,World.cell?_alloc_at _ _ _ _ rfl];rfl
 have c1:W0.cell? ⟨w.heap.size,1,none⟩=some (.int .i64 pg):=by rw [hW0,World.cell?_alloc_at _ _ _ _ rfl];rfl
 have hs0:w.heap.size < W0.heap.size:=by rw [hW0];simp
 clear hW0;go_loopw [5] (fun i wr=>∃ k:Nat,k<=l.length/\i=.int .i64 k/\Hid ((pm,pg) ∉ l.take k)/\Below W0.heap.size W0 wr) (fun i _=>l.length - (intOf i).toNat)
 case atStart=>exact ⟨0,Nat.zero_le _,rfl,by simp [Hid],Below.refl _ _⟩
 case round =>
  obtain ⟨k,hk,rfl,hno,hW⟩:=hrel;have hWs:=hW.size;by_cases hlt:k < l.length
  ·obtain ⟨lb,lo,rfl,hlb,e0,e1⟩:=HP.out k hlt;have hb1:=Below.next hb0 hW;have d0:=(hb1.cell hlb).trans e0;have d1:=(hb1.cell hlb).trans e1;have x0:=(hW.cell (p:=⟨w.heap.size,0,none⟩) hs0).trans c0;have x1:=(hW.cell (p:=⟨w.heap.size,1,none⟩) hs0).trans c1;have hlb2:lb < wr.heap.size:=Nat.lt_of_lt_of_le hlb hb1.size;have hx2:w.heap.size < wr.heap.size:=by omega
   have htk:=List.take_succ_eq_append_getElem hlt;have hin:l[k]∈l:=List.getElem_mem hlt;generalize l[k]=q at d0 d1 htk hin;obtain ⟨qm,qg⟩:=q;simp only at d0 d1;have HTK:=Hh htk;have HIN:=Hh hin;clear htk e0 e1 c0 c1 hin;by_cases hq:qm=pm/\qg=pg
   ·obtain ⟨rfl,rfl⟩:=hq;have heq:=fun w=>(eqPart qm qg qm qg w).trans (by simp:_=Result.ok (Value.bool true) w);have ht:t=true:=by rw [<- H.out];simpa using HIN.out
    subst ht;go_wp2;go_quiet (fail);go_wp2;go_ret;exact ⟨rfl,bel⟩
   ·have heq:=fun w=>(eqPart qm qg pm pg w).trans (show _=Result.ok (Value.bool false) w by
     have:(qm == pm && qg == pg)=false:=by simpa using hq
     rw [this])
    have hn2:(pm,pg) ∉ l.take (k+1):=by
     rw [HTK.out];simp only [List.mem_append,List.mem_singleton,Prod.mk.injEq,not_or];exact ⟨hno.out,fun h=>hq ⟨h.1.symm,h.2.symm⟩⟩
    have HN:=Hh hn2;clear hq hn2;go_wp2;go_quiet (fail);go_wp2;go_roundw
    case rel=>exact ⟨k+1,by omega,by go_num,HN.out,bel⟩
    case measure=>simp [intOf];omega
  ·have ht:t=false:=by
    have:=hno.out;rw [List.take_of_length_le (by omega)] at this;rw [<- H.out];simpa using this
   subst ht;go_wp2;go_ret;exact ⟨rfl,bel⟩
theorem lesser_at {w:World} {la ma:Option Addr} {ln mn lc mc:Nat} {l m:List Int} (hL:IntsAt w la l) (hM:IntsAt w ma m) (hln:ln=l.length) (hmn:mn=m.length) (hl:l.length<=1000000) (hm:m.length<=1000000) {t:Bool} (ht:lesserI l m=t) :
 Calls Tryz.prog 72 #[.slice la ln lc,.slice ma mn mc] w fun e w'=>e=.returned (.bool t)/\Below w.heap.size w w':=by
 subst hln hmn;have HT:=Hh ht;have HL:=Hh hL;have HM:=Hh hM;clear ht hL hM
 go_enter Tryz.func72,Tryz.ntmps72
 go_wp2;go_loopw [5] (fun i wr=>∃ (k:Nat),k<=l.length/\k<=m.length/\i=.int .i64 k/\Hid (lesserI (l.drop k) (m.drop k)=t)/\Below w.heap.size w wr) (fun i _=>l.length - (intOf i).toNat)
 case atStart=>exact ⟨0,Nat.zero_le _,Nat.zero_le _,rfl,HT.out,Below.refl _ _⟩
 case round =>
  obtain ⟨k,hk,hkm,rfl,hc,hW⟩:=hrel;have hc:=hc.out;by_cases hlt:k < l.length
  ·obtain ⟨lb,lo,rfl,hlb,e0⟩:=HL.out k hlt;have e0:=(hW.cell hlb).trans e0;have hlb2:lb < wr.heap.size:=Nat.lt_of_lt_of_le hlb hW.size;rw [List.drop_eq_getElem_cons hlt] at hc;by_cases hlm:k < m.length
   ·obtain ⟨mb,mo,rfl,hmb,e1⟩:=HM.out k hlm;have e1:=(hW.cell hmb).trans e1;have hmb2:mb < wr.heap.size:=Nat.lt_of_lt_of_le hmb hW.size;rw [List.drop_eq_getElem_cons hlm] at hc;unfold lesserI at hc;generalize l[k]=x at hc e0;generalize m[k]=y at hc e1;by_cases h1:x=y
    ·rw [if_pos h1] at hc;have HC:=Hh hc;subst h1;clear hc;go_wp2;go_quiet (fail);go_wp2;go_roundw
     case rel=>exact ⟨k+1,by omega,by omega,by go_num,HC.out,bel⟩
     case measure=>simp [intOf];omega
    ·rw [if_neg h1] at hc;have HC:=Hh hc;have hne:(x == y)=false:=by simpa using h1
     clear hc;go_wp2;go_quiet (fail);go_wp2;go_quiet (fail);go_wp2;go_ret;exact ⟨by rw [<- HC.out];rfl,bel⟩
   ·have hmk:m.drop k=[]:=List.drop_eq_nil_of_le (by omega);rw [hmk] at hc;unfold lesserI at hc;subst hc;clear hmk;go_wp2;go_ret;exact ⟨by first | rfl | (simp;done) | (simp;omega),hW⟩
  ·obtain rfl:k=l.length:=by omega
   rw [List.drop_length] at hc;by_cases hlm:l.length < m.length
   ·rw [List.drop_eq_getElem_cons hlm] at hc;unfold lesserI at hc;subst hc;go_wp2;go_ret;exact ⟨by first | rfl | (simp;done) | (simp;omega),hW⟩
   ·rw [List.drop_eq_nil_of_le (by omega)] at hc;unfold lesserI at hc;subst hc;go_wp2;go_ret;exact ⟨by first | rfl | (simp;done) | (simp;omega),hW⟩
theorem lesser_same:∀ {l m:List Int},(!lesserI l m && !lesserI m l)=decide (l=m)
 | [],[]=>by simp [lesserI]
 | [],_::_=>by simp [lesserI]
 | _::_,[]=>by simp [lesserI]
 | x::l,y::m=>by
  unfold lesserI;by_cases h:x=y
  ·subst h;rw [if_pos rfl,if_pos rfl,lesser_same];simp
  ·rw [if_neg h,if_neg (Ne.symm h)];have:¬ (x::l=y::m):=fun e=>h (List.cons.inj e).1;simp only [this,decide_false,Bool.and_eq_false_iff,Bool.not_eq_false',decide_eq_true_eq];omega
theorem sameNums_at {w:World} {la ma:Option Addr} {ln mn lc mc:Nat} {l m:List Int} (hL:IntsAt w la l) (hM:IntsAt w ma m) (hln:ln=l.length) (hmn:mn=m.length) (hl:l.length<=1000000) (hm:m.length<=1000000) {t:Bool} (ht:decide (l=m)=t) :
 Calls Tryz.prog 30 #[.slice la ln lc,.slice ma mn mc] w fun e w'=>e=.returned (.bool t)/\Below w.heap.size w w':=by
 rw [<- lesser_same] at ht;have h1:=fun (w':World) (hb:Below w.heap.size w w')=>lesser_at (lc:=lc) (mc:=mc) (hL.below hb) (hM.below hb) hln hmn hl hm rfl;have h2:=fun (w':World) (hb:Below w.heap.size w w')=>lesser_at (lc:=mc) (mc:=lc) (hM.below hb) (hL.below hb) hmn hln hm hl rfl;generalize lesserI l m=x at ht h1;generalize lesserI m l=y at ht h2;have H1:=Hh h1;have H2:=Hh h2;clear h1 h2 hL hM hln hmn hl hm;subst ht;cases x
 all_goals
  go_enter Tryz.func30,Tryz.ntmps30
  go_wp2_with (first
   | (go_at_call 72;(with_reducible refine (H1.out _ (bel)).mono ?_);rintro e w1 ⟨rfl,hb1⟩)
   | (go_at_call 72;(with_reducible refine (H2.out _ (bel)).mono ?_);rintro e w2 ⟨rfl,hb2⟩))
  go_ret;exact ⟨by simp,bel⟩
theorem part_at (m g:Int) (w:World):Calls Tryz.prog 33 #[.int .i64 m,.int .i64 g] w fun e w'=>e=.returned (.agg #[.int .i64 m,.int .i64 g])/\Below w.heap.size w w':=by
 go_enter Tryz.func33,Tryz.ntmps33
 go_wp2;exact bodyPost_ret (v:=.agg #[.int .i64 m,.int .i64 g]) (by simp [results,Tryz.results33,go_sem, *]) rfl ⟨rfl,bel⟩
theorem to_at (m g:Int) (w:World):Calls Tryz.prog 28 #[.int .i64 m,.int .i64 g] w fun e w'=>e=.returned (.agg #[.int .i64 m,.int .i64 g])/\Below w.heap.size w w':=by
 go_enter Tryz.func28,Tryz.ntmps28
 go_wp2;exact bodyPost_ret (v:=.agg #[.int .i64 m,.int .i64 g]) (by simp [results,Tryz.results28,go_sem, *]) rfl ⟨rfl,bel⟩
section
variable {w:World} {la ma:Option Addr} {ln mn lc mc:Nat}
theorem sameClaims_at {l m:List Int} (hL:IntsAt w la l) (hM:IntsAt w ma m) (hln:ln=l.length) (hmn:mn=m.length) (hl:l.length<=1000000) (hm:m.length<=1000000) {t:Bool} (ht:decide (l=m)=t) :
 Calls Tryz.prog 31 #[.slice la ln lc,.slice ma mn mc] w fun e w'=>e=.returned (.bool t)/\Below w.heap.size w w':=by
 subst hln hmn;have HL:=Hh hL;have HM:=Hh hM;clear hL hM;by_cases hlen:l.length=m.length
 case neg =>
  have:t=false:=by rw [<- ht];exact decide_eq_false fun e=>hlen (by rw [e])
  subst this;have hne:((l.length:Int) != (m.length:Int))=true:=by simp;omega
  clear ht hlen
  go_enter Tryz.func31,Tryz.ntmps31
  go_wp2;go_ret;exact ⟨rfl,Below.refl _ _⟩
 have HT:=Hh ht;have HLEN:=Hh hlen;have hne:((l.length:Int) != (m.length:Int))=false:=by simp;omega
 clear ht hlen
 go_enter Tryz.func31,Tryz.ntmps31
 go_wp2;go_loopw [5] (fun i wr=>∃ (k:Nat),k<=l.length/\i=.int .i64 k/\Hid (l.take k=m.take k)/\Below w.heap.size w wr) (fun i _=>l.length - (intOf i).toNat)
 case atStart=>exact ⟨0,Nat.zero_le _,rfl,rfl,Below.refl _ _⟩
 case round =>
  obtain ⟨k,hk,rfl,hE,hW⟩:=hrel;by_cases hlt:k < l.length
  ·have hlm:k < m.length:=by have:=HLEN.out;omega
   obtain ⟨lb,lo,rfl,hlb,e0⟩:=HL.out k hlt;have e0:=(hW.cell hlb).trans e0;have hlb2:lb < wr.heap.size:=Nat.lt_of_lt_of_le hlb hW.size;obtain ⟨mb,mo,rfl,hmb,e1⟩:=HM.out k hlm;have e1:=(hW.cell hmb).trans e1;have hmb2:mb < wr.heap.size:=Nat.lt_of_lt_of_le hmb hW.size;have h1:=List.take_succ_eq_append_getElem hlt;have h2:=List.take_succ_eq_append_getElem hlm;have hgl:l[k]? = some l[k]:=List.getElem?_eq_getElem hlt;have hgm:m[k]? = some m[k]:=List.getElem?_eq_getElem hlm;generalize l[k]=x at e0 h1 hgl;generalize m[k]=y at e1 h2 hgm;by_cases hxy:x=y
   ·subst hxy;have HE2:=Hh (show l.take (k+1)=m.take (k+1) by rw [h1,h2,hE.out]);clear h1 h2 hgl hgm;go_wp2;go_quiet (fail);go_wp2;go_roundw
    case rel=>exact ⟨k+1,by omega,by go_num,HE2.out,bel⟩
    case measure=>simp [intOf];omega
   ·have:t=false:=by
     rw [<- HT.out];exact decide_eq_false fun e=>hxy (by rw [e,hgm] at hgl;exact (Option.some.inj hgl).symm)
    subst this;have hb:(x != y)=true:=by simpa using hxy
    clear h1 h2 hgl hgm hxy;go_wp2;go_quiet (fail);go_wp2;go_ret;exact ⟨rfl,bel⟩
  ·obtain rfl:k=l.length:=by omega
   have:t=true:=by
    rw [<- HT.out];have:=hE.out;rw [List.take_length,HLEN.out,List.take_length] at this;exact decide_eq_true this
   subst this;go_wp2;go_ret;exact ⟨rfl,hW⟩
theorem neqPart (a b c d:Int) (w:World):(binOp .neq 85 (.agg #[.int .i64 a,.int .i64 b]) (.agg #[.int .i64 c,.int .i64 d])).run Tryz.prog w=.ok (.bool (!(a == c && b == d))) w:=by
 have u3:=Tryz.underlying3;have hS:Tryz.prog.underlying 85=some (.struct (Tryz.prog.fieldsOf 85)):=by kernel_rfl
 have hp:Tryz.prog.stoodInHeld 85=false:=by kernel_rfl
 rw [run_neq_struct,show (10000:Nat)=9999+1 from rfl,run_equalIn_agg w 9999 85 _ _ hS hp];simp only [Program.fieldsOf,Tryz.underlying85];go_simp;by_cases h1:a=c <;> by_cases h2:b=d <;> simp [h1,h2]
theorem sameParts_at {l m:List Prt} (hL:PartsAt w la l) (hM:PartsAt w ma m) (hln:ln=l.length) (hmn:mn=m.length) (hl:l.length<=1000000) (hm:m.length<=1000000) {t:Bool} (ht:decide (l=m)=t) :
 Calls Tryz.prog 32 #[.slice la ln lc,.slice ma mn mc] w fun e w'=>e=.returned (.bool t)/\Below w.heap.size w w':=by
 subst hln hmn;have HL:=Hh hL;have HM:=Hh hM;clear hL hM;by_cases hlen:l.length=m.length
 case neg =>
  have:t=false:=by rw [<- ht];exact decide_eq_false fun e=>hlen (by rw [e])
  subst this;have hne:((l.length:Int) != (m.length:Int))=true:=by simp;omega
  clear ht hlen
  go_enter Tryz.func32,Tryz.ntmps32
  go_wp2;go_ret;exact ⟨rfl,Below.refl _ _⟩
 have HT:=Hh ht;have HLEN:=Hh hlen;have hne:((l.length:Int) != (m.length:Int))=false:=by simp;omega
 clear ht hlen
 go_enter Tryz.func32,Tryz.ntmps32
 go_wp2;go_loopw [5] (fun i wr=>∃ (k:Nat),k<=l.length/\i=.int .i64 k/\Hid (l.take k=m.take k)/\Below w.heap.size w wr) (fun i _=>l.length - (intOf i).toNat)
 case atStart=>exact ⟨0,Nat.zero_le _,rfl,rfl,Below.refl _ _⟩
 case round =>
  obtain ⟨k,hk,rfl,hE,hW⟩:=hrel;by_cases hlt:k < l.length
  ·have hlm:k < m.length:=by have:=HLEN.out;omega
   obtain ⟨lb,lo,rfl,hlb,e0,f0⟩:=HL.out k hlt;have e0:=(hW.cell hlb).trans e0;have f0:=(hW.cell hlb).trans f0;have hlb2:lb < wr.heap.size:=Nat.lt_of_lt_of_le hlb hW.size;obtain ⟨mb,mo,rfl,hmb,e1,f1⟩:=HM.out k hlm;have e1:=(hW.cell hmb).trans e1;have f1:=(hW.cell hmb).trans f1;have hmb2:mb < wr.heap.size:=Nat.lt_of_lt_of_le hmb hW.size;have h1:=List.take_succ_eq_append_getElem hlt;have h2:=List.take_succ_eq_append_getElem hlm;have hgl:l[k]? = some l[k]:=List.getElem?_eq_getElem hlt;have hgm:m[k]? = some m[k]:=List.getElem?_eq_getElem hlm;generalize l[k]=x at e0 f0 h1 hgl;generalize m[k]=y at e1 f1 h2 hgm;obtain ⟨x1,x2⟩:=x;obtain ⟨y1,y2⟩:=y;simp only at e0 f0 e1 f1;by_cases hxy:x1=y1/\x2=y2
   ·obtain ⟨rfl,rfl⟩:=hxy;have HE2:=Hh (show l.take (k+1)=m.take (k+1) by rw [h1,h2,hE.out]);have heq:=fun w=>(neqPart x1 x2 x1 x2 w).trans (by simp:_=Result.ok (Value.bool false) w);clear h1 h2 hgl hgm;go_wp2;go_quiet (fail);go_wp2;go_roundw
    case rel=>exact ⟨k+1,by omega,by go_num,HE2.out,bel⟩
    case measure=>simp [intOf];omega
   ·have:t=false:=by
     rw [<- HT.out];refine decide_eq_false fun e=>hxy ?_;rw [e,hgm] at hgl;have:=Option.some.inj hgl;simp only [Prod.mk.injEq] at this;exact ⟨this.1.symm,this.2.symm⟩
    subst this;have heq:=fun w=>(neqPart x1 x2 y1 y2 w).trans (by
     have:(x1 == y1 && x2 == y2)=false:=by simpa using hxy
     rw [this];rfl:_=Result.ok (Value.bool true) w)
    clear h1 h2 hgl hgm hxy;go_wp2;go_quiet (fail);go_wp2;go_ret;exact ⟨rfl,bel⟩
  ·obtain rfl:k=l.length:=by omega
   have:t=true:=by
    rw [<- HT.out];have:=hE.out;rw [List.take_length,HLEN.out,List.take_length] at this;exact decide_eq_true this
   subst this;go_wp2;go_ret;exact ⟨rfl,hW⟩
end
end
end Go.Proofs.YtdjnkplgllakcaaGreatDoor
