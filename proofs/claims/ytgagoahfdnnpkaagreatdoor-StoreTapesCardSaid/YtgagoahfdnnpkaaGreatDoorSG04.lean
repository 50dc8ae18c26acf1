/- StoreTapes -/
import Derived.Test.YtgagoahfdnnpkaaGreatDoorSG03
import Derived.Deep.AppendLies
set_option maxHeartbeats 2000000
set_option maxRecDepth 100000
set_option linter.all false
namespace Go.Proofs.YtgagoahfdnnpkaaGreatDoor
section
open Go.RowKit Go.Maps Sp
section
variable {b:Bk} {vr vg vm vs vc:Value} {w:World}
theorem ownsRow_base {w:World} {base base' e size n:Nat} {v:Value} {xs:List Value} (h:w.ownsRow base e size v n xs) (hb:base'<=base):w.ownsRow base' e size v n xs:=by
 obtain ⟨h1,h2 | ⟨g,cap,cur,e1,e2,e3,e4⟩⟩:=h
 ·exact ⟨h1,.inl h2⟩
 ·exact ⟨h1,.inr ⟨g,cap,cur,e1,Nat.le_trans hb e2,e3,e4⟩⟩
theorem ownsRow_below {A B:World} {base e size n:Nat} {v:Value} {xs:List Value} (h:A.ownsRow base e size v n xs) (hb:Below A.heap.size A B):B.ownsRow base e size v n xs:=ownsRow_ks h (KS.all hb (fun _=>True)) (fun _ _=>trivial)
theorem ownsRow_slice {A:World} {base e size n:Nat} {v:Value} {xs:List Value} (h:A.ownsRow base e size v n xs):∃ a cap,v=.slice a n cap:=by
 obtain ⟨h1,⟨rfl,rfl⟩ | ⟨g,cap,cur,rfl,_⟩⟩:=h
 ·exact ⟨_,_,rfl⟩
 ·exact ⟨_,_,rfl⟩
def OpenOk (w:World) (b:Bk) (vr vg vm vs vc:Value) (e:Ending) (w':World):Prop :=
 ∃ l',e=.returned (.tuple #[.agg #[vr,vg,vm,vs,vc],l',.int .i64 0])/\w'.ownsRow w.heap.size 113 4 l' (pasts b).length ((pasts b).flatMap cellsP)/\Below w.heap.size w w'
abbrev AskC (b:Bk) (w:World) (f:FuncId) (args:Array Value) (al:Int):Prop:=bookAl b=0->∀ W,Below w.heap.size w W->Calls Tryz.prog f args W fun e w'=>e=.returned (.int .i64 al)/\Below W.heap.size W w'
abbrev OpenNo (w:World) (t:Int) (e:Ending) (w':World):Prop:=e=.returned (.tuple #[.agg #[.int .i64 0,.int .i64 0,.slice none 0 0,.slice none 0 0,.slice none 0 0],.slice none 0 0,.int .i64 t])/\Below w.heap.size w w'
theorem all_at2 {w:World} (hB:BookAt w b vr vg vm vs vc) (hK:KindsAt w) (hk:bookAl b=0):Calls Tryz.prog 59 #[.agg #[vr,vg,vm,vs,vc]] w (AllOut w b):=all_at hB hK (bookAl_ok hk).1 (bookAl_ok hk).2
theorem open_nothing_no1 (hB:BookAt w b vr vg vm vs vc) (hN:∀ m∈b.ms,m.name.size<=1000000) (hK:KindsAt w) {al:Int} (hask:AskC b w 54 #[.agg #[vr,vg,vm,vs,vc]] al) {t:Int} (ht:bookAl b=t) (h0:t≠0) :
 Calls Tryz.prog 31 #[.agg #[vr,vg,vm,vs,vc],.func (.func 54) #[] #[]] w (OpenNo w t):=by
 have HB:=Hh hB;have HN:=Hh hN;have HK:=Hh hK;have HA:=Hh hask;obtain ⟨rfl,rfl,⟨ma,mc,rfl,_,_⟩,⟨sa,sc,rfl,_,_⟩,ra,rc,rfl,_,_⟩:=id hB;clear hB hN hK hask;have H0:=Hh ht;have hz3:(t != 0)=true:=by simpa using h0
 clear ht
 go_enter Tryz.func31,Tryz.ntmps31
 go_wp2_with (go_at_call 58;(with_reducible refine (checkBook_at (HB.out.below (Below.al (Below.al (Below.refl _ _) _) _)) HN.out (HK.out.below (Below.al (Below.al (Below.refl _ _) _) _)) H0.out).mono ?_);rintro e w1 ⟨rfl,hb1⟩;obtain ⟨hc1,hf1⟩:=bcell hb1;have hz1:w.heap.size < w1.heap.size:=(by have:=hb1.size;simp at this;omega);have hz1b:w.heap.size+1 < w1.heap.size:=(by have:=hb1.size;simp at this;omega));exact bodyPost_ret (v:=.tuple #[.agg #[.int .i64 0,.int .i64 0,.slice none 0 0,.slice none 0 0,.slice none 0 0],.slice none 0 0,.int .i64 t]) (by simp [results,Tryz.results31,go_sem, *]) rfl ⟨rfl,bel⟩
theorem open_nothing_no2 (hB:BookAt w b vr vg vm vs vc) (hN:∀ m∈b.ms,m.name.size<=1000000) (hK:KindsAt w) {al:Int} (hask:AskC b w 54 #[.agg #[vr,vg,vm,vs,vc]] al) {t:Int} (hk:bookAl b=0) (ht:al=t) (h0:t≠0) :
 Calls Tryz.prog 31 #[.agg #[vr,vg,vm,vs,vc],.func (.func 54) #[] #[]] w (OpenNo w t):=by
 subst ht;have HB:=Hh hB;have HN:=Hh hN;have HK:=Hh hK;have HA:=Hh hask;obtain ⟨rfl,rfl,⟨ma,mc,rfl,_,_⟩,⟨sa,sc,rfl,_,_⟩,ra,rc,rfl,_,_⟩:=id hB;clear hB hN hK hask;have H0:=Hh hk;have hz3:(al != 0)=true:=by simpa using h0
 clear hk
 go_enter Tryz.func31,Tryz.ntmps31
 go_wp2_with (first | (go_at_call 58;(with_reducible refine (checkBook_at (HB.out.below (Below.al (Below.al (Below.refl _ _) _) _)) HN.out (HK.out.below (Below.al (Below.al (Below.refl _ _) _) _)) H0.out).mono ?_);rintro e w1 ⟨rfl,hb1⟩;obtain ⟨hc1,hf1⟩:=bcell hb1;have hz1:w.heap.size < w1.heap.size:=(by have:=hb1.size;simp at this;omega);have hz1b:w.heap.size+1 < w1.heap.size:=(by have:=hb1.size;simp at this;omega)) | (go_at_call 54;(with_reducible refine (HA.out H0.out _ (Below.al (Below.next (Below.al (Below.al (Below.refl _ _) _) _) hb1) _)).mono ?_);rintro e w2 ⟨rfl,hb2⟩;obtain ⟨hc2,hf2⟩:=bcell hb2;have hz2:w1.heap.size < w2.heap.size:=(by have:=hb2.size;simp at this;omega);have hz2a:w.heap.size < w2.heap.size:=(by omega);have hz2b:w.heap.size+1 < w2.heap.size:=(by omega)));exact bodyPost_ret (v:=.tuple #[.agg #[.int .i64 0,.int .i64 0,.slice none 0 0,.slice none 0 0,.slice none 0 0],.slice none 0 0,.int .i64 al]) (by simp [results,Tryz.results31,go_sem, *]) rfl ⟨rfl,bel⟩
theorem open_nothing_no3 (hB:BookAt w b vr vg vm vs vc) (hN:∀ m∈b.ms,m.name.size<=1000000) (hK:KindsAt w) {al:Int} (hask:AskC b w 54 #[.agg #[vr,vg,vm,vs,vc]] al) (hk:bookAl b=0) (ht:al=0) (hp:pasts b=[]) :
 Calls Tryz.prog 31 #[.agg #[vr,vg,vm,vs,vc],.func (.func 54) #[] #[]] w (OpenNo w 10):=by
 subst ht;have HB:=Hh hB;have HN:=Hh hN;have HK:=Hh hK;have HA:=Hh hask;obtain ⟨rfl,rfl,⟨ma,mc,rfl,_,_⟩,⟨sa,sc,rfl,_,_⟩,ra,rc,rfl,_,_⟩:=id hB;clear hB hN hK hask;have H0:=Hh hk;have HL:=Hh (show (pasts b).length=0 by rw [hp];rfl);clear hk hp
 go_enter Tryz.func31,Tryz.ntmps31
 go_wp2_with (first | (go_at_call 58;(with_reducible refine (checkBook_at (HB.out.below (Below.al (Below.al (Below.refl _ _) _) _)) HN.out (HK.out.below (Below.al (Below.al (Below.refl _ _) _) _)) H0.out).mono ?_);rintro e w1 ⟨rfl,hb1⟩;obtain ⟨hc1,hf1⟩:=bcell hb1;have hz1:w.heap.size < w1.heap.size:=(by have:=hb1.size;simp at this;omega);have hz1b:w.heap.size+1 < w1.heap.size:=(by have:=hb1.size;simp at this;omega)) | (go_at_call 54;(with_reducible refine (HA.out H0.out _ (Below.al (Below.next (Below.al (Below.al (Below.refl _ _) _) _) hb1) _)).mono ?_);rintro e w2 ⟨rfl,hb2⟩;obtain ⟨hc2,hf2⟩:=bcell hb2;have hz2:w1.heap.size < w2.heap.size:=(by have:=hb2.size;simp at this;omega);have hz2a:w.heap.size < w2.heap.size:=(by omega);have hz2b:w.heap.size+1 < w2.heap.size:=(by omega)) | (go_at_call 59;(with_reducible refine (all_at2 (HB.out.below (Below.next (Below.al (Below.next (Below.al (Below.al (Below.refl _ _) _) _) hb1) _) hb2)) (HK.out.below (Below.next (Below.al (Below.next (Below.al (Below.al (Below.refl _ _) _) _) hb1) _) hb2)) H0.out).mono ?_);rintro e w3 ⟨l',rfl,hrow,hb3⟩;obtain ⟨hc3,hf3⟩:=bcell hb3;have hz3:w2.heap.size<=w3.heap.size:=hb3.size;have hz3a:w.heap.size < w3.heap.size:=(by omega);have hz3b:w.heap.size+1 < w3.heap.size:=(by omega);have hz3c:w1.heap.size < w3.heap.size:=(by omega);obtain ⟨la,lc,rfl⟩:=ownsRow_slice hrow;rw [HL.out];have HROW:=Hh hrow;clear hrow));exact bodyPost_ret (v:=.tuple #[.agg #[.int .i64 0,.int .i64 0,.slice none 0 0,.slice none 0 0,.slice none 0 0],.slice none 0 0,.int .i64 10]) (by simp [results,Tryz.results31,go_sem, *]) rfl ⟨rfl,bel⟩
theorem open_nothing_ok (hB:BookAt w b vr vg vm vs vc) (hN:∀ m∈b.ms,m.name.size<=1000000) (hK:KindsAt w) {al:Int} (hask:AskC b w 54 #[.agg #[vr,vg,vm,vs,vc]] al) (hk:bookAl b=0) (ht:al=0) (hp:pasts b≠[]) :
 Calls Tryz.prog 31 #[.agg #[vr,vg,vm,vs,vc],.func (.func 54) #[] #[]] w (OpenOk w b vr vg vm vs vc):=by
 subst ht;have HB:=Hh hB;have HN:=Hh hN;have HK:=Hh hK;have HA:=Hh hask;obtain ⟨rfl,rfl,⟨ma,mc,rfl,_,_⟩,⟨sa,sc,rfl,_,_⟩,ra,rc,rfl,_,_⟩:=id hB;clear hB hN hK hask;have H0:=Hh hk;have hpos:0 < (pasts b).length:=List.length_pos_iff.2 hp;have hne:(((pasts b).length:Int) == 0)=false:=by simp;exact fun h=>by rw [h] at hpos;simp at hpos
 have hne2:¬ ((pasts b).length:Int)=0:=by omega
 clear hk hp
 go_enter Tryz.func31,Tryz.ntmps31
 go_wp2_with (first | (go_at_call 58;(with_reducible refine (checkBook_at (HB.out.below (Below.al (Below.al (Below.refl _ _) _) _)) HN.out (HK.out.below (Below.al (Below.al (Below.refl _ _) _) _)) H0.out).mono ?_);rintro e w1 ⟨rfl,hb1⟩;obtain ⟨hc1,hf1⟩:=bcell hb1;have hz1:w.heap.size < w1.heap.size:=(by have:=hb1.size;simp at this;omega);have hz1b:w.heap.size+1 < w1.heap.size:=(by have:=hb1.size;simp at this;omega)) | (go_at_call 54;(with_reducible refine (HA.out H0.out _ (Below.al (Below.next (Below.al (Below.al (Below.refl _ _) _) _) hb1) _)).mono ?_);rintro e w2 ⟨rfl,hb2⟩;obtain ⟨hc2,hf2⟩:=bcell hb2;have hz2:w1.heap.size < w2.heap.size:=(by have:=hb2.size;simp at this;omega);have hz2a:w.heap.size < w2.heap.size:=(by omega);have hz2b:w.heap.size+1 < w2.heap.size:=(by omega)) | (go_at_call 59;(with_reducible refine (all_at2 (HB.out.below (Below.next (Below.al (Below.next (Below.al (Below.al (Below.refl _ _) _) _) hb1) _) hb2)) (HK.out.below (Below.next (Below.al (Below.next (Below.al (Below.al (Below.refl _ _) _) _) hb1) _) hb2)) H0.out).mono ?_);rintro e w3 ⟨l',rfl,hrow,hb3⟩;obtain ⟨hc3,hf3⟩:=bcell hb3;have hz3:w2.heap.size<=w3.heap.size:=hb3.size;have hz3a:w.heap.size < w3.heap.size:=(by omega);have hz3b:w.heap.size+1 < w3.heap.size:=(by omega);have hz3c:w1.heap.size < w3.heap.size:=(by omega);obtain ⟨la,lc,rfl⟩:=ownsRow_slice hrow;have HROW:=Hh hrow;clear hrow));exact bodyPost_ret (v:=.tuple #[.agg #[.int .i64 b.room,.int .i64 b.gap,.slice ma b.ms.length mc,.slice sa b.ss.length sc,.slice ra b.rs.length rc],.slice la (pasts b).length lc,.int .i64 0]) (by simp [results,Tryz.results31,go_sem, *]) rfl ⟨_,rfl,ownsRow_base (base:=w.heap.size+1+1) (by repeat (first | (with_reducible refine ownsRow_setCell_below ?_ (by simp) _) | exact ownsRow_base HROW.out (by omega))) (by omega),bel⟩
theorem open_nothing_no (hB:BookAt w b vr vg vm vs vc) (hN:∀ m∈b.ms,m.name.size<=1000000) (hK:KindsAt w) {al:Int} (hask:AskC b w 54 #[.agg #[vr,vg,vm,vs,vc]] al) {t:Int} (ht:openAl b al=t) (h0:t≠0) :
 Calls Tryz.prog 31 #[.agg #[vr,vg,vm,vs,vc],.func (.func 54) #[] #[]] w (OpenNo w t):=by
 unfold openAl at ht;split at ht
 ·exact open_nothing_no1 hB hN hK  hask ht h0
 ·rename_i hk
  have hk:bookAl b=0:=by simpa using hk
  split at ht
  ·exact open_nothing_no2 hB hN hK  hask hk ht h0
  ·rename_i ha
   split at ht
   ·rename_i hp
    subst ht;exact open_nothing_no3 hB hN hK  hask hk (by simpa using ha) hp
   ·exact absurd ht.symm h0
theorem open_through_ok (hB:BookAt w b vr vg vm vs vc) (hN:∀ m∈b.ms,m.name.size<=1000000) (hK:KindsAt w) (c0:Value) {al:Int} (hask:AskC b w 60 #[.agg #[vr,vg,vm,vs,vc],c0] al) (hk:bookAl b=0) (ht:al=0) (hp:pasts b≠[]) :
 Calls Tryz.prog 31 #[.agg #[vr,vg,vm,vs,vc],.func (.func 60) #[] #[c0]] w (OpenOk w b vr vg vm vs vc):=by
 subst ht;have HB:=Hh hB;have HN:=Hh hN;have HK:=Hh hK;have HA:=Hh hask;obtain ⟨rfl,rfl,⟨ma,mc,rfl,_,_⟩,⟨sa,sc,rfl,_,_⟩,ra,rc,rfl,_,_⟩:=id hB;clear hB hN hK hask;have H0:=Hh hk;have hpos:0 < (pasts b).length:=List.length_pos_iff.2 hp;have hne:(((pasts b).length:Int) == 0)=false:=by simp;exact fun h=>by rw [h] at hpos;simp at hpos
 have hne2:¬ ((pasts b).length:Int)=0:=by omega
 clear hk hp
 go_enter Tryz.func31,Tryz.ntmps31
 go_wp2_with (first | (go_at_call 58;(with_reducible refine (checkBook_at (HB.out.below (Below.al (Below.al (Below.refl _ _) _) _)) HN.out (HK.out.below (Below.al (Below.al (Below.refl _ _) _) _)) H0.out).mono ?_);rintro e w1 ⟨rfl,hb1⟩;obtain ⟨hc1,hf1⟩:=bcell hb1;have hz1:w.heap.size < w1.heap.size:=(by have:=hb1.size;simp at this;omega);have hz1b:w.heap.size+1 < w1.heap.size:=(by have:=hb1.size;simp at this;omega)) | (go_at_call 60;(with_reducible refine (HA.out H0.out _ (Below.al (Below.next (Below.al (Below.al (Below.refl _ _) _) _) hb1) _)).mono ?_);rintro e w2 ⟨rfl,hb2⟩;obtain ⟨hc2,hf2⟩:=bcell hb2;have hz2:w1.heap.size < w2.heap.size:=(by have:=hb2.size;simp at this;omega);have hz2a:w.heap.size < w2.heap.size:=(by omega);have hz2b:w.heap.size+1 < w2.heap.size:=(by omega)) | (go_at_call 59;(with_reducible refine (all_at2 (HB.out.below (Below.next (Below.al (Below.next (Below.al (Below.al (Below.refl _ _) _) _) hb1) _) hb2)) (HK.out.below (Below.next (Below.al (Below.next (Below.al (Below.al (Below.refl _ _) _) _) hb1) _) hb2)) H0.out).mono ?_);rintro e w3 ⟨l',rfl,hrow,hb3⟩;obtain ⟨hc3,hf3⟩:=bcell hb3;have hz3:w2.heap.size<=w3.heap.size:=hb3.size;have hz3a:w.heap.size < w3.heap.size:=(by omega);have hz3b:w.heap.size+1 < w3.heap.size:=(by omega);have hz3c:w1.heap.size < w3.heap.size:=(by omega);obtain ⟨la,lc,rfl⟩:=ownsRow_slice hrow;have HROW:=Hh hrow;clear hrow));exact bodyPost_ret (v:=.tuple #[.agg #[.int .i64 b.room,.int .i64 b.gap,.slice ma b.ms.length mc,.slice sa b.ss.length sc,.slice ra b.rs.length rc],.slice la (pasts b).length lc,.int .i64 0]) (by simp [results,Tryz.results31,go_sem, *]) rfl ⟨_,rfl,ownsRow_base (base:=w.heap.size+1+1) (by repeat (first | (with_reducible refine ownsRow_setCell_below ?_ (by simp) _) | exact ownsRow_base HROW.out (by omega))) (by omega),bel⟩
theorem open_group_ok (hB:BookAt w b vr vg vm vs vc) (hN:∀ m∈b.ms,m.name.size<=1000000) (hK:KindsAt w) (c0:Value) {al:Int} (hask:AskC b w 94 #[.agg #[vr,vg,vm,vs,vc],c0] al) (hk:bookAl b=0) (ht:al=0) (hp:pasts b≠[]) :
 Calls Tryz.prog 31 #[.agg #[vr,vg,vm,vs,vc],.func (.func 94) #[] #[c0]] w (OpenOk w b vr vg vm vs vc):=by
 subst ht;have HB:=Hh hB;have HN:=Hh hN;have HK:=Hh hK;have HA:=Hh hask;obtain ⟨rfl,rfl,⟨ma,mc,rfl,_,_⟩,⟨sa,sc,rfl,_,_⟩,ra,rc,rfl,_,_⟩:=id hB;clear hB hN hK hask;have H0:=Hh hk;have hpos:0 < (pasts b).length:=List.length_pos_iff.2 hp;have hne:(((pasts b).length:Int) == 0)=false:=by simp;exact fun h=>by rw [h] at hpos;simp at hpos
 have hne2:¬ ((pasts b).length:Int)=0:=by omega
 clear hk hp
 go_enter Tryz.func31,Tryz.ntmps31
 go_wp2_with (first | (go_at_call 58;(with_reducible refine (checkBook_at (HB.out.below (Below.al (Below.al (Below.refl _ _) _) _)) HN.out (HK.out.below (Below.al (Below.al (Below.refl _ _) _) _)) H0.out).mono ?_);rintro e w1 ⟨rfl,hb1⟩;obtain ⟨hc1,hf1⟩:=bcell hb1;have hz1:w.heap.size < w1.heap.size:=(by have:=hb1.size;simp at this;omega);have hz1b:w.heap.size+1 < w1.heap.size:=(by have:=hb1.size;simp at this;omega)) | (go_at_call 94;(with_reducible refine (HA.out H0.out _ (Below.al (Below.next (Below.al (Below.al (Below.refl _ _) _) _) hb1) _)).mono ?_);rintro e w2 ⟨rfl,hb2⟩;obtain ⟨hc2,hf2⟩:=bcell hb2;have hz2:w1.heap.size < w2.heap.size:=(by have:=hb2.size;simp at this;omega);have hz2a:w.heap.size < w2.heap.size:=(by omega);have hz2b:w.heap.size+1 < w2.heap.size:=(by omega)) | (go_at_call 59;(with_reducible refine (all_at2 (HB.out.below (Below.next (Below.al (Below.next (Below.al (Below.al (Below.refl _ _) _) _) hb1) _) hb2)) (HK.out.below (Below.next (Below.al (Below.next (Below.al (Below.al (Below.refl _ _) _) _) hb1) _) hb2)) H0.out).mono ?_);rintro e w3 ⟨l',rfl,hrow,hb3⟩;obtain ⟨hc3,hf3⟩:=bcell hb3;have hz3:w2.heap.size<=w3.heap.size:=hb3.size;have hz3a:w.heap.size < w3.heap.size:=(by omega);have hz3b:w.heap.size+1 < w3.heap.size:=(by omega);have hz3c:w1.heap.size < w3.heap.size:=(by omega);obtain ⟨la,lc,rfl⟩:=ownsRow_slice hrow;have HROW:=Hh hrow;clear hrow));exact bodyPost_ret (v:=.tuple #[.agg #[.int .i64 b.room,.int .i64 b.gap,.slice ma b.ms.length mc,.slice sa b.ss.length sc,.slice ra b.rs.length rc],.slice la (pasts b).length lc,.int .i64 0]) (by simp [results,Tryz.results31,go_sem, *]) rfl ⟨_,rfl,ownsRow_base (base:=w.heap.size+1+1) (by repeat (first | (with_reducible refine ownsRow_setCell_below ?_ (by simp) _) | exact ownsRow_base HROW.out (by omega))) (by omega),bel⟩
theorem open_timed_no1 (hB:BookAt w b vr vg vm vs vc) (hN:∀ m∈b.ms,m.name.size<=1000000) (hK:KindsAt w) (c0:Value) {al:Int} (hask:AskC b w 72 #[.agg #[vr,vg,vm,vs,vc],c0] al) {t:Int} (ht:bookAl b=t) (h0:t≠0) :
 Calls Tryz.prog 31 #[.agg #[vr,vg,vm,vs,vc],.func (.func 72) #[] #[c0]] w (OpenNo w t):=by
 have HB:=Hh hB;have HN:=Hh hN;have HK:=Hh hK;have HA:=Hh hask;obtain ⟨rfl,rfl,⟨ma,mc,rfl,_,_⟩,⟨sa,sc,rfl,_,_⟩,ra,rc,rfl,_,_⟩:=id hB;clear hB hN hK hask;have H0:=Hh ht;have hz3:(t != 0)=true:=by simpa using h0
 clear ht
 go_enter Tryz.func31,Tryz.ntmps31
 go_wp2_with (go_at_call 58;(with_reducible refine (checkBook_at (HB.out.below (Below.al (Below.al (Below.refl _ _) _) _)) HN.out (HK.out.below (Below.al (Below.al (Below.refl _ _) _) _)) H0.out).mono ?_);rintro e w1 ⟨rfl,hb1⟩;obtain ⟨hc1,hf1⟩:=bcell hb1;have hz1:w.heap.size < w1.heap.size:=(by have:=hb1.size;simp at this;omega);have hz1b:w.heap.size+1 < w1.heap.size:=(by have:=hb1.size;simp at this;omega));exact bodyPost_ret (v:=.tuple #[.agg #[.int .i64 0,.int .i64 0,.slice none 0 0,.slice none 0 0,.slice none 0 0],.slice none 0 0,.int .i64 t]) (by simp [results,Tryz.results31,go_sem, *]) rfl ⟨rfl,bel⟩
theorem open_timed_no2 (hB:BookAt w b vr vg vm vs vc) (hN:∀ m∈b.ms,m.name.size<=1000000) (hK:KindsAt w) (c0:Value) {al:Int} (hask:AskC b w 72 #[.agg #[vr,vg,vm,vs,vc],c0] al) {t:Int} (hk:bookAl b=0) (ht:al=t) (h0:t≠0) :
 Calls Tryz.prog 31 #[.agg #[vr,vg,vm,vs,vc],.func (.func 72) #[] #[c0]] w (OpenNo w t):=by
 subst ht;have HB:=Hh hB;have HN:=Hh hN;have HK:=Hh hK;have HA:=Hh hask;obtain ⟨rfl,rfl,⟨ma,mc,rfl,_,_⟩,⟨sa,sc,rfl,_,_⟩,ra,rc,rfl,_,_⟩:=id hB;clear hB hN hK hask;have H0:=Hh hk;have hz3:(al != 0)=true:=by simpa using h0
 clear hk
 go_enter Tryz.func31,Tryz.ntmps31
 go_wp2_with (first | (go_at_call 58;(with_reducible refine (checkBook_at (HB.out.below (Below.al (Below.al (Below.refl _ _) _) _)) HN.out (HK.out.below (Below.al (Below.al (Below.refl _ _) _) _)) H0.out).mono ?_);rintro e w1 ⟨rfl,hb1⟩;obtain ⟨hc1,hf1⟩:=bcell hb1;have hz1:w.heap.size < w1.heap.size:=(by have:=hb1.size;simp at this;omega);have hz1b:w.heap.size+1 < w1.heap.size:=(by have:=hb1.size;simp at this;omega)) | (go_at_call 72;(with_reducible refine (HA.out H0.out _ (Below.al (Below.next (Below.al (Below.al (Below.refl _ _) _) _) hb1) _)).mono ?_);rintro e w2 ⟨rfl,hb2⟩;obtain ⟨hc2,hf2⟩:=bcell hb2;have hz2:w1.heap.size < w2.heap.size:=(by have:=hb2.size;simp at this;omega);have hz2a:w.heap.size < w2.heap.size:=(by omega);have hz2b:w.heap.size+1 < w2.heap.size:=(by omega)));exact bodyPost_ret (v:=.tuple #[.agg #[.int .i64 0,.int .i64 0,.slice none 0 0,.slice none 0 0,.slice none 0 0],.slice none 0 0,.int .i64 al]) (by simp [results,Tryz.results31,go_sem, *]) rfl ⟨rfl,bel⟩
theorem open_timed_no3 (hB:BookAt w b vr vg vm vs vc) (hN:∀ m∈b.ms,m.name.size<=1000000) (hK:KindsAt w) (c0:Value) {al:Int} (hask:AskC b w 72 #[.agg #[vr,vg,vm,vs,vc],c0] al) (hk:bookAl b=0) (ht:al=0) (hp:pasts b=[]) :
 Calls Tryz.prog 31 #[.agg #[vr,vg,vm,vs,vc],.func (.func 72) #[] #[c0]] w (OpenNo w 10):=by
 subst ht;have HB:=Hh hB;have HN:=Hh hN;have HK:=Hh hK;have HA:=Hh hask;obtain ⟨rfl,rfl,⟨ma,mc,rfl,_,_⟩,⟨sa,sc,rfl,_,_⟩,ra,rc,rfl,_,_⟩:=id hB;clear hB hN hK hask;have H0:=Hh hk;have HL:=Hh (show (pasts b).length=0 by rw [hp];rfl);clear hk hp
 go_enter Tryz.func31,Tryz.ntmps31
 go_wp2_with (first | (go_at_call 58;(with_reducible refine (checkBook_at (HB.out.below (Below.al (Below.al (Below.refl _ _) _) _)) HN.out (HK.out.below (Below.al (Below.al (Below.refl _ _) _) _)) H0.out).mono ?_);rintro e w1 ⟨rfl,hb1⟩;obtain ⟨hc1,hf1⟩:=bcell hb1;have hz1:w.heap.size < w1.heap.size:=(by have:=hb1.size;simp at this;omega);have hz1b:w.heap.size+1 < w1.heap.size:=(by have:=hb1.size;simp at this;omega)) | (go_at_call 72;(with_reducible refine (HA.out H0.out _ (Below.al (Below.next (Below.al (Below.al (Below.refl _ _) _) _) hb1) _)).mono ?_);rintro e w2 ⟨rfl,hb2⟩;obtain ⟨hc2,hf2⟩:=bcell hb2;have hz2:w1.heap.size < w2.heap.size:=(by have:=hb2.size;simp at this;omega);have hz2a:w.heap.size < w2.heap.size:=(by omega);have hz2b:w.heap.size+1 < w2.heap.size:=(by omega)) | (go_at_call 59;(with_reducible refine (all_at2 (HB.out.below (Below.next (Below.al (Below.next (Below.al (Below.al (Below.refl _ _) _) _) hb1) _) hb2)) (HK.out.below (Below.next (Below.al (Below.next (Below.al (Below.al (Below.refl _ _) _) _) hb1) _) hb2)) H0.out).mono ?_);rintro e w3 ⟨l',rfl,hrow,hb3⟩;obtain ⟨hc3,hf3⟩:=bcell hb3;have hz3:w2.heap.size<=w3.heap.size:=hb3.size;have hz3a:w.heap.size < w3.heap.size:=(by omega);have hz3b:w.heap.size+1 < w3.heap.size:=(by omega);have hz3c:w1.heap.size < w3.heap.size:=(by omega);obtain ⟨la,lc,rfl⟩:=ownsRow_slice hrow;rw [HL.out];have HROW:=Hh hrow;clear hrow));exact bodyPost_ret (v:=.tuple #[.agg #[.int .i64 0,.int .i64 0,.slice none 0 0,.slice none 0 0,.slice none 0 0],.slice none 0 0,.int .i64 10]) (by simp [results,Tryz.results31,go_sem, *]) rfl ⟨rfl,bel⟩
theorem open_timed_ok (hB:BookAt w b vr vg vm vs vc) (hN:∀ m∈b.ms,m.name.size<=1000000) (hK:KindsAt w) (c0:Value) {al:Int} (hask:AskC b w 72 #[.agg #[vr,vg,vm,vs,vc],c0] al) (hk:bookAl b=0) (ht:al=0) (hp:pasts b≠[]) :
 Calls Tryz.prog 31 #[.agg #[vr,vg,vm,vs,vc],.func (.func 72) #[] #[c0]] w (OpenOk w b vr vg vm vs vc):=by
 subst ht;have HB:=Hh hB;have HN:=Hh hN;have HK:=Hh hK;have HA:=Hh hask;obtain ⟨rfl,rfl,⟨ma,mc,rfl,_,_⟩,⟨sa,sc,rfl,_,_⟩,ra,rc,rfl,_,_⟩:=id hB;clear hB hN hK hask;have H0:=Hh hk;have hpos:0 < (pasts b).length:=List.length_pos_iff.2 hp;have hne:(((pasts b).length:Int) == 0)=false:=by simp;exact fun h=>by rw [h] at hpos;simp at hpos
 have hne2:¬ ((pasts b).length:Int)=0:=by omega
 clear hk hp
 go_enter Tryz.func31,Tryz.ntmps31
 go_wp2_with (first | (go_at_call 58;(with_reducible refine (checkBook_at (HB.out.below (Below.al (Below.al (Below.refl _ _) _) _)) HN.out (HK.out.below (Below.al (Below.al (Below.refl _ _) _) _)) H0.out).mono ?_);rintro e w1 ⟨rfl,hb1⟩;obtain ⟨hc1,hf1⟩:=bcell hb1;have hz1:w.heap.size < w1.heap.size:=(by have:=hb1.size;simp at this;omega);have hz1b:w.heap.size+1 < w1.heap.size:=(by have:=hb1.size;simp at this;omega)) | (go_at_call 72;(with_reducible refine (HA.out H0.out _ (Below.al (Below.next (Below.al (Below.al (Below.refl _ _) _) _) hb1) _)).mono ?_);rintro e w2 ⟨rfl,hb2⟩;obtain ⟨hc2,hf2⟩:=bcell hb2;have hz2:w1.heap.size < w2.heap.size:=(by have:=hb2.size;simp at this;omega);have hz2a:w.heap.size < w2.heap.size:=(by omega);have hz2b:w.heap.size+1 < w2.heap.size:=(by omega)) | (go_at_call 59;(with_reducible refine (all_at2 (HB.out.below (Below.next (Below.al (Below.next (Below.al (Below.al (Below.refl _ _) _) _) hb1) _) hb2)) (HK.out.below (Below.next (Below.al (Below.next (Below.al (Below.al (Below.refl _ _) _) _) hb1) _) hb2)) H0.out).mono ?_);rintro e w3 ⟨l',rfl,hrow,hb3⟩;obtain ⟨hc3,hf3⟩:=bcell hb3;have hz3:w2.heap.size<=w3.heap.size:=hb3.size;have hz3a:w.heap.size < w3.heap.size:=(by omega);have hz3b:w.heap.size+1 < w3.heap.size:=(by omega);have hz3c:w1.heap.size < w3.heap.size:=(by omega);obtain ⟨la,lc,rfl⟩:=ownsRow_slice hrow;have HROW:=Hh hrow;clear hrow));exact bodyPost_ret (v:=.tuple #[.agg #[.int .i64 b.room,.int .i64 b.gap,.slice ma b.ms.length mc,.slice sa b.ss.length sc,.slice ra b.rs.length rc],.slice la (pasts b).length lc,.int .i64 0]) (by simp [results,Tryz.results31,go_sem, *]) rfl ⟨_,rfl,ownsRow_base (base:=w.heap.size+1+1) (by repeat (first | (with_reducible refine ownsRow_setCell_below ?_ (by simp) _) | exact ownsRow_base HROW.out (by omega))) (by omega),bel⟩
theorem open_timed_no (hB:BookAt w b vr vg vm vs vc) (hN:∀ m∈b.ms,m.name.size<=1000000) (hK:KindsAt w) (c0:Value) {al:Int} (hask:AskC b w 72 #[.agg #[vr,vg,vm,vs,vc],c0] al) {t:Int} (ht:openAl b al=t) (h0:t≠0) :
 Calls Tryz.prog 31 #[.agg #[vr,vg,vm,vs,vc],.func (.func 72) #[] #[c0]] w (OpenNo w t):=by
 unfold openAl at ht;split at ht
 ·exact open_timed_no1 hB hN hK c0 hask ht h0
 ·rename_i hk
  have hk:bookAl b=0:=by simpa using hk
  split at ht
  ·exact open_timed_no2 hB hN hK c0 hask hk ht h0
  ·rename_i ha
   split at ht
   ·rename_i hp
    subst ht;exact open_timed_no3 hB hN hK c0 hask hk (by simpa using ha) hp
   ·exact absurd ht.symm h0
theorem open_planned_no1 (hB:BookAt w b vr vg vm vs vc) (hN:∀ m∈b.ms,m.name.size<=1000000) (hK:KindsAt w) (c0 c1:Value) {al:Int} (hask:AskC b w 79 #[.agg #[vr,vg,vm,vs,vc],c0,c1] al) {t:Int} (ht:bookAl b=t) (h0:t≠0) :
 Calls Tryz.prog 31 #[.agg #[vr,vg,vm,vs,vc],.func (.func 79) #[] #[c0,c1]] w (OpenNo w t):=by
 have HB:=Hh hB;have HN:=Hh hN;have HK:=Hh hK;have HA:=Hh hask;obtain ⟨rfl,rfl,⟨ma,mc,rfl,_,_⟩,⟨sa,sc,rfl,_,_⟩,ra,rc,rfl,_,_⟩:=id hB;clear hB hN hK hask;have H0:=Hh ht;have hz3:(t != 0)=true:=by simpa using h0
 clear ht
 go_enter Tryz.func31,Tryz.ntmps31
 go_wp2_with (go_at_call 58;(with_reducible refine (checkBook_at (HB.out.below (Below.al (Below.al (Below.refl _ _) _) _)) HN.out (HK.out.below (Below.al (Below.al (Below.refl _ _) _) _)) H0.out).mono ?_);rintro e w1 ⟨rfl,hb1⟩;obtain ⟨hc1,hf1⟩:=bcell hb1;have hz1:w.heap.size < w1.heap.size:=(by have:=hb1.size;simp at this;omega);have hz1b:w.heap.size+1 < w1.heap.size:=(by have:=hb1.size;simp at this;omega));exact bodyPost_ret (v:=.tuple #[.agg #[.int .i64 0,.int .i64 0,.slice none 0 0,.slice none 0 0,.slice none 0 0],.slice none 0 0,.int .i64 t]) (by simp [results,Tryz.results31,go_sem, *]) rfl ⟨rfl,bel⟩
theorem open_planned_no2 (hB:BookAt w b vr vg vm vs vc) (hN:∀ m∈b.ms,m.name.size<=1000000) (hK:KindsAt w) (c0 c1:Value) {al:Int} (hask:AskC b w 79 #[.agg #[vr,vg,vm,vs,vc],c0,c1] al) {t:Int} (hk:bookAl b=0) (ht:al=t) (h0:t≠0) :
 Calls Tryz.prog 31 #[.agg #[vr,vg,vm,vs,vc],.func (.func 79) #[] #[c0,c1]] w (OpenNo w t):=by
 subst ht;have HB:=Hh hB;have HN:=Hh hN;have HK:=Hh hK;have HA:=Hh hask;obtain ⟨rfl,rfl,⟨ma,mc,rfl,_,_⟩,⟨sa,sc,rfl,_,_⟩,ra,rc,rfl,_,_⟩:=id hB;clear hB hN hK hask;have H0:=Hh hk;have hz3:(al != 0)=true:=by simpa using h0
 clear hk
 go_enter Tryz.func31,Tryz.ntmps31
 go_wp2_with (first | (go_at_call 58;(with_reducible refine (checkBook_at (HB.out.below (Below.al (Below.al (Below.refl _ _) _) _)) HN.out (HK.out.below (Below.al (Below.al (Below.refl _ _) _) _)) H0.out).mono ?_);rintro e w1 ⟨rfl,hb1⟩;obtain ⟨hc1,hf1⟩:=bcell hb1;have hz1:w.heap.size < w1.heap.size:=(by have:=hb1.size;simp at this;omega);have hz1b:w.heap.size+1 < w1.heap.size:=(by have:=hb1.size;simp at this;omega)) | (go_at_call 79;(with_reducible refine (HA.out H0.out _ (Below.al (Below.next (Below.al (Below.al (Below.refl _ _) _) _) hb1) _)).mono ?_);rintro e w2 ⟨rfl,hb2⟩;obtain ⟨hc2,hf2⟩:=bcell hb2;have hz2:w1.heap.size < w2.heap.size:=(by have:=hb2.size;simp at this;omega);have hz2a:w.heap.size < w2.heap.size:=(by omega);have hz2b:w.heap.size+1 < w2.heap.size:=(by omega)));exact bodyPost_ret (v:=.tuple #[.agg #[.int .i64 0,.int .i64 0,.slice none 0 0,.slice none 0 0,.slice none 0 0],.slice none 0 0,.int .i64 al]) (by simp [results,Tryz.results31,go_sem, *]) rfl ⟨rfl,bel⟩
theorem open_planned_no3 (hB:BookAt w b vr vg vm vs vc) (hN:∀ m∈b.ms,m.name.size<=1000000) (hK:KindsAt w) (c0 c1:Value) {al:Int} (hask:AskC b w 79 #[.agg #[vr,vg,vm,vs,vc],c0,c1] al) (hk:bookAl b=0) (ht:al=0) (hp:pasts b=[]) :
 Calls Tryz.prog 31 #[.agg #[vr,vg,vm,vs,vc],.func (.func 79) #[] #[c0,c1]] w (OpenNo w 10):=by
 subst ht;have HB:=Hh hB;have HN:=Hh hN;have HK:=Hh hK;have HA:=Hh hask;obtain ⟨rfl,rfl,⟨ma,mc,rfl,_,_⟩,⟨sa,sc,rfl,_,_⟩,ra,rc,rfl,_,_⟩:=id hB;clear hB hN hK hask;have H0:=Hh hk;have HL:=Hh (show (pasts b).length=0 by rw [hp];rfl);clear hk hp
 go_enter Tryz.func31,Tryz.ntmps31
 go_wp2_with (first | (go_at_call 58;(with_reducible refine (checkBook_at (HB.out.below (Below.al (Below.al (Below.refl _ _) _) _)) HN.out (HK.out.below (Below.al (Below.al (Below.refl _ _) _) _)) H0.out).mono ?_);rintro e w1 ⟨rfl,hb1⟩;obtain ⟨hc1,hf1⟩:=bcell hb1;have hz1:w.heap.size < w1.heap.size:=(by have:=hb1.size;simp at this;omega);have hz1b:w.heap.size+1 < w1.heap.size:=(by have:=hb1.size;simp at this;omega)) | (go_at_call 79;(with_reducible refine (HA.out H0.out _ (Below.al (Below.next (Below.al (Below.al (Below.refl _ _) _) _) hb1) _)).mono ?_);rintro e w2 ⟨rfl,hb2⟩;obtain ⟨hc2,hf2⟩:=bcell hb2;have hz2:w1.heap.size < w2.heap.size:=(by have:=hb2.size;simp at this;omega);have hz2a:w.heap.size < w2.heap.size:=(by omega);have hz2b:w.heap.size+1 < w2.heap.size:=(by omega)) | (go_at_call 59;(with_reducible refine (all_at2 (HB.out.below (Below.next (Below.al (Below.next (Below.al (Below.al (Below.refl _ _) _) _) hb1) _) hb2)) (HK.out.below (Below.next (Below.al (Below.next (Below.al (Below.al (Below.refl _ _) _) _) hb1) _) hb2)) H0.out).mono ?_);rintro e w3 ⟨l',rfl,hrow,hb3⟩;obtain ⟨hc3,hf3⟩:=bcell hb3;have hz3:w2.heap.size<=w3.heap.size:=hb3.size;have hz3a:w.heap.size < w3.heap.size:=(by omega);have hz3b:w.heap.size+1 < w3.heap.size:=(by omega);have hz3c:w1.heap.size < w3.heap.size:=(by omega);obtain ⟨la,lc,rfl⟩:=ownsRow_slice hrow;rw [HL.out];have HROW:=Hh hrow;clear hrow));exact bodyPost_ret (v:=.tuple #[.agg #[.int .i64 0,.int .i64 0,.slice none 0 0,.slice none 0 0,.slice none 0 0],.slice none 0 0,.int .i64 10]) (by simp [results,Tryz.results31,go_sem, *]) rfl ⟨rfl,bel⟩
theorem open_planned_ok (hB:BookAt w b vr vg vm vs vc) (hN:∀ m∈b.ms,m.name.size<=1000000) (hK:KindsAt w) (c0 c1:Value) {al:Int} (hask:AskC b w 79 #[.agg #[vr,vg,vm,vs,vc],c0,c1] al) (hk:bookAl b=0) (ht:al=0) (hp:pasts b≠[]) :
 Calls Tryz.prog 31 #[.agg #[vr,vg,vm,vs,vc],.func (.func 79) #[] #[c0,c1]] w (OpenOk w b vr vg vm vs vc):=by
 subst ht;have HB:=Hh hB;have HN:=Hh hN;have HK:=Hh hK;have HA:=Hh hask;obtain ⟨rfl,rfl,⟨ma,mc,rfl,_,_⟩,⟨sa,sc,rfl,_,_⟩,ra,rc,rfl,_,_⟩:=id hB;clear hB hN hK hask;have H0:=Hh hk;have hpos:0 < (pasts b).length:=List.length_pos_iff.2 hp;have hne:(((pasts b).length:Int) == 0)=false:=by simp;exact fun h=>by rw [h] at hpos;simp at hpos
 have hne2:¬ ((pasts b).length:Int)=0:=by omega
 clear hk hp
 go_enter Tryz.func31,Tryz.ntmps31
 go_wp2_with (first | (go_at_call 58;(with_reducible refine (checkBook_at (HB.out.below (Below.al (Below.al (Below.refl _ _) _) _)) HN.out (HK.out.below (Below.al (Below.al (Below.refl _ _) _) _)) H0.out).mono ?_);rintro e w1 ⟨rfl,hb1⟩;obtain ⟨hc1,hf1⟩:=bcell hb1;have hz1:w.heap.size < w1.heap.size:=(by have:=hb1.size;simp at this;omega);have hz1b:w.heap.size+1 < w1.heap.size:=(by have:=hb1.size;simp at this;omega)) | (go_at_call 79;(with_reducible refine (HA.out H0.out _ (Below.al (Below.next (Below.al (Below.al (Below.refl _ _) _) _) hb1) _)).mono ?_);rintro e w2 ⟨rfl,hb2⟩;obtain ⟨hc2,hf2⟩:=bcell hb2;have hz2:w1.heap.size < w2.heap.size:=(by have:=hb2.size;simp at this;omega);have hz2a:w.heap.size < w2.heap.size:=(by omega);have hz2b:w.heap.size+1 < w2.heap.size:=(by omega)) | (go_at_call 59;(with_reducible refine (all_at2 (HB.out.below (Below.next (Below.al (Below.next (Below.al (Below.al (Below.refl _ _) _) _) hb1) _) hb2)) (HK.out.below (Below.next (Below.al (Below.next (Below.al (Below.al (Below.refl _ _) _) _) hb1) _) hb2)) H0.out).mono ?_);rintro e w3 ⟨l',rfl,hrow,hb3⟩;obtain ⟨hc3,hf3⟩:=bcell hb3;have hz3:w2.heap.size<=w3.heap.size:=hb3.size;have hz3a:w.heap.size < w3.heap.size:=(by omega);have hz3b:w.heap.size+1 < w3.heap.size:=(by omega);have hz3c:w1.heap.size < w3.heap.size:=(by omega);obtain ⟨la,lc,rfl⟩:=ownsRow_slice hrow;have HROW:=Hh hrow;clear hrow));exact bodyPost_ret (v:=.tuple #[.agg #[.int .i64 b.room,.int .i64 b.gap,.slice ma b.ms.length mc,.slice sa b.ss.length sc,.slice ra b.rs.length rc],.slice la (pasts b).length lc,.int .i64 0]) (by simp [results,Tryz.results31,go_sem, *]) rfl ⟨_,rfl,ownsRow_base (base:=w.heap.size+1+1) (by repeat (first | (with_reducible refine ownsRow_setCell_below ?_ (by simp) _) | exact ownsRow_base HROW.out (by omega))) (by omega),bel⟩
theorem open_planned_no (hB:BookAt w b vr vg vm vs vc) (hN:∀ m∈b.ms,m.name.size<=1000000) (hK:KindsAt w) (c0 c1:Value) {al:Int} (hask:AskC b w 79 #[.agg #[vr,vg,vm,vs,vc],c0,c1] al) {t:Int} (ht:openAl b al=t) (h0:t≠0) :
 Calls Tryz.prog 31 #[.agg #[vr,vg,vm,vs,vc],.func (.func 79) #[] #[c0,c1]] w (OpenNo w t):=by
 unfold openAl at ht;split at ht
 ·exact open_planned_no1 hB hN hK c0 c1 hask ht h0
 ·rename_i hk
  have hk:bookAl b=0:=by simpa using hk
  split at ht
  ·exact open_planned_no2 hB hN hK c0 c1 hask hk ht h0
  ·rename_i ha
   split at ht
   ·rename_i hp
    subst ht;exact open_planned_no3 hB hN hK c0 c1 hask hk (by simpa using ha) hp
   ·exact absurd ht.symm h0
theorem openAl_ok {al:Int} (h:openAl b al=0):bookAl b=0/\al=0/\pasts b≠[]:=by
 unfold openAl at h;split at h
 ·rename_i h2;exact absurd h h2
 ·split at h
  ·rename_i h2;exact absurd h h2
  ·split at h
   ·cases h
   ·rename_i h1 h2 h3;exact ⟨by simpa using h1,by simpa using h2,h3⟩
end
end
section
open Go.RowKit Sp
def IntsAt (w:World) (a:Option Addr) (l:List Int):Prop:=∀ i (h:i < l.length),∃ b o,a=some ⟨b,o,none⟩/\b < w.heap.size/\w.cell? ⟨b,o+i,none⟩=some (.int .i64 l[i])
def CamesAt (w:World) (a:Option Addr) (l:List (List Int)):Prop:=∀ i (h:i < l.length),∃ b o,a=some ⟨b,o,none⟩/\b < w.heap.size /\
 w.cell? ⟨b,o+i * 4,none⟩=some (.int .i64 ((pad l[i]).getD 0 0))/\w.cell? ⟨b,o+i * 4+1,none⟩=some (.int .i64 ((pad l[i]).getD 1 0))/\w.cell? ⟨b,o+i * 4+2,none⟩=some (.int .i64 ((pad l[i]).getD 2 0))/\w.cell? ⟨b,o+i * 4+3,none⟩=some (.int .i64 ((pad l[i]).getD 3 0))
section
variable {w w':World} {a:Option Addr}
theorem IntsAt.below {l:List Int} (h:IntsAt w a l) (hb:Below w.heap.size w w'):IntsAt w' a l:=fun i hi=>by
 obtain ⟨b,o,e,hlt,h1⟩:=h i hi;exact ⟨b,o,e,Nat.lt_of_lt_of_le hlt hb.size,(hb.cell hlt).trans h1⟩
theorem CamesAt.below {l:List (List Int)} (h:CamesAt w a l) (hb:Below w.heap.size w w'):CamesAt w' a l:=fun i hi=>by
 obtain ⟨b,o,e,hlt,h1,h2,h3,h4⟩:=h i hi;exact ⟨b,o,e,Nat.lt_of_lt_of_le hlt hb.size,(hb.cell hlt).trans h1,(hb.cell hlt).trans h2,(hb.cell hlt).trans h3,(hb.cell hlt).trans h4⟩
theorem row_cell {base e size n c:Nat} {xs:List Value} (h:w.ownsRow base e size (.slice a n c) n xs) (k:Nat) (hk:k < xs.length):∃ g,a=some ⟨g,0,none⟩/\base<=g/\g < w.heap.size/\w.cell? ⟨g,k,none⟩=xs[k]? := by
 obtain ⟨h1,⟨h2,h3⟩ | ⟨g,cap,cur,e1,e2,e3,e4,e5,e6,e7⟩⟩:=h
 ·rw [h3,Nat.zero_mul] at h1;omega
 ·cases e1;refine ⟨g,rfl,e2,(Array.getElem?_eq_some_iff.1 e3).1,?_⟩;rw [<- e7];unfold World.cell?;rw [e3,List.getElem?_take,if_pos (by omega)];simp
theorem ints_of_row {base n c:Nat} {l:List Int} (h:w.ownsRow base 3 1 (.slice a n c) n (l.map (Value.int .i64))):IntsAt w a l:=fun i hi=>by
 obtain ⟨g,rfl,_,h2,h3⟩:=row_cell h i (by simpa using hi);refine ⟨g,0,rfl,h2,?_⟩;rw [Nat.zero_add,h3];simp [hi]
theorem flat4 {f:List Int->List Value} (hf:∀ x,(f x).length=4):∀ (l:List (List Int)) (i j:Nat) (_:j < 4) (h:i < l.length),(l.flatMap f)[i * 4+j]? = (f l[i])[j]?
 | [],i,j,_,h=>by simp at h
 | x::l,0,j,hj,h=>by
  rw [List.flatMap_cons,List.getElem?_append_left (by rw [hf];omega)];simp
 | x::l,i+1,j,hj,h=>by
  rw [List.flatMap_cons,List.getElem?_append_right (by rw [hf];omega),hf,show (i+1) * 4+j - 4=i * 4+j by omega,flat4 hf l i j hj (by simpa using h)];simp
theorem flat4_length {f:List Int->List Value} (hf:∀ x,(f x).length=4):∀ (l:List (List Int)),(l.flatMap f).length=l.length * 4
 | []=>rfl
 | x::l=>by rw [List.flatMap_cons,List.length_append,hf,flat4_length hf l,List.length_cons];omega
theorem cames_of_row {base n c:Nat} {l:List (List Int)} (h:w.ownsRow base 113 4 (.slice a n c) n (l.flatMap cellsP)):CamesAt w a l:=fun i hi=>by
 have hlen:=flat4_length (f:=cellsP) (fun _=>rfl) l;have hj:∀ j,j < 4->i * 4+j < (l.flatMap cellsP).length:=fun j hj=>by omega
 obtain ⟨g,rfl,_,h2,_⟩:=row_cell h (i * 4) (by have:=hj 0 (by omega);omega);have hc:∀ j,j < 4->w.cell? ⟨g,i * 4+j,none⟩=(cellsP l[i])[j]? := fun j hj4=>by
  obtain ⟨g',e,_,_,h3⟩:=row_cell h (i * 4+j) (hj j hj4);cases e;rw [h3,flat4 (fun _=>rfl) l i j hj4 hi]
 refine ⟨g,0,rfl,h2,?_,?_,?_,?_⟩
 ·rw [Nat.zero_add];exact hc 0 (by omega)
 ·rw [Nat.zero_add];exact hc 1 (by omega)
 ·rw [Nat.zero_add];exact hc 2 (by omega)
 ·rw [Nat.zero_add];exact hc 3 (by omega)
end
end
section
open Go.RowKit Go.Maps Sp
def sayI (s m:Int):Int:=if s=0 then 2 else if s=m then 1 else 0
theorem say_any (s m:Int) (w:World):Calls Tryz.prog 64 #[.int .i64 s,.int .i64 m] w fun e w'=>e=.returned (.int .i64 (sayI s m))/\w'=w:=by
 by_cases h1:s=0
 ·subst h1
  go_enter Tryz.func64,Tryz.ntmps64
  go_wp2;go_ret;exact ⟨rfl,rfl⟩
 ·have e1:(s == 0)=false:=by simpa using h1
  by_cases h2:s=m
  ·have hs:sayI s m=1:=by unfold sayI;rw [if_neg h1,if_pos h2]
   rw [hs];subst h2
   go_enter Tryz.func64,Tryz.ntmps64
   go_wp2;go_ret;exact ⟨rfl,rfl⟩
  ·have e2:(s == m)=false:=by simpa using h2
   have hs:sayI s m=0:=by unfold sayI;rw [if_neg h1,if_neg h2]
   rw [hs];clear hs
   go_enter Tryz.func64,Tryz.ntmps64
   go_wp2;go_ret;exact ⟨rfl,rfl⟩
def countI (l:List Int) (least:Int):Int:=((l.filter fun k=>decide (least<=k)).length:Nat)
theorem count_succ (l:List Int) (least:Int) (k:Nat) (h:k < l.length):countI (l.take (k+1)) least=countI (l.take k) least+if least<=l[k] then 1 else 0:=by
 unfold countI;rw [List.take_succ_eq_append_getElem h,List.filter_append,List.length_append];by_cases hx:least<=l[k]
 ·simp [hx]
 ·simp [hx]
theorem count_bd (l:List Int) (least:Int) (k:Nat):0<=countI (l.take k) least/\countI (l.take k) least<=k:=by
 unfold countI;have:=List.length_filter_le (fun k=>decide (least<=k)) (l.take k);have h2:=List.length_take_le k l;omega
theorem count_at {a:Option Addr} {c:Nat} {l:List Int} (least:Int) {w:World} (h:IntsAt w a l) (hl:l.length<=1000000) {t:Int} (ht:countI l least=t) :
 Calls Tryz.prog 65 #[.slice a l.length c,.int .i64 least] w fun e w'=>e=.returned (.int .i64 t)/\w'=w:=by
 have HT:=Hh ht;have HI:=Hh h;clear ht h
 go_enter Tryz.func65,Tryz.ntmps65
 go_wp2;go_loop [5,10] (fun n i=>∃ k:Nat,k<=l.length/\i=.int .i64 k/\n=.int .i64 (countI (l.take k) least)) (fun _ i=>l.length - (intOf i).toNat)
 case atStart=>exact ⟨0,Nat.zero_le _,rfl,rfl⟩
 case round =>
  obtain ⟨k,hk,rfl,rfl⟩:=hrel;have hbd:=count_bd l least k;by_cases hlt:k < l.length
  ·obtain ⟨b,o,rfl,hb,hc⟩:=HI.out k hlt;have hs:=count_succ l least k hlt;generalize hx:l[k]=x at hc hs;have HX:=Hh hx;have HS:=Hh hs;clear hx hs;by_cases hge:least<=x
   ·go_wp2;go_round
    case rel=>exact ⟨k+1,by omega,by go_num,by rw [HS.out,if_pos hge]⟩
    case measure=>simp [intOf];omega
   ·go_wp2;go_round
    case rel=>exact ⟨k+1,by omega,by go_num,by rw [HS.out,if_neg hge];go_num⟩
    case measure=>simp [intOf];omega
  ·go_wp2;go_ret;refine ⟨?_,rfl⟩;rw [<- HT.out,List.take_of_length_le (by omega)];rfl
section
variable {b:Bk} {vr vg vm vs vc:Value}
theorem intInfo:(Tryz.prog.info? 3).map (fun i=>(i.zero,i.size,i.bytes))=some (some (.int .i64 0),1,8):=by kernel_rfl
theorem pasts_came {b:Bk} (hO:BkOk b) {x:List Int} (h:x∈pasts b):Came b (pad x)/\(pad x).length=4/\x.length=b.ss.length:=by
 have hl:=pastsFrom_length b.ss [] x h;simp at hl;have:=hO.sl;refine ⟨?_,pad_length (by omega),hl⟩;have key:∀ (l:List (List Prt)) (pre:List Int),b.ss.drop pre.length=l->x∈pastsFrom b pre l->(∀ i (h:i < b.ss.length),i < pre.length->0<=pre.getD i 0/\pre.getD i 0<=(b.ss[i].length:Int))->∀ i (h:i < b.ss.length),0<=x.getD i 0/\x.getD i 0<=(b.ss[i].length:Int):=by
  intro l
  induction l with
  | nil =>
   intro pre hd hx hp i hi;unfold pastsFrom at hx;split at hx
   ·obtain rfl:x=pre:=by simpa using hx
    exact hp i hi (by rw [hl];exact hi)
   ·cases hx
  | cons s l ih =>
   intro pre hd hx hp;unfold pastsFrom at hx;obtain ⟨n,hn,hx⟩:=List.mem_flatMap.1 hx;have hlt:pre.length < b.ss.length:=by
    have:=congrArg List.length hd;simp at this;omega
   have hs:b.ss[pre.length]=s:=by
    rw [List.drop_eq_getElem_cons hlt] at hd;exact (List.cons.inj hd).1
   refine ih (pre ++ [(n:Int)]) (by rw [List.length_append,List.length_singleton,<- List.drop_drop,hd];rfl) hx fun i hi hlt'=>?_;by_cases hip:i < pre.length
   ·have:=hp i hi hip;simp only [List.getD] at this ⊢;rw [List.getElem?_append_left hip];exact this
   ·obtain rfl:i=pre.length:=by simp at hlt';omega
    simp only [List.getD];rw [List.getElem?_append_right (Nat.le_refl _),hs];have:=List.mem_range.1 hn;simp;omega
 intro i hi;have:=key b.ss [] rfl h (by simp) i hi;simp only [pad,List.getD] at this ⊢;rw [List.getElem?_append_left (by omega)];exact this
theorem KS.own {p:Nat->Prop} {a b:World} {v:Value} (h:a.grownBy b v.ownBlock) (hp:∀ g,v.ownBlock=some g->¬ p g):KS p a b :=
 ⟨h.os,h.tape,h.output,h.size,fun k hk hpk=>h.block k hk (fun e=>hp k e.symm hpk)⟩
theorem ownBlock_row {w:World} {base e size n:Nat} {v:Value} {xs:List Value} (h:w.ownsRow base e size v n xs):∀ g,v.ownBlock=some g->base<=g/\g < w.heap.size:=fun g hg=>by
 obtain ⟨_,⟨rfl,_⟩ | ⟨g',cap,cur,rfl,e2,e3,_⟩⟩:=h
 ·cases hg
 ·cases hg;exact ⟨e2,(Array.getElem?_eq_some_iff.1 e3).1⟩
def oftenI (b:Bk) (l:List (List Int)) (p:Prt):List Int:=l.map fun x=>copies b x p
theorem copies_pad {b:Bk} {x:List Int} (h:x.length=b.ss.length) (p:Prt):copies b (pad x) p=copies b x p:=by
 have:=copies_take b (pad x) p b.ss.length (Nat.le_refl _);rw [<- this];congr 1;unfold pad;rw [<- h,List.take_left'];rfl
def IntsOut (w:World) (l:List Int) (e:Ending) (w':World):Prop:=∃ a c,e=.returned (.slice a l.length c)/\w'.ownsRow w.heap.size 3 1 (.slice a l.length c) l.length (l.map (Value.int .i64))/\Below w.heap.size w w'
theorem often_at {w:World} (hB:BookAt w b vr vg vm vs vc) (hO:BkOk b) {la:Option Addr} {lc:Nat} {l:List (List Int)} (hL:CamesAt w la l) (hl:∀ x∈l,Came b (pad x)/\(pad x).length=4/\x.length=b.ss.length) (hll:l.length<=2000) {p:Prt} (hp:isPart b p=true) :
 Calls Tryz.prog 66 #[.agg #[vr,vg,vm,vs,vc],.slice la l.length lc,.agg #[.int .i64 p.1,.int .i64 p.2]] w (IntsOut w (oftenI b l p)):=by
 have hbd:=isPart_bounds hO.groups (by have:=hO.ml;omega) hp;have hkey:=partKeyE p hbd.1 hbd.2;obtain ⟨i0,hi,hz0,hz1',hz2⟩:=info_parts intInfo;have HB:=Hh hB;have HO:=Hh hO;have HL:=Hh hL;have HLL:=Hh hl;have HK:=Hh hkey;obtain ⟨rfl,rfl,⟨ma,mc,rfl,_,_⟩,⟨sa,sc,rfl,_,_⟩,ra,rc,rfl,_,_⟩:=id hB;clear hB hO hL hl hp hbd hkey
 go_enter Tryz.func66,Tryz.ntmps66
 go_wp2;obtain ⟨W0,hW0⟩:∃ W0,W0=(w.alloc (.cells #[.int .i64 b.room,.int .i64 b.gap,.slice ma b.ms.length mc,.slice sa b.ss.length sc,.slice ra b.rs.length rc] 78)).alloc (.cells #[.int .i64 p.1,.int .i64 p.2] 75):=⟨_,rfl⟩;rw [<- hW0];have five:=(Five.new w (.int .i64 b.room) (.int .i64 b.gap) (.slice ma b.ms.length mc) (.slice sa b.ss.length sc) (.slice ra b.rs.length rc) 78).below (bal _ (.cells #[.int .i64 p.1,.int .i64 p.2] 75)) (by simp);rw [<- hW0] at five;have hb0:Below w.heap.size w W0:=by rw [hW0];(exact bel)
 have hsz:W0.heap.size=w.heap.size+1+1:=by rw [hW0];simp
 have p0:W0.cell? ⟨w.heap.size+1,0,none⟩=some (.int .i64 p.1):=by rw [hW0,World.cell?_alloc_at _ _ _ _ (by simp)];rfl
 have p1:W0.cell? ⟨w.heap.size+1,1,none⟩=some (.int .i64 p.2):=by rw [hW0,World.cell?_alloc_at _ _ _ _ (by simp)];rfl
 have HSZ:=Hh hsz;have hsz1:w.heap.size+1 < W0.heap.size:=by omega
 clear hW0 hsz;go_loopw [7,12] (fun v i wr=>∃ (k:Nat) (a:Option Addr) (c:Nat),k<=l.length/\i=.int .i64 k/\v=.slice a k c/\wr.ownsRow W0.heap.size 3 1 (.slice a k c) k ((oftenI b (l.take k) p).map (Value.int .i64))/\Below W0.heap.size W0 wr) (fun _ i _=>l.length - (intOf i).toNat)
 case atStart=>exact ⟨0,none,0,Nat.zero_le _,rfl,rfl,by simpa [oftenI] using World.ownsRow_nil _ _ _ _,Below.refl _ _⟩
 case round =>
  obtain ⟨k,a,c,hk,rfl,rfl,hrow,hW⟩:=hrel;have hWs:=hW.size;by_cases hlt:k < l.length
  ·obtain ⟨lb,lo,rfl,hlb,e0,e1,e2,e3⟩:=HL.out k hlt;have hwr:Below w.heap.size w wr:=Below.next hb0 hW;have d0:=(hwr.cell hlb).trans e0;have d1:=(hwr.cell hlb).trans e1;have d2:=(hwr.cell hlb).trans e2;have d3:=(hwr.cell hlb).trans e3;have hlb2:lb < wr.heap.size:=Nat.lt_of_lt_of_le hlb hwr.size;obtain ⟨hcm,hc4,hcl⟩:=HLL.out _ (List.getElem_mem hlt);have hcp:=copies_pad hcl p;have htk:=List.take_succ_eq_append_getElem hlt;generalize hx:l[k]=x at d0 d1 d2 d3 hcm hc4 hcl hcp htk;obtain ⟨x0,x1,x2,x3,hxp⟩:=four hc4;have hcop:=fun (w':World) (hb:Below w.heap.size w w')=>copies_at (HB.out.below hb) HO.out hcm hc4;rw [hxp] at d0 d1 d2 d3 hcop hcp;simp only [List.getD_cons_zero,List.getD_cons_succ] at d0 d1 d2 d3;rw [show cameV [x0,x1,x2,x3]=.agg #[.int .i64 x0,.int .i64 x1,.int .i64 x2,.int .i64 x3] from rfl] at hcop;generalize hnc:copies b x p=nc at hcp;have HCOP:=Hh hcop;have HCP:=Hh hcp;have HNC:=Hh hnc;have HTK:=Hh htk;have HROW:=Hh hrow;have HOB:Hid (∀ g,(Value.slice a k c).ownBlock=some g->¬ (g < W0.heap.size\/g=wr.heap.size)):=fun g hg=>by
    have:=ownBlock_row hrow g hg;omega
   clear e0 e1 e2 e3 hcm hc4 hcl hcp htk hx hcop hnc hxp hrow;go_wp2;obtain ⟨W1,hW1⟩:∃ W1,W1=wr.alloc (.cells #[.int .i64 x0,.int .i64 x1,.int .i64 x2,.int .i64 x3] 113):=⟨_,rfl⟩;rw [<- hW1];have hb1:Below wr.heap.size wr W1:=by rw [hW1];(exact bel)
   have hs1:W1.heap.size=wr.heap.size+1:=by rw [hW1];simp
   have five1:=(five.below hW five.lt).below hb1 (Nat.lt_of_lt_of_le five.lt hWs);have p0':=(hb1.cell (p:=⟨w.heap.size+1,0,none⟩) (by simp;omega)).trans ((hW.cell (p:=⟨w.heap.size+1,0,none⟩) hsz1).trans p0);have p1':=(hb1.cell (p:=⟨w.heap.size+1,1,none⟩) (by simp;omega)).trans ((hW.cell (p:=⟨w.heap.size+1,1,none⟩) hsz1).trans p1);have m0:W1.cell? ⟨wr.heap.size,0,none⟩=some (.int .i64 x0):=by rw [hW1,World.cell?_alloc_at _ _ _ _ rfl];rfl
   have m1:W1.cell? ⟨wr.heap.size,1,none⟩=some (.int .i64 x1):=by rw [hW1,World.cell?_alloc_at _ _ _ _ rfl];rfl
   have m2:W1.cell? ⟨wr.heap.size,2,none⟩=some (.int .i64 x2):=by rw [hW1,World.cell?_alloc_at _ _ _ _ rfl];rfl
   have m3:W1.cell? ⟨wr.heap.size,3,none⟩=some (.int .i64 x3):=by rw [hW1,World.cell?_alloc_at _ _ _ _ rfl];rfl
   have HROW1:=Hh (ownsRow_below HROW.out hb1);have hall:∀ w':World,KS (fun k=>k < W0.heap.size\/k=wr.heap.size) W1 w'->(KS (fun k=>k < W0.heap.size\/k=wr.heap.size) W1 w'/\w'.cell? ⟨w.heap.size,0,none⟩=some (.int .i64 b.room)/\w'.cell? ⟨w.heap.size,1,none⟩=some (.int .i64 b.gap)/\w'.cell? ⟨w.heap.size,2,none⟩=some (.slice ma b.ms.length mc)/\w'.cell? ⟨w.heap.size,3,none⟩=some (.slice sa b.ss.length sc)/\w'.cell? ⟨w.heap.size,4,none⟩=some (.slice ra b.rs.length rc)/\w'.cell? ⟨wr.heap.size,0,none⟩=some (.int .i64 x0)/\w'.cell? ⟨wr.heap.size,1,none⟩=some (.int .i64 x1)/\w'.cell? ⟨wr.heap.size,2,none⟩=some (.int .i64 x2)/\w'.cell? ⟨wr.heap.size,3,none⟩=some (.int .i64 x3)/\w'.cell? ⟨w.heap.size+1,0,none⟩=some (.int .i64 p.1)/\w'.cell? ⟨w.heap.size+1,1,none⟩=some (.int .i64 p.2)):=fun w' h=>by
    have hf:w.heap.size < W0.heap.size:=five.lt;refine ⟨h,(h.cell (by simp;omega) (.inl hf)).trans five1.c0,(h.cell (by simp;omega) (.inl hf)).trans five1.c1,(h.cell (by simp;omega) (.inl hf)).trans five1.c2,(h.cell (by simp;omega) (.inl hf)).trans five1.c3,(h.cell (by simp;omega) (.inl hf)).trans five1.c4,
     (h.cell (by simp;omega) (.inr rfl)).trans m0,(h.cell (by simp;omega) (.inr rfl)).trans m1,(h.cell (by simp;omega) (.inr rfl)).trans m2,(h.cell (by simp;omega) (.inr rfl)).trans m3,(h.cell (by simp;omega) (.inl hsz1)).trans p0',(h.cell (by simp;omega) (.inl hsz1)).trans p1'⟩
   have HALL:=Hh hall;have hbw:∀ w':World,KS (fun k=>k < W0.heap.size\/k=wr.heap.size) W1 w'->Below w.heap.size w w':=fun w' h=>by
    have h2:=Below.next hwr hb1;have h3:=hb0.size;exact ⟨h.os.trans h2.os,h.tape.trans h2.tape,h.output.trans h2.output,Nat.le_trans h2.size h.size,fun k hk=>(h.block k (Nat.lt_of_lt_of_le hk h2.size) (.inl (by omega))).trans (h2.block k hk)⟩
   have HBW:=Hh hbw;have hks1:KS (fun k=>k < W0.heap.size\/k=wr.heap.size) wr W1:=KS.all hb1 _;have HW1:=Hh hW1;clear hall hbw hW1 five1 p0' p1' m0 m1 m2 m3 d0 d1 d2 d3;go_region_held3 (fun w'=>KS (fun k=>k < W0.heap.size\/k=wr.heap.size) W1 w'/\w'.cell? ⟨w.heap.size,0,none⟩=some (.int .i64 b.room)/\w'.cell? ⟨w.heap.size,1,none⟩=some (.int .i64 b.gap)/\w'.cell? ⟨w.heap.size,2,none⟩=some (.slice ma b.ms.length mc)/\w'.cell? ⟨w.heap.size,3,none⟩=some (.slice sa b.ss.length sc)/\w'.cell? ⟨w.heap.size,4,none⟩=some (.slice ra b.rs.length rc)/\w'.cell? ⟨wr.heap.size,0,none⟩=some (.int .i64 x0)/\w'.cell? ⟨wr.heap.size,1,none⟩=some (.int .i64 x1)/\w'.cell? ⟨wr.heap.size,2,none⟩=some (.int .i64 x2)/\w'.cell? ⟨wr.heap.size,3,none⟩=some (.int .i64 x3)/\w'.cell? ⟨w.heap.size+1,0,none⟩=some (.int .i64 p.1)/\w'.cell? ⟨w.heap.size+1,1,none⟩=some (.int .i64 p.2))
    (first | exact HALL.out _ (KS.drew _ _) | (go_split_ands;first | exact HALL.out _ (KS.trans (by assumption) (KS.all hcb _)) | exact HALL.out _ (KS.trans (by assumption) (KS.alloc _ _ _)) | exact HALL.out _ (KS.trans (by assumption) (KS.own hgrow HOB.out)) | exact HALL.out _ (by assumption)))
    (first
      | (go_at_call 96;go_split_ands;have hX:=‹KS (fun k=>k < W0.heap.size\/k=wr.heap.size) W1 _›;(with_reducible refine (HCOP.out _ (HBW.out _ hX)).mono ?_);rintro e w1 ⟨B,n,lc',rfl,hB1,hcnt,hcp,hip,hcb⟩;have hlk:=CntAt.look (t:=143) hcnt partKeyed Tryz.underlying143 Tryz.underlying3 (zeroInt _) HK.out;rw [cntV_partV,hcp,HCP.out] at hlk;unfold partV at hlk;have hrow1:w1.ownsRow W0.heap.size 3 1 (.slice a k c) k ((oftenI b (l.take k) p).map (Value.int .i64)):=ownsRow_below (A:=W1.drew) HROW1.out hcb;have hz1:W1.heap.size<=w1.heap.size:=hcb.size;clear hcp hcnt hip)
      | (refine step_append_lies (w:=w1.alloc (.cells #[.int .i64 nc] 3)) rfl _ _ 27 rfl W0.heap.size 3 i0 (.int .i64 0) 1 8 Tryz.underlying27 hi hz0 hz1' hz2 rfl (by omega) (.slice a k c) k _ rfl (hrow1.alloc _) ⟨w1.heap.size,0,none⟩ 1 1 [.int .i64 nc] rfl rfl (cells_new _ _ _) (by simp [Value.oneCell']) (by omega) (by unfold maxLen;omega) (by omega) (by simp;omega) (w1.heap.size+1) (by simp) ?_;intro gg cap w2 hown2 hgrow hat hlt2))
   all_goals
    have hkp:KS (fun k=>k < W0.heap.size\/k=wr.heap.size) W1 w2:=(((KS.drew _ W1).trans (KS.all hcb _)).trans (KS.alloc _ _ _)).trans (KS.own hgrow HOB.out);have hbel:Below W0.heap.size W0 w2:=by
     have h2:=Below.next hW hb1;exact ⟨hkp.os.trans h2.os,hkp.tape.trans h2.tape,hkp.output.trans h2.output,Nat.le_trans h2.size hkp.size,fun k hk=>(hkp.block k (Nat.lt_of_lt_of_le hk h2.size) (.inl hk)).trans (h2.block k hk)⟩
    have hown3:w2.ownsRow W0.heap.size 3 1 (.slice (some ⟨gg,0,none⟩) (k+1) cap) (k+1) ((oftenI b (l.take (k+1)) p).map (Value.int .i64)):=by
     have e:oftenI b (l.take (k+1)) p=oftenI b (l.take k) p ++ [nc]:=by
      unfold oftenI;rw [HTK.out,List.map_append,List.map_cons,List.map_nil,HNC.out]
     rw [e,List.map_append];exact hown2
    have HOWN3:=Hh hown3;clear hown3 hkp hown2;go_wp2;go_roundw
    case rel=>exact ⟨k+1,_,_,by omega,by go_num,rfl,HOWN3.out,hbel⟩
    case measure=>simp [intOf];omega
  ·obtain rfl:k=l.length:=by omega
   have hll2:(oftenI b l p).length=l.length:=by simp [oftenI]
   rw [List.take_length] at hrow;have HROW:=Hh hrow;clear hrow;go_wp2;go_ret;refine ⟨a,c,by rw [hll2];rfl,?_,bel⟩;rw [hll2];exact ownsRow_base HROW.out hb0.size
end
end
end Go.Proofs.YtgagoahfdnnpkaaGreatDoor
