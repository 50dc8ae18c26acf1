/- Leads to the Store laws of chapter 6: O1 L. -/
import Derived.Test.YtfggbepickdokaaGreatDoorT05
set_option maxHeartbeats 1000000
set_option maxRecDepth 100000
set_option linter.all false
namespace Go.Proofs.YtfggbepickdokaaGreatDoor
open Go.RowKit Go.Maps Sp
section
variable {b:Bk} {vr vg vm vs vc:Value} {w:World}
theorem ownsRow_base {w:World} {base base' e size n:Nat} {v:Value} {xs:List Value} (h:w.ownsRow base e size v n xs) (hb:base'≤base):w.ownsRow base' e size v n xs:=by
 obtain ⟨h1,h2 | ⟨g,cap,cur,e1,e2,e3,e4⟩⟩:=h
 ·exact ⟨h1,.inl h2⟩
 ·exact ⟨h1,.inr ⟨g,cap,cur,e1,Nat.le_trans hb e2,e3,e4⟩⟩
theorem ownsRow_below {A B:World} {base e size n:Nat} {v:Value} {xs:List Value} (h:A.ownsRow base e size v n xs) (hb:Below A.heap.size A B):B.ownsRow base e size v n xs:=ownsRow_ks h (KS.all hb (fun _=>True)) (fun _ _=>trivial)
theorem ownsRow_slice {A:World} {base e size n:Nat} {v:Value} {xs:List Value} (h:A.ownsRow base e size v n xs):∃ a cap,v=.slice a n cap:=by
 obtain ⟨h1,⟨rfl,rfl⟩ | ⟨g,cap,cur,rfl,_⟩⟩:=h
 ·exact ⟨_,_,rfl⟩
 ·exact ⟨_,_,rfl⟩
def OpenOk (w:World) (b:Bk) (vr vg vm vs vc:Value) (e:Ending) (w':World):Prop :=
 ∃ l',e=.returned (.tuple #[.agg #[vr,vg,vm,vs,vc],l',.int .i64 0])∧w'.ownsRow w.heap.size 124 4 l' (pasts b).length ((pasts b).flatMap cellsP)∧Below w.heap.size w w'
theorem all_at2 {w:World} (hB:BookAt w b vr vg vm vs vc) (hK:KindsAt w) (hk:bookAl b=0):Calls Tryz.prog 77 #[.agg #[vr,vg,vm,vs,vc]] w (AllOut w b):=all_at hB hK (bookAl_ok hk).1 (bookAl_ok hk).2
theorem open_nothing_no1 (hB:BookAt w b vr vg vm vs vc) (hN:∀ m∈b.ms,m.name.size≤1000000) (hK:KindsAt w) {al:Int} (hask:bookAl b=0→∀ W,Below w.heap.size w W→Calls Tryz.prog 67 #[.agg #[vr,vg,vm,vs,vc]] W fun e w'=>e=.returned (.int .i64 al)∧Below W.heap.size W w') {t:Int} (ht:bookAl b=t) (h0:t≠0) :
 Calls Tryz.prog 46 #[.agg #[vr,vg,vm,vs,vc],.func (.func 67) #[] #[]] w fun e w'=>e=.returned (.tuple #[.agg #[.int .i64 0,.int .i64 0,.slice none 0 0,.slice none 0 0,.slice none 0 0],.slice none 0 0,.int .i64 t])∧Below w.heap.size w w':=by
 have HB:=Hh hB
 have HN:=Hh hN
 have HK:=Hh hK
 have HA:=Hh hask
 obtain ⟨rfl,rfl,⟨ma,mc,rfl,_,_⟩,⟨sa,sc,rfl,_,_⟩,ra,rc,rfl,_,_⟩:=id hB
 clear hB hN hK hask
 have H0:=Hh ht
 have hz3:(t != 0)=true:=by simpa using h0
 clear ht
 go_enter Tryz.func46,Tryz.ntmps46
 go_wp2_with (go_at_call 71;(with_reducible refine (checkBook_at (HB.out.below (Below.al (Below.al (Below.refl _ _) _) _)) HN.out (HK.out.below (Below.al (Below.al (Below.refl _ _) _) _)) H0.out).mono ?_);rintro e w1 ⟨rfl,hb1⟩;obtain ⟨hc1,hf1⟩:=bcell hb1;have hz1:w.heap.size < w1.heap.size:=(by have:=hb1.size;simp at this;omega);have hz1b:w.heap.size+1 < w1.heap.size:=(by have:=hb1.size;simp at this;omega))
 exact bodyPost_ret (v:=.tuple #[.agg #[.int .i64 0,.int .i64 0,.slice none 0 0,.slice none 0 0,.slice none 0 0],.slice none 0 0,.int .i64 t]) (by simp [results,Tryz.results46,go_sem, *]) rfl ⟨rfl,bel⟩
theorem open_nothing_no2 (hB:BookAt w b vr vg vm vs vc) (hN:∀ m∈b.ms,m.name.size≤1000000) (hK:KindsAt w) {al:Int} (hask:bookAl b=0→∀ W,Below w.heap.size w W→Calls Tryz.prog 67 #[.agg #[vr,vg,vm,vs,vc]] W fun e w'=>e=.returned (.int .i64 al)∧Below W.heap.size W w') {t:Int} (hk:bookAl b=0) (ht:al=t) (h0:t≠0) :
 Calls Tryz.prog 46 #[.agg #[vr,vg,vm,vs,vc],.func (.func 67) #[] #[]] w fun e w'=>e=.returned (.tuple #[.agg #[.int .i64 0,.int .i64 0,.slice none 0 0,.slice none 0 0,.slice none 0 0],.slice none 0 0,.int .i64 t])∧Below w.heap.size w w':=by
 subst ht
 have HB:=Hh hB
 have HN:=Hh hN
 have HK:=Hh hK
 have HA:=Hh hask
 obtain ⟨rfl,rfl,⟨ma,mc,rfl,_,_⟩,⟨sa,sc,rfl,_,_⟩,ra,rc,rfl,_,_⟩:=id hB
 clear hB hN hK hask
 have H0:=Hh hk
 have hz3:(al != 0)=true:=by simpa using h0
 clear hk
 go_enter Tryz.func46,Tryz.ntmps46
 go_wp2_with (first | (go_at_call 71;(with_reducible refine (checkBook_at (HB.out.below (Below.al (Below.al (Below.refl _ _) _) _)) HN.out (HK.out.below (Below.al (Below.al (Below.refl _ _) _) _)) H0.out).mono ?_);rintro e w1 ⟨rfl,hb1⟩;obtain ⟨hc1,hf1⟩:=bcell hb1;have hz1:w.heap.size < w1.heap.size:=(by have:=hb1.size;simp at this;omega);have hz1b:w.heap.size+1 < w1.heap.size:=(by have:=hb1.size;simp at this;omega)) | (go_at_call 67;(with_reducible refine (HA.out H0.out _ (Below.al (Below.next (Below.al (Below.al (Below.refl _ _) _) _) hb1) _)).mono ?_);rintro e w2 ⟨rfl,hb2⟩;obtain ⟨hc2,hf2⟩:=bcell hb2;have hz2:w1.heap.size < w2.heap.size:=(by have:=hb2.size;simp at this;omega);have hz2a:w.heap.size < w2.heap.size:=(by omega);have hz2b:w.heap.size+1 < w2.heap.size:=(by omega)))
 exact bodyPost_ret (v:=.tuple #[.agg #[.int .i64 0,.int .i64 0,.slice none 0 0,.slice none 0 0,.slice none 0 0],.slice none 0 0,.int .i64 al]) (by simp [results,Tryz.results46,go_sem, *]) rfl ⟨rfl,bel⟩
theorem open_nothing_no3 (hB:BookAt w b vr vg vm vs vc) (hN:∀ m∈b.ms,m.name.size≤1000000) (hK:KindsAt w) {al:Int} (hask:bookAl b=0→∀ W,Below w.heap.size w W→Calls Tryz.prog 67 #[.agg #[vr,vg,vm,vs,vc]] W fun e w'=>e=.returned (.int .i64 al)∧Below W.heap.size W w') (hk:bookAl b=0) (ht:al=0) (hp:pasts b=[]) :
 Calls Tryz.prog 46 #[.agg #[vr,vg,vm,vs,vc],.func (.func 67) #[] #[]] w fun e w'=>e=.returned (.tuple #[.agg #[.int .i64 0,.int .i64 0,.slice none 0 0,.slice none 0 0,.slice none 0 0],.slice none 0 0,.int .i64 10])∧Below w.heap.size w w':=by
 subst ht
 have HB:=Hh hB
 have HN:=Hh hN
 have HK:=Hh hK
 have HA:=Hh hask
 obtain ⟨rfl,rfl,⟨ma,mc,rfl,_,_⟩,⟨sa,sc,rfl,_,_⟩,ra,rc,rfl,_,_⟩:=id hB
 clear hB hN hK hask
 have H0:=Hh hk
 have HL:=Hh (show (pasts b).length=0 by rw [hp];rfl)
 clear hk hp
 go_enter Tryz.func46,Tryz.ntmps46
 go_wp2_with (first | (go_at_call 71;(with_reducible refine (checkBook_at (HB.out.below (Below.al (Below.al (Below.refl _ _) _) _)) HN.out (HK.out.below (Below.al (Below.al (Below.refl _ _) _) _)) H0.out).mono ?_);rintro e w1 ⟨rfl,hb1⟩;obtain ⟨hc1,hf1⟩:=bcell hb1;have hz1:w.heap.size < w1.heap.size:=(by have:=hb1.size;simp at this;omega);have hz1b:w.heap.size+1 < w1.heap.size:=(by have:=hb1.size;simp at this;omega)) | (go_at_call 67;(with_reducible refine (HA.out H0.out _ (Below.al (Below.next (Below.al (Below.al (Below.refl _ _) _) _) hb1) _)).mono ?_);rintro e w2 ⟨rfl,hb2⟩;obtain ⟨hc2,hf2⟩:=bcell hb2;have hz2:w1.heap.size < w2.heap.size:=(by have:=hb2.size;simp at this;omega);have hz2a:w.heap.size < w2.heap.size:=(by omega);have hz2b:w.heap.size+1 < w2.heap.size:=(by omega)) | (go_at_call 77;(with_reducible refine (all_at2 (HB.out.below (Below.next (Below.al (Below.next (Below.al (Below.al (Below.refl _ _) _) _) hb1) _) hb2)) (HK.out.below (Below.next (Below.al (Below.next (Below.al (Below.al (Below.refl _ _) _) _) hb1) _) hb2)) H0.out).mono ?_);rintro e w3 ⟨l',rfl,hrow,hb3⟩;obtain ⟨hc3,hf3⟩:=bcell hb3;have hz3:w2.heap.size≤w3.heap.size:=hb3.size;have hz3a:w.heap.size < w3.heap.size:=(by omega);have hz3b:w.heap.size+1 < w3.heap.size:=(by omega);have hz3c:w1.heap.size < w3.heap.size:=(by omega);obtain ⟨la,lc,rfl⟩:=ownsRow_slice hrow;rw [HL.out];have HROW:=Hh hrow;clear hrow))
 exact bodyPost_ret (v:=.tuple #[.agg #[.int .i64 0,.int .i64 0,.slice none 0 0,.slice none 0 0,.slice none 0 0],.slice none 0 0,.int .i64 10]) (by simp [results,Tryz.results46,go_sem, *]) rfl ⟨rfl,bel⟩
theorem open_nothing_ok (hB:BookAt w b vr vg vm vs vc) (hN:∀ m∈b.ms,m.name.size≤1000000) (hK:KindsAt w) {al:Int} (hask:bookAl b=0→∀ W,Below w.heap.size w W→Calls Tryz.prog 67 #[.agg #[vr,vg,vm,vs,vc]] W fun e w'=>e=.returned (.int .i64 al)∧Below W.heap.size W w') (hk:bookAl b=0) (ht:al=0) (hp:pasts b≠[]) :
 Calls Tryz.prog 46 #[.agg #[vr,vg,vm,vs,vc],.func (.func 67) #[] #[]] w (OpenOk w b vr vg vm vs vc):=by
 subst ht
 have HB:=Hh hB
 have HN:=Hh hN
 have HK:=Hh hK
 have HA:=Hh hask
 obtain ⟨rfl,rfl,⟨ma,mc,rfl,_,_⟩,⟨sa,sc,rfl,_,_⟩,ra,rc,rfl,_,_⟩:=id hB
 clear hB hN hK hask
 have H0:=Hh hk
 have hpos:0 < (pasts b).length:=List.length_pos_iff.2 hp
 have hne:(((pasts b).length:Int) == 0)=false:=by simp;exact fun h=>by rw [h] at hpos;simp at hpos
 have hne2:¬ ((pasts b).length:Int)=0:=by omega
 clear hk hp
 go_enter Tryz.func46,Tryz.ntmps46
 go_wp2_with (first | (go_at_call 71;(with_reducible refine (checkBook_at (HB.out.below (Below.al (Below.al (Below.refl _ _) _) _)) HN.out (HK.out.below (Below.al (Below.al (Below.refl _ _) _) _)) H0.out).mono ?_);rintro e w1 ⟨rfl,hb1⟩;obtain ⟨hc1,hf1⟩:=bcell hb1;have hz1:w.heap.size < w1.heap.size:=(by have:=hb1.size;simp at this;omega);have hz1b:w.heap.size+1 < w1.heap.size:=(by have:=hb1.size;simp at this;omega)) | (go_at_call 67;(with_reducible refine (HA.out H0.out _ (Below.al (Below.next (Below.al (Below.al (Below.refl _ _) _) _) hb1) _)).mono ?_);rintro e w2 ⟨rfl,hb2⟩;obtain ⟨hc2,hf2⟩:=bcell hb2;have hz2:w1.heap.size < w2.heap.size:=(by have:=hb2.size;simp at this;omega);have hz2a:w.heap.size < w2.heap.size:=(by omega);have hz2b:w.heap.size+1 < w2.heap.size:=(by omega)) | (go_at_call 77;(with_reducible refine (all_at2 (HB.out.below (Below.next (Below.al (Below.next (Below.al (Below.al (Below.refl _ _) _) _) hb1) _) hb2)) (HK.out.below (Below.next (Below.al (Below.next (Below.al (Below.al (Below.refl _ _) _) _) hb1) _) hb2)) H0.out).mono ?_);rintro e w3 ⟨l',rfl,hrow,hb3⟩;obtain ⟨hc3,hf3⟩:=bcell hb3;have hz3:w2.heap.size≤w3.heap.size:=hb3.size;have hz3a:w.heap.size < w3.heap.size:=(by omega);have hz3b:w.heap.size+1 < w3.heap.size:=(by omega);have hz3c:w1.heap.size < w3.heap.size:=(by omega);obtain ⟨la,lc,rfl⟩:=ownsRow_slice hrow;have HROW:=Hh hrow;clear hrow))
 exact bodyPost_ret (v:=.tuple #[.agg #[.int .i64 b.room,.int .i64 b.gap,.slice ma b.ms.length mc,.slice sa b.ss.length sc,.slice ra b.rs.length rc],.slice la (pasts b).length lc,.int .i64 0]) (by simp [results,Tryz.results46,go_sem, *]) rfl ⟨_,rfl,ownsRow_base (base:=w.heap.size+1+1) (by repeat (first | (with_reducible refine ownsRow_setCell_below ?_ (by simp) _) | exact ownsRow_base HROW.out (by omega))) (by omega),bel⟩
theorem open_nothing_no (hB:BookAt w b vr vg vm vs vc) (hN:∀ m∈b.ms,m.name.size≤1000000) (hK:KindsAt w) {al:Int} (hask:bookAl b=0→∀ W,Below w.heap.size w W→Calls Tryz.prog 67 #[.agg #[vr,vg,vm,vs,vc]] W fun e w'=>e=.returned (.int .i64 al)∧Below W.heap.size W w') {t:Int} (ht:openAl b al=t) (h0:t≠0) :
 Calls Tryz.prog 46 #[.agg #[vr,vg,vm,vs,vc],.func (.func 67) #[] #[]] w fun e w'=>e=.returned (.tuple #[.agg #[.int .i64 0,.int .i64 0,.slice none 0 0,.slice none 0 0,.slice none 0 0],.slice none 0 0,.int .i64 t])∧Below w.heap.size w w':=by
 unfold openAl at ht
 split at ht
 ·exact open_nothing_no1 hB hN hK  hask ht h0
 ·rename_i hk
  have hk:bookAl b=0:=by simpa using hk
  split at ht
  ·exact open_nothing_no2 hB hN hK  hask hk ht h0
  ·rename_i ha
   split at ht
   ·rename_i hp
    subst ht
    exact open_nothing_no3 hB hN hK  hask hk (by simpa using ha) hp
   ·exact absurd ht.symm h0
theorem open_through_no1 (hB:BookAt w b vr vg vm vs vc) (hN:∀ m∈b.ms,m.name.size≤1000000) (hK:KindsAt w) (c0:Value) {al:Int} (hask:bookAl b=0→∀ W,Below w.heap.size w W→Calls Tryz.prog 78 #[.agg #[vr,vg,vm,vs,vc],c0] W fun e w'=>e=.returned (.int .i64 al)∧Below W.heap.size W w') {t:Int} (ht:bookAl b=t) (h0:t≠0) :
 Calls Tryz.prog 46 #[.agg #[vr,vg,vm,vs,vc],.func (.func 78) #[] #[c0]] w fun e w'=>e=.returned (.tuple #[.agg #[.int .i64 0,.int .i64 0,.slice none 0 0,.slice none 0 0,.slice none 0 0],.slice none 0 0,.int .i64 t])∧Below w.heap.size w w':=by
 have HB:=Hh hB
 have HN:=Hh hN
 have HK:=Hh hK
 have HA:=Hh hask
 obtain ⟨rfl,rfl,⟨ma,mc,rfl,_,_⟩,⟨sa,sc,rfl,_,_⟩,ra,rc,rfl,_,_⟩:=id hB
 clear hB hN hK hask
 have H0:=Hh ht
 have hz3:(t != 0)=true:=by simpa using h0
 clear ht
 go_enter Tryz.func46,Tryz.ntmps46
 go_wp2_with (go_at_call 71;(with_reducible refine (checkBook_at (HB.out.below (Below.al (Below.al (Below.refl _ _) _) _)) HN.out (HK.out.below (Below.al (Below.al (Below.refl _ _) _) _)) H0.out).mono ?_);rintro e w1 ⟨rfl,hb1⟩;obtain ⟨hc1,hf1⟩:=bcell hb1;have hz1:w.heap.size < w1.heap.size:=(by have:=hb1.size;simp at this;omega);have hz1b:w.heap.size+1 < w1.heap.size:=(by have:=hb1.size;simp at this;omega))
 exact bodyPost_ret (v:=.tuple #[.agg #[.int .i64 0,.int .i64 0,.slice none 0 0,.slice none 0 0,.slice none 0 0],.slice none 0 0,.int .i64 t]) (by simp [results,Tryz.results46,go_sem, *]) rfl ⟨rfl,bel⟩
theorem open_through_no2 (hB:BookAt w b vr vg vm vs vc) (hN:∀ m∈b.ms,m.name.size≤1000000) (hK:KindsAt w) (c0:Value) {al:Int} (hask:bookAl b=0→∀ W,Below w.heap.size w W→Calls Tryz.prog 78 #[.agg #[vr,vg,vm,vs,vc],c0] W fun e w'=>e=.returned (.int .i64 al)∧Below W.heap.size W w') {t:Int} (hk:bookAl b=0) (ht:al=t) (h0:t≠0) :
 Calls Tryz.prog 46 #[.agg #[vr,vg,vm,vs,vc],.func (.func 78) #[] #[c0]] w fun e w'=>e=.returned (.tuple #[.agg #[.int .i64 0,.int .i64 0,.slice none 0 0,.slice none 0 0,.slice none 0 0],.slice none 0 0,.int .i64 t])∧Below w.heap.size w w':=by
 subst ht
 have HB:=Hh hB
 have HN:=Hh hN
 have HK:=Hh hK
 have HA:=Hh hask
 obtain ⟨rfl,rfl,⟨ma,mc,rfl,_,_⟩,⟨sa,sc,rfl,_,_⟩,ra,rc,rfl,_,_⟩:=id hB
 clear hB hN hK hask
 have H0:=Hh hk
 have hz3:(al != 0)=true:=by simpa using h0
 clear hk
 go_enter Tryz.func46,Tryz.ntmps46
 go_wp2_with (first | (go_at_call 71;(with_reducible refine (checkBook_at (HB.out.below (Below.al (Below.al (Below.refl _ _) _) _)) HN.out (HK.out.below (Below.al (Below.al (Below.refl _ _) _) _)) H0.out).mono ?_);rintro e w1 ⟨rfl,hb1⟩;obtain ⟨hc1,hf1⟩:=bcell hb1;have hz1:w.heap.size < w1.heap.size:=(by have:=hb1.size;simp at this;omega);have hz1b:w.heap.size+1 < w1.heap.size:=(by have:=hb1.size;simp at this;omega)) | (go_at_call 78;(with_reducible refine (HA.out H0.out _ (Below.al (Below.next (Below.al (Below.al (Below.refl _ _) _) _) hb1) _)).mono ?_);rintro e w2 ⟨rfl,hb2⟩;obtain ⟨hc2,hf2⟩:=bcell hb2;have hz2:w1.heap.size < w2.heap.size:=(by have:=hb2.size;simp at this;omega);have hz2a:w.heap.size < w2.heap.size:=(by omega);have hz2b:w.heap.size+1 < w2.heap.size:=(by omega)))
 exact bodyPost_ret (v:=.tuple #[.agg #[.int .i64 0,.int .i64 0,.slice none 0 0,.slice none 0 0,.slice none 0 0],.slice none 0 0,.int .i64 al]) (by simp [results,Tryz.results46,go_sem, *]) rfl ⟨rfl,bel⟩
theorem open_through_no3 (hB:BookAt w b vr vg vm vs vc) (hN:∀ m∈b.ms,m.name.size≤1000000) (hK:KindsAt w) (c0:Value) {al:Int} (hask:bookAl b=0→∀ W,Below w.heap.size w W→Calls Tryz.prog 78 #[.agg #[vr,vg,vm,vs,vc],c0] W fun e w'=>e=.returned (.int .i64 al)∧Below W.heap.size W w') (hk:bookAl b=0) (ht:al=0) (hp:pasts b=[]) :
 Calls Tryz.prog 46 #[.agg #[vr,vg,vm,vs,vc],.func (.func 78) #[] #[c0]] w fun e w'=>e=.returned (.tuple #[.agg #[.int .i64 0,.int .i64 0,.slice none 0 0,.slice none 0 0,.slice none 0 0],.slice none 0 0,.int .i64 10])∧Below w.heap.size w w':=by
 subst ht
 have HB:=Hh hB
 have HN:=Hh hN
 have HK:=Hh hK
 have HA:=Hh hask
 obtain ⟨rfl,rfl,⟨ma,mc,rfl,_,_⟩,⟨sa,sc,rfl,_,_⟩,ra,rc,rfl,_,_⟩:=id hB
 clear hB hN hK hask
 have H0:=Hh hk
 have HL:=Hh (show (pasts b).length=0 by rw [hp];rfl)
 clear hk hp
 go_enter Tryz.func46,Tryz.ntmps46
 go_wp2_with (first | (go_at_call 71;(with_reducible refine (checkBook_at (HB.out.below (Below.al (Below.al (Below.refl _ _) _) _)) HN.out (HK.out.below (Below.al (Below.al (Below.refl _ _) _) _)) H0.out).mono ?_);rintro e w1 ⟨rfl,hb1⟩;obtain ⟨hc1,hf1⟩:=bcell hb1;have hz1:w.heap.size < w1.heap.size:=(by have:=hb1.size;simp at this;omega);have hz1b:w.heap.size+1 < w1.heap.size:=(by have:=hb1.size;simp at this;omega)) | (go_at_call 78;(with_reducible refine (HA.out H0.out _ (Below.al (Below.next (Below.al (Below.al (Below.refl _ _) _) _) hb1) _)).mono ?_);rintro e w2 ⟨rfl,hb2⟩;obtain ⟨hc2,hf2⟩:=bcell hb2;have hz2:w1.heap.size < w2.heap.size:=(by have:=hb2.size;simp at this;omega);have hz2a:w.heap.size < w2.heap.size:=(by omega);have hz2b:w.heap.size+1 < w2.heap.size:=(by omega)) | (go_at_call 77;(with_reducible refine (all_at2 (HB.out.below (Below.next (Below.al (Below.next (Below.al (Below.al (Below.refl _ _) _) _) hb1) _) hb2)) (HK.out.below (Below.next (Below.al (Below.next (Below.al (Below.al (Below.refl _ _) _) _) hb1) _) hb2)) H0.out).mono ?_);rintro e w3 ⟨l',rfl,hrow,hb3⟩;obtain ⟨hc3,hf3⟩:=bcell hb3;have hz3:w2.heap.size≤w3.heap.size:=hb3.size;have hz3a:w.heap.size < w3.heap.size:=(by omega);have hz3b:w.heap.size+1 < w3.heap.size:=(by omega);have hz3c:w1.heap.size < w3.heap.size:=(by omega);obtain ⟨la,lc,rfl⟩:=ownsRow_slice hrow;rw [HL.out];have HROW:=Hh hrow;clear hrow))
 exact bodyPost_ret (v:=.tuple #[.agg #[.int .i64 0,.int .i64 0,.slice none 0 0,.slice none 0 0,.slice none 0 0],.slice none 0 0,.int .i64 10]) (by simp [results,Tryz.results46,go_sem, *]) rfl ⟨rfl,bel⟩
theorem open_through_ok (hB:BookAt w b vr vg vm vs vc) (hN:∀ m∈b.ms,m.name.size≤1000000) (hK:KindsAt w) (c0:Value) {al:Int} (hask:bookAl b=0→∀ W,Below w.heap.size w W→Calls Tryz.prog 78 #[.agg #[vr,vg,vm,vs,vc],c0] W fun e w'=>e=.returned (.int .i64 al)∧Below W.heap.size W w') (hk:bookAl b=0) (ht:al=0) (hp:pasts b≠[]) :
 Calls Tryz.prog 46 #[.agg #[vr,vg,vm,vs,vc],.func (.func 78) #[] #[c0]] w (OpenOk w b vr vg vm vs vc):=by
 subst ht
 have HB:=Hh hB
 have HN:=Hh hN
 have HK:=Hh hK
 have HA:=Hh hask
 obtain ⟨rfl,rfl,⟨ma,mc,rfl,_,_⟩,⟨sa,sc,rfl,_,_⟩,ra,rc,rfl,_,_⟩:=id hB
 clear hB hN hK hask
 have H0:=Hh hk
 have hpos:0 < (pasts b).length:=List.length_pos_iff.2 hp
 have hne:(((pasts b).length:Int) == 0)=false:=by simp;exact fun h=>by rw [h] at hpos;simp at hpos
 have hne2:¬ ((pasts b).length:Int)=0:=by omega
 clear hk hp
 go_enter Tryz.func46,Tryz.ntmps46
 go_wp2_with (first | (go_at_call 71;(with_reducible refine (checkBook_at (HB.out.below (Below.al (Below.al (Below.refl _ _) _) _)) HN.out (HK.out.below (Below.al (Below.al (Below.refl _ _) _) _)) H0.out).mono ?_);rintro e w1 ⟨rfl,hb1⟩;obtain ⟨hc1,hf1⟩:=bcell hb1;have hz1:w.heap.size < w1.heap.size:=(by have:=hb1.size;simp at this;omega);have hz1b:w.heap.size+1 < w1.heap.size:=(by have:=hb1.size;simp at this;omega)) | (go_at_call 78;(with_reducible refine (HA.out H0.out _ (Below.al (Below.next (Below.al (Below.al (Below.refl _ _) _) _) hb1) _)).mono ?_);rintro e w2 ⟨rfl,hb2⟩;obtain ⟨hc2,hf2⟩:=bcell hb2;have hz2:w1.heap.size < w2.heap.size:=(by have:=hb2.size;simp at this;omega);have hz2a:w.heap.size < w2.heap.size:=(by omega);have hz2b:w.heap.size+1 < w2.heap.size:=(by omega)) | (go_at_call 77;(with_reducible refine (all_at2 (HB.out.below (Below.next (Below.al (Below.next (Below.al (Below.al (Below.refl _ _) _) _) hb1) _) hb2)) (HK.out.below (Below.next (Below.al (Below.next (Below.al (Below.al (Below.refl _ _) _) _) hb1) _) hb2)) H0.out).mono ?_);rintro e w3 ⟨l',rfl,hrow,hb3⟩;obtain ⟨hc3,hf3⟩:=bcell hb3;have hz3:w2.heap.size≤w3.heap.size:=hb3.size;have hz3a:w.heap.size < w3.heap.size:=(by omega);have hz3b:w.heap.size+1 < w3.heap.size:=(by omega);have hz3c:w1.heap.size < w3.heap.size:=(by omega);obtain ⟨la,lc,rfl⟩:=ownsRow_slice hrow;have HROW:=Hh hrow;clear hrow))
 exact bodyPost_ret (v:=.tuple #[.agg #[.int .i64 b.room,.int .i64 b.gap,.slice ma b.ms.length mc,.slice sa b.ss.length sc,.slice ra b.rs.length rc],.slice la (pasts b).length lc,.int .i64 0]) (by simp [results,Tryz.results46,go_sem, *]) rfl ⟨_,rfl,ownsRow_base (base:=w.heap.size+1+1) (by repeat (first | (with_reducible refine ownsRow_setCell_below ?_ (by simp) _) | exact ownsRow_base HROW.out (by omega))) (by omega),bel⟩
theorem open_through_no (hB:BookAt w b vr vg vm vs vc) (hN:∀ m∈b.ms,m.name.size≤1000000) (hK:KindsAt w) (c0:Value) {al:Int} (hask:bookAl b=0→∀ W,Below w.heap.size w W→Calls Tryz.prog 78 #[.agg #[vr,vg,vm,vs,vc],c0] W fun e w'=>e=.returned (.int .i64 al)∧Below W.heap.size W w') {t:Int} (ht:openAl b al=t) (h0:t≠0) :
 Calls Tryz.prog 46 #[.agg #[vr,vg,vm,vs,vc],.func (.func 78) #[] #[c0]] w fun e w'=>e=.returned (.tuple #[.agg #[.int .i64 0,.int .i64 0,.slice none 0 0,.slice none 0 0,.slice none 0 0],.slice none 0 0,.int .i64 t])∧Below w.heap.size w w':=by
 unfold openAl at ht
 split at ht
 ·exact open_through_no1 hB hN hK c0 hask ht h0
 ·rename_i hk
  have hk:bookAl b=0:=by simpa using hk
  split at ht
  ·exact open_through_no2 hB hN hK c0 hask hk ht h0
  ·rename_i ha
   split at ht
   ·rename_i hp
    subst ht
    exact open_through_no3 hB hN hK c0 hask hk (by simpa using ha) hp
   ·exact absurd ht.symm h0
theorem open_group_ok (hB:BookAt w b vr vg vm vs vc) (hN:∀ m∈b.ms,m.name.size≤1000000) (hK:KindsAt w) (c0:Value) {al:Int} (hask:bookAl b=0→∀ W,Below w.heap.size w W→Calls Tryz.prog 124 #[.agg #[vr,vg,vm,vs,vc],c0] W fun e w'=>e=.returned (.int .i64 al)∧Below W.heap.size W w') (hk:bookAl b=0) (ht:al=0) (hp:pasts b≠[]) :
 Calls Tryz.prog 46 #[.agg #[vr,vg,vm,vs,vc],.func (.func 124) #[] #[c0]] w (OpenOk w b vr vg vm vs vc):=by
 subst ht
 have HB:=Hh hB
 have HN:=Hh hN
 have HK:=Hh hK
 have HA:=Hh hask
 obtain ⟨rfl,rfl,⟨ma,mc,rfl,_,_⟩,⟨sa,sc,rfl,_,_⟩,ra,rc,rfl,_,_⟩:=id hB
 clear hB hN hK hask
 have H0:=Hh hk
 have hpos:0 < (pasts b).length:=List.length_pos_iff.2 hp
 have hne:(((pasts b).length:Int) == 0)=false:=by simp;exact fun h=>by rw [h] at hpos;simp at hpos
 have hne2:¬ ((pasts b).length:Int)=0:=by omega
 clear hk hp
 go_enter Tryz.func46,Tryz.ntmps46
 go_wp2_with (first | (go_at_call 71;(with_reducible refine (checkBook_at (HB.out.below (Below.al (Below.al (Below.refl _ _) _) _)) HN.out (HK.out.below (Below.al (Below.al (Below.refl _ _) _) _)) H0.out).mono ?_);rintro e w1 ⟨rfl,hb1⟩;obtain ⟨hc1,hf1⟩:=bcell hb1;have hz1:w.heap.size < w1.heap.size:=(by have:=hb1.size;simp at this;omega);have hz1b:w.heap.size+1 < w1.heap.size:=(by have:=hb1.size;simp at this;omega)) | (go_at_call 124;(with_reducible refine (HA.out H0.out _ (Below.al (Below.next (Below.al (Below.al (Below.refl _ _) _) _) hb1) _)).mono ?_);rintro e w2 ⟨rfl,hb2⟩;obtain ⟨hc2,hf2⟩:=bcell hb2;have hz2:w1.heap.size < w2.heap.size:=(by have:=hb2.size;simp at this;omega);have hz2a:w.heap.size < w2.heap.size:=(by omega);have hz2b:w.heap.size+1 < w2.heap.size:=(by omega)) | (go_at_call 77;(with_reducible refine (all_at2 (HB.out.below (Below.next (Below.al (Below.next (Below.al (Below.al (Below.refl _ _) _) _) hb1) _) hb2)) (HK.out.below (Below.next (Below.al (Below.next (Below.al (Below.al (Below.refl _ _) _) _) hb1) _) hb2)) H0.out).mono ?_);rintro e w3 ⟨l',rfl,hrow,hb3⟩;obtain ⟨hc3,hf3⟩:=bcell hb3;have hz3:w2.heap.size≤w3.heap.size:=hb3.size;have hz3a:w.heap.size < w3.heap.size:=(by omega);have hz3b:w.heap.size+1 < w3.heap.size:=(by omega);have hz3c:w1.heap.size < w3.heap.size:=(by omega);obtain ⟨la,lc,rfl⟩:=ownsRow_slice hrow;have HROW:=Hh hrow;clear hrow))
 exact bodyPost_ret (v:=.tuple #[.agg #[.int .i64 b.room,.int .i64 b.gap,.slice ma b.ms.length mc,.slice sa b.ss.length sc,.slice ra b.rs.length rc],.slice la (pasts b).length lc,.int .i64 0]) (by simp [results,Tryz.results46,go_sem, *]) rfl ⟨_,rfl,ownsRow_base (base:=w.heap.size+1+1) (by repeat (first | (with_reducible refine ownsRow_setCell_below ?_ (by simp) _) | exact ownsRow_base HROW.out (by omega))) (by omega),bel⟩
theorem open_timed_ok (hB:BookAt w b vr vg vm vs vc) (hN:∀ m∈b.ms,m.name.size≤1000000) (hK:KindsAt w) (c0:Value) {al:Int} (hask:bookAl b=0→∀ W,Below w.heap.size w W→Calls Tryz.prog 98 #[.agg #[vr,vg,vm,vs,vc],c0] W fun e w'=>e=.returned (.int .i64 al)∧Below W.heap.size W w') (hk:bookAl b=0) (ht:al=0) (hp:pasts b≠[]) :
 Calls Tryz.prog 46 #[.agg #[vr,vg,vm,vs,vc],.func (.func 98) #[] #[c0]] w (OpenOk w b vr vg vm vs vc):=by
 subst ht
 have HB:=Hh hB
 have HN:=Hh hN
 have HK:=Hh hK
 have HA:=Hh hask
 obtain ⟨rfl,rfl,⟨ma,mc,rfl,_,_⟩,⟨sa,sc,rfl,_,_⟩,ra,rc,rfl,_,_⟩:=id hB
 clear hB hN hK hask
 have H0:=Hh hk
 have hpos:0 < (pasts b).length:=List.length_pos_iff.2 hp
 have hne:(((pasts b).length:Int) == 0)=false:=by simp;exact fun h=>by rw [h] at hpos;simp at hpos
 have hne2:¬ ((pasts b).length:Int)=0:=by omega
 clear hk hp
 go_enter Tryz.func46,Tryz.ntmps46
 go_wp2_with (first | (go_at_call 71;(with_reducible refine (checkBook_at (HB.out.below (Below.al (Below.al (Below.refl _ _) _) _)) HN.out (HK.out.below (Below.al (Below.al (Below.refl _ _) _) _)) H0.out).mono ?_);rintro e w1 ⟨rfl,hb1⟩;obtain ⟨hc1,hf1⟩:=bcell hb1;have hz1:w.heap.size < w1.heap.size:=(by have:=hb1.size;simp at this;omega);have hz1b:w.heap.size+1 < w1.heap.size:=(by have:=hb1.size;simp at this;omega)) | (go_at_call 98;(with_reducible refine (HA.out H0.out _ (Below.al (Below.next (Below.al (Below.al (Below.refl _ _) _) _) hb1) _)).mono ?_);rintro e w2 ⟨rfl,hb2⟩;obtain ⟨hc2,hf2⟩:=bcell hb2;have hz2:w1.heap.size < w2.heap.size:=(by have:=hb2.size;simp at this;omega);have hz2a:w.heap.size < w2.heap.size:=(by omega);have hz2b:w.heap.size+1 < w2.heap.size:=(by omega)) | (go_at_call 77;(with_reducible refine (all_at2 (HB.out.below (Below.next (Below.al (Below.next (Below.al (Below.al (Below.refl _ _) _) _) hb1) _) hb2)) (HK.out.below (Below.next (Below.al (Below.next (Below.al (Below.al (Below.refl _ _) _) _) hb1) _) hb2)) H0.out).mono ?_);rintro e w3 ⟨l',rfl,hrow,hb3⟩;obtain ⟨hc3,hf3⟩:=bcell hb3;have hz3:w2.heap.size≤w3.heap.size:=hb3.size;have hz3a:w.heap.size < w3.heap.size:=(by omega);have hz3b:w.heap.size+1 < w3.heap.size:=(by omega);have hz3c:w1.heap.size < w3.heap.size:=(by omega);obtain ⟨la,lc,rfl⟩:=ownsRow_slice hrow;have HROW:=Hh hrow;clear hrow))
 exact bodyPost_ret (v:=.tuple #[.agg #[.int .i64 b.room,.int .i64 b.gap,.slice ma b.ms.length mc,.slice sa b.ss.length sc,.slice ra b.rs.length rc],.slice la (pasts b).length lc,.int .i64 0]) (by simp [results,Tryz.results46,go_sem, *]) rfl ⟨_,rfl,ownsRow_base (base:=w.heap.size+1+1) (by repeat (first | (with_reducible refine ownsRow_setCell_below ?_ (by simp) _) | exact ownsRow_base HROW.out (by omega))) (by omega),bel⟩
theorem open_planned_ok (hB:BookAt w b vr vg vm vs vc) (hN:∀ m∈b.ms,m.name.size≤1000000) (hK:KindsAt w) (c0 c1:Value) {al:Int} (hask:bookAl b=0→∀ W,Below w.heap.size w W→Calls Tryz.prog 101 #[.agg #[vr,vg,vm,vs,vc],c0,c1] W fun e w'=>e=.returned (.int .i64 al)∧Below W.heap.size W w') (hk:bookAl b=0) (ht:al=0) (hp:pasts b≠[]) :
 Calls Tryz.prog 46 #[.agg #[vr,vg,vm,vs,vc],.func (.func 101) #[] #[c0,c1]] w (OpenOk w b vr vg vm vs vc):=by
 subst ht
 have HB:=Hh hB
 have HN:=Hh hN
 have HK:=Hh hK
 have HA:=Hh hask
 obtain ⟨rfl,rfl,⟨ma,mc,rfl,_,_⟩,⟨sa,sc,rfl,_,_⟩,ra,rc,rfl,_,_⟩:=id hB
 clear hB hN hK hask
 have H0:=Hh hk
 have hpos:0 < (pasts b).length:=List.length_pos_iff.2 hp
 have hne:(((pasts b).length:Int) == 0)=false:=by simp;exact fun h=>by rw [h] at hpos;simp at hpos
 have hne2:¬ ((pasts b).length:Int)=0:=by omega
 clear hk hp
 go_enter Tryz.func46,Tryz.ntmps46
 go_wp2_with (first | (go_at_call 71;(with_reducible refine (checkBook_at (HB.out.below (Below.al (Below.al (Below.refl _ _) _) _)) HN.out (HK.out.below (Below.al (Below.al (Below.refl _ _) _) _)) H0.out).mono ?_);rintro e w1 ⟨rfl,hb1⟩;obtain ⟨hc1,hf1⟩:=bcell hb1;have hz1:w.heap.size < w1.heap.size:=(by have:=hb1.size;simp at this;omega);have hz1b:w.heap.size+1 < w1.heap.size:=(by have:=hb1.size;simp at this;omega)) | (go_at_call 101;(with_reducible refine (HA.out H0.out _ (Below.al (Below.next (Below.al (Below.al (Below.refl _ _) _) _) hb1) _)).mono ?_);rintro e w2 ⟨rfl,hb2⟩;obtain ⟨hc2,hf2⟩:=bcell hb2;have hz2:w1.heap.size < w2.heap.size:=(by have:=hb2.size;simp at this;omega);have hz2a:w.heap.size < w2.heap.size:=(by omega);have hz2b:w.heap.size+1 < w2.heap.size:=(by omega)) | (go_at_call 77;(with_reducible refine (all_at2 (HB.out.below (Below.next (Below.al (Below.next (Below.al (Below.al (Below.refl _ _) _) _) hb1) _) hb2)) (HK.out.below (Below.next (Below.al (Below.next (Below.al (Below.al (Below.refl _ _) _) _) hb1) _) hb2)) H0.out).mono ?_);rintro e w3 ⟨l',rfl,hrow,hb3⟩;obtain ⟨hc3,hf3⟩:=bcell hb3;have hz3:w2.heap.size≤w3.heap.size:=hb3.size;have hz3a:w.heap.size < w3.heap.size:=(by omega);have hz3b:w.heap.size+1 < w3.heap.size:=(by omega);have hz3c:w1.heap.size < w3.heap.size:=(by omega);obtain ⟨la,lc,rfl⟩:=ownsRow_slice hrow;have HROW:=Hh hrow;clear hrow))
 exact bodyPost_ret (v:=.tuple #[.agg #[.int .i64 b.room,.int .i64 b.gap,.slice ma b.ms.length mc,.slice sa b.ss.length sc,.slice ra b.rs.length rc],.slice la (pasts b).length lc,.int .i64 0]) (by simp [results,Tryz.results46,go_sem, *]) rfl ⟨_,rfl,ownsRow_base (base:=w.heap.size+1+1) (by repeat (first | (with_reducible refine ownsRow_setCell_below ?_ (by simp) _) | exact ownsRow_base HROW.out (by omega))) (by omega),bel⟩
theorem openAl_ok {al:Int} (h:openAl b al=0):bookAl b=0∧al=0∧pasts b≠[]:=by
 unfold openAl at h
 split at h
 ·rename_i h2;exact absurd h h2
 ·split at h
  ·rename_i h2;exact absurd h h2
  ·split at h
   ·cases h
   ·rename_i h1 h2 h3;exact ⟨by simpa using h1,by simpa using h2,h3⟩
end
end Go.Proofs.YtfggbepickdokaaGreatDoor
namespace Go.Proofs.YtfggbepickdokaaGreatDoor
open Go.RowKit Sp
def IntsAt (w:World) (a:Option Addr) (l:List Int):Prop:=∀ i (h:i < l.length),∃ b o,a=some ⟨b,o,none⟩∧b < w.heap.size∧w.cell? ⟨b,o+i,none⟩=some (.int .i64 l[i])
def CamesAt (w:World) (a:Option Addr) (l:List (List Int)):Prop:=∀ i (h:i < l.length),∃ b o,a=some ⟨b,o,none⟩∧b < w.heap.size ∧
 w.cell? ⟨b,o+i * 4,none⟩=some (.int .i64 ((pad l[i]).getD 0 0))∧w.cell? ⟨b,o+i * 4+1,none⟩=some (.int .i64 ((pad l[i]).getD 1 0))∧w.cell? ⟨b,o+i * 4+2,none⟩=some (.int .i64 ((pad l[i]).getD 2 0))∧w.cell? ⟨b,o+i * 4+3,none⟩=some (.int .i64 ((pad l[i]).getD 3 0))
section
variable {w w':World} {a:Option Addr}
theorem IntsAt.below {l:List Int} (h:IntsAt w a l) (hb:Below w.heap.size w w'):IntsAt w' a l:=fun i hi=>by
 obtain ⟨b,o,e,hlt,h1⟩:=h i hi
 exact ⟨b,o,e,Nat.lt_of_lt_of_le hlt hb.size,(hb.cell hlt).trans h1⟩
theorem CamesAt.below {l:List (List Int)} (h:CamesAt w a l) (hb:Below w.heap.size w w'):CamesAt w' a l:=fun i hi=>by
 obtain ⟨b,o,e,hlt,h1,h2,h3,h4⟩:=h i hi
 exact ⟨b,o,e,Nat.lt_of_lt_of_le hlt hb.size,(hb.cell hlt).trans h1,(hb.cell hlt).trans h2,(hb.cell hlt).trans h3,(hb.cell hlt).trans h4⟩
theorem row_cell {base e size n c:Nat} {xs:List Value} (h:w.ownsRow base e size (.slice a n c) n xs) (k:Nat) (hk:k < xs.length):∃ g,a=some ⟨g,0,none⟩∧base≤g∧g < w.heap.size∧w.cell? ⟨g,k,none⟩=xs[k]? := by
 obtain ⟨h1,⟨h2,h3⟩ | ⟨g,cap,cur,e1,e2,e3,e4,e5,e6,e7⟩⟩:=h
 ·rw [h3,Nat.zero_mul] at h1;omega
 ·cases e1
  refine ⟨g,rfl,e2,(Array.getElem?_eq_some_iff.1 e3).1,?_⟩
  rw [← e7]
  unfold World.cell?
  rw [e3,List.getElem?_take,if_pos (by omega)]
  simp
theorem ints_of_row {base n c:Nat} {l:List Int} (h:w.ownsRow base 3 1 (.slice a n c) n (l.map (Value.int .i64))):IntsAt w a l:=fun i hi=>by
 obtain ⟨g,rfl,_,h2,h3⟩:=row_cell h i (by simpa using hi)
 refine ⟨g,0,rfl,h2,?_⟩
 rw [Nat.zero_add,h3]
 simp [hi]
theorem flat4 {f:List Int→List Value} (hf:∀ x,(f x).length=4):∀ (l:List (List Int)) (i j:Nat) (_:j < 4) (h:i < l.length),(l.flatMap f)[i * 4+j]? = (f l[i])[j]?
 | [],i,j,_,h=>by simp at h
 | x::l,0,j,hj,h=>by
  rw [List.flatMap_cons,List.getElem?_append_left (by rw [hf];omega)]
  simp
 | x::l,i+1,j,hj,h=>by
  rw [List.flatMap_cons,List.getElem?_append_right (by rw [hf];omega),hf,show (i+1) * 4+j - 4=i * 4+j by omega,flat4 hf l i j hj (by simpa using h)]
  simp
theorem flat4_length {f:List Int→List Value} (hf:∀ x,(f x).length=4):∀ (l:List (List Int)),(l.flatMap f).length=l.length * 4
 | []=>rfl
 | x::l=>by rw [List.flatMap_cons,List.length_append,hf,flat4_length hf l,List.length_cons];omega
theorem cames_of_row {base n c:Nat} {l:List (List Int)} (h:w.ownsRow base 124 4 (.slice a n c) n (l.flatMap cellsP)):CamesAt w a l:=fun i hi=>by
 have hlen:=flat4_length (f:=cellsP) (fun _=>rfl) l
 have hj:∀ j,j < 4→i * 4+j < (l.flatMap cellsP).length:=fun j hj=>by omega
 obtain ⟨g,rfl,_,h2,_⟩:=row_cell h (i * 4) (by have:=hj 0 (by omega);omega)
 have hc:∀ j,j < 4→w.cell? ⟨g,i * 4+j,none⟩=(cellsP l[i])[j]? := fun j hj4=>by
  obtain ⟨g',e,_,_,h3⟩:=row_cell h (i * 4+j) (hj j hj4)
  cases e
  rw [h3,flat4 (fun _=>rfl) l i j hj4 hi]
 refine ⟨g,0,rfl,h2,?_,?_,?_,?_⟩
 ·rw [Nat.zero_add];exact hc 0 (by omega)
 ·rw [Nat.zero_add];exact hc 1 (by omega)
 ·rw [Nat.zero_add];exact hc 2 (by omega)
 ·rw [Nat.zero_add];exact hc 3 (by omega)
end
end Go.Proofs.YtfggbepickdokaaGreatDoor
