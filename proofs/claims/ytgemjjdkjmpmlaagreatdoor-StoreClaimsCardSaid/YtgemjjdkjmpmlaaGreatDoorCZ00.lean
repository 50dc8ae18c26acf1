/- Leads to StoreClaims of chapter 6: O1 P3 P6 App E8 E9 E11. -/
import Derived.Test.YtgemjjdkjmpmlaaGreatDoorCBase
set_option maxHeartbeats 1000000
set_option maxRecDepth 100000
set_option linter.all false
namespace Go.Proofs.YtgemjjdkjmpmlaaGreatDoor
open Go.RowKit Go.Maps Sp
section
variable {b:Bk} {vr vg vm vs vc:Value} {w:World}
theorem open_group_no1 (hB:BookAt w b vr vg vm vs vc) (hN:∀ m∈b.ms,m.name.size<=1000000) (hK:KindsAt w) (c0:Value) {al:Int} (hask:bookAl b=0->∀ W,Below w.heap.size w W->Calls Tryz.prog 122 #[.agg #[vr,vg,vm,vs,vc],c0] W fun e w'=>e=.returned (.int .i64 al)/\Below W.heap.size W w') {t:Int} (ht:bookAl b=t) (h0:t≠0) :
 Calls Tryz.prog 66 #[.agg #[vr,vg,vm,vs,vc],.func (.func 122) #[] #[c0]] w fun e w'=>e=.returned (.tuple #[.agg #[.int .i64 0,.int .i64 0,.slice none 0 0,.slice none 0 0,.slice none 0 0],.slice none 0 0,.int .i64 t])/\Below w.heap.size w w':=by
 have HB:=Hh hB;have HN:=Hh hN;have HK:=Hh hK;have HA:=Hh hask;obtain ⟨rfl,rfl,⟨ma,mc,rfl,_,_⟩,⟨sa,sc,rfl,_,_⟩,ra,rc,rfl,_,_⟩:=id hB;clear hB hN hK hask;have H0:=Hh ht;have hz3:(t != 0)=true:=by simpa using h0
 clear ht
 go_enter Tryz.func66,Tryz.ntmps66
 go_wp2_with (go_at_call 72;(with_reducible refine (checkBook_at (HB.out.below (Below.al (Below.al (Below.refl _ _) _) _)) HN.out (HK.out.below (Below.al (Below.al (Below.refl _ _) _) _)) H0.out).mono ?_);rintro e w1 ⟨rfl,hb1⟩;obtain ⟨hc1,hf1⟩:=bcell hb1;have hz1:w.heap.size < w1.heap.size:=(by have:=hb1.size;simp at this;omega);have hz1b:w.heap.size+1 < w1.heap.size:=(by have:=hb1.size;simp at this;omega));exact bodyPost_ret (v:=.tuple #[.agg #[.int .i64 0,.int .i64 0,.slice none 0 0,.slice none 0 0,.slice none 0 0],.slice none 0 0,.int .i64 t]) (by simp [results,Tryz.results66,go_sem, *]) rfl ⟨rfl,bel⟩
theorem open_group_no2 (hB:BookAt w b vr vg vm vs vc) (hN:∀ m∈b.ms,m.name.size<=1000000) (hK:KindsAt w) (c0:Value) {al:Int} (hask:bookAl b=0->∀ W,Below w.heap.size w W->Calls Tryz.prog 122 #[.agg #[vr,vg,vm,vs,vc],c0] W fun e w'=>e=.returned (.int .i64 al)/\Below W.heap.size W w') {t:Int} (hk:bookAl b=0) (ht:al=t) (h0:t≠0) :
 Calls Tryz.prog 66 #[.agg #[vr,vg,vm,vs,vc],.func (.func 122) #[] #[c0]] w fun e w'=>e=.returned (.tuple #[.agg #[.int .i64 0,.int .i64 0,.slice none 0 0,.slice none 0 0,.slice none 0 0],.slice none 0 0,.int .i64 t])/\Below w.heap.size w w':=by
 subst ht;have HB:=Hh hB;have HN:=Hh hN;have HK:=Hh hK;have HA:=Hh hask;obtain ⟨rfl,rfl,⟨ma,mc,rfl,_,_⟩,⟨sa,sc,rfl,_,_⟩,ra,rc,rfl,_,_⟩:=id hB;clear hB hN hK hask;have H0:=Hh hk;have hz3:(al != 0)=true:=by simpa using h0
 clear hk
 go_enter Tryz.func66,Tryz.ntmps66
 go_wp2_with (first | (go_at_call 72;(with_reducible refine (checkBook_at (HB.out.below (Below.al (Below.al (Below.refl _ _) _) _)) HN.out (HK.out.below (Below.al (Below.al (Below.refl _ _) _) _)) H0.out).mono ?_);rintro e w1 ⟨rfl,hb1⟩;obtain ⟨hc1,hf1⟩:=bcell hb1;have hz1:w.heap.size < w1.heap.size:=(by have:=hb1.size;simp at this;omega);have hz1b:w.heap.size+1 < w1.heap.size:=(by have:=hb1.size;simp at this;omega)) | (go_at_call 122;(with_reducible refine (HA.out H0.out _ (Below.al (Below.next (Below.al (Below.al (Below.refl _ _) _) _) hb1) _)).mono ?_);rintro e w2 ⟨rfl,hb2⟩;obtain ⟨hc2,hf2⟩:=bcell hb2;have hz2:w1.heap.size < w2.heap.size:=(by have:=hb2.size;simp at this;omega);have hz2a:w.heap.size < w2.heap.size:=(by omega);have hz2b:w.heap.size+1 < w2.heap.size:=(by omega)));exact bodyPost_ret (v:=.tuple #[.agg #[.int .i64 0,.int .i64 0,.slice none 0 0,.slice none 0 0,.slice none 0 0],.slice none 0 0,.int .i64 al]) (by simp [results,Tryz.results66,go_sem, *]) rfl ⟨rfl,bel⟩
theorem open_group_no3 (hB:BookAt w b vr vg vm vs vc) (hN:∀ m∈b.ms,m.name.size<=1000000) (hK:KindsAt w) (c0:Value) {al:Int} (hask:bookAl b=0->∀ W,Below w.heap.size w W->Calls Tryz.prog 122 #[.agg #[vr,vg,vm,vs,vc],c0] W fun e w'=>e=.returned (.int .i64 al)/\Below W.heap.size W w') (hk:bookAl b=0) (ht:al=0) (hp:pasts b=[]) :
 Calls Tryz.prog 66 #[.agg #[vr,vg,vm,vs,vc],.func (.func 122) #[] #[c0]] w fun e w'=>e=.returned (.tuple #[.agg #[.int .i64 0,.int .i64 0,.slice none 0 0,.slice none 0 0,.slice none 0 0],.slice none 0 0,.int .i64 10])/\Below w.heap.size w w':=by
 subst ht;have HB:=Hh hB;have HN:=Hh hN;have HK:=Hh hK;have HA:=Hh hask;obtain ⟨rfl,rfl,⟨ma,mc,rfl,_,_⟩,⟨sa,sc,rfl,_,_⟩,ra,rc,rfl,_,_⟩:=id hB;clear hB hN hK hask;have H0:=Hh hk;have HL:=Hh (show (pasts b).length=0 by rw [hp];rfl);clear hk hp
 go_enter Tryz.func66,Tryz.ntmps66
 go_wp2_with (first | (go_at_call 72;(with_reducible refine (checkBook_at (HB.out.below (Below.al (Below.al (Below.refl _ _) _) _)) HN.out (HK.out.below (Below.al (Below.al (Below.refl _ _) _) _)) H0.out).mono ?_);rintro e w1 ⟨rfl,hb1⟩;obtain ⟨hc1,hf1⟩:=bcell hb1;have hz1:w.heap.size < w1.heap.size:=(by have:=hb1.size;simp at this;omega);have hz1b:w.heap.size+1 < w1.heap.size:=(by have:=hb1.size;simp at this;omega)) | (go_at_call 122;(with_reducible refine (HA.out H0.out _ (Below.al (Below.next (Below.al (Below.al (Below.refl _ _) _) _) hb1) _)).mono ?_);rintro e w2 ⟨rfl,hb2⟩;obtain ⟨hc2,hf2⟩:=bcell hb2;have hz2:w1.heap.size < w2.heap.size:=(by have:=hb2.size;simp at this;omega);have hz2a:w.heap.size < w2.heap.size:=(by omega);have hz2b:w.heap.size+1 < w2.heap.size:=(by omega)) | (go_at_call 73;(with_reducible refine (all_at2 (HB.out.below (Below.next (Below.al (Below.next (Below.al (Below.al (Below.refl _ _) _) _) hb1) _) hb2)) (HK.out.below (Below.next (Below.al (Below.next (Below.al (Below.al (Below.refl _ _) _) _) hb1) _) hb2)) H0.out).mono ?_);rintro e w3 ⟨l',rfl,hrow,hb3⟩;obtain ⟨hc3,hf3⟩:=bcell hb3;have hz3:w2.heap.size<=w3.heap.size:=hb3.size;have hz3a:w.heap.size < w3.heap.size:=(by omega);have hz3b:w.heap.size+1 < w3.heap.size:=(by omega);have hz3c:w1.heap.size < w3.heap.size:=(by omega);obtain ⟨la,lc,rfl⟩:=ownsRow_slice hrow;rw [HL.out];have HROW:=Hh hrow;clear hrow));exact bodyPost_ret (v:=.tuple #[.agg #[.int .i64 0,.int .i64 0,.slice none 0 0,.slice none 0 0,.slice none 0 0],.slice none 0 0,.int .i64 10]) (by simp [results,Tryz.results66,go_sem, *]) rfl ⟨rfl,bel⟩
theorem open_group_no (hB:BookAt w b vr vg vm vs vc) (hN:∀ m∈b.ms,m.name.size<=1000000) (hK:KindsAt w) (c0:Value) {al:Int} (hask:bookAl b=0->∀ W,Below w.heap.size w W->Calls Tryz.prog 122 #[.agg #[vr,vg,vm,vs,vc],c0] W fun e w'=>e=.returned (.int .i64 al)/\Below W.heap.size W w') {t:Int} (ht:openAl b al=t) (h0:t≠0) :
 Calls Tryz.prog 66 #[.agg #[vr,vg,vm,vs,vc],.func (.func 122) #[] #[c0]] w fun e w'=>e=.returned (.tuple #[.agg #[.int .i64 0,.int .i64 0,.slice none 0 0,.slice none 0 0,.slice none 0 0],.slice none 0 0,.int .i64 t])/\Below w.heap.size w w':=by
 unfold openAl at ht;split at ht
 ·exact open_group_no1 hB hN hK c0 hask ht h0
 ·rename_i hk
  have hk:bookAl b=0:=by simpa using hk
  split at ht
  ·exact open_group_no2 hB hN hK c0 hask hk ht h0
  ·rename_i ha
   split at ht
   ·rename_i hp
    subst ht;exact open_group_no3 hB hN hK c0 hask hk (by simpa using ha) hp
   ·exact absurd ht.symm h0
end
section
variable {b:Bk} {vr vg vm vs vc:Value} {w:World}
theorem came_no (hB:BookAt w b vr vg vm vs vc) (hN:∀ m∈b.ms,m.name.size<=1000000) (hK:KindsAt w) (m g:Int) {t:Int} (ht:groupAl b (m,g)=t) (h0:t≠0) :
 Calls Tryz.prog 48 #[.agg #[vr,vg,vm,vs,vc],.int .i64 m,.int .i64 g] w fun e w'=>e=.returned (.tuple #[.int .i64 0,.int .i64 t])/\Below w.heap.size w w':=by
 have HB:=Hh hB;have HN:=Hh hN;have HK:=Hh hK;have HT:=Hh (show openAl b (if isPart b (m,g)=true then 0 else 6)=t from ht);have HH0:=Hh h0;have hz3:(t != 0)=true:=by simpa using h0
 obtain ⟨rfl,rfl,⟨ma,mc,rfl,_,_⟩,⟨sa,sc,rfl,_,_⟩,ra,rc,rfl,_,_⟩:=id hB;clear hB hN hK ht
 go_enter Tryz.func48,Tryz.ntmps48
 go_wp2;obtain ⟨W1,hW1⟩:∃ W1,W1=(w.alloc (.cells #[.int .i64 b.room,.int .i64 b.gap,.slice ma b.ms.length mc,.slice sa b.ss.length sc,.slice ra b.rs.length rc] 26)).alloc (.cells #[.int .i64 m,.int .i64 g] 41):=⟨_,rfl⟩;rw [← hW1];have five:=(Five.new w (.int .i64 b.room) (.int .i64 b.gap) (.slice ma b.ms.length mc) (.slice sa b.ss.length sc) (.slice ra b.rs.length rc) 26).below (bal _ (.cells #[.int .i64 m,.int .i64 g] 41)) (by simp);rw [← hW1] at five;have hb0:Below w.heap.size w W1:=by rw [hW1];(exact bel)
 have hsz:W1.heap.size=w.heap.size+1+1:=by rw [hW1];simp
 have p0:W1.cell? ⟨w.heap.size+1,0,none⟩=some (.int .i64 m):=by rw [hW1,World.cell?_alloc_at _ _ _ _ (by simp)];rfl
 have p1:W1.cell? ⟨w.heap.size+1,1,none⟩=some (.int .i64 g):=by rw [hW1,World.cell?_alloc_at _ _ _ _ (by simp)];rfl
 have hall:∀ w':World,Below W1.heap.size W1 w'->(Below W1.heap.size W1 w'/\w'.cell? ⟨w.heap.size,0,none⟩=some (.int .i64 b.room)/\w'.cell? ⟨w.heap.size,1,none⟩=some (.int .i64 b.gap)/\w'.cell? ⟨w.heap.size,2,none⟩=some (.slice ma b.ms.length mc)/\w'.cell? ⟨w.heap.size,3,none⟩=some (.slice sa b.ss.length sc)/\w'.cell? ⟨w.heap.size,4,none⟩=some (.slice ra b.rs.length rc)/\w'.cell? ⟨w.heap.size+1,0,none⟩=some (.int .i64 m)/\w'.cell? ⟨w.heap.size+1,1,none⟩=some (.int .i64 g)):=fun w' h=>by
  exact ⟨h,(h.cell (by simp;omega)).trans five.c0,(h.cell (by simp;omega)).trans five.c1,(h.cell (by simp;omega)).trans five.c2,(h.cell (by simp;omega)).trans five.c3,(h.cell (by simp;omega)).trans five.c4,(h.cell (by simp;omega)).trans p0,(h.cell (by simp;omega)).trans p1⟩
 have HALL:=Hh hall;clear hW1 hall p0 p1 five;have hgr:=fun (w':World)=>group_at (m,g) w';have HGR:=Hh hgr;clear hgr;go_region_held3 (fun w'=>Below W1.heap.size W1 w'/\w'.cell? ⟨w.heap.size,0,none⟩=some (.int .i64 b.room)/\w'.cell? ⟨w.heap.size,1,none⟩=some (.int .i64 b.gap)/\w'.cell? ⟨w.heap.size,2,none⟩=some (.slice ma b.ms.length mc)/\w'.cell? ⟨w.heap.size,3,none⟩=some (.slice sa b.ss.length sc)/\w'.cell? ⟨w.heap.size,4,none⟩=some (.slice ra b.rs.length rc)/\w'.cell? ⟨w.heap.size+1,0,none⟩=some (.int .i64 m)/\w'.cell? ⟨w.heap.size+1,1,none⟩=some (.int .i64 g))
  ((go_split_ands;exact HALL.out _ (bel)))
  (first
    | (go_at_call 91;(with_reducible refine (HGR.out _).mono ?_);rintro e w2 ⟨B,rfl,hB1,q0,q1,hb2⟩;have hq:∀ W,Below w2.heap.size w2 W->W.cell? ⟨B,0,none⟩=some (.int .i64 m)/\W.cell? ⟨B,1,none⟩=some (.int .i64 g)/\B < W.heap.size:=(fun W h=>⟨(h.cell hB1).trans q0,(h.cell hB1).trans q1,Nat.lt_of_lt_of_le hB1 h.size⟩);have HQ:=Hh hq;clear hq q0 q1;obtain ⟨hc2,hf2⟩:=bcell hb2;have hz2:=hb2.size;(try simp at hz2);(try (have hy2:w.heap.size+1+1 < w2.heap.size:=by omega)))
    | (go_at_call 66;go_split_ands;have hX:=Below.next hb0 ‹Below W1.heap.size W1 _›;(with_reducible refine (open_group_no (HB.out.below hX) HN.out (HK.out.below hX) _ (al:=if isPart b (m,g) then 0 else 6) (fun hk W hW=>group1_at (p:=(m,g)) (HB.out.below (Below.next hX hW)) (bookAl_ok hk).1.groups (HQ.out W (Below.next (by first | exact Below.refl _ _ | exact bal _ _) hW)).1 (HQ.out W (Below.next (by first | exact Below.refl _ _ | exact bal _ _) hW)).2.1 (HQ.out W (Below.next (by first | exact Below.refl _ _ | exact bal _ _) hW)).2.2) HT.out HH0.out).mono ?_);rintro e w3 ⟨rfl,hb3⟩;obtain ⟨hc3,hf3⟩:=bcell hb3;have hz3:=hb3.size;(try simp at hz3);(try (have hy3:w.heap.size+1+1 < w3.heap.size:=by omega))))
 all_goals
  go_wp2;exact bodyPost_ret (v:=.tuple #[.int .i64 0,.int .i64 t]) (by simp [results,Tryz.results48,go_sem, *]) rfl ⟨rfl,bel⟩
end
section
variable {b:Bk} {vr vg vm vs vc:Value} {w:World}
theorem copies_api_no (hB:BookAt w b vr vg vm vs vc) (hN:∀ m∈b.ms,m.name.size<=1000000) (hK:KindsAt w) (m g:Int) {t:Int} (ht:groupAl b (m,g)=t) (h0:t≠0) :
 Calls Tryz.prog 50 #[.agg #[vr,vg,vm,vs,vc],.int .i64 m,.int .i64 g] w fun e w'=>e=.returned (.tuple #[.agg #[.int .i64 0,.int .i64 0],.int .i64 t])/\Below w.heap.size w w':=by
 have HB:=Hh hB;have HN:=Hh hN;have HK:=Hh hK;have HT:=Hh (show openAl b (if isPart b (m,g)=true then 0 else 6)=t from ht);have HH0:=Hh h0;have hz3:(t != 0)=true:=by simpa using h0
 obtain ⟨rfl,rfl,⟨ma,mc,rfl,_,_⟩,⟨sa,sc,rfl,_,_⟩,ra,rc,rfl,_,_⟩:=id hB;clear hB hN hK ht
 go_enter Tryz.func50,Tryz.ntmps50
 go_wp2;obtain ⟨W1,hW1⟩:∃ W1,W1=((w.alloc (.cells #[.int .i64 b.room,.int .i64 b.gap,.slice ma b.ms.length mc,.slice sa b.ss.length sc,.slice ra b.rs.length rc] 26)).alloc (.cells #[.int .i64 0,.int .i64 0] 90)).alloc (.cells #[.int .i64 m,.int .i64 g] 41):=⟨_,rfl⟩;rw [← hW1];have five:=(Five.new w (.int .i64 b.room) (.int .i64 b.gap) (.slice ma b.ms.length mc) (.slice sa b.ss.length sc) (.slice ra b.rs.length rc) 26).below ((bal _ (.cells #[.int .i64 0,.int .i64 0] 90)).alloc (by simp) (.cells #[.int .i64 m,.int .i64 g] 41)) (by simp);rw [← hW1] at five;have hb0:Below w.heap.size w W1:=by rw [hW1];(exact bel)
 have hsz:W1.heap.size=w.heap.size+1+1+1:=by rw [hW1];simp
 have p0:W1.cell? ⟨w.heap.size+1+1,0,none⟩=some (.int .i64 m):=by rw [hW1,World.cell?_alloc_at _ _ _ _ (by simp)];rfl
 have p1:W1.cell? ⟨w.heap.size+1+1,1,none⟩=some (.int .i64 g):=by rw [hW1,World.cell?_alloc_at _ _ _ _ (by simp)];rfl
 have q0:W1.cell? ⟨w.heap.size+1,0,none⟩=some (.int .i64 0):=by rw [hW1,World.cell?_alloc_past _ _ _ (by simp),World.cell?_alloc_at _ _ _ _ (by simp)];rfl
 have q1:W1.cell? ⟨w.heap.size+1,1,none⟩=some (.int .i64 0):=by rw [hW1,World.cell?_alloc_past _ _ _ (by simp),World.cell?_alloc_at _ _ _ _ (by simp)];rfl
 have r0:W1.frozen? ⟨w.heap.size+1,0,none⟩=false:=by rw [hW1];simp [go_sem]
 have r1:W1.frozen? ⟨w.heap.size+1,1,none⟩=false:=by rw [hW1];simp [go_sem]
 have hall:∀ w':World,Below W1.heap.size W1 w'->(Below W1.heap.size W1 w'/\w'.cell? ⟨w.heap.size,0,none⟩=some (.int .i64 b.room)/\w'.cell? ⟨w.heap.size,1,none⟩=some (.int .i64 b.gap)/\w'.cell? ⟨w.heap.size,2,none⟩=some (.slice ma b.ms.length mc)/\w'.cell? ⟨w.heap.size,3,none⟩=some (.slice sa b.ss.length sc)/\w'.cell? ⟨w.heap.size,4,none⟩=some (.slice ra b.rs.length rc)/\w'.cell? ⟨w.heap.size+1+1,0,none⟩=some (.int .i64 m)/\w'.cell? ⟨w.heap.size+1+1,1,none⟩=some (.int .i64 g)/\w'.cell? ⟨w.heap.size+1,0,none⟩=some (.int .i64 0)/\w'.cell? ⟨w.heap.size+1,1,none⟩=some (.int .i64 0)/\w'.frozen? ⟨w.heap.size+1,0,none⟩=false/\w'.frozen? ⟨w.heap.size+1,1,none⟩=false):=fun w' h=>by
  exact ⟨h,(h.cell (by simp;omega)).trans five.c0,(h.cell (by simp;omega)).trans five.c1,(h.cell (by simp;omega)).trans five.c2,(h.cell (by simp;omega)).trans five.c3,(h.cell (by simp;omega)).trans five.c4,(h.cell (by simp;omega)).trans p0,(h.cell (by simp;omega)).trans p1,(h.cell (by simp;omega)).trans q0,(h.cell (by simp;omega)).trans q1,(h.frozen (by simp;omega)).trans r0,(h.frozen (by simp;omega)).trans r1⟩
 have HALL:=Hh hall;clear hW1 hall p0 p1 q0 q1 r0 r1 five;have hgr:=fun (w':World)=>group_at (m,g) w';have HGR:=Hh hgr;clear hgr;go_region_held3 (fun w'=>Below W1.heap.size W1 w'/\w'.cell? ⟨w.heap.size,0,none⟩=some (.int .i64 b.room)/\w'.cell? ⟨w.heap.size,1,none⟩=some (.int .i64 b.gap)/\w'.cell? ⟨w.heap.size,2,none⟩=some (.slice ma b.ms.length mc)/\w'.cell? ⟨w.heap.size,3,none⟩=some (.slice sa b.ss.length sc)/\w'.cell? ⟨w.heap.size,4,none⟩=some (.slice ra b.rs.length rc)/\w'.cell? ⟨w.heap.size+1+1,0,none⟩=some (.int .i64 m)/\w'.cell? ⟨w.heap.size+1+1,1,none⟩=some (.int .i64 g)/\w'.cell? ⟨w.heap.size+1,0,none⟩=some (.int .i64 0)/\w'.cell? ⟨w.heap.size+1,1,none⟩=some (.int .i64 0)/\w'.frozen? ⟨w.heap.size+1,0,none⟩=false/\w'.frozen? ⟨w.heap.size+1,1,none⟩=false)
  ((go_split_ands;exact HALL.out _ (bel)))
  (first
    | (go_at_call 91;(with_reducible refine (HGR.out _).mono ?_);rintro e w2 ⟨B,rfl,hB1,q0,q1,hb2⟩;have hq:∀ W,Below w2.heap.size w2 W->W.cell? ⟨B,0,none⟩=some (.int .i64 m)/\W.cell? ⟨B,1,none⟩=some (.int .i64 g)/\B < W.heap.size:=(fun W h=>⟨(h.cell hB1).trans q0,(h.cell hB1).trans q1,Nat.lt_of_lt_of_le hB1 h.size⟩);have HQ:=Hh hq;clear hq q0 q1;obtain ⟨hc2,hf2⟩:=bcell hb2;have hz2:=hb2.size;(try simp at hz2);(try (have hy2:w.heap.size+1+1+1 < w2.heap.size:=by omega)))
    | (go_at_call 66;go_split_ands;have hX:=Below.next hb0 ‹Below W1.heap.size W1 _›;(with_reducible refine (open_group_no (HB.out.below hX) HN.out (HK.out.below hX) _ (al:=if isPart b (m,g) then 0 else 6) (fun hk W hW=>group1_at (p:=(m,g)) (HB.out.below (Below.next hX hW)) (bookAl_ok hk).1.groups (HQ.out W (Below.next (by first | exact Below.refl _ _ | exact bal _ _) hW)).1 (HQ.out W (Below.next (by first | exact Below.refl _ _ | exact bal _ _) hW)).2.1 (HQ.out W (Below.next (by first | exact Below.refl _ _ | exact bal _ _) hW)).2.2) HT.out HH0.out).mono ?_);rintro e w3 ⟨rfl,hb3⟩;obtain ⟨hc3,hf3⟩:=bcell hb3;have hz3:=hb3.size;(try simp at hz3);(try (have hy3:w.heap.size+1+1+1 < w3.heap.size:=by omega))))
 all_goals
  go_wp2;exact bodyPost_ret (v:=.tuple #[.agg #[.int .i64 0,.int .i64 0],.int .i64 t]) (by simp [results,Tryz.results50,go_sem, *]) rfl ⟨rfl,bel⟩
end
section
variable {P:Program}
theorem run_app {X:World} {base:Nat} {t ty e:TypeId} {z:Value} {bytes:Nat} (ht:P.underlying t=some (.slice e)) (hi:(P.info? e).map (fun i=>(i.zero,i.size,i.bytes))=some (some z,1,bytes)) (hzs:z.cells.size=1) (hby:bytes<=100)
 {v:Value} {n:Nat} {xs:List Value} (hown:X.ownsRow base e 1 v n xs) {sa:Option Addr} {m c:Nat} {news:List Value} (hl:news.length=m) (hnews:Src1 X sa c news) (h1:∀ u∈news,u.oneCell'=true) (hnm:n+m<=1000000) (hbase:base<=X.heap.size) :
 ∃ a' c' w',(Builtin.append_ #[t,t] ty #[v,.slice sa m c]).run P X=.ok (.slice a' (n+m) c') w'/\w'.ownsRow base e 1 (.slice a' (n+m) c') (n+m) (xs ++ news)/\X.grownBy w' v.ownBlock:=by
 obtain ⟨i,hi,hz,hsz,hb⟩:=info_parts hi;obtain ⟨hn0,hcell⟩:=hnews
 cases sa with
 | some ad =>
  have hbm:(n+m) * bytes<=140737488355328:=by have:=Nat.mul_le_mul hnm hby;omega
  obtain ⟨v',w',hr,h2,h3,_,_⟩:=run_append_own_at (P:=P) X base t ty e i z 1 bytes ht hi hz hsz hb hzs (by decide) v n xs hown ad m c news (by simpa using hl) (fun j u hj=>by
   obtain ⟨ad',e',hc⟩:=hcell j u hj
   cases e'
   exact hc) h1 (by unfold maxLen;omega) hbm hbase
  rcases h2.2 with ⟨h4,h5⟩ | ⟨g,cap,cur,h4,_⟩
  ·subst h4;have hn:n=0/\m=0:=by omega
   obtain ⟨rfl,rfl⟩:=hn;exact ⟨none,0,w',hr,h2,h3⟩
  ·subst h4;exact ⟨_,_,w',hr,h2,h3⟩
 | none =>
  obtain ⟨rfl,rfl⟩:=hn0 rfl;simp only [List.length_nil] at hl;subst hl;have hshape:∃ a' c',v=.slice a' n c'/\n<=c':=by
   rcases hown.2 with ⟨rfl,rfl⟩ | ⟨g,cap,cur,rfl,_,_,h,_⟩
   ·exact ⟨none,0,rfl,Nat.le_refl _⟩
   ·exact ⟨_,_,rfl,h⟩
  obtain ⟨a',c',rfl,hle⟩:=hshape;refine ⟨a',c',X,?_,by simpa using hown,⟨rfl,rfl,rfl,Nat.le_refl _,fun _ _ _=>rfl⟩⟩;exact run_append_nothing (P:=P) X t t ty e i ht hi a' n c' hle (.slice none 0 0) ⟨.inl ⟨e,ht⟩,fun w'=>rfl,rfl,rfl,by simp,by simp⟩
theorem step_app {X W:World} {B:Nat} {ops:Array Oper} {o:Oper} {a:Act} {K:Act->World->Prop} {Q:Exit->Act->World->Prop} {E:Prop} (hgd:o.guard=none) (s x:Operand) (t:TypeId)
 (ho:o.op=.call { callee:=.builtin .append,args:=#[s,x],argTypes:=#[t,t] }) (base:Nat) (e:TypeId) {z:Value} {bytes:Nat} (ht:P.underlying t=some (.slice e)) (hi:(P.info? e).map (fun i=>(i.zero,i.size,i.bytes))=some (some z,1,bytes)) (hzs:z.cells.size=1) (hby:bytes<=100)
 {v:Value} {n:Nat} {xs:List Value} (hs:a.eval s=v) (hown:X.ownsRow base e 1 v n xs) {sa:Option Addr} {m c:Nat} {news:List Value} (hx:a.eval x=.slice sa m c) (hl:news.length=m) (hnews:Src1 X sa c news) (h1:∀ u∈news,u.oneCell'=true)
 {r:Nat} (hr:n+m=r) (hnm:r<=1000000) (hbase:base<=X.heap.size) (hW:Below B W X) (hB:B<=base)
 (h:∀ a' c' w',w'.ownsRow base e 1 (.slice a' r c') r (xs ++ news)->KS (fun k=>v.ownBlock≠some k) X w'->Below B W w'->K (a.put o.dst (.slice a' r c')) w') :
 if Region.wanted o (yielded ops a.tmps)=true then Oper.wp P o a X K Q else E:=by
 subst hr;have hw:Region.wanted o (yielded ops a.tmps)=true:=by simp [Region.wanted,hgd]
 rw [if_pos hw];obtain ⟨a',c',w',hrun,h2,h3⟩:=run_app (P:=P) (ty:=o.type) ht hi hzs hby hown hl hnews h1 hnm hbase;unfold Oper.wp execOp;simp only [ho,resolve,invoke,builtin,Sem.run_bind,Sem.run_pure,Result.andThen_ok,List.map_toArray,List.map_cons,List.map_nil,hs,hx,hrun];exact h a' c' w' h2 (KS.own h3 fun g hg=>by simp [hg]) (hW.trans ((below_own hown h3 hbase).mono hB))
theorem step_appW {X:World} {ops:Array Oper} {o:Oper} {a:Act} {K:Act->World->Prop} {Q:Exit->Act->World->Prop} {E:Prop} (W:World) (hgd:o.guard=none) (s x:Operand) (t:TypeId)
 (ho:o.op=.call { callee:=.builtin .append,args:=#[s,x],argTypes:=#[t,t] }) (e:TypeId) {z:Value} {bytes:Nat} (ht:P.underlying t=some (.slice e)) (hi:(P.info? e).map (fun i=>(i.zero,i.size,i.bytes))=some (some z,1,bytes)) (hzs:z.cells.size=1) (hby:bytes<=100)
 (v:Value) (n:Nat) (xs:List Value) (hs:a.eval s=v) (sa:Option Addr) (m c:Nat) (news:List Value) (hx:a.eval x=.slice sa m c) (hl:news.length=m) (h1:∀ u∈news,u.oneCell'=true)
 (r:Nat) (hr:n+m=r) (hnm:r<=1000000) (hW:Below W.heap.size W X) (hown:X.ownsRow W.heap.size e 1 v n xs) (hnews:Src1 X sa c news)
 (h:∀ a' c' w',w'.ownsRow W.heap.size e 1 (.slice a' r c') r (xs ++ news)->KS (fun k=>v.ownBlock≠some k) X w'->Below W.heap.size W w'->K (a.put o.dst (.slice a' r c')) w') :
 if Region.wanted o (yielded ops a.tmps)=true then Oper.wp P o a X K Q else E :=
 step_app hgd s x t ho _ e ht hi hzs hby hs hown hx hl hnews h1 hr hnm hW.size hW (Nat.le_refl _) h
theorem own_lit {w:World} {base:Nat} {e:TypeId} {n:Nat} (hn:n=w.heap.size) (hb:base<=n):(w.alloc (.cells #[] e)).ownsRow base e 1 (.slice (some ⟨n,0,none⟩) 0 0) 0 []:=by
 subst hn;exact World.ownsRow_lit w #[] 0 hb (by decide) rfl
end
theorem ints_src {w:World} {a:Option Addr} {c:Nat} {l:List Int} (h:IntsAt w a l) (hz:a=none->c=0):Src1 w a c (l.map (Value.int .i64)):=by
 refine ⟨fun ha=>⟨hz ha,?_⟩,fun j u hj=>?_⟩
 ·cases l with
  | nil=>rfl
  | cons x l =>
   obtain ⟨b,o,e,_⟩:=h 0 (by simp);rw [ha] at e;cases e
 ·rw [List.getElem?_map] at hj;obtain ⟨x,hx,rfl⟩:=Option.map_eq_some_iff.1 hj;obtain ⟨hjl,rfl⟩:=List.getElem?_eq_some_iff.1 hx;obtain ⟨b,o,rfl,_,hc⟩:=h j hjl;refine ⟨_,rfl,?_⟩;have:Addr.add ⟨b,o,none⟩ j=⟨b,o+j,none⟩:=by unfold Addr.add;split <;> simp_all
  rw [this];exact hc
section
variable {w w':World}
theorem lists_of_row {base e n c:Nat} {a:Option Addr} {vs:List Value} {ls:List (List Int)} (h:w.ownsRow base e 1 (.slice a n c) n vs) (k:ListsV w vs ls):ListsAt w a ls:=fun i hi=>by
 have hv:i < vs.length:=by rw [k.1];exact hi
 obtain ⟨g,rfl,_,h2,h3⟩:=row_cell h i hv;exact ⟨g,0,rfl,h2,vs[i],by rw [Nat.zero_add,h3,List.getElem?_eq_getElem hv],k.2 i _ _ (List.getElem?_eq_getElem hv) (List.getElem?_eq_getElem hi)⟩
theorem src_row {base e n c:Nat} {a:Option Addr} {vs:List Value} (h:w.ownsRow base e 1 (.slice a n c) n vs):Src1 w a c vs:=by
 obtain ⟨hl,⟨h1,h2⟩ | ⟨g,cap,cur,h1,_⟩⟩:=id h
 ·cases h1;have hv:vs=[]:=List.length_eq_zero_iff.1 (by rw [hl]);subst hv;exact ⟨fun _=>⟨rfl,rfl⟩,fun j u hj=>by simp at hj⟩
 ·cases h1;exact ⟨fun h=>(by cases h),fun j u hj=>⟨_,rfl,h.cells (g:=g) rfl j u hj⟩⟩
end
theorem getD_of_lt {l:List Int} {k:Nat} (h:k < l.length):l.getD k 0=l[k]:=by simp [List.getD,h]
theorem count_nodup {l:List Prt} (h:l.Nodup) (p:Prt):l.count p=if decide (p∈l)=true then 1 else 0:=by
 rw [h.count];simp only [decide_eq_true_eq]
theorem copiesK_le {b:Bk} (hO:BkOk b) {c:List Int} (hlc:c.length=b.ss.length) (p:Prt):∀ k,k<=b.ss.length->copiesK b c k p<=k
 | 0,_=>by simp [copiesK]
 | k+1,h=>by
  rw [copiesK_succ b c k p (by omega) (by omega),count_nodup ((List.take_sublist _ _).nodup (hO.nodup _ (List.getElem_mem (by omega))))];have:=copiesK_le hO hlc p k (by omega);split <;> omega
section
variable {b:Bk} {vr vg vm vs vc:Value} {w:World}
theorem rCopies_at (hB:BookAt w b vr vg vm vs vc) (hO:BkOk b) {la:Option Addr} {ln lc:Nat} {l:List Int} (hL:IntsAt w la l) (hln:ln=l.length) (hll:l.length=b.ss.length) (hC:Came b l) (p:Prt) {t:Int} (ht:copies b l p=t) :
 Calls Tryz.prog 20 #[.agg #[vr,vg,vm,vs,vc],.slice la ln lc,.agg #[.int .i64 p.1,.int .i64 p.2]] w fun e w'=>e=.returned (.int .i64 t)/\Below w.heap.size w w':=by
 obtain ⟨pm,pg⟩:=p;subst hln;obtain ⟨sa,sc,rfl,hS,hsl⟩:=hB.ss;have hs4:=hO.sl;have HS:=Hh hS;have HO:=Hh hO;have HL:=Hh hL;have HC:=Hh hC;have HT:=Hh ht;clear hB hO hL hC hS ht
 go_enter Tryz.func20,Tryz.ntmps20
 go_wp2;obtain ⟨W0,hW0⟩:∃ W0,W0=(w.alloc (.cells #[vr,vg,vm,.slice sa b.ss.length sc,vc] 26)).alloc (.cells #[.int .i64 pm,.int .i64 pg] 41):=⟨_,rfl⟩;rw [← hW0];have hb0:Below w.heap.size w W0:=by rw [hW0];(exact bel)
 have n3:W0.cell? ⟨w.heap.size,3,none⟩=some (.slice sa b.ss.length sc):=by rw [hW0,World.cell?_alloc_past _ _ _ (by simp),World.cell?_alloc_at _ _ _ _ rfl];rfl
 have p0:W0.cell? ⟨w.heap.size+1,0,none⟩=some (.int .i64 pm):=by rw [hW0,World.cell?_alloc_at _ _ _ _ (by simp)];rfl
 have p1:W0.cell? ⟨w.heap.size+1,1,none⟩=some (.int .i64 pg):=by rw [hW0,World.cell?_alloc_at _ _ _ _ (by simp)];rfl
 have hs0:w.heap.size+1 < W0.heap.size:=by rw [hW0];simp
 clear hW0;go_loopw [7,8] (fun v i wr=>∃ (k:Nat),k<=l.length/\i=.int .i64 k/\v=.int .i64 (copiesK b l k (pm,pg):Nat)/\Below W0.heap.size W0 wr) (fun _ i _=>l.length - (intOf i).toNat)
 case atStart=>exact ⟨0,Nat.zero_le _,rfl,by simp [copiesK],Below.refl _ _⟩
 case round =>
  obtain ⟨k,hk,rfl,rfl,hW⟩:=hrel;have hWs:=hW.size;have m3:=(hW.cell (p:=⟨w.heap.size,3,none⟩) (by simp;omega)).trans n3;have q0:=(hW.cell (p:=⟨w.heap.size+1,0,none⟩) hs0).trans p0;have q1:=(hW.cell (p:=⟨w.heap.size+1,1,none⟩) hs0).trans p1;have hx1:w.heap.size < wr.heap.size:=by omega
  have hx2:w.heap.size+1 < wr.heap.size:=by omega
  have hbw:=Below.next hb0 hW;have hcle:=copiesK_le HO.out hll (pm,pg) k (by omega);by_cases hlt:k < l.length
  ·have hks:k < b.ss.length:=by omega
   obtain ⟨lb,lo,rfl,hlb,e0⟩:=HL.out k hlt;have e0:=(hbw.cell hlb).trans e0;have hlb2:lb < wr.heap.size:=Nat.lt_of_lt_of_le hlb hbw.size;obtain ⟨sb,so,rfl,hsb,pa,pc,h0,hpc,hpl,hP⟩:=HS.out k hks;have h0:=(hbw.cell hsb).trans h0;have hsb2:sb < wr.heap.size:=Nat.lt_of_lt_of_le hsb hbw.size;have hck:=HC.out k hks;rw [getD_of_lt hlt] at hck;have hcs:=copiesK_succ b l k (pm,pg) hks hlt;rw [getD_of_lt hlt,count_nodup ((List.take_sublist _ _).nodup (HO.out.nodup _ (List.getElem_mem hks)))] at hcs;generalize l[k]=n at e0 hck hcs;obtain ⟨n,rfl⟩:∃ m:Nat,n=m:=⟨n.toNat,by omega⟩;have HPT:=Hh ((hP.below hbw).take n);generalize b.ss[k]=s at h0 hpc hpl hck hcs HPT;have hn:n<=s.length:=by omega
   have hnpc:(n:Int)<=pc:=by omega
   have hn0:(0:Int)<=n:=by omega
   have hln:n=(s.take n).length:=by simp;omega
   have HLN:=Hh hln;have hll2:(s.take n).length<=1000000:=by simp;omega
   rw [Int.toNat_natCast] at hcs;have hb1:Below wr.heap.size wr wr:=Below.refl _ _;have hwr:IntKind.i64.wrap ((copiesK b l k (pm,pg):Nat)+1:Int)=((copiesK b l k (pm,pg)+1:Nat):Int):=by rw [IntWalk.i64_in _ (by omega)];omega
   generalize copiesK b l k (pm,pg)=ck at hcs hwr hcle;cases hd:decide ((pm,pg)∈s.take n)
   ·have HD:=Hh hd;rw [hd] at hcs;simp only [Bool.false_eq_true,if_false,Nat.add_zero] at hcs;have HCS:=Hh hcs;clear hd hcs hln hP hck;go_wp2
    (refine wp_region_bel (by kernel_rfl) (by kernel_rfl) ?_;(repeat (go_big_quiet_step ((go_at_call 70;with_reducible exact Calls.bel_of (has_at (p:=(pm,pg)) (HPT.out.below (later_below _ _)) HLN.out hll2 HD.out)))));refine wpQuiet_nil ?_;rintro _ ⟨xq,rfl⟩)
    go_wp2;go_roundw
    case rel=>exact ⟨k+1,by omega,by go_num,by first | (rw [HCS.out];done) | (rw [HCS.out];rfl) | (rw [HCS.out];simp),Below.next hW (later_below _ _)⟩
    case measure=>simp [intOf];omega
   ·have HD:=Hh hd;rw [hd] at hcs;simp only [if_true] at hcs;have HCS:=Hh hcs;clear hd hcs hln hP hck;go_wp2
    (refine wp_region_bel (by kernel_rfl) (by kernel_rfl) ?_;(repeat (go_big_quiet_step ((go_at_call 70;with_reducible exact Calls.bel_of (has_at (p:=(pm,pg)) (HPT.out.below (later_below _ _)) HLN.out hll2 HD.out)))));refine wpQuiet_nil ?_;rintro _ ⟨xq,rfl⟩)
    go_wp2;go_roundw
    case rel=>exact ⟨k+1,by omega,by go_num,by first | (rw [HCS.out];done) | (rw [HCS.out];rfl) | (rw [HCS.out];simp),Below.next hW (later_below _ _)⟩
    case measure=>simp [intOf];omega
  ·obtain rfl:k=l.length:=by omega
   have htt:((copiesK b l l.length (pm,pg):Nat):Int)=t:=by rw [hll,copiesK_all];exact HT.out
   have HTT:=Hh htt;clear htt;go_wp2;go_ret;exact ⟨by rw [← HTT.out];rfl,hbw⟩
theorem haveOf_succ (b:Bk) (c:List Int) (m:Int) (k:Nat):((List.range (k+1)).filter fun (g:Nat)=>decide (0 < copies b c (m,(g:Int)))).length=((List.range k).filter fun (g:Nat)=>decide (0 < copies b c (m,(g:Int)))).length+if 0 < copies b c (m,(k:Int)) then 1 else 0:=by
 rw [List.range_succ,List.filter_append,List.length_append];congr 1;by_cases h:0 < copies b c (m,(k:Int)) <;> simp [h]
theorem have_le (b:Bk) (c:List Int) (m:Int) (k:Nat):((List.range k).filter fun (g:Nat)=>decide (0 < copies b c (m,(g:Int)))).length<=k:=Nat.le_trans (List.length_filter_le _ _) (by simp)
theorem rHave_at (hB:BookAt w b vr vg vm vs vc) (hO:BkOk b) {la:Option Addr} {ln lc:Nat} {l:List Int} (hL:IntsAt w la l) (hln:ln=l.length) (hll:l.length=b.ss.length) (hC:Came b l) {m:Int} (hm:0<=m/\m.toNat < b.ms.length) {t:Int} (ht:haveOf b l m=t) :
 Calls Tryz.prog 60 #[.agg #[vr,vg,vm,vs,vc],.slice la ln lc,.int .i64 m] w fun e w'=>e=.returned (.int .i64 t)/\Below w.heap.size w w':=by
 have hcop:=fun (p:Prt) (w':World) (hb:Below w.heap.size w w')=>rCopies_at (lc:=lc) (hB.below hb) hO (hL.below hb) hln hll hC p rfl;obtain ⟨ma,mc,rfl,hM,hml⟩:=hB.ms;obtain ⟨m,rfl⟩:∃ n:Nat,m=n:=⟨m.toNat,by omega⟩;have hml5:=hO.ml;have hmb:m < b.ms.length:=by omega
 have hmg:=hO.groups _ (List.getElem_mem hmb);have hgs:(b.ms[(m:Int).toNat]?).elim 0 Msg.groups=b.ms[m].groups:=by rw [Int.toNat_natCast,List.getElem?_eq_getElem hmb];rfl
 obtain ⟨mb,mo,rfl,hmlt,_,h1,_⟩:=hM m hmb;unfold haveOf at ht;rw [hgs] at ht;generalize b.ms[m].groups=gr at hmg h1 ht hgs;obtain ⟨gn,rfl⟩:∃ n:Nat,gr=n:=⟨gr.toNat,by omega⟩;rw [Int.toNat_natCast] at ht;have HCOP:=Hh hcop;have HT:=Hh ht;have hm0:(0:Int)<=m:=by omega
 have hmi:(m:Int) < b.ms.length:=by omega
 clear hB hO hL hC hM ht hcop hm hgs hln hll
 go_enter Tryz.func60,Tryz.ntmps60
 go_wp2;obtain ⟨W0,hW0⟩:∃ W0,W0=w.alloc (.cells #[vr,vg,.slice (some ⟨mb,mo,none⟩) b.ms.length mc,vs,vc] 26):=⟨_,rfl⟩;rw [← hW0];have hb0:Below w.heap.size w W0:=by rw [hW0];(exact bel)
 have nn:∀ k u,(#[vr,vg,.slice (some ⟨mb,mo,none⟩) b.ms.length mc,vs,vc]:Array Value)[k]? = some u->W0.cell? ⟨w.heap.size,k,none⟩=some u:=fun k u hk=>by
  rw [hW0,World.cell?_alloc_at _ _ _ _ rfl];exact hk
 have n0:=nn 0 _ rfl;have n1:=nn 1 _ rfl;have n2:=nn 2 _ rfl;have n3:=nn 3 _ rfl;have n4:=nn 4 _ rfl;have hs0:w.heap.size < W0.heap.size:=by rw [hW0];simp
 clear hW0 nn;go_loopw [7,8] (fun v i wr=>∃ (k:Nat),k<=gn/\i=.int .i64 k/\v=.int .i64 (((List.range k).filter fun (g:Nat)=>decide (0 < copies b l ((m:Int),(g:Int)))).length:Nat)/\Below W0.heap.size W0 wr) (fun _ i _=>gn - (intOf i).toNat)
 case atStart=>exact ⟨0,Nat.zero_le _,rfl,by simp,Below.refl _ _⟩
 case round =>
  obtain ⟨k,hk,rfl,rfl,hW⟩:=hrel;have hWs:=hW.size;have m0:=(hW.cell (p:=⟨w.heap.size,0,none⟩) hs0).trans n0;have m1:=(hW.cell (p:=⟨w.heap.size,1,none⟩) hs0).trans n1;have m2:=(hW.cell (p:=⟨w.heap.size,2,none⟩) hs0).trans n2;have m3:=(hW.cell (p:=⟨w.heap.size,3,none⟩) hs0).trans n3;have m4:=(hW.cell (p:=⟨w.heap.size,4,none⟩) hs0).trans n4;have hx1:w.heap.size < wr.heap.size:=by omega
  have hbw:=Below.next hb0 hW;have g1:=(hbw.cell hmlt).trans h1;have hmlt2:mb < wr.heap.size:=Nat.lt_of_lt_of_le hmlt hbw.size;have hle:=have_le b l (m:Int) k;by_cases hlt:k < gn
  ·have hsu:=haveOf_succ b l (m:Int) k;have hcp:=fun (w':World) (hb:Below w.heap.size w w')=>HCOP.out ((m:Int),(k:Int)) w' hb;have HCP:=Hh hcp;generalize ((List.range k).filter fun (g:Nat)=>decide (0 < copies b l ((m:Int),(g:Int)))).length=hv at hsu hle;generalize copies b l ((m:Int),(k:Int))=cc at hsu HCP;clear hcp;have hwr:IntKind.i64.wrap ((hv:Int)+1)=((hv+1:Nat):Int):=by rw [IntWalk.i64_in _ (by omega)];omega
   have hki:(k:Int) < gn:=by omega
   by_cases hc0:0 < cc
   ·rw [if_pos hc0] at hsu;have HSU:=Hh hsu;clear hsu;go_wp2_with (go_at_call 20;(with_reducible refine (HCP.out _ hbw).mono ?_);rintro e w5 ⟨rfl,hb5⟩);go_roundw
    case rel=>exact ⟨k+1,by omega,by go_num,by first | (rw [HSU.out];done) | (rw [HSU.out];rfl) | (rw [HSU.out];simp),Below.next hW hb5⟩
    case measure=>simp [intOf];omega
   ·rw [if_neg hc0,Nat.add_zero] at hsu;have HSU:=Hh hsu;clear hsu;go_wp2_with (go_at_call 20;(with_reducible refine (HCP.out _ hbw).mono ?_);rintro e w5 ⟨rfl,hb5⟩);go_roundw
    case rel=>exact ⟨k+1,by omega,by go_num,by first | (rw [HSU.out];done) | (rw [HSU.out];rfl) | (rw [HSU.out];simp),Below.next hW hb5⟩
    case measure=>simp [intOf];omega
  ·obtain rfl:k=gn:=by omega
   have HTT:=HT;clear HT;go_wp2;go_ret;exact ⟨by rw [← HTT.out];rfl,hbw⟩
end
section
variable {b:Bk} {vr vg vm vs vc:Value} {w:World} {la:Option Addr} {ln lc:Nat} {l:List Int}
theorem rRight_0 (hB:BookAt w b vr vg vm vs vc) (hO:BkOk b) (hL:IntsAt w la l) (hln:ln=l.length) (hll:l.length=b.ss.length) (hC:Came b l) (a rb m:Int) (hr:recAl b ⟨0,a,rb,m⟩=0) {t:Bool} (h:rightR b l ⟨0,a,rb,m⟩=t) :
 Calls Tryz.prog 127 #[.agg #[vr,vg,vm,vs,vc],.slice la ln lc,.agg #[.int .i64 0,.int .i64 a,.int .i64 rb,.int .i64 m]] w fun e w'=>e=.returned (.bool t)/\Below w.heap.size w w':=by
 have ha:=(recAl_facts hr).2.1 (by decide);have hb2:=inB_nat.1 ha;obtain ⟨n,rfl⟩:∃ n:Nat,a=n:=⟨a.toNat,by omega⟩;obtain ⟨sa,sc,rfl,hS,hsl⟩:=hB.ss;have hn:n < b.ss.length:=by omega
 have hnl:n < l.length:=by omega
 have hs4:=hO.sl;have hp5:=hO.pl _ (List.getElem_mem hn);obtain ⟨sb,so,rfl,hsb,pa,pc,h0,hpc,hpl,_⟩:=hS n hn;obtain ⟨lb,lo,rfl,hlb,e0⟩:=hL n hnl;have hd:l.getD (n:Int).toNat 0=l[n]:=by rw [Int.toNat_natCast];exact getD_of_lt hnl
 have hgs:((b.ss[(n:Int).toNat]?).elim 0 List.length:Nat)=b.ss[n].length:=by rw [Int.toNat_natCast,List.getElem?_eq_getElem hn];rfl
 simp [rightR] at h;simp at hd hgs
 try rw [hd] at h
 try rw [hgs] at h
 clear hd hgs;generalize l[n]=ck at e0 h;generalize b.ss[n]=s at h0 hpc hpl h hp5;have hln2:(n:Int) < ln:=by omega
 have hsn2:(n:Int) < b.ss.length:=by omega
 have hn0:(0:Int)<=n:=by omega
 have H:=Hh h;clear h hB hO hL hC hS ha hr hln hll hb2 hnl
 go_enter Tryz.func127,Tryz.ntmps127
 go_wp2;go_quiet (fail);go_wp2;go_ret;exact ⟨by rw [← H.out];first | rfl | simp,bel⟩
theorem rRight_1 (hB:BookAt w b vr vg vm vs vc) (hO:BkOk b) (hL:IntsAt w la l) (hln:ln=l.length) (hll:l.length=b.ss.length) (hC:Came b l) (a rb m:Int) (hr:recAl b ⟨1,a,rb,m⟩=0) {t:Bool} (h:rightR b l ⟨1,a,rb,m⟩=t) :
 Calls Tryz.prog 127 #[.agg #[vr,vg,vm,vs,vc],.slice la ln lc,.agg #[.int .i64 1,.int .i64 a,.int .i64 rb,.int .i64 m]] w fun e w'=>e=.returned (.bool t)/\Below w.heap.size w w':=by
 have ha:=(recAl_facts hr).2.1 (by decide);have hb2:=inB_nat.1 ha;obtain ⟨n,rfl⟩:∃ n:Nat,a=n:=⟨a.toNat,by omega⟩;obtain ⟨sa,sc,rfl,hS,hsl⟩:=hB.ss;have hn:n < b.ss.length:=by omega
 have hnl:n < l.length:=by omega
 have hs4:=hO.sl;have hp5:=hO.pl _ (List.getElem_mem hn);obtain ⟨sb,so,rfl,hsb,pa,pc,h0,hpc,hpl,_⟩:=hS n hn;obtain ⟨lb,lo,rfl,hlb,e0⟩:=hL n hnl;have hd:l.getD (n:Int).toNat 0=l[n]:=by rw [Int.toNat_natCast];exact getD_of_lt hnl
 have hgs:((b.ss[(n:Int).toNat]?).elim 0 List.length:Nat)=b.ss[n].length:=by rw [Int.toNat_natCast,List.getElem?_eq_getElem hn];rfl
 simp [rightR] at h;simp at hd hgs
 try rw [hd] at h
 try rw [hgs] at h
 clear hd hgs;generalize l[n]=ck at e0 h;generalize b.ss[n]=s at h0 hpc hpl h hp5;have hln2:(n:Int) < ln:=by omega
 have hsn2:(n:Int) < b.ss.length:=by omega
 have hn0:(0:Int)<=n:=by omega
 have H:=Hh h;clear h hB hO hL hC hS ha hr hln hll hb2 hnl
 go_enter Tryz.func127,Tryz.ntmps127
 go_wp2;go_quiet (fail);go_wp2;go_ret;exact ⟨by rw [← H.out];first | rfl | simp,bel⟩
theorem rRight_2 (hB:BookAt w b vr vg vm vs vc) (hO:BkOk b) (hL:IntsAt w la l) (hln:ln=l.length) (hll:l.length=b.ss.length) (hC:Came b l) (a rb m:Int) (hr:recAl b ⟨2,a,rb,m⟩=0) {t:Bool} (h:rightR b l ⟨2,a,rb,m⟩=t) :
 Calls Tryz.prog 127 #[.agg #[vr,vg,vm,vs,vc],.slice la ln lc,.agg #[.int .i64 2,.int .i64 a,.int .i64 rb,.int .i64 m]] w fun e w'=>e=.returned (.bool t)/\Below w.heap.size w w':=by
 have ha:=(recAl_facts hr).2.1 (by decide);have hb2:=inB_nat.1 ha;obtain ⟨n,rfl⟩:∃ n:Nat,a=n:=⟨a.toNat,by omega⟩;obtain ⟨sa,sc,rfl,hS,hsl⟩:=hB.ss;have hn:n < b.ss.length:=by omega
 have hnl:n < l.length:=by omega
 have hs4:=hO.sl;have hp5:=hO.pl _ (List.getElem_mem hn);obtain ⟨sb,so,rfl,hsb,pa,pc,h0,hpc,hpl,_⟩:=hS n hn;obtain ⟨lb,lo,rfl,hlb,e0⟩:=hL n hnl;have hd:l.getD (n:Int).toNat 0=l[n]:=by rw [Int.toNat_natCast];exact getD_of_lt hnl
 have hgs:((b.ss[(n:Int).toNat]?).elim 0 List.length:Nat)=b.ss[n].length:=by rw [Int.toNat_natCast,List.getElem?_eq_getElem hn];rfl
 simp [rightR] at h;simp at hd hgs
 try rw [hd] at h
 try rw [hgs] at h
 clear hd hgs;generalize l[n]=ck at e0 h;generalize b.ss[n]=s at h0 hpc hpl h hp5;have hln2:(n:Int) < ln:=by omega
 have hsn2:(n:Int) < b.ss.length:=by omega
 have hn0:(0:Int)<=n:=by omega
 have H:=Hh h;clear h hB hO hL hC hS ha hr hln hll hb2 hnl
 go_enter Tryz.func127,Tryz.ntmps127
 go_wp2;go_quiet (fail);go_wp2;go_ret;exact ⟨by rw [← H.out];first | rfl | simp,bel⟩
theorem rRight_3 (hB:BookAt w b vr vg vm vs vc) (hO:BkOk b) (hL:IntsAt w la l) (hln:ln=l.length) (hll:l.length=b.ss.length) (hC:Came b l) (a rb m:Int) (hr:recAl b ⟨3,a,rb,m⟩=0) {t:Bool} (h:rightR b l ⟨3,a,rb,m⟩=t) :
 Calls Tryz.prog 127 #[.agg #[vr,vg,vm,vs,vc],.slice la ln lc,.agg #[.int .i64 3,.int .i64 a,.int .i64 rb,.int .i64 m]] w fun e w'=>e=.returned (.bool t)/\Below w.heap.size w w':=by
 have ha:=(recAl_facts hr).2.1 (by decide);have hb2:=inB_nat.1 ha;obtain ⟨n,rfl⟩:∃ n:Nat,a=n:=⟨a.toNat,by omega⟩;obtain ⟨sa,sc,rfl,hS,hsl⟩:=hB.ss;have hn:n < b.ss.length:=by omega
 have hnl:n < l.length:=by omega
 have hs4:=hO.sl;have hp5:=hO.pl _ (List.getElem_mem hn);obtain ⟨sb,so,rfl,hsb,pa,pc,h0,hpc,hpl,_⟩:=hS n hn;obtain ⟨lb,lo,rfl,hlb,e0⟩:=hL n hnl;have hd:l.getD (n:Int).toNat 0=l[n]:=by rw [Int.toNat_natCast];exact getD_of_lt hnl
 have hgs:((b.ss[(n:Int).toNat]?).elim 0 List.length:Nat)=b.ss[n].length:=by rw [Int.toNat_natCast,List.getElem?_eq_getElem hn];rfl
 simp [rightR] at h;simp at hd hgs
 try rw [hd] at h
 try rw [hgs] at h
 clear hd hgs;generalize l[n]=ck at e0 h;generalize b.ss[n]=s at h0 hpc hpl h hp5;have hln2:(n:Int) < ln:=by omega
 have hsn2:(n:Int) < b.ss.length:=by omega
 have hn0:(0:Int)<=n:=by omega
 have H:=Hh h;clear h hB hO hL hC hS ha hr hln hll hb2 hnl
 go_enter Tryz.func127,Tryz.ntmps127
 go_wp2;go_quiet (fail);go_wp2;go_ret;exact ⟨by rw [← H.out];first | rfl | simp,bel⟩
theorem rRight_4 (hB:BookAt w b vr vg vm vs vc) (hO:BkOk b) (hL:IntsAt w la l) (hln:ln=l.length) (hll:l.length=b.ss.length) (hC:Came b l) (a rb m:Int) (hr:recAl b ⟨4,a,rb,m⟩=0) {t:Bool} (h:rightR b l ⟨4,a,rb,m⟩=t) :
 Calls Tryz.prog 127 #[.agg #[vr,vg,vm,vs,vc],.slice la ln lc,.agg #[.int .i64 4,.int .i64 a,.int .i64 rb,.int .i64 m]] w fun e w'=>e=.returned (.bool t)/\Below w.heap.size w w':=by
 have hcop:=fun (w':World) (hb:Below w.heap.size w w')=>rCopies_at (lc:=lc) (hB.below hb) hO (hL.below hb) hln hll hC (a,rb) rfl;simp [rightR] at h;generalize copies b l (a,rb)=cc at hcop h;have HCOP:=Hh hcop;have H:=Hh h;clear hcop h hB hO hL hC hr hln hll
 go_enter Tryz.func127,Tryz.ntmps127
 go_wp2
 (refine wp_region_bel (by kernel_rfl) (by kernel_rfl) ?_;(repeat (go_big_quiet_step ((go_at_call 20;with_reducible exact Calls.bel_of (HCOP.out _ (Below.next (Below.al (Below.al (Below.refl _ _) _) _) (later_below _ _)))))));refine wpQuiet_nil ?_;rintro _ ⟨xq,rfl⟩)
 go_wp2;go_ret;exact ⟨by rw [← H.out];first | rfl | simp,Below.next (Below.al (Below.al (Below.refl _ _) _) _) (later_below _ _)⟩
theorem rRight_5 (hB:BookAt w b vr vg vm vs vc) (hO:BkOk b) (hL:IntsAt w la l) (hln:ln=l.length) (hll:l.length=b.ss.length) (hC:Came b l) (a rb m:Int) (hr:recAl b ⟨5,a,rb,m⟩=0) {t:Bool} (h:rightR b l ⟨5,a,rb,m⟩=t) :
 Calls Tryz.prog 127 #[.agg #[vr,vg,vm,vs,vc],.slice la ln lc,.agg #[.int .i64 5,.int .i64 a,.int .i64 rb,.int .i64 m]] w fun e w'=>e=.returned (.bool t)/\Below w.heap.size w w':=by
 have ha:=(recAl_facts hr).2.2.2 rfl;have hb2:=inB_nat.1 ha;have hcop:=fun (w':World) (hb:Below w.heap.size w w')=>rHave_at (lc:=lc) (hB.below hb) hO (hL.below hb) hln hll hC (m:=a) (by omega) rfl;simp [rightR] at h;generalize haveOf b l a=cc at hcop h;have HCOP:=Hh hcop;have H:=Hh h;clear hcop h hB hO hL hC hr hln hll ha hb2
 go_enter Tryz.func127,Tryz.ntmps127
 go_wp2
 (refine wp_region_bel (by kernel_rfl) (by kernel_rfl) ?_;(repeat (go_big_quiet_step ((go_at_call 60;with_reducible exact Calls.bel_of (HCOP.out _ (Below.next (Below.al (Below.al (Below.refl _ _) _) _) (later_below _ _)))))));refine wpQuiet_nil ?_;rintro _ ⟨xq,rfl⟩)
 go_wp2;go_ret;exact ⟨by rw [← H.out];first | rfl | simp,Below.next (Below.al (Below.al (Below.refl _ _) _) _) (later_below _ _)⟩
theorem rRight_at (hB:BookAt w b vr vg vm vs vc) (hO:BkOk b) (hL:IntsAt w la l) (hln:ln=l.length) (hll:l.length=b.ss.length) (hC:Came b l) (r:Rec) (hr:recAl b r=0) {t:Bool} (h:rightR b l r=t) :
 Calls Tryz.prog 127 #[.agg #[vr,vg,vm,vs,vc],.slice la ln lc,.agg #[.int .i64 r.k,.int .i64 r.a,.int .i64 r.b,.int .i64 r.m]] w fun e w'=>e=.returned (.bool t)/\Below w.heap.size w w':=by
 obtain ⟨k,a,rb,m⟩:=r;have:=(recAl_facts hr).1;have:k=0∨k=1∨k=2∨k=3∨k=4∨k=5:=by omega
 rcases this with rfl | rfl | rfl | rfl | rfl | rfl
 ·exact rRight_0 hB hO hL hln hll hC a rb m hr h
 ·exact rRight_1 hB hO hL hln hll hC a rb m hr h
 ·exact rRight_2 hB hO hL hln hll hC a rb m hr h
 ·exact rRight_3 hB hO hL hln hll hC a rb m hr h
 ·exact rRight_4 hB hO hL hln hll hC a rb m hr h
 ·exact rRight_5 hB hO hL hln hll hC a rb m hr h
theorem rRightAll_at (hB:BookAt w b vr vg vm vs vc) (hO:BkOk b) (hL:IntsAt w la l) (hln:ln=l.length) (hll:l.length=b.ss.length) (hC:Came b l) (hr:∀ r∈b.rs,recAl b r=0) {t:Bool} (ht:right b l=t) :
 Calls Tryz.prog 107 #[.agg #[vr,vg,vm,vs,vc],.slice la ln lc] w fun e w'=>e=.returned (.bool t)/\Below w.heap.size w w':=by
 have hone:=fun (r:Rec) (hm:r∈b.rs) (w':World) (hb:Below w.heap.size w w') (t:Bool) (ht:rightR b l r=t)=>rRight_at (lc:=lc) (hB.below hb) hO (hL.below hb) hln hll hC r (hr r hm) ht;obtain ⟨ra,rc,rfl,hR,hrl⟩:=hB.rs;have HONE:=Hh hone;have HR:=Hh hR;have HT:=Hh ht;clear hone hB hO hL hln hll hC hr hR ht
 go_enter Tryz.func107,Tryz.ntmps107
 go_wp2;obtain ⟨W0,hW0⟩:∃ W0,W0=w.alloc (.cells #[vr,vg,vm,vs,.slice ra b.rs.length rc] 26):=⟨_,rfl⟩;rw [← hW0];have hb0:Below w.heap.size w W0:=by rw [hW0];(exact bel)
 have nn:∀ k u,(#[vr,vg,vm,vs,.slice ra b.rs.length rc]:Array Value)[k]? = some u->W0.cell? ⟨w.heap.size,k,none⟩=some u:=fun k u hk=>by
  rw [hW0,World.cell?_alloc_at _ _ _ _ rfl];exact hk
 have n0:=nn 0 _ rfl;have n1:=nn 1 _ rfl;have n2:=nn 2 _ rfl;have n3:=nn 3 _ rfl;have n4:=nn 4 _ rfl;have hs0:w.heap.size < W0.heap.size:=by rw [hW0];simp
 clear hW0 nn;go_loopw [5] (fun i wr=>∃ (k:Nat),k<=b.rs.length/\i=.int .i64 k/\Hid ((b.rs.drop k).all (rightR b l)=t)/\Below W0.heap.size W0 wr) (fun i _=>b.rs.length - (intOf i).toNat)
 case atStart=>exact ⟨0,Nat.zero_le _,rfl,HT.out,Below.refl _ _⟩
 case round =>
  obtain ⟨k,hk,rfl,hG,hW⟩:=hrel;have hWs:=hW.size;have m0:=(hW.cell (p:=⟨w.heap.size,0,none⟩) hs0).trans n0;have m1:=(hW.cell (p:=⟨w.heap.size,1,none⟩) hs0).trans n1;have m2:=(hW.cell (p:=⟨w.heap.size,2,none⟩) hs0).trans n2;have m3:=(hW.cell (p:=⟨w.heap.size,3,none⟩) hs0).trans n3;have m4:=(hW.cell (p:=⟨w.heap.size,4,none⟩) hs0).trans n4;have hx1:w.heap.size < wr.heap.size:=by omega
  have hbw:=Below.next hb0 hW;have hg0:=hG.out;by_cases hlt:k < b.rs.length
  ·obtain ⟨rb,ro,rfl,hrb,e0,e1,e2,e3⟩:=HR.out k hlt;have e0:=(hbw.cell hrb).trans e0;have e1:=(hbw.cell hrb).trans e1;have e2:=(hbw.cell hrb).trans e2;have e3:=(hbw.cell hrb).trans e3;have hrb2:rb < wr.heap.size:=Nat.lt_of_lt_of_le hrb hbw.size;have hmem:=List.getElem_mem hlt;rw [List.drop_eq_getElem_cons hlt,List.all_cons] at hg0;generalize b.rs[k]=r at e0 e1 e2 e3 hg0 hmem;have hon:=fun (w':World) (hb:Below w.heap.size w w')=>HONE.out r hmem w' hb;obtain ⟨rk,rA,rB,rm⟩:=r;simp only at e0 e1 e2 e3;have HON:=Hh hon;clear hon hmem;cases hra:rightR b l ⟨rk,rA,rB,rm⟩
   ·rw [hra,Bool.false_and] at hg0;subst hg0;have HRA:=Hh hra;clear hra;go_wp2
    (refine wp_region_bel (by kernel_rfl) (by kernel_rfl) ?_;(repeat (go_big_quiet_step ((go_at_call 127;with_reducible exact Calls.bel_of (HON.out _ (Below.next hbw (later_below _ _)) _ HRA.out)))));refine wpQuiet_nil ?_;rintro _ ⟨xq,rfl⟩)
    go_wp2;go_ret;exact ⟨rfl,Below.next hbw (later_below _ _)⟩
   ·rw [hra,Bool.true_and] at hg0;have HG0:=Hh hg0;have HRA:=Hh hra;clear hra hg0;go_wp2
    (refine wp_region_bel (by kernel_rfl) (by kernel_rfl) ?_;(repeat (go_big_quiet_step ((go_at_call 127;with_reducible exact Calls.bel_of (HON.out _ (Below.next hbw (later_below _ _)) _ HRA.out)))));refine wpQuiet_nil ?_;rintro _ ⟨xq,rfl⟩)
    go_wp2;go_roundw
    case rel=>exact ⟨k+1,by omega,by go_num,HG0.out,Below.next hW (later_below _ _)⟩
    case measure=>simp [intOf];omega
  ·rw [List.drop_eq_nil_of_le (by omega),List.all_nil] at hg0;subst hg0;go_wp2;go_ret;exact ⟨rfl,hbw⟩
end
theorem listInfo:(Tryz.prog.info? 30).map (fun i=>(i.zero,i.size,i.bytes))=some (some (.slice none 0 0),1,24):=by kernel_rfl
def PastsOut (W:World) (ls:List (List Int)) (e:Ending) (W':World):Prop:=∃ a c vs,e=.returned (.slice a ls.length c)/\W'.ownsRow W.heap.size 30 1 (.slice a ls.length c) ls.length vs/\ListsV W' vs ls/\Below W.heap.size W W'
def PreIn (ss:List (List Prt)) (pre:List Int):Prop:=∀ i (h:i < pre.length),0<=pre[i]/\∃ h2:i < ss.length,pre[i]<=(ss[i].length:Int)
theorem came_pre {b:Bk} {pre:List Int} (h:PreIn b.ss pre) (hl:pre.length=b.ss.length):Came b pre:=fun i hi=>by
 obtain ⟨h1,h2,h3⟩:=h i (by omega);rw [getD_of_lt (by omega)];exact ⟨h1,h3⟩
theorem fuel_pasts {b:Bk} {n:Nat} {l:List (List Prt)} {pre:List Int} {s:List Prt} (hp:∀ s∈b.ss,s.length<=5) (hl:∀ x∈s::l,x.length<=5) (h4:(s::l).length<=4) (hn:n<=s.length+1):((List.range n).flatMap fun (n:Nat)=>pastsFrom b (pre ++ [(n:Int)]) l).length<=1296:=by
 rw [List.length_flatMap];have h1:∀ (ns:List Nat),(ns.map fun (n:Nat)=>(pastsFrom b (pre ++ [(n:Int)]) l).length).sum<=ns.length * 6 ^ l.length:=by
  intro ns
  induction ns with
  | nil=>simp
  | cons n ns ih =>
   have:=pastsFrom_le (b:=b) l (pre ++ [(n:Int)]) (fun s hs=>hl s (List.mem_cons_of_mem _ hs));simp only [List.map_cons,List.sum_cons,List.length_cons,Nat.succ_mul];omega
 have h2:=h1 (List.range n);rw [List.length_range] at h2;have h5:=hl s (List.mem_cons_self ..);have h6:n * 6 ^ l.length<=6 * 6 ^ 3:=Nat.mul_le_mul (by omega) (Nat.pow_le_pow_right (by omega) (by simp at h4;omega));omega
section
variable {b:Bk} {vr vg vm vs vc:Value} {w:World}
theorem rPasts_leaf (hB:BookAt w b vr vg vm vs vc) (hO:BkOk b) (hr:∀ r∈b.rs,recAl b r=0) {pre:List Int} (hl:pre.length=b.ss.length) (hp:PreIn b.ss pre) {la:Option Addr} {lc:Nat} (hL:IntsV w (.slice la pre.length lc) pre) :
 Calls Tryz.prog 71 #[.agg #[vr,vg,vm,vs,vc],.slice la pre.length lc] w (PastsOut w (if right b pre then [pre] else [])):=by
 have hC:=came_pre hp hl;obtain ⟨_,_,e,hI,_⟩:=hL.form;cases e;have HB:=Hh hB;have HO:=Hh hO;have HI:=Hh hI;have HC:=Hh hC;have HRR:=Hh hr;have HL:=Hh hL;have HLEN:=Hh hl;obtain ⟨sa,sc,rfl,_,hsl⟩:=hB.ss;have heq:((pre.length:Int) == (b.ss.length:Int))=true:=by simp;omega
 clear hB hO hI hC hr hL hp;generalize hn:pre.length=n at heq;have HN:=Hh hn;clear hn hl;cases ht:right b pre
 ·have HT:=Hh ht;clear ht
  go_enter Tryz.func71,Tryz.ntmps71
  go_wp2_with (go_at_call 107;(with_reducible refine (rRightAll_at (HB.out.below (bel)) HO.out (HI.out.below (bel)) HN.out.symm HLEN.out HC.out HRR.out HT.out).mono ?_);rintro e w1 ⟨rfl,hb1⟩);go_ret;exact ⟨none,0,[],rfl,World.ownsRow_nil _ _ _ _,ListsV.nil _,bel⟩
 ·have HT:=Hh ht;clear ht
  go_enter Tryz.func71,Tryz.ntmps71
  go_wp2_with (go_at_call 107;(with_reducible refine (rRightAll_at (HB.out.below (bel)) HO.out (HI.out.below (bel)) HN.out.symm HLEN.out HC.out HRR.out HT.out).mono ?_);rintro e w1 ⟨rfl,hb1⟩);go_ret;have hbw:Below w.heap.size w w1:=bel;refine ⟨some ⟨w1.heap.size,0,none⟩,1,[.slice la n lc],rfl,World.ownsRow_lit w1 #[.slice la n lc] 1 hbw.size (by decide) rfl,ListsV.single ?_,bel⟩;rw [← HN.out];exact (HL.out.below hbw).below (bal _ _)
end
end Go.Proofs.YtgemjjdkjmpmlaaGreatDoor

