/- Leads to the Store laws of chapter 6: N12. -/
import Derived.Test.YtfggbepickdokaaGreatDoorT17
set_option maxHeartbeats 4000000
set_option maxRecDepth 100000
set_option linter.all false
namespace Go.Proofs.YtfggbepickdokaaGreatDoor
open Go.RowKit Go.Maps Sp
attribute [local go_sem] Oper.semAt_some
def planOf (st:Option (List Int × List Int)):List Int:=(st.map Prod.fst).getD []
def fewOf (st:Option (List Int × List Int)):Nat:=((st.map fun x=>x.2.length).getD 0)
section
variable {b:Bk} {vr vg vm vs vc:Value} {w:World}
theorem Five.put {r:Nat} {v0 v1 v2 v3 v4:Value} (h0:(w.cell? ⟨r,0,none⟩).isSome) (h1:(w.cell? ⟨r,1,none⟩).isSome) (h2:(w.cell? ⟨r,2,none⟩).isSome) (h3:(w.cell? ⟨r,3,none⟩).isSome) (h4:(w.cell? ⟨r,4,none⟩).isSome) (hlt:r < w.heap.size) :
 Five (((((w.setCell ⟨r,0,none⟩ v0).setCell ⟨r,1,none⟩ v1).setCell ⟨r,2,none⟩ v2).setCell ⟨r,3,none⟩ v3).setCell ⟨r,4,none⟩ v4) r v0 v1 v2 v3 v4:=by
 have o:∀ (W:World) (i j:Nat) (v:Value),i≠j→(W.setCell ⟨r,j,none⟩ v).cell? ⟨r,i,none⟩=W.cell? ⟨r,i,none⟩:=fun W i j v hij=>by rw [World.cell?_setCell_other (h:=fun e=>by injection e with _ e _;omega)]
 refine ⟨?_,?_,?_,?_,?_,by simpa [World.setCell] using hlt⟩
 ·rw [o _ 0 4 _ (by decide),o _ 0 3 _ (by decide),o _ 0 2 _ (by decide),o _ 0 1 _ (by decide)];exact World.cell?_setCell_same' _ _ _ h0
 ·rw [o _ 1 4 _ (by decide),o _ 1 3 _ (by decide),o _ 1 2 _ (by decide)];exact World.cell?_setCell_same' _ _ _ (by rw [o _ 1 0 _ (by decide)];exact h1)
 ·rw [o _ 2 4 _ (by decide),o _ 2 3 _ (by decide)];exact World.cell?_setCell_same' _ _ _ (by rw [o _ 2 1 _ (by decide),o _ 2 0 _ (by decide)];exact h2)
 ·rw [o _ 3 4 _ (by decide)];exact World.cell?_setCell_same' _ _ _ (by rw [o _ 3 2 _ (by decide),o _ 3 1 _ (by decide),o _ 3 0 _ (by decide)];exact h3)
 ·exact World.cell?_setCell_same' _ _ _ (by rw [o _ 4 3 _ (by decide),o _ 4 2 _ (by decide),o _ 4 1 _ (by decide),o _ 4 0 _ (by decide)];exact h4)
structure PackJ (b:Bk) (now:Int) (w w4 W1:World) (pre:List (List Int × List Int)) (A:World):Prop where
 c:∃ a cp,A.cell? ⟨w.heap.size+1+1,0,none⟩=some (.slice a (planOf (pre.foldl (packStep b now) none)).length cp)∧IntsAt A a (planOf (pre.foldl (packStep b now) none))∧∀ y,a=some y→W1.heap.size+7≤y.block
 f:A.frozen? ⟨w.heap.size+1+1,0,none⟩=false
 d:A.cell? ⟨w.heap.size+1+1+1,0,none⟩=some (.bool (pre.foldl (packStep b now) none).isSome)
 g:A.frozen? ⟨w.heap.size+1+1+1,0,none⟩=false
 m:A.cell? ⟨w4.heap.size+1,0,none⟩=some (.int .i64 (fewOf (pre.foldl (packStep b now) none)))
 n:A.frozen? ⟨w4.heap.size+1,0,none⟩=false
 ks:KS (fun k=>k < W1.heap.size∧k≠w.heap.size+1+1∧k≠w.heap.size+1+1+1∧k≠w4.heap.size+1) W1 A
theorem PackJ.keep {now:Int} {w4 W1 A B:World} {pre:List (List Int × List Int)} (h:PackJ b now w w4 W1 pre A) {p:Nat→Prop} (hk:KS p A B) (h1:p (w.heap.size+1+1)) (h2:p (w.heap.size+1+1+1)) (h3:p (w4.heap.size+1))
 (h4:∀ k,k < W1.heap.size∧k≠w.heap.size+1+1∧k≠w.heap.size+1+1+1∧k≠w4.heap.size+1→p k) (h5:∀ k,W1.heap.size+7≤k→p k):PackJ b now w w4 W1 pre B:=by
 obtain ⟨⟨a,cp,c1,c2,c3⟩,f,d,g,m,n,ks⟩:=h
 exact ⟨⟨a,cp,(hk.cell (x:=⟨_,_,none⟩) (lt_of_cell c1) h1).trans c1,ints_kept c2 c3 hk h5,c3⟩,(hk.frozen (x:=⟨_,_,none⟩) (lt_of_cell c1) h1).trans f,(hk.cell (x:=⟨_,_,none⟩) (lt_of_cell d) h2).trans d,(hk.frozen (x:=⟨_,_,none⟩) (lt_of_cell d) h2).trans g,
  (hk.cell (x:=⟨_,_,none⟩) (lt_of_cell m) h3).trans m,(hk.frozen (x:=⟨_,_,none⟩) (lt_of_cell m) h3).trans n,ks.trans (hk.mono fun k _ hq=>h4 k hq)⟩
theorem pack_ok (hB:BookAt w b vr vg vm vs vc) (hN:∀ m∈b.ms,m.name.size≤1000000) (hK:KindsAt w) (now:Int) (hnow:0≤now∧now≤999) (ht:openAl b (timedAsk now)=0) :
 Calls Tryz.prog 9 #[.agg #[vr,vg,vm,vs,vc],.int .i64 now] w fun e w'=>∃ a c,e=.returned (.tuple #[.slice a (planOf (packI b (loadsI b) now)).length c,.bool (packI b (loadsI b) now).isSome,.int .i64 0])∧IntsAt w' a (planOf (packI b (loadsI b) now))∧Below w.heap.size w w':=by
 refine (callsIn_wide (n:=0)).1 (callsIn_of_wp_marks Tryz.func9 rfl trivial (wpIn_wide.2 ?_) rfl)
 have HB:=Hh hB
 have HN:=Hh hN
 have HK:=Hh hK
 obtain ⟨hk,hpt,hps⟩:=openAl_ok ht
 have hbo:=(bookAl_ok hk).1
 have HO:=Hh hbo
 have HBA:=Hh hk
 have HPT:=Hh hpt
 have HPS:=Hh hps
 have hpl:=pasts_le hbo
 have hml:=hbo.ml
 have HPC:=Hh (fun x (hx:x∈pasts b)=>pasts_came hbo hx)
 obtain ⟨rfl,rfl,⟨ma,mc,rfl,_,_⟩,⟨sa,sc,rfl,_,_⟩,ra,rc,rfl,_,_⟩:=id hB
 clear hB hN hK ht hk hpt hps hbo
 simp only [Tryz.ntmps9,List.size_toArray,List.length_cons,List.length_nil,Nat.reduceAdd,Nat.reduceSub,Array.replicate_succ,Array.replicate_zero,List.push_toArray,List.append_toArray,List.nil_append,List.cons_append]
 go_wp2
 obtain ⟨W0,hW0⟩:∃ W0,W0=(((w.alloc (.cells #[.int .i64 b.room,.int .i64 b.gap,.slice ma b.ms.length mc,.slice sa b.ss.length sc,.slice ra b.rs.length rc] 26)).alloc (.cells #[.int .i64 now] 3)).alloc (.cells #[.slice none 0 0] 27)).alloc (.cells #[.bool false] 4):=⟨_,rfl⟩
 rw [← hW0]
 have hb0:Below w.heap.size w W0:=by rw [hW0];(exact bel)
 have hs0:W0.heap.size=w.heap.size+1+1+1+1:=by rw [hW0];simp
 have q0:W0.cell? ⟨w.heap.size,0,none⟩=some (.int .i64 b.room):=by rw [hW0,World.cell?_alloc_past _ _ _ (by first | omega | (simp;done) | (simp;omega)),World.cell?_alloc_past _ _ _ (by first | omega | (simp;done) | (simp;omega)),World.cell?_alloc_past _ _ _ (by first | omega | (simp;done) | (simp;omega)),World.cell?_alloc_at _ _ _ _ (by first | omega | (simp;done) | (simp;omega))];rfl
 have q1:W0.cell? ⟨w.heap.size,1,none⟩=some (.int .i64 b.gap):=by rw [hW0,World.cell?_alloc_past _ _ _ (by first | omega | (simp;done) | (simp;omega)),World.cell?_alloc_past _ _ _ (by first | omega | (simp;done) | (simp;omega)),World.cell?_alloc_past _ _ _ (by first | omega | (simp;done) | (simp;omega)),World.cell?_alloc_at _ _ _ _ (by first | omega | (simp;done) | (simp;omega))];rfl
 have q2:W0.cell? ⟨w.heap.size,2,none⟩=some (.slice ma b.ms.length mc):=by rw [hW0,World.cell?_alloc_past _ _ _ (by first | omega | (simp;done) | (simp;omega)),World.cell?_alloc_past _ _ _ (by first | omega | (simp;done) | (simp;omega)),World.cell?_alloc_past _ _ _ (by first | omega | (simp;done) | (simp;omega)),World.cell?_alloc_at _ _ _ _ (by first | omega | (simp;done) | (simp;omega))];rfl
 have q3:W0.cell? ⟨w.heap.size,3,none⟩=some (.slice sa b.ss.length sc):=by rw [hW0,World.cell?_alloc_past _ _ _ (by first | omega | (simp;done) | (simp;omega)),World.cell?_alloc_past _ _ _ (by first | omega | (simp;done) | (simp;omega)),World.cell?_alloc_past _ _ _ (by first | omega | (simp;done) | (simp;omega)),World.cell?_alloc_at _ _ _ _ (by first | omega | (simp;done) | (simp;omega))];rfl
 have q4:W0.cell? ⟨w.heap.size,4,none⟩=some (.slice ra b.rs.length rc):=by rw [hW0,World.cell?_alloc_past _ _ _ (by first | omega | (simp;done) | (simp;omega)),World.cell?_alloc_past _ _ _ (by first | omega | (simp;done) | (simp;omega)),World.cell?_alloc_past _ _ _ (by first | omega | (simp;done) | (simp;omega)),World.cell?_alloc_at _ _ _ _ (by first | omega | (simp;done) | (simp;omega))];rfl
 have q5:W0.cell? ⟨w.heap.size+1,0,none⟩=some (.int .i64 now):=by rw [hW0,World.cell?_alloc_past _ _ _ (by first | omega | (simp;done) | (simp;omega)),World.cell?_alloc_past _ _ _ (by first | omega | (simp;done) | (simp;omega)),World.cell?_alloc_at _ _ _ _ (by first | omega | (simp;done) | (simp;omega))];rfl
 have q6:W0.cell? ⟨w.heap.size+1+1,0,none⟩=some (.slice none 0 0):=by rw [hW0,World.cell?_alloc_past _ _ _ (by first | omega | (simp;done) | (simp;omega)),World.cell?_alloc_at _ _ _ _ (by first | omega | (simp;done) | (simp;omega))];rfl
 have q7:W0.cell? ⟨w.heap.size+1+1+1,0,none⟩=some (.bool false):=by rw [hW0,World.cell?_alloc_at _ _ _ _ (by first | omega | (simp;done) | (simp;omega))];rfl
 have q8:W0.frozen? ⟨w.heap.size+1+1,0,none⟩=false:=by rw [hW0];simp [go_sem]
 have q9:W0.frozen? ⟨w.heap.size+1+1+1,0,none⟩=false:=by rw [hW0];simp [go_sem]
 have hall:∀ w':World,Below W0.heap.size W0 w'→(Below W0.heap.size W0 w'∧w'.cell? ⟨w.heap.size,0,none⟩=some (.int .i64 b.room)∧w'.cell? ⟨w.heap.size,1,none⟩=some (.int .i64 b.gap)∧w'.cell? ⟨w.heap.size,2,none⟩=some (.slice ma b.ms.length mc)∧w'.cell? ⟨w.heap.size,3,none⟩=some (.slice sa b.ss.length sc)∧w'.cell? ⟨w.heap.size,4,none⟩=some (.slice ra b.rs.length rc)∧w'.cell? ⟨w.heap.size+1,0,none⟩=some (.int .i64 now)):=fun w' h=>by
  exact ⟨h,(h.cell (by simp;omega)).trans q0,(h.cell (by simp;omega)).trans q1,(h.cell (by simp;omega)).trans q2,(h.cell (by simp;omega)).trans q3,(h.cell (by simp;omega)).trans q4,(h.cell (by simp;omega)).trans q5⟩
 have HALL:=Hh hall
 have HQ0:=Hh (⟨q6,q7,q8,q9⟩:_∧_∧_∧_)
 have hs0a:w.heap.size+1+1+1+1≤W0.heap.size:=by omega
 clear hs0
 clear hW0 hall q0 q1 q2 q3 q4 q5 q6 q7 q8 q9
 have HTM:=Hh (fun (w':World)=>timed_at now w')
 refine Code.wp_mono (Q:=fun e a' w'=>e=.normal∧∃ la lc TB YB,a'={ tmps:=#[.agg #[.int .i64 b.room,.int .i64 b.gap,.slice ma b.ms.length mc,.slice sa b.ss.length sc,.slice ra b.rs.length rc],.int .i64 now,.pointer (some ⟨w.heap.size,0,none⟩),.pointer (some ⟨w.heap.size+1,0,none⟩),.pointer (some ⟨w.heap.size+1+1,0,none⟩),.pointer (some ⟨w.heap.size+1+1+1,0,none⟩),.int .i64 0,.pointer (some ⟨YB,0,none⟩),.slice la (pasts b).length lc,U,U,U,U,.tuple #[.agg #[.int .i64 b.room,.int .i64 b.gap,.slice ma b.ms.length mc,.slice sa b.ss.length sc,.slice ra b.rs.length rc],.slice la (pasts b).length lc,.int .i64 0],.agg #[.int .i64 b.room,.int .i64 b.gap,.slice ma b.ms.length mc,.slice sa b.ss.length sc,.slice ra b.rs.length rc],.int .i64 now,.func (.func 98) #[] #[.pointer (some ⟨TB,0,none⟩)],.tuple #[.agg #[.int .i64 b.room,.int .i64 b.gap,.slice ma b.ms.length mc,.slice sa b.ss.length sc,.slice ra b.rs.length rc],.slice la (pasts b).length lc,.int .i64 0],.agg #[.int .i64 b.room,.int .i64 b.gap,.slice ma b.ms.length mc,.slice sa b.ss.length sc,.slice ra b.rs.length rc],.slice la (pasts b).length lc,.int .i64 0,U,U,U,U,U,U,U,U,U,U,U,U,U,U,U,U,U,U,U,U,U,U,U,U,U,U,U,U,U,U,U],defers:=[] }∧CamesAt w' la (pasts b)∧Five w' YB (.int .i64 b.room) (.int .i64 b.gap) (.slice ma b.ms.length mc) (.slice sa b.ss.length sc) (.slice ra b.rs.length rc)∧W0.heap.size≤YB∧Below W0.heap.size W0 w') ?_ ?_
 rotate_left
 ·go_region_held3 (fun w'=>Below W0.heap.size W0 w'∧w'.cell? ⟨w.heap.size,0,none⟩=some (.int .i64 b.room)∧w'.cell? ⟨w.heap.size,1,none⟩=some (.int .i64 b.gap)∧w'.cell? ⟨w.heap.size,2,none⟩=some (.slice ma b.ms.length mc)∧w'.cell? ⟨w.heap.size,3,none⟩=some (.slice sa b.ss.length sc)∧w'.cell? ⟨w.heap.size,4,none⟩=some (.slice ra b.rs.length rc)∧w'.cell? ⟨w.heap.size+1,0,none⟩=some (.int .i64 now))
   ((go_split_ands;exact HALL.out _ (bel)))
   (first
     | (go_at_call 47;(with_reducible refine (HTM.out _).mono ?_);rintro e w2 ⟨B,rfl,hB1,r0,hb2⟩;have hq:∀ W,Below w2.heap.size w2 W→W.cell? ⟨B,0,none⟩=some (.int .i64 now):=(fun W h=>(h.cell hB1).trans r0);have HQ:=Hh hq;clear hq r0;obtain ⟨hc2,hf2⟩:=bcell hb2;have hz2:=hb2.size;(try simp at hz2);(try (have hy2:W0.heap.size < w2.heap.size:=by omega)))
     | (go_at_call 46;go_split_ands;have hX:=Below.next hb0 ‹Below W0.heap.size W0 _›;(with_reducible refine (open_timed_ok (HB.out.below hX) HN.out (HK.out.below hX) _ (al:=timedAsk now) (fun hk W hW=>timed1_at _ _ _ _ _ (HQ.out W (Below.next (by first | exact Below.refl _ _ | exact bal _ _) hW))) HBA.out HPT.out HPS.out).mono ?_);rintro e w3 ⟨la,rfl,hrow,hb3⟩;obtain ⟨la,lc,rfl⟩:=ownsRow_slice hrow;obtain ⟨Bs,hBs,hrow⟩:=row_named hrow;(try simp at hBs);have HROW:=Hh hrow;clear hrow;obtain ⟨hc3,hf3⟩:=bcell hb3;have hz3:=hb3.size;(try simp at hz3);(try (have hy3:W0.heap.size < w3.heap.size:=by omega))))
  ·exact ⟨rfl,_,_,_,_,rfl,cames_of_row (base:=Bs) (n:=(pasts b).length) (c:=lc) (ownsRow_below HROW.out (bel)),Five.new _ _ _ _ _ _ _,by omega,bel⟩
  ·exact ⟨rfl,_,_,_,_,rfl,cames_of_row (base:=Bs) (n:=(pasts b).length) (c:=lc) (by repeat (first | (with_reducible refine ownsRow_setCell_below ?_ (by simp;omega) _) | with_reducible exact HROW.out)),Five.put (by first | (rw [hc3 _ _ (by first | omega | (simp;done) | (simp;omega))];simp;done) | (rw [hc3 _ _ (by first | omega | (simp;done) | (simp;omega)),hc2 _ _ (by first | omega | (simp;done) | (simp;omega))];simp;done)) (by first | (rw [hc3 _ _ (by first | omega | (simp;done) | (simp;omega))];simp;done) | (rw [hc3 _ _ (by first | omega | (simp;done) | (simp;omega)),hc2 _ _ (by first | omega | (simp;done) | (simp;omega))];simp;done)) (by first | (rw [hc3 _ _ (by first | omega | (simp;done) | (simp;omega))];simp;done) | (rw [hc3 _ _ (by first | omega | (simp;done) | (simp;omega)),hc2 _ _ (by first | omega | (simp;done) | (simp;omega))];simp;done)) (by first | (rw [hc3 _ _ (by first | omega | (simp;done) | (simp;omega))];simp;done) | (rw [hc3 _ _ (by first | omega | (simp;done) | (simp;omega)),hc2 _ _ (by first | omega | (simp;done) | (simp;omega))];simp;done)) (by first | (rw [hc3 _ _ (by first | omega | (simp;done) | (simp;omega))];simp;done) | (rw [hc3 _ _ (by first | omega | (simp;done) | (simp;omega)),hc2 _ _ (by first | omega | (simp;done) | (simp;omega))];simp;done)) (by omega),by omega,bel⟩
  ·exact ⟨rfl,_,_,_,_,rfl,cames_of_row (base:=Bs) (n:=(pasts b).length) (c:=lc) (by repeat (first | (with_reducible refine ownsRow_setCell_below ?_ (by simp;omega) _) | with_reducible exact HROW.out)),Five.put (by first | (rw [hc3 _ _ (by first | omega | (simp;done) | (simp;omega))];simp;done) | (rw [hc3 _ _ (by first | omega | (simp;done) | (simp;omega)),hc2 _ _ (by first | omega | (simp;done) | (simp;omega))];simp;done)) (by first | (rw [hc3 _ _ (by first | omega | (simp;done) | (simp;omega))];simp;done) | (rw [hc3 _ _ (by first | omega | (simp;done) | (simp;omega)),hc2 _ _ (by first | omega | (simp;done) | (simp;omega))];simp;done)) (by first | (rw [hc3 _ _ (by first | omega | (simp;done) | (simp;omega))];simp;done) | (rw [hc3 _ _ (by first | omega | (simp;done) | (simp;omega)),hc2 _ _ (by first | omega | (simp;done) | (simp;omega))];simp;done)) (by first | (rw [hc3 _ _ (by first | omega | (simp;done) | (simp;omega))];simp;done) | (rw [hc3 _ _ (by first | omega | (simp;done) | (simp;omega)),hc2 _ _ (by first | omega | (simp;done) | (simp;omega))];simp;done)) (by first | (rw [hc3 _ _ (by first | omega | (simp;done) | (simp;omega))];simp;done) | (rw [hc3 _ _ (by first | omega | (simp;done) | (simp;omega)),hc2 _ _ (by first | omega | (simp;done) | (simp;omega))];simp;done)) (by omega),by omega,bel⟩
 rintro e a' X ⟨rfl,la,lc,TB,YB,rfl,hcm,⟨y0,y1,y2,y3,y4,y5⟩,hYB,hbX⟩
 have HCM:=Hh hcm
 have hbw:=Below.next hb0 hbX
 have hXs:=hbX.size
 obtain ⟨q6,q7,q8,q9⟩:=HQ0.out
 have x1:=(hbX.cell (p:=⟨w.heap.size+1+1,0,none⟩) (by simp;omega)).trans q6
 have x2:=(hbX.frozen (p:=⟨w.heap.size+1+1,0,none⟩) (by simp;omega)).trans q8
 have x3:=(hbX.cell (p:=⟨w.heap.size+1+1+1,0,none⟩) (by simp;omega)).trans q7
 have x4:=(hbX.frozen (p:=⟨w.heap.size+1+1+1,0,none⟩) (by simp;omega)).trans q9
 have HX:=Hh (⟨x1,x2,x3,x4⟩:_∧_∧_∧_)
 clear hcm q6 q7 q8 q9 x1 x2 x3 x4
 go_wp2_with (go_at_call 48;(with_reducible refine (nightOf_at (HB.out.below hbw) HO.out HCM.out HPC.out (by omega)).mono ?_);rintro e w4 ⟨RB,lc2,rfl,hld,hRB0,hRBl,hb4⟩;have HLD:=Hh hld;clear hld;obtain ⟨hc4,hf4⟩:=bcell hb4;have hz4:=hb4.size)
 obtain ⟨W1,hW1⟩:∃ W1,W1=(w4.alloc (.cells #[.int .i64 b.room,.int .i64 b.gap,.slice ma b.ms.length mc,.slice sa b.ss.length sc,.slice ra b.rs.length rc,.slice (some ⟨RB,0,none⟩) b.ms.length lc2] 95)).alloc (.cells #[.int .i64 0] 3):=⟨_,rfl⟩
 rw [← hW1]
 have hb1:Below w.heap.size w W1:=by rw [hW1];(exact bel)
 have hs1:w4.heap.size+1 < W1.heap.size:=by rw [hW1];simp
 have hXw:w.heap.size+1+1+1+1≤X.heap.size:=by omega
 have hXl:X.heap.size≤w4.heap.size:=by first | omega | (simp at hz4;omega)
 have old:∀ g o,g < X.heap.size→W1.cell? ⟨g,o,none⟩=X.cell? ⟨g,o,none⟩∧W1.frozen? ⟨g,o,none⟩=X.frozen? ⟨g,o,none⟩:=fun g o hg=>by
  rw [hW1,World.cell?_alloc_past _ _ _ (by simp;omega),World.cell?_alloc_past _ _ _ (by omega),World.frozen?_alloc_past _ _ _ (by simp;omega),World.frozen?_alloc_past _ _ _ (by omega),hc4 _ _ (by first | omega | (simp;omega)),hf4 _ _ (by first | omega | (simp;omega))]
  exact ⟨rfl,rfl⟩
 obtain ⟨X1,X2,X3,X4⟩:=HX.out
 have hJ0:PackJ b now w w4 W1 [] W1:=by
  refine ⟨⟨none,0,((old _ _ (by omega)).1.trans X1),fun i hi=>absurd hi (by simp [planOf]),fun y hy=>by cases hy⟩,(old _ _ (by omega)).2.trans X2,(old _ _ (by omega)).1.trans X3,(old _ _ (by omega)).2.trans X4,?_,?_,KS.refl _ _⟩
  ·rw [hW1,World.cell?_alloc_at _ _ _ _ (by simp)];rfl
  ·rw [hW1,World.frozen?_alloc_at _ _ _ _ (by simp)]
 have hnow1:W1.cell? ⟨w.heap.size+1,0,none⟩=some (.int .i64 now):=(old _ _ (by omega)).1.trans (HALL.out X hbX).2.2.2.2.2.2
 have hN:∀ k u,(#[.int .i64 b.room,.int .i64 b.gap,.slice ma b.ms.length mc,.slice sa b.ss.length sc,.slice ra b.rs.length rc,.slice (some ⟨RB,0,none⟩) b.ms.length lc2]:Array Value)[k]? = some u→W1.cell? ⟨w4.heap.size,k,none⟩=some u:=fun k u hk=>by
  rw [hW1,World.cell?_alloc_past _ _ _ (by simp),World.cell?_alloc_at _ _ _ _ rfl];exact hk
 have hli:IntsAt W1 (some ⟨RB,0,none⟩) (loadsI b):=HLD.out.below (by rw [hW1];(exact bel))
 have hRB1:X.heap.size≤RB:=by first | exact hRB0 | (simp at hRB0;omega)
 have HNN:=Hh hN
 have HLI:=Hh hli
 have HJ0:=Hh hJ0
 have HNOW:=Hh hnow1
 have hRB2:RB < w4.heap.size:=hRBl
 clear hW1 hN hli hJ0 hnow1 old X1 X2 X3 X4 hc4 hf4 hb4 hz4
 refine wpIn_wide.1 (wpIn_range (gf:=49) (recv:=.agg #[.int .i64 b.room,.int .i64 b.gap,.slice ma b.ms.length mc,.slice sa b.ss.length sc,.slice ra b.rs.length rc,.slice (some ⟨RB,0,none⟩) b.ms.length lc2]) rfl (enters_of Tryz.func49 (by kernel_rfl) rfl)
  (encPl (W1.heap.size+1+1) b.ms.length) (fun x args W h=>by obtain ⟨a,c,tn,rfl,_⟩:=h;rfl) (plansI (loadsI b)) (fun k=>k=W1.heap.size+1+1+1+1) (fun k=>(k < W1.heap.size∧k≠w.heap.size+1+1∧k≠w.heap.size+1+1+1∧k≠w4.heap.size+1)∨(W1.heap.size+2≤k∧k≤W1.heap.size+6)) ⟨by omega,by omega⟩ (by omega)
  (fun W hW hsz=>?seq) (fun pre A=>PackJ b now w w4 W1 pre A) (fun _ _=>False) ?hJ ?hJx ?h0 (fun pre x a A=>∃ ta tc,IntsAt A (some ⟨W1.heap.size+1+1+1+1,0,none⟩) x.1∧x.1.length=b.ms.length∧IntsAt A ta x.2∧(∀ y,ta=some y→W1.heap.size+1 < y.block)∧PackJ b now w w4 W1 pre A∧W1.heap.size+6 < A.heap.size∧a={ tmps:=#[.agg #[.int .i64 b.room,.int .i64 b.gap,.slice ma b.ms.length mc,.slice sa b.ss.length sc,.slice ra b.rs.length rc],.int .i64 now,.pointer (some ⟨w.heap.size,0,none⟩),.pointer (some ⟨w.heap.size+1,0,none⟩),.pointer (some ⟨w.heap.size+1+1,0,none⟩),.pointer (some ⟨w.heap.size+1+1+1,0,none⟩),.int .i64 0,.pointer (some ⟨YB,0,none⟩),.slice la (pasts b).length lc,.pointer (some ⟨w4.heap.size,0,none⟩),.pointer (some ⟨w4.heap.size+1,0,none⟩),.slice (some ⟨W1.heap.size+1+1+1+1,0,none⟩) b.ms.length b.ms.length,.slice ta x.2.length tc,.tuple #[.agg #[.int .i64 b.room,.int .i64 b.gap,.slice ma b.ms.length mc,.slice sa b.ss.length sc,.slice ra b.rs.length rc],.slice la (pasts b).length lc,.int .i64 0],.agg #[.int .i64 b.room,.int .i64 b.gap,.slice ma b.ms.length mc,.slice sa b.ss.length sc,.slice ra b.rs.length rc],.int .i64 now,.func (.func 98) #[] #[.pointer (some ⟨TB,0,none⟩)],.tuple #[.agg #[.int .i64 b.room,.int .i64 b.gap,.slice ma b.ms.length mc,.slice sa b.ss.length sc,.slice ra b.rs.length rc],.slice la (pasts b).length lc,.int .i64 0],.agg #[.int .i64 b.room,.int .i64 b.gap,.slice ma b.ms.length mc,.slice sa b.ss.length sc,.slice ra b.rs.length rc],.slice la (pasts b).length lc,.int .i64 0,.int .i64 0,.bool false,U,.agg #[.int .i64 b.room,.int .i64 b.gap,.slice ma b.ms.length mc,.slice sa b.ss.length sc,.slice ra b.rs.length rc],.slice la (pasts b).length lc,.agg #[.int .i64 b.room,.int .i64 b.gap,.slice ma b.ms.length mc,.slice sa b.ss.length sc,.slice ra b.rs.length rc,.slice (some ⟨RB,0,none⟩) b.ms.length lc2],.agg #[.int .i64 b.room,.int .i64 b.gap,.slice ma b.ms.length mc,.slice sa b.ss.length sc,.slice ra b.rs.length rc,.slice (some ⟨RB,0,none⟩) b.ms.length lc2],.func (.func 49) #[.agg #[.int .i64 b.room,.int .i64 b.gap,.slice ma b.ms.length mc,.slice sa b.ss.length sc,.slice ra b.rs.length rc,.slice (some ⟨RB,0,none⟩) b.ms.length lc2]] #[],.slice (some ⟨W1.heap.size+1+1+1+1,0,none⟩) b.ms.length b.ms.length,.slice ta x.2.length tc,U,U,U,U,U,U,U,U,U,U,U,U,U,U,U,U,U,U,U,U,U],defers:=[] }) ?hMid ?assign ?body ?done ?stop)
 case seq =>
  have hh:=plans_iter (vr:=.int .i64 b.room) (vg:=.int .i64 b.gap) (vm:=.slice ma b.ms.length mc) (vs:=.slice sa b.ss.length sc) (vc:=.slice ra b.rs.length rc) (lc:=lc2) (n:=b.ms.length) (HLI.out.below hW) (by omega) (loadsI_bd HBA.out) (loadsOf_length _ _) (by omega) (p:=(fun k=>(k < W1.heap.size∧k≠w.heap.size+1+1∧k≠w.heap.size+1+1+1∧k≠w4.heap.size+1)∨(W1.heap.size+2≤k∧k≤W1.heap.size+6))) (.inl (by omega)) (fun k h1 h2=>.inr (by omega))
  rw [hsz] at hh
  exact hh
 case hJ=>exact fun pre A B h hk=>h.keep hk (by omega) (by omega) (by omega) (fun k h=>by omega) (fun k h=>by omega)
 case hJx=>exact fun _ _ _ h _=>h
 case h0=>exact fun W hW hsz=>HJ0.out.keep (KS.all hW (fun _=>True)) trivial trivial trivial (fun _ _=>trivial) (fun _ _=>trivial)
 case hMid =>
  rintro pre x a₁ A B ⟨ta,tc,h1,h2,h3,h4,h5,h6,ha⟩ hk hsz
  refine ⟨ta,tc,h1.ks hk (by omega),h2,?_,h4,h5.keep hk (by omega) (by omega) (by omega) (fun k h=>by omega) (fun k h=>by omega),by omega,ha⟩
  exact ints_kept h3 (n:=W1.heap.size+1+1) (fun y hy=>h4 y hy) hk (fun k h=>by omega)
 case assign =>
  rintro pre x args A hx ⟨ta,tc,tn,rfl,rfl,hl,hi1,hi2,htb,hsz⟩ hj hlt
  have HTB:=Hh htb
  have HJ:=Hh hj
  have HI1:=Hh hi1
  have HI2:=Hh hi2
  clear hj hx hi1 hi2 htb
  rw [two_param]
  show Code.wpIn _ _ _ _ _ { tmps:=#[.agg #[.int .i64 b.room,.int .i64 b.gap,.slice ma b.ms.length mc,.slice sa b.ss.length sc,.slice ra b.rs.length rc],.int .i64 now,.pointer (some ⟨w.heap.size,0,none⟩),.pointer (some ⟨w.heap.size+1,0,none⟩),.pointer (some ⟨w.heap.size+1+1,0,none⟩),.pointer (some ⟨w.heap.size+1+1+1,0,none⟩),.int .i64 0,.pointer (some ⟨YB,0,none⟩),.slice la (pasts b).length lc,.pointer (some ⟨w4.heap.size,0,none⟩),.pointer (some ⟨w4.heap.size+1,0,none⟩),U,U,.tuple #[.agg #[.int .i64 b.room,.int .i64 b.gap,.slice ma b.ms.length mc,.slice sa b.ss.length sc,.slice ra b.rs.length rc],.slice la (pasts b).length lc,.int .i64 0],.agg #[.int .i64 b.room,.int .i64 b.gap,.slice ma b.ms.length mc,.slice sa b.ss.length sc,.slice ra b.rs.length rc],.int .i64 now,.func (.func 98) #[] #[.pointer (some ⟨TB,0,none⟩)],.tuple #[.agg #[.int .i64 b.room,.int .i64 b.gap,.slice ma b.ms.length mc,.slice sa b.ss.length sc,.slice ra b.rs.length rc],.slice la (pasts b).length lc,.int .i64 0],.agg #[.int .i64 b.room,.int .i64 b.gap,.slice ma b.ms.length mc,.slice sa b.ss.length sc,.slice ra b.rs.length rc],.slice la (pasts b).length lc,.int .i64 0,.int .i64 0,.bool false,U,.agg #[.int .i64 b.room,.int .i64 b.gap,.slice ma b.ms.length mc,.slice sa b.ss.length sc,.slice ra b.rs.length rc],.slice la (pasts b).length lc,.agg #[.int .i64 b.room,.int .i64 b.gap,.slice ma b.ms.length mc,.slice sa b.ss.length sc,.slice ra b.rs.length rc,.slice (some ⟨RB,0,none⟩) b.ms.length lc2],.agg #[.int .i64 b.room,.int .i64 b.gap,.slice ma b.ms.length mc,.slice sa b.ss.length sc,.slice ra b.rs.length rc,.slice (some ⟨RB,0,none⟩) b.ms.length lc2],.func (.func 49) #[.agg #[.int .i64 b.room,.int .i64 b.gap,.slice ma b.ms.length mc,.slice sa b.ss.length sc,.slice ra b.rs.length rc,.slice (some ⟨RB,0,none⟩) b.ms.length lc2]] #[],.slice (some ⟨W1.heap.size+1+1+1+1,0,none⟩) b.ms.length b.ms.length,.slice ta x.2.length tc,U,U,U,U,U,U,U,U,U,U,U,U,U,U,U,U,U,U,U,U,U],defers:=[] } _
  gi_wp2
  gi_wp2
  exact ⟨KS.refl _ _,ta,tc,HI1.out,hl,HI2.out,fun y hy=>by have:=HTB.out y hy;omega,HJ.out,by omega,rfl⟩
 case body =>
  rintro pre x a₁ A ⟨suf,hx⟩ ⟨ta,tc,h1,h2,h3,h4,hj,h6,rfl⟩ hlt
  have hmem:x∈plansI (loadsI b):=by rw [hx];simp
  obtain ⟨hok,hxl⟩:=plansI_mem hmem
  have hpl5:x.1.length≤50:=by omega
  have hbd:=planOk_bd hok hpl5 (loadsI_bd HBA.out)
  have hll:(loadsI b).length=x.1.length:=by rw [h2];exact loadsOf_length _ _
  have hkt:=planOk_lt hok hll
  have hN:=nightOk HBA.out
  have hbA:Below w.heap.size w A:=by
   have:=hj.ks
   exact ⟨this.os.trans hb1.os,this.tape.trans hb1.tape,this.output.trans hb1.output,Nat.le_trans hb1.size this.size,fun k hk=>(this.block k (by omega) (by omega)).trans (hb1.block k hk)⟩
  have hgo:=good_at (pc:=b.ms.length) (tc:=tc) (HB.out.below hbA) hN.due hN.gap (.slice (some ⟨RB,0,none⟩) b.ms.length lc2) rfl h1 (pn:=b.ms.length) h2.symm h2 h3 rfl hbd.2 hbd.1 hkt (by omega) (now:=now) (by omega) rfl
  have hcl:=fun (B:World) (hB:Below A.heap.size A B)=>clone_at (c:=b.ms.length) (h1.below hB) (by omega)
  rw [h2] at hcl
  have hst:(pre ++ [x]).foldl (packStep b now) none=packStep b now (pre.foldl (packStep b now) none) x:=by rw [List.foldl_append];rfl
  have hls:∀ st,packStep b now st x=if goodI b x.1 x.2 now && (match st with | none=>true | some y=>decide (x.2.length < y.2.length)) then some x else st:=fun st=>rfl
  have nn:∀ k u,(#[.int .i64 b.room,.int .i64 b.gap,.slice ma b.ms.length mc,.slice sa b.ss.length sc,.slice ra b.rs.length rc,.slice (some ⟨RB,0,none⟩) b.ms.length lc2]:Array Value)[k]? = some u→A.cell? ⟨w4.heap.size,k,none⟩=some u:=fun k u hk =>
   (hj.ks.cell (x:=⟨w4.heap.size,k,none⟩) (by simp;omega) (by simp;omega)).trans (HNN.out k u hk)
  obtain ⟨n0,n1,n2,n3,n4,n5⟩:_∧_∧_∧_∧_∧_:=⟨nn 0 _ rfl,nn 1 _ rfl,nn 2 _ rfl,nn 3 _ rfl,nn 4 _ rfl,nn 5 _ rfl⟩
  have nw:A.cell? ⟨w.heap.size+1,0,none⟩=some (.int .i64 now):=(hj.ks.cell (x:=⟨w.heap.size+1,0,none⟩) (by simp;omega) (by simp;omega)).trans HNOW.out
  obtain ⟨pa0,pc0,jc,_,_⟩:=hj.c
  have jf:=hj.f
  have jd:=hj.d
  have jg:=hj.g
  have jm:=hj.m
  have jn:=hj.n
  have hAl:w4.heap.size+1 < A.heap.size:=by have:=hj.ks.size;omega
  have hAl1:w4.heap.size < A.heap.size:=by omega
  have hAl2:w.heap.size+1 < A.heap.size:=by omega
  have hB1:=lt_of_cell jc
  have hB2:=lt_of_cell jd
  have hB3:=lt_of_cell jm
  simp only at hB1 hB2 hB3
  have HJ:=Hh hj
  have HST:=Hh hst
  have HLS:=Hh hls
  have HGO:=Hh hgo
  have HCL:=Hh hcl
  have H2:=Hh h2
  have hx2l:=hbd.2
  generalize goodI b x.1 x.2 now=F at HGO HLS
  clear hx h1 h2 h3 h4 hj hmem hok hxl hbd hll hkt hN hst hls hgo hcl nn hpl5
  have same:∀ B,Below A.heap.size A B→packStep b now (pre.foldl (packStep b now) none) x=pre.foldl (packStep b now) none→KS (fun k=>((k < W1.heap.size∧k≠w.heap.size+1+1∧k≠w.heap.size+1+1+1∧k≠w4.heap.size+1)∨(W1.heap.size+2≤k∧k≤W1.heap.size+6))∨k=W1.heap.size∨k=W1.heap.size+1) A B∧PackJ b now w w4 W1 (pre ++ [x]) B:=fun B hb he=>by
   refine ⟨KS.all hb _,?_⟩
   have h:=HJ.out.keep (KS.all hb (fun _=>True)) trivial trivial trivial (fun _ _=>trivial) (fun _ _=>trivial)
   exact ⟨by rw [HST.out,he];exact h.c,h.f,by rw [HST.out,he];exact h.d,h.g,by rw [HST.out,he];exact h.m,h.n,h.ks⟩
  have turn:∀ B (g:Option Addr) (gc:Nat),Below A.heap.size A B→IntsAt B g x.1→(∀ y,g=some y→A.heap.size≤y.block)→packStep b now (pre.foldl (packStep b now) none) x=some x→KS (fun k=>((k < W1.heap.size∧k≠w.heap.size+1+1∧k≠w.heap.size+1+1+1∧k≠w4.heap.size+1)∨(W1.heap.size+2≤k∧k≤W1.heap.size+6))∨k=W1.heap.size∨k=W1.heap.size+1) A (((B.setCell ⟨w.heap.size+1+1,0,none⟩ (.slice g b.ms.length gc)).setCell ⟨w4.heap.size+1,0,none⟩ (.int .i64 x.2.length)).setCell ⟨w.heap.size+1+1+1,0,none⟩ (.bool true)) ∧
   PackJ b now w w4 W1 (pre ++ [x]) (((B.setCell ⟨w.heap.size+1+1,0,none⟩ (.slice g b.ms.length gc)).setCell ⟨w4.heap.size+1,0,none⟩ (.int .i64 x.2.length)).setCell ⟨w.heap.size+1+1+1,0,none⟩ (.bool true)):=fun B g gc hb hg hgb he=>by
   have h:=HJ.out.keep (KS.all hb (fun _=>True)) trivial trivial trivial (fun _ _=>trivial) (fun _ _=>trivial)
   obtain ⟨pa1,pc1,hc1,_,_⟩:=h.c
   have k1:KS (fun k=>k≠w.heap.size+1+1∧k≠w4.heap.size+1∧k≠w.heap.size+1+1+1) B (((B.setCell ⟨w.heap.size+1+1,0,none⟩ (.slice g b.ms.length gc)).setCell ⟨w4.heap.size+1,0,none⟩ (.int .i64 x.2.length)).setCell ⟨w.heap.size+1+1+1,0,none⟩ (.bool true)):=((KS.setCell (by simp) _ _).trans (KS.setCell (by simp) _ _)).trans (KS.setCell (by simp) _ _)
   refine ⟨(KS.all hb _).trans (k1.mono fun k _ hk=>by omega),⟨g,gc,?_,?_,?_⟩,?_,?_,?_,?_,?_,h.ks.trans (k1.mono fun k _ hk=>⟨hk.2.1,hk.2.2.2,hk.2.2.1⟩)⟩
   ·rw [World.cell?_setCell_other (h:=fun e=>by injection e with e _ _;omega),World.cell?_setCell_other (h:=fun e=>by injection e with e _ _;omega),World.cell?_setCell_same' _ _ _ (by rw [hc1];rfl),HST.out,he]
    rw [show (planOf (some x)).length=b.ms.length from H2.out]
   ·rw [HST.out,he]
    exact ints_kept hg (n:=W1.heap.size+7) (fun y hy=>Nat.le_trans (by omega) (hgb y hy)) k1 (fun k hk=>by omega)
   ·exact fun y hy=>Nat.le_trans (by omega) (hgb y hy)
   ·rw [World.frozen?_setCell,World.frozen?_setCell,World.frozen?_setCell];exact h.f
   ·rw [World.cell?_setCell_same' _ _ _ (by rw [World.cell?_setCell_other (h:=fun e=>by injection e with e _ _;omega),World.cell?_setCell_other (h:=fun e=>by injection e with e _ _;omega),h.d];rfl),HST.out,he]
    rfl
   ·rw [World.frozen?_setCell,World.frozen?_setCell,World.frozen?_setCell];exact h.g
   ·rw [World.cell?_setCell_other (h:=fun e=>by injection e with e _ _;omega),World.cell?_setCell_same' _ _ _ (by rw [World.cell?_setCell_other (h:=fun e=>by injection e with e _ _;omega),h.m];rfl),HST.out,he]
    rfl
   ·rw [World.frozen?_setCell,World.frozen?_setCell,World.frozen?_setCell];exact h.n
  have SAME:=Hh same
  have TURN:=Hh turn
  clear same turn
  cases F
  ·gi_wp2_with (gi_at_call 50;(with_reducible refine (calls_round HGO.out).mono ?_);rintro e w5 ⟨rfl,hb5⟩;obtain ⟨hc5,hf5⟩:=bcell hb5;have hz5:=hb5.size;have y1:w.heap.size+1+1 < w5.heap.size:=(by omega);have y2:w.heap.size+1+1+1 < w5.heap.size:=(by omega);have y3:w4.heap.size+1 < w5.heap.size:=(by omega))
   all_goals first | exact SAME.out w5 hb5 (by rw [HLS.out];simp) | (rename_i hx1 hx2;cases hx1)
  ·cases hs:pre.foldl (packStep b now) none with
   | none =>
    rw [hs] at jc jd jm
    simp only [Option.isSome_none] at jc jd jm
    have HS:=Hh hs
    clear hs
    gi_wp2_with (first | (gi_at_call 50;(with_reducible refine (calls_round HGO.out).mono ?_);rintro e w5 ⟨rfl,hb5⟩;obtain ⟨hc5,hf5⟩:=bcell hb5;have hz5:=hb5.size;have y1:w.heap.size+1+1 < w5.heap.size:=(by omega);have y2:w.heap.size+1+1+1 < w5.heap.size:=(by omega);have y3:w4.heap.size+1 < w5.heap.size:=(by omega)) | (gi_at_call 51;(with_reducible refine (calls_round (HCL.out _ hb5)).mono ?_);rintro e w6 ⟨g6,c6,rfl,hr6,hb6⟩;have HI6:=Hh (ints_of_row hr6);have HG6:=Hh (fun y (hy:g6=some y)=>Nat.le_trans hb5.size (row_ge hr6 y hy));rw [H2.out];obtain ⟨hc6,hf6⟩:=bcell hb6;have hz6:=hb6.size;clear hr6))
    exact TURN.out w6 g6 c6 (Below.next hb5 hb6) HI6.out HG6.out (by rw [HLS.out,HS.out];simp)
   | some y =>
    rw [hs] at jc jd jm
    simp only [Option.isSome_some,fewOf,Option.map_some,Option.getD_some] at jc jd jm
    have HS:=Hh hs
    clear hs
    by_cases hy:x.2.length < y.2.length
    ·gi_wp2_with (first | (gi_at_call 50;(with_reducible refine (calls_round HGO.out).mono ?_);rintro e w5 ⟨rfl,hb5⟩;obtain ⟨hc5,hf5⟩:=bcell hb5;have hz5:=hb5.size;have y1:w.heap.size+1+1 < w5.heap.size:=(by omega);have y2:w.heap.size+1+1+1 < w5.heap.size:=(by omega);have y3:w4.heap.size+1 < w5.heap.size:=(by omega)) | (gi_at_call 51;(with_reducible refine (calls_round (HCL.out _ hb5)).mono ?_);rintro e w6 ⟨g6,c6,rfl,hr6,hb6⟩;have HI6:=Hh (ints_of_row hr6);have HG6:=Hh (fun y (hy:g6=some y)=>Nat.le_trans hb5.size (row_ge hr6 y hy));rw [H2.out];obtain ⟨hc6,hf6⟩:=bcell hb6;have hz6:=hb6.size;clear hr6))
     exact TURN.out w6 g6 c6 (Below.next hb5 hb6) HI6.out HG6.out (by rw [HLS.out,HS.out];simp [hy])
    ·gi_wp2_with (gi_at_call 50;(with_reducible refine (calls_round HGO.out).mono ?_);rintro e w5 ⟨rfl,hb5⟩;obtain ⟨hc5,hf5⟩:=bcell hb5;have hz5:=hb5.size;have y1:w.heap.size+1+1 < w5.heap.size:=(by omega);have y2:w.heap.size+1+1+1 < w5.heap.size:=(by omega);have y3:w4.heap.size+1 < w5.heap.size:=(by omega))
     exact SAME.out w5 hb5 (by rw [HLS.out,HS.out];simp [hy])
 case done =>
  rintro W hj hd
  obtain ⟨pa,pc,jc,ji,jge⟩:=hj.c
  have jf:=hj.f
  have jd:=hj.d
  have jg:=hj.g
  have HJ:=Hh hj
  have HI:=Hh ji
  have HGE:=Hh jge
  have hD:W1.heap.size < W.heap.size:=(Array.getElem?_eq_some_iff.1 hd).1
  have hB1:=lt_of_cell jc
  have hB2:=lt_of_cell jd
  simp only at hB1 hB2
  generalize hst:(plansI (loadsI b)).foldl (packStep b now) none=st at jc jd HI
  have HST:=Hh (show packI b (loadsI b) now=st from hst)
  clear hst ji jge
  clear hj
  go_wp2
  go_region
  go_wp2
  obtain ⟨W9,hW9⟩:∃ W9,W9=((W.setCell ⟨w.heap.size+1+1,0,none⟩ (.slice pa (planOf st).length pc)).setCell ⟨w.heap.size+1+1+1,0,none⟩ (.bool st.isSome)).drew:=⟨_,rfl⟩
  rw [← hW9]
  have k9:KS (fun k=>k≠w.heap.size+1+1∧k≠w.heap.size+1+1+1) W W9:=by rw [hW9];exact ((KS.setCell (by simp) _ _).trans (KS.setCell (by simp) _ _)).trans (KS.drew _ _)
  have hd9:W9.heap[W1.heap.size]? = some (.deferred (some [])):=(k9.block _ hD (by omega)).trans hd
  have k10:KS (fun k=>k≠W1.heap.size) W9 (W9.putObj W1.heap.size (.deferred none)):=KS.putObj (by simp) _ _
  have c1:(W9.putObj W1.heap.size (.deferred none)).cell? ⟨w.heap.size+1+1,0,none⟩=some (.slice pa (planOf st).length pc):=by
   rw [k10.cell (x:=⟨w.heap.size+1+1,0,none⟩) (Nat.lt_of_lt_of_le hB1 k9.size) (by simp;omega),hW9,World.cell?_drew,World.cell?_setCell_other (h:=fun e=>by injection e with e _ _;omega),World.cell?_setCell_same' _ _ _ (by rw [jc];rfl)]
  have c2:(W9.putObj W1.heap.size (.deferred none)).cell? ⟨w.heap.size+1+1+1,0,none⟩=some (.bool st.isSome):=by
   rw [k10.cell (x:=⟨w.heap.size+1+1+1,0,none⟩) (Nat.lt_of_lt_of_le hB2 k9.size) (by simp;omega),hW9,World.cell?_drew,World.cell?_setCell_same' _ _ _ (by rw [World.cell?_setCell_other (h:=fun e=>by injection e with e _ _;omega),jd];rfl)]
  have ci:IntsAt (W9.putObj W1.heap.size (.deferred none)) pa (planOf st):=by
   have i1:=ints_kept HI.out (n:=W1.heap.size+7) HGE.out k9 (fun k hk=>by omega)
   exact ints_kept i1 (n:=W1.heap.size+7) HGE.out k10 (fun k hk=>by omega)
  have hbw:Below w.heap.size w (W9.putObj W1.heap.size (.deferred none)):=by
   have h1:=HJ.out.ks
   have h2:=(h1.toBelow (n:=w.heap.size) (by omega) (fun k hk=>by omega))
   have h3:=(k9.toBelow (n:=w.heap.size) (by omega) (fun k hk=>by omega))
   have h4:=(k10.toBelow (n:=w.heap.size) (by have:=k9.size;omega) (fun k hk=>by omega))
   exact ((hb1.trans h2).trans h3).trans h4
  clear hW9 jc jd jf jg
  refine ⟨by simp,.inl ⟨_,_,rfl,run_takeDeferred hd9,?_⟩⟩
  have hst:=HST.out
  exact ⟨.tuple #[.slice pa (planOf st).length pc,.bool st.isSome,.int .i64 0],by simp [results,Tryz.results9,go_sem,c1,c2],by rw [hst];exact ⟨_,_,rfl,ci,hbw⟩⟩
 case stop=>exact fun _ _ h _=>h.elim
end
end Go.Proofs.YtfggbepickdokaaGreatDoor
