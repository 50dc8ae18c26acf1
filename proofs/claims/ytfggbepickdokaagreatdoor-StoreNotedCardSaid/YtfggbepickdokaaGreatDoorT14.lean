/- Leads to the Store laws of chapter 6: N11 T5. -/
import Derived.Test.YtfggbepickdokaaGreatDoorT13
set_option maxHeartbeats 2000000
set_option maxRecDepth 100000
set_option linter.all false
namespace Go.Proofs.YtfggbepickdokaaGreatDoor
open Go.RowKit Go.Maps Sp
attribute [local go_sem] Oper.semAt_some
theorem goM_facts:∀ (l:List Msg) (seen:List (List UInt8)) (_:goM seen l=0),∀ m∈l,(1≤m.groups∧m.groups≤4)∧0≤m.due∧m.due≤999
 | [],_,_=>by simp
 | m::l,seen,h=>by
  unfold goM at h
  split at h
  ·cases h
  ·split at h
   ·cases h
   ·split at h
    ·cases h
    ·rename_i h3
     intro x hx
     rcases List.mem_cons.1 hx with rfl | hx
     ·unfold inB at h3
      simp only [decide_eq_false_iff_not,not_or,Classical.not_not] at h3
      exact h3
     ·exact goM_facts l _ h x hx
structure NightOk (b:Bk):Prop where
 gap:0≤b.gap∧b.gap≤100
 due:∀ m∈b.ms,0≤m.due∧m.due≤999
 few:(partsL b).length≤20
theorem nightOk {b:Bk} (h:bookAl b=0):NightOk b:=by
 have hO:=(bookAl_ok h).1
 obtain ⟨h0,h1,_,_⟩:=bookAl_parts h
 have hm:goM [] b.ms=0:=by
  unfold msgsAl at h1
  split at h1
  ·cases h1
  ·exact h1
 have hf:=goM_facts b.ms [] hm
 refine ⟨?_,fun m hm=>(hf m hm).2,?_⟩
 ·unfold numbersAl inB at h0
  split at h0
  ·rename_i hx
   simp only [Bool.and_eq_true,decide_eq_true_eq] at hx
   omega
  ·cases h0
 ·unfold partsL partsTo
  rw [List.length_flatMap]
  have h:=sum_map_le (fun i=>(partsOf i ((b.ms[i]?).elim 0 Msg.groups).toNat).length) 4 (List.range b.ms.length) fun i hi=>by
   unfold partsOf
   rw [List.length_map,List.length_range]
   cases hm:b.ms[i]? with
   | none=>simp
   | some m =>
    have:=(hf m (List.mem_of_getElem? hm)).1
    simp only [Option.elim]
    omega
  rw [List.length_range] at h
  have:=hO.ml
  omega
theorem missI_bd {b:Bk} (h:bookAl b=0):(missI b).length≤20:=Nat.le_trans (List.length_filter_le _ _) (nightOk h).few
theorem loadsI_bd {b:Bk} (h:bookAl b=0):∀ x∈loadsI b,0≤x∧x≤1000:=fun x hx=>by
 have:=loadsOf_bd _ _ x hx
 have:=missI_bd h
 omega
theorem plansFrom_mem {loads:List Int}:∀ (rest pre:List Int) (x:List Int × List Int) (_:x∈plansFrom loads pre rest),planOk loads x.1=some x.2∧x.1.length=pre.length+rest.length
 | [],pre,x,h=>by
  unfold plansFrom at h
  cases hp:planOk loads pre with
  | none=>rw [hp] at h;simp at h
  | some t=>rw [hp] at h;obtain rfl:x=(pre,t):=by simpa using h
            exact ⟨hp,rfl⟩
 | ld::rest,pre,x,h=>by
  unfold plansFrom at h
  obtain ⟨k,_,hk⟩:=List.mem_flatMap.1 h
  obtain ⟨h1,h2⟩:=plansFrom_mem rest (pre ++ [k]) x hk
  exact ⟨h1,by rw [h2];simp;omega⟩
theorem plansI_mem {loads:List Int} {x:List Int × List Int} (h:x∈plansI loads):planOk loads x.1=some x.2∧x.1.length=loads.length:=by
 obtain ⟨h1,h2⟩:=plansFrom_mem loads [] x h
 exact ⟨h1,by rw [h2];simp⟩
section
variable {b:Bk} {vr vg vm vs vc:Value} {w:World}
theorem nothing_any (v0 v1 v2 v3 v4:Value) (W:World):Calls Tryz.prog 67 #[.agg #[v0,v1,v2,v3,v4]] W fun e w'=>e=.returned (.int .i64 0)∧Below W.heap.size W w':=by
 go_enter Tryz.func67,Tryz.ntmps67
 go_wp2
 go_ret
 exact ⟨rfl,bel⟩
structure LatJ (b:Bk) (w W1:World) (pre:List (List Int × List Int)) (A:World):Prop where
 c:A.cell? ⟨w.heap.size+1,0,none⟩=some (.int .i64 ((pre.foldl (latestStep b) none).getD 0))
 f:A.frozen? ⟨w.heap.size+1,0,none⟩=false
 d:A.cell? ⟨w.heap.size+1+1,0,none⟩=some (.bool (pre.foldl (latestStep b) none).isSome)
 g:A.frozen? ⟨w.heap.size+1+1,0,none⟩=false
 ks:KS (fun k=>k < W1.heap.size∧k≠w.heap.size+1∧k≠w.heap.size+1+1) W1 A
theorem LatJ.keep {W1 A B:World} {pre:List (List Int × List Int)} (h:LatJ b w W1 pre A) {p:Nat→Prop} (hk:KS p A B) (h1:p (w.heap.size+1)) (h2:p (w.heap.size+1+1)) (h3:∀ k,k < W1.heap.size∧k≠w.heap.size+1∧k≠w.heap.size+1+1→p k):LatJ b w W1 pre B :=
 ⟨(hk.cell (x:=⟨_,_,none⟩) (lt_of_cell h.c) h1).trans h.c,(hk.frozen (x:=⟨_,_,none⟩) (lt_of_cell h.c) h1).trans h.f,(hk.cell (x:=⟨_,_,none⟩) (lt_of_cell h.d) h2).trans h.d,(hk.frozen (x:=⟨_,_,none⟩) (lt_of_cell h.d) h2).trans h.g,
   h.ks.trans (hk.mono fun k _ hq=>h3 k hq)⟩
theorem latest_ok (hB:BookAt w b vr vg vm vs vc) (hN:∀ m∈b.ms,m.name.size≤1000000) (hK:KindsAt w) (ht:openAl b 0=0) :
 Calls Tryz.prog 19 #[.agg #[vr,vg,vm,vs,vc]] w fun e w'=>e=.returned (.tuple #[.int .i64 ((latestI b (loadsI b)).getD 0),.bool (latestI b (loadsI b)).isSome,.int .i64 0])∧Below w.heap.size w w':=by
 refine (callsIn_wide (n:=0)).1 (callsIn_of_wp_marks Tryz.func19 rfl trivial (wpIn_wide.2 ?_) rfl)
 have HB:=Hh hB
 have HN:=Hh hN
 have HK:=Hh hK
 obtain ⟨hk,hpt,hps⟩:=openAl_ok ht
 have hbo:=(bookAl_ok hk).1
 have HO:=Hh hbo
 have HBA:=Hh hk
 have HPS:=Hh hps
 have hpl:=pasts_le hbo
 have hml:=hbo.ml
 have HPC:=Hh (fun x (hx:x∈pasts b)=>pasts_came hbo hx)
 obtain ⟨rfl,rfl,⟨ma,mc,rfl,_,_⟩,⟨sa,sc,rfl,_,_⟩,ra,rc,rfl,_,_⟩:=id hB
 clear hB hN hK ht hk hpt hps hbo
 simp only [Tryz.ntmps19,List.size_toArray,List.length_cons,List.length_nil,Nat.reduceAdd,Nat.reduceSub,Array.replicate_succ,Array.replicate_zero,List.push_toArray,List.append_toArray,List.nil_append,List.cons_append]
 go_wp2_with (first
  | (go_at_call 46;(with_reducible refine (open_nothing_ok (HB.out.below (bel)) HN.out (HK.out.below (bel)) (al:=0) (fun hk W hW=>nothing_any _ _ _ _ _ _) HBA.out rfl HPS.out).mono ?_);rintro e w3 ⟨la,rfl,hrow,hb3⟩;obtain ⟨la,lc,rfl⟩:=ownsRow_slice hrow;have HCM:=Hh (cames_of_row hrow);clear hrow;obtain ⟨hc3,hf3⟩:=bcell hb3;have hz3:=hb3.size;(try simp at hz3))
  | (go_at_call 48;(with_reducible refine (nightOf_at (HB.out.below (bel)) HO.out (HCM.out.below (bel)) HPC.out (by omega)).mono ?_);rintro e w4 ⟨RB,lc2,rfl,hld,hRB0,hRBl,hb4⟩;have HLD:=Hh hld;clear hld;obtain ⟨hc4,hf4⟩:=bcell hb4;have hz4:=hb4.size;(try simp at hz4)))
 obtain ⟨W1,hW1⟩:∃ W1,W1=w4.alloc (.cells #[.int .i64 b.room,.int .i64 b.gap,.slice ma b.ms.length mc,.slice sa b.ss.length sc,.slice ra b.rs.length rc,.slice (some ⟨RB,0,none⟩) b.ms.length lc2] 95):=⟨_,rfl⟩
 rw [← hW1]
 have hb1:Below w.heap.size w W1:=by rw [hW1];(exact bel)
 have hs1:w4.heap.size+1≤W1.heap.size:=by rw [hW1];simp
 have hw4:w3.heap.size+1≤w4.heap.size:=by have:=hb4.size;simpa using this
 have hw3:w.heap.size+1+1+1≤w3.heap.size:=by have:=hb3.size;simpa using this
 have hRB1:w3.heap.size+1≤RB:=by simpa using hRB0
 have x1:W1.cell? ⟨w.heap.size+1,0,none⟩=some (.int .i64 0):=by
  rw [hW1,World.cell?_alloc_past _ _ _ (by omega),hc4 _ _ (by simp;omega),World.cell?_alloc_past _ _ _ (by omega),hc3 _ _ (by simp),World.cell?_alloc_past _ _ _ (by simp),alloc1_cell (by simp)]
 have x2:W1.frozen? ⟨w.heap.size+1,0,none⟩=false:=by
  rw [hW1,World.frozen?_alloc_past _ _ _ (by omega),hf4 _ _ (by simp;omega),World.frozen?_alloc_past _ _ _ (by omega),hf3 _ _ (by simp),World.frozen?_alloc_past _ _ _ (by simp),World.frozen?_alloc_at _ _ _ _ (by simp)]
 have x3:W1.cell? ⟨w.heap.size+1+1,0,none⟩=some (.bool false):=by
  rw [hW1,World.cell?_alloc_past _ _ _ (by omega),hc4 _ _ (by simp;omega),World.cell?_alloc_past _ _ _ (by omega),hc3 _ _ (by simp),alloc1_cell (by simp)]
 have x4:W1.frozen? ⟨w.heap.size+1+1,0,none⟩=false:=by
  rw [hW1,World.frozen?_alloc_past _ _ _ (by omega),hf4 _ _ (by simp;omega),World.frozen?_alloc_past _ _ _ (by omega),hf3 _ _ (by simp),World.frozen?_alloc_at _ _ _ _ (by simp)]
 have hN:∀ k u,(#[.int .i64 b.room,.int .i64 b.gap,.slice ma b.ms.length mc,.slice sa b.ss.length sc,.slice ra b.rs.length rc,.slice (some ⟨RB,0,none⟩) b.ms.length lc2]:Array Value)[k]? = some u→W1.cell? ⟨w4.heap.size,k,none⟩=some u:=fun k u hk=>by
  rw [hW1,World.cell?_alloc_at _ _ _ _ rfl];exact hk
 have hli:IntsAt W1 (some ⟨RB,0,none⟩) (loadsI b):=HLD.out.below (by rw [hW1];(exact bel))
 have HN:=Hh hN
 have HLI:=Hh hli
 have HJ0:Hid (LatJ b w W1 [] W1):=⟨x1,x2,x3,x4,KS.refl _ _⟩
 clear hW1 hN hli x1 x2 x3 x4 hc3 hf3 hc4 hf4 hb3 hb4
 refine wpIn_wide.1 (wpIn_range (gf:=49) (recv:=.agg #[.int .i64 b.room,.int .i64 b.gap,.slice ma b.ms.length mc,.slice sa b.ss.length sc,.slice ra b.rs.length rc,.slice (some ⟨RB,0,none⟩) b.ms.length lc2]) rfl (enters_of Tryz.func49 (by kernel_rfl) rfl)
  (encPl (W1.heap.size+1+1) b.ms.length) (fun x args W h=>by obtain ⟨a,c,tn,rfl,_⟩:=h;rfl) (plansI (loadsI b)) (fun k=>k=W1.heap.size+1+1+1+1) (fun k=>(k < W1.heap.size∧k≠w.heap.size+1∧k≠w.heap.size+1+1)∨(W1.heap.size+2≤k∧k≤W1.heap.size+6)) ⟨by omega,by omega⟩ (by omega)
  (fun W hW hsz=>?seq) (fun pre A=>LatJ b w W1 pre A) (fun _ _=>False) ?hJ ?hJx ?h0 (fun pre x a A=>∃ ta tc,IntsAt A (some ⟨W1.heap.size+1+1+1+1,0,none⟩) x.1∧x.1.length=b.ms.length∧IntsAt A ta x.2∧(∀ y,ta=some y→W1.heap.size+1 < y.block)∧LatJ b w W1 pre A∧W1.heap.size+1+1+1+1 < A.heap.size∧a={ tmps:=#[.agg #[.int .i64 b.room,.int .i64 b.gap,.slice ma b.ms.length mc,.slice sa b.ss.length sc,.slice ra b.rs.length rc],.pointer (some ⟨w.heap.size,0,none⟩),.pointer (some ⟨w.heap.size+1,0,none⟩),.pointer (some ⟨w.heap.size+1+1,0,none⟩),.int .i64 0,.pointer (some ⟨w3.heap.size,0,none⟩),.slice la (pasts b).length lc,.pointer (some ⟨w4.heap.size,0,none⟩),.slice (some ⟨W1.heap.size+1+1+1+1,0,none⟩) b.ms.length b.ms.length,.slice ta x.2.length tc,U,U,.tuple #[.agg #[.int .i64 b.room,.int .i64 b.gap,.slice ma b.ms.length mc,.slice sa b.ss.length sc,.slice ra b.rs.length rc],.slice la (pasts b).length lc,.int .i64 0],.agg #[.int .i64 b.room,.int .i64 b.gap,.slice ma b.ms.length mc,.slice sa b.ss.length sc,.slice ra b.rs.length rc],.tuple #[.agg #[.int .i64 b.room,.int .i64 b.gap,.slice ma b.ms.length mc,.slice sa b.ss.length sc,.slice ra b.rs.length rc],.slice la (pasts b).length lc,.int .i64 0],.agg #[.int .i64 b.room,.int .i64 b.gap,.slice ma b.ms.length mc,.slice sa b.ss.length sc,.slice ra b.rs.length rc],.slice la (pasts b).length lc,.int .i64 0,.int .i64 0,.bool false,U,.agg #[.int .i64 b.room,.int .i64 b.gap,.slice ma b.ms.length mc,.slice sa b.ss.length sc,.slice ra b.rs.length rc],.slice la (pasts b).length lc,.agg #[.int .i64 b.room,.int .i64 b.gap,.slice ma b.ms.length mc,.slice sa b.ss.length sc,.slice ra b.rs.length rc,.slice (some ⟨RB,0,none⟩) b.ms.length lc2],.agg #[.int .i64 b.room,.int .i64 b.gap,.slice ma b.ms.length mc,.slice sa b.ss.length sc,.slice ra b.rs.length rc,.slice (some ⟨RB,0,none⟩) b.ms.length lc2],.func (.func 49) #[.agg #[.int .i64 b.room,.int .i64 b.gap,.slice ma b.ms.length mc,.slice sa b.ss.length sc,.slice ra b.rs.length rc,.slice (some ⟨RB,0,none⟩) b.ms.length lc2]] #[],.slice (some ⟨W1.heap.size+1+1+1+1,0,none⟩) b.ms.length b.ms.length,.slice ta x.2.length tc,U,U,U,U,U,U,U,U,U,U,U,U,U,U,U,U,U,U,U,U,U,U,U,U,U,U],defers:=[] }) ?hMid ?assign ?body ?done ?stop)
 case seq =>
  have hh:=plans_iter (vr:=.int .i64 b.room) (vg:=.int .i64 b.gap) (vm:=.slice ma b.ms.length mc) (vs:=.slice sa b.ss.length sc) (vc:=.slice ra b.rs.length rc) (lc:=lc2) (n:=b.ms.length) (HLI.out.below hW) (by omega) (loadsI_bd HBA.out) (loadsOf_length _ _) (by omega) (p:=fun k=>(k < W1.heap.size∧k≠w.heap.size+1∧k≠w.heap.size+1+1)∨(W1.heap.size+2≤k∧k≤W1.heap.size+6)) (.inl (by omega)) (fun k h1 h2=>.inr (by omega))
  rw [hsz] at hh
  exact hh
 case hJ=>exact fun pre A B h hk=>h.keep hk (by omega) (by omega) (fun k h=>by omega)
 case hJx=>exact fun _ _ _ h _=>h
 case h0=>exact fun W hW hsz=>HJ0.out.keep (KS.all hW (fun _=>True)) trivial trivial (fun _ _=>trivial)
 case hMid =>
  rintro pre x a₁ A B ⟨ta,tc,h1,h2,h3,h4,h5,h6,ha⟩ hk hsz
  refine ⟨ta,tc,h1.ks hk (by omega),h2,?_,h4,h5.keep hk (by omega) (by omega) (fun k h=>by omega),by omega,ha⟩
  rcases ta with _ | ⟨g,o,sel⟩
  ·intro i hi;obtain ⟨_,_,e,_⟩:=h3 i hi;cases e
  ·intro i hi
   obtain ⟨g',o',e,hlt,hc⟩:=h3 i hi
   have:=h4 _ e
   simp only at this
   exact ⟨g',o',e,by omega,(hk.cell (x:=⟨g',o'+i,none⟩) hlt (by simp;omega)).trans hc⟩
 case assign =>
  rintro pre x args A hx ⟨ta,tc,tn,rfl,rfl,hl,hi1,hi2,htb,hsz⟩ hj hlt
  have HTB:=Hh htb
  have HJ:=Hh hj
  have HI1:=Hh hi1
  have HI2:=Hh hi2
  clear hj hx hi1 hi2 htb
  rw [two_param]
  show Code.wpIn _ _ _ _ _ { tmps:=#[.agg #[.int .i64 b.room,.int .i64 b.gap,.slice ma b.ms.length mc,.slice sa b.ss.length sc,.slice ra b.rs.length rc],.pointer (some ⟨w.heap.size,0,none⟩),.pointer (some ⟨w.heap.size+1,0,none⟩),.pointer (some ⟨w.heap.size+1+1,0,none⟩),.int .i64 0,.pointer (some ⟨w3.heap.size,0,none⟩),.slice la (pasts b).length lc,.pointer (some ⟨w4.heap.size,0,none⟩),U,U,U,U,.tuple #[.agg #[.int .i64 b.room,.int .i64 b.gap,.slice ma b.ms.length mc,.slice sa b.ss.length sc,.slice ra b.rs.length rc],.slice la (pasts b).length lc,.int .i64 0],.agg #[.int .i64 b.room,.int .i64 b.gap,.slice ma b.ms.length mc,.slice sa b.ss.length sc,.slice ra b.rs.length rc],.tuple #[.agg #[.int .i64 b.room,.int .i64 b.gap,.slice ma b.ms.length mc,.slice sa b.ss.length sc,.slice ra b.rs.length rc],.slice la (pasts b).length lc,.int .i64 0],.agg #[.int .i64 b.room,.int .i64 b.gap,.slice ma b.ms.length mc,.slice sa b.ss.length sc,.slice ra b.rs.length rc],.slice la (pasts b).length lc,.int .i64 0,.int .i64 0,.bool false,U,.agg #[.int .i64 b.room,.int .i64 b.gap,.slice ma b.ms.length mc,.slice sa b.ss.length sc,.slice ra b.rs.length rc],.slice la (pasts b).length lc,.agg #[.int .i64 b.room,.int .i64 b.gap,.slice ma b.ms.length mc,.slice sa b.ss.length sc,.slice ra b.rs.length rc,.slice (some ⟨RB,0,none⟩) b.ms.length lc2],.agg #[.int .i64 b.room,.int .i64 b.gap,.slice ma b.ms.length mc,.slice sa b.ss.length sc,.slice ra b.rs.length rc,.slice (some ⟨RB,0,none⟩) b.ms.length lc2],.func (.func 49) #[.agg #[.int .i64 b.room,.int .i64 b.gap,.slice ma b.ms.length mc,.slice sa b.ss.length sc,.slice ra b.rs.length rc,.slice (some ⟨RB,0,none⟩) b.ms.length lc2]] #[],.slice (some ⟨W1.heap.size+1+1+1+1,0,none⟩) b.ms.length b.ms.length,.slice ta x.2.length tc,U,U,U,U,U,U,U,U,U,U,U,U,U,U,U,U,U,U,U,U,U,U,U,U,U,U],defers:=[] } _
  gi_wp2
  gi_wp2
  exact ⟨KS.refl _ _,ta,tc,HI1.out,hl,HI2.out,fun y hy=>by have:=HTB.out y hy;omega,HJ.out,by omega,rfl⟩
 case body =>
  rintro pre x a₁ A ⟨suf,hx⟩ ⟨ta,tc,h1,h2,h3,h4,hj,h6,rfl⟩ hlt
  have hmem:x∈plansI (loadsI b):=by rw [hx];simp
  obtain ⟨hok,hxl⟩:=plansI_mem hmem
  have hpl5:x.1.length≤50:=by omega
  have hbd:=planOk_bd hok hpl5 (loadsI_bd HBA.out)
  have hll:(loadsI b).length=x.1.length:=by rw [h2];exact loadsOf_length _ _
  have hkt:=planOk_lt hok hll
  have hN:=nightOk HBA.out
  have hbA:Below w.heap.size w A:=by
   have:=hj.ks
   exact ⟨this.os.trans hb1.os,this.tape.trans hb1.tape,this.output.trans hb1.output,Nat.le_trans hb1.size this.size,fun k hk=>(this.block k (by omega) (by omega)).trans (hb1.block k hk)⟩
  have hla:=late_at (pc:=b.ms.length) (tc:=tc) (HB.out.below hbA) hN.due hN.gap (.slice (some ⟨RB,0,none⟩) b.ms.length lc2) rfl h1 (pn:=b.ms.length) h2.symm h2 h3 rfl hbd.2 hbd.1 hkt (by omega)
  have hlb:=lateI_bd (plan:=x.1) hN.due hN.gap hbd.2 hbd.1
  have hst:(pre ++ [x]).foldl (latestStep b) none=latestStep b (pre.foldl (latestStep b) none) x:=by rw [List.foldl_append];rfl
  have hls:∀ st,latestStep b st x=if fitsI b x.2 && decide (lateI b x.1 x.2≤0) && (match st with | none=>true | some y=>decide (y < - lateI b x.1 x.2)) then some (- lateI b x.1 x.2) else st:=fun st=>rfl
  have nn:∀ k u,(#[.int .i64 b.room,.int .i64 b.gap,.slice ma b.ms.length mc,.slice sa b.ss.length sc,.slice ra b.rs.length rc,.slice (some ⟨RB,0,none⟩) b.ms.length lc2]:Array Value)[k]? = some u→A.cell? ⟨w4.heap.size,k,none⟩=some u:=fun k u hk =>
   (hj.ks.cell (x:=⟨w4.heap.size,k,none⟩) (by simp;omega) (by simp;omega)).trans (HN.out k u hk)
  obtain ⟨n0,n1,n2,n3,n4,n5⟩:_∧_∧_∧_∧_∧_:=⟨nn 0 _ rfl,nn 1 _ rfl,nn 2 _ rfl,nn 3 _ rfl,nn 4 _ rfl,nn 5 _ rfl⟩
  have jc:=hj.c
  have jf:=hj.f
  have jd:=hj.d
  have jg:=hj.g
  have hAl:w4.heap.size < A.heap.size:=by have:=hj.ks.size;omega
  have hB1:=lt_of_cell jc
  have hB2:=lt_of_cell jd
  simp only at hB1 hB2
  have HJ:=Hh hj
  have HST:=Hh hst
  have HLS:=Hh hls
  have HLA:=Hh hla
  generalize lateI b x.1 x.2=L at HLA HLS hlb
  generalize fitsI b x.2=F at HLA HLS
  have hneg:IntKind.i64.wrap (- L)=- L:=IntWalk.i64_in _ (by omega)
  clear hx h1 h2 h3 h4 hj hmem hok hxl hbd hll hkt hN hst hls hla nn hpl5
  have same:∀ B,Below A.heap.size A B→latestStep b (pre.foldl (latestStep b) none) x=pre.foldl (latestStep b) none→KS (fun k=>((k < W1.heap.size∧k≠w.heap.size+1∧k≠w.heap.size+1+1)∨(W1.heap.size+2≤k∧k≤W1.heap.size+6))∨k=W1.heap.size∨k=W1.heap.size+1) A B∧LatJ b w W1 (pre ++ [x]) B:=fun B hb he=>by
   refine ⟨KS.all hb _,?_⟩
   have h:=HJ.out.keep (KS.all hb (fun _=>True)) trivial trivial (fun _ _=>trivial)
   exact ⟨by rw [HST.out,he];exact h.c,h.f,by rw [HST.out,he];exact h.d,h.g,h.ks⟩
  have turn:∀ B,Below A.heap.size A B→latestStep b (pre.foldl (latestStep b) none) x=some (- L)→KS (fun k=>((k < W1.heap.size∧k≠w.heap.size+1∧k≠w.heap.size+1+1)∨(W1.heap.size+2≤k∧k≤W1.heap.size+6))∨k=W1.heap.size∨k=W1.heap.size+1) A ((B.setCell ⟨w.heap.size+1,0,none⟩ (.int .i64 (- L))).setCell ⟨w.heap.size+1+1,0,none⟩ (.bool true)) ∧
   LatJ b w W1 (pre ++ [x]) ((B.setCell ⟨w.heap.size+1,0,none⟩ (.int .i64 (- L))).setCell ⟨w.heap.size+1+1,0,none⟩ (.bool true)):=fun B hb he=>by
   have h:=HJ.out.keep (KS.all hb (fun _=>True)) trivial trivial (fun _ _=>trivial)
   have k1:KS (fun k=>k≠w.heap.size+1∧k≠w.heap.size+1+1) B ((B.setCell ⟨w.heap.size+1,0,none⟩ (.int .i64 (- L))).setCell ⟨w.heap.size+1+1,0,none⟩ (.bool true)):=(KS.setCell (by simp) _ _).trans (KS.setCell (by simp) _ _)
   refine ⟨(KS.all hb _).trans (k1.mono fun k _ hk=>by omega),?_,?_,?_,?_,h.ks.trans (k1.mono fun k _ hk=>⟨hk.2.1,hk.2.2⟩)⟩
   ·rw [World.cell?_setCell_other (h:=fun e=>by injection e with e _ _;omega),World.cell?_setCell_same' _ _ _ (by rw [h.c];rfl),HST.out,he]
    rfl
   ·rw [World.frozen?_setCell,World.frozen?_setCell];exact h.f
   ·rw [World.cell?_setCell_same' _ _ _ (by rw [World.cell?_setCell_other (h:=fun e=>by injection e with e _ _;omega),h.d];rfl),HST.out,he]
    rfl
   ·rw [World.frozen?_setCell,World.frozen?_setCell];exact h.g
  have SAME:=Hh same
  have TURN:=Hh turn
  clear same turn
  cases F
  ·gi_wp2_with (gi_at_call 68;(with_reducible refine (calls_round HLA.out).mono ?_);rintro e w5 ⟨rfl,hb5⟩;obtain ⟨hc5,hf5⟩:=bcell hb5;have hz5:=hb5.size)
   exact SAME.out w5 hb5 (by rw [HLS.out];simp)
  ·by_cases hL:L≤0
   ·cases hs:pre.foldl (latestStep b) none with
    | none =>
     rw [hs] at jc jd
     simp only [Option.getD_none,Option.isSome_none] at jc jd
     have HS:=Hh hs
     clear hs
     gi_wp2_with (gi_at_call 68;(with_reducible refine (calls_round HLA.out).mono ?_);rintro e w5 ⟨rfl,hb5⟩;obtain ⟨hc5,hf5⟩:=bcell hb5;have hz5:=hb5.size)
     exact TURN.out w5 hb5 (by rw [HLS.out,HS.out];simp [hL])
    | some y =>
     rw [hs] at jc jd
     simp only [Option.getD_some,Option.isSome_some] at jc jd
     have HS:=Hh hs
     clear hs
     by_cases hy:y < - L
     ·gi_wp2_with (gi_at_call 68;(with_reducible refine (calls_round HLA.out).mono ?_);rintro e w5 ⟨rfl,hb5⟩;obtain ⟨hc5,hf5⟩:=bcell hb5;have hz5:=hb5.size)
      exact TURN.out w5 hb5 (by rw [HLS.out,HS.out];simp [hL,hy])
     ·gi_wp2_with (gi_at_call 68;(with_reducible refine (calls_round HLA.out).mono ?_);rintro e w5 ⟨rfl,hb5⟩;obtain ⟨hc5,hf5⟩:=bcell hb5;have hz5:=hb5.size)
      exact SAME.out w5 hb5 (by rw [HLS.out,HS.out];simp [hL];intro h;omega)
   ·gi_wp2_with (gi_at_call 68;(with_reducible refine (calls_round HLA.out).mono ?_);rintro e w5 ⟨rfl,hb5⟩;obtain ⟨hc5,hf5⟩:=bcell hb5;have hz5:=hb5.size)
    exact SAME.out w5 hb5 (by rw [HLS.out];simp;intro h;omega)
 case done =>
  rintro W hj hd
  have jc:=hj.c
  have jf:=hj.f
  have jd:=hj.d
  have jg:=hj.g
  have HJ:=Hh hj
  have hD:W1.heap.size < W.heap.size:=(Array.getElem?_eq_some_iff.1 hd).1
  have hB1:=lt_of_cell jc
  have hB2:=lt_of_cell jd
  simp only at hB1 hB2
  generalize hst:(plansI (loadsI b)).foldl (latestStep b) none=st at jc jd
  have HST:=Hh (show latestI b (loadsI b)=st from hst)
  clear hst
  clear hj
  go_wp2
  go_region
  go_wp2
  obtain ⟨W9,hW9⟩:∃ W9,W9=((W.setCell ⟨w.heap.size+1,0,none⟩ (.int .i64 (st.getD 0))).setCell ⟨w.heap.size+1+1,0,none⟩ (.bool st.isSome)).drew:=⟨_,rfl⟩
  rw [← hW9]
  have k9:KS (fun k=>k≠w.heap.size+1∧k≠w.heap.size+1+1) W W9:=by rw [hW9];exact ((KS.setCell (by simp) _ _).trans (KS.setCell (by simp) _ _)).trans (KS.drew _ _)
  have hd9:W9.heap[W1.heap.size]? = some (.deferred (some [])):=(k9.block _ hD (by omega)).trans hd
  have k10:KS (fun k=>k≠W1.heap.size) W9 (W9.putObj W1.heap.size (.deferred none)):=KS.putObj (by simp) _ _
  have c1:(W9.putObj W1.heap.size (.deferred none)).cell? ⟨w.heap.size+1,0,none⟩=some (.int .i64 (st.getD 0)):=by
   rw [k10.cell (x:=⟨w.heap.size+1,0,none⟩) (Nat.lt_of_lt_of_le hB1 k9.size) (by simp;omega),hW9,World.cell?_drew,World.cell?_setCell_other (h:=fun e=>by injection e with e _ _;omega),World.cell?_setCell_same' _ _ _ (by rw [jc];rfl)]
  have c2:(W9.putObj W1.heap.size (.deferred none)).cell? ⟨w.heap.size+1+1,0,none⟩=some (.bool st.isSome):=by
   rw [k10.cell (x:=⟨w.heap.size+1+1,0,none⟩) (Nat.lt_of_lt_of_le hB2 k9.size) (by simp;omega),hW9,World.cell?_drew,World.cell?_setCell_same' _ _ _ (by rw [World.cell?_setCell_other (h:=fun e=>by injection e with e _ _;omega),jd];rfl)]
  have hbw:Below w.heap.size w (W9.putObj W1.heap.size (.deferred none)):=by
   have h1:=HJ.out.ks
   have h2:=(h1.toBelow (n:=w.heap.size) (by omega) (fun k hk=>by omega))
   have h3:=(k9.toBelow (n:=w.heap.size) (by omega) (fun k hk=>by omega))
   have h4:=(k10.toBelow (n:=w.heap.size) (by have:=k9.size;omega) (fun k hk=>by omega))
   exact ((hb1.trans h2).trans h3).trans h4
  clear hW9 jc jd jf jg
  refine ⟨by simp,.inl ⟨_,_,rfl,run_takeDeferred hd9,?_⟩⟩
  exact ⟨.tuple #[.int .i64 (st.getD 0),.bool st.isSome,.int .i64 0],by simp [results,Tryz.results19,go_sem,c1,c2],by rw [HST.out],hbw⟩
 case stop=>exact fun _ _ h _=>h.elim
end
section
variable {b:Bk} {vr vg vm vs vc:Value} {w:World}
theorem missingApi_no (hB:BookAt w b vr vg vm vs vc) (hN:∀ m∈b.ms,m.name.size≤1000000) (hK:KindsAt w) {t:Int} (ht:openAl b 0=t) (h0:t≠0) :
 Calls Tryz.prog 28 #[.agg #[vr,vg,vm,vs,vc]] w fun e w'=>e=.returned (.tuple #[.slice none 0 0,.int .i64 t])∧Below w.heap.size w w':=by
 have HB:=Hh hB
 have HN:=Hh hN
 have HK:=Hh hK
 have HT:=Hh ht
 have HH0:=Hh h0
 have hz3:(t != 0)=true:=by simpa using h0
 obtain ⟨rfl,rfl,⟨ma,mc,rfl,_,_⟩,⟨sa,sc,rfl,_,_⟩,ra,rc,rfl,_,_⟩:=id hB
 clear hB hN hK ht
 go_enter Tryz.func28,Tryz.ntmps28
 go_wp2_with (go_at_call 46;(with_reducible refine (open_nothing_no (HB.out.below (bel)) HN.out (HK.out.below (bel)) (al:=0) (fun hk W hW=>nothing_any _ _ _ _ _ _) HT.out HH0.out).mono ?_);rintro e w3 ⟨rfl,hb3⟩;obtain ⟨hc3,hf3⟩:=bcell hb3;have hz3:=hb3.size;(try simp at hz3))
 exact bodyPost_ret (v:=.tuple #[.slice none 0 0,.int .i64 t]) (by simp [results,Tryz.results28,go_sem, *]) rfl ⟨rfl,bel⟩
def PartsRet (w:World) (l:List Prt) (e:Ending) (w':World):Prop:=∃ a c,e=.returned (.tuple #[.slice a l.length c,.int .i64 0])∧PartsAt w' a l∧Below w.heap.size w w'
theorem missingApi_ok (hB:BookAt w b vr vg vm vs vc) (hN:∀ m∈b.ms,m.name.size≤1000000) (hK:KindsAt w) (ht:openAl b 0=0) :
 Calls Tryz.prog 28 #[.agg #[vr,vg,vm,vs,vc]] w (PartsRet w (missI b)):=by
 have HB:=Hh hB
 have HN:=Hh hN
 have HK:=Hh hK
 obtain ⟨hk,hpt,hps⟩:=openAl_ok ht
 have hbo:=(bookAl_ok hk).1
 have HO:=Hh hbo
 have HBA:=Hh hk
 have HPS:=Hh hps
 have hpl:=pasts_le hbo
 have HPC:=Hh (fun x (hx:x∈pasts b)=>pasts_came hbo hx)
 obtain ⟨rfl,rfl,⟨ma,mc,rfl,_,_⟩,⟨sa,sc,rfl,_,_⟩,ra,rc,rfl,_,_⟩:=id hB
 clear hB hN hK ht hk hpt hps hbo
 go_enter Tryz.func28,Tryz.ntmps28
 go_wp2_with (first
  | (go_at_call 46;(with_reducible refine (open_nothing_ok (HB.out.below (bel)) HN.out (HK.out.below (bel)) (al:=0) (fun hk W hW=>nothing_any _ _ _ _ _ _) HBA.out rfl HPS.out).mono ?_);rintro e w3 ⟨la,rfl,hrow,hb3⟩;obtain ⟨la,lc,rfl⟩:=ownsRow_slice hrow;have HCM:=Hh (cames_of_row hrow);clear hrow;obtain ⟨hc3,hf3⟩:=bcell hb3;have hz3:=hb3.size;(try simp at hz3))
  | (go_at_call 64;(with_reducible refine (missing_at (HB.out.below (bel)) HO.out (HCM.out.below (bel)) HPC.out (by omega)).mono ?_);rintro e w4 ⟨v4,rfl,hr4,hb4⟩;obtain ⟨a4,c4,rfl⟩:=ownsRow_slice hr4;have HP4:=Hh (show PartsAt w4 a4 (missI b) from parts_of_row hr4);clear hr4;have hz4:=hb4.size;(try simp at hz4)))
 exact bodyPost_ret (v:=.tuple #[.slice a4 (missI b).length c4,.int .i64 0]) (by simp [results,Tryz.results28,go_sem,missI, *]) rfl ⟨a4,c4,rfl,HP4.out,bel⟩
end
end Go.Proofs.YtfggbepickdokaaGreatDoor
