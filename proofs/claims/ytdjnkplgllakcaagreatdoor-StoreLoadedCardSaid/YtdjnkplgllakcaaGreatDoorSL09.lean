/- StoreLoaded -/
import Derived.Test.YtdjnkplgllakcaaGreatDoorSL08
import Derived.Deep.Upon
set_option maxHeartbeats 4000000
set_option maxRecDepth 100000
set_option linter.all false
namespace Go.Proofs.YtdjnkplgllakcaaGreatDoor
open Go.RowKit Go.Maps Sp
attribute [local go_sem] Oper.semAt_some
theorem goM_facts:∀ (l:List Msg) (seen:List (List UInt8)) (_:goM seen l=0),∀ m∈l,(1<=m.groups/\m.groups<=4)/\0<=m.due/\m.due<=999
 | [],_,_=>by simp
 | m::l,seen,h=>by
  unfold goM at h;split at h
  ·cases h
  ·split at h
   ·cases h
   ·split at h
    ·cases h
    ·rename_i h3
     intro x hx;rcases List.mem_cons.1 hx with rfl | hx
     ·unfold inB at h3;simp only [decide_eq_false_iff_not,not_or,Classical.not_not] at h3;exact h3
     ·exact goM_facts l _ h x hx
structure NightOk (b:Bk):Prop where
 gap:0<=b.gap/\b.gap<=100
 due:∀ m∈b.ms,0<=m.due/\m.due<=999
 few:(partsL b).length<=20
theorem nightOk {b:Bk} (h:bookAl b=0):NightOk b:=by
 have hO:=(bookAl_ok h).1;obtain ⟨h0,h1,_,_⟩:=bookAl_parts h;have hm:goM [] b.ms=0:=by
  unfold msgsAl at h1;split at h1
  ·cases h1
  ·exact h1
 have hf:=goM_facts b.ms [] hm;refine ⟨?_,fun m hm=>(hf m hm).2,?_⟩
 ·unfold numbersAl inB at h0;split at h0
  ·rename_i hx
   simp only [Bool.and_eq_true,decide_eq_true_eq] at hx;omega
  ·cases h0
 ·unfold partsL partsTo;rw [List.length_flatMap];have h:=sum_map_le (fun i=>(partsOf i ((b.ms[i]?).elim 0 Msg.groups).toNat).length) 4 (List.range b.ms.length) fun i hi=>by
   unfold partsOf;rw [List.length_map,List.length_range]
   cases hm:b.ms[i]? with
   | none=>simp
   | some m =>
    have:=(hf m (List.mem_of_getElem? hm)).1;simp only [Option.elim];omega
  rw [List.length_range] at h;have:=hO.ml;omega
theorem missI_bd {b:Bk} (h:bookAl b=0):(missI b).length<=20:=Nat.le_trans (List.length_filter_le _ _) (nightOk h).few
theorem loadsI_bd {b:Bk} (h:bookAl b=0):∀ x∈loadsI b,0<=x/\x<=1000:=fun x hx=>by
 have:=loadsOf_bd _ _ x hx;have:=missI_bd h;omega
theorem plansFrom_mem {loads:List Int}:∀ (rest pre:List Int) (x:List Int × List Int) (_:x∈plansFrom loads pre rest),planOk loads x.1=some x.2/\x.1.length=pre.length+rest.length
 | [],pre,x,h=>by
  unfold plansFrom at h
  cases hp:planOk loads pre with
  | none=>rw [hp] at h;simp at h
  | some t=>rw [hp] at h;obtain rfl:x=(pre,t):=by simpa using h
            exact ⟨hp,rfl⟩
 | ld::rest,pre,x,h=>by
  unfold plansFrom at h;obtain ⟨k,_,hk⟩:=List.mem_flatMap.1 h;obtain ⟨h1,h2⟩:=plansFrom_mem rest (pre ++ [k]) x hk;exact ⟨h1,by rw [h2];simp;omega⟩
theorem plansI_mem {loads:List Int} {x:List Int × List Int} (h:x∈plansI loads):planOk loads x.1=some x.2/\x.1.length=loads.length:=by
 obtain ⟨h1,h2⟩:=plansFrom_mem loads [] x h;exact ⟨h1,by rw [h2];simp⟩
section
variable {b:Bk} {vr vg vm vs vc:Value} {w:World}
theorem nothing_any (v0 v1 v2 v3 v4:Value) (W:World):Calls Tryz.prog 35 #[.agg #[v0,v1,v2,v3,v4]] W fun e w'=>e=.returned (.int .i64 0)/\Below W.heap.size W w':=by
 go_enter Tryz.func35,Tryz.ntmps35
 go_wp2;go_ret;exact ⟨rfl,bel⟩
structure LatJ (b:Bk) (w W1:World) (pre:List (List Int × List Int)) (A:World):Prop where
 c:A.cell? ⟨w.heap.size+1,0,none⟩=some (.int .i64 ((pre.foldl (latestStep b) none).getD 0))
 f:A.frozen? ⟨w.heap.size+1,0,none⟩=false
 d:A.cell? ⟨w.heap.size+1+1,0,none⟩=some (.bool (pre.foldl (latestStep b) none).isSome)
 g:A.frozen? ⟨w.heap.size+1+1,0,none⟩=false
 ks:KS (fun k=>k < W1.heap.size/\k≠w.heap.size+1/\k≠w.heap.size+1+1) W1 A
theorem LatJ.keep {W1 A B:World} {pre:List (List Int × List Int)} (h:LatJ b w W1 pre A) {p:Nat->Prop} (hk:KS p A B) (h1:p (w.heap.size+1)) (h2:p (w.heap.size+1+1)) (h3:∀ k,k < W1.heap.size/\k≠w.heap.size+1/\k≠w.heap.size+1+1->p k):LatJ b w W1 pre B :=
 ⟨(hk.cell (x:=⟨_,_,none⟩) (lt_of_cell h.c) h1).trans h.c,(hk.frozen (x:=⟨_,_,none⟩) (lt_of_cell h.c) h1).trans h.f,(hk.cell (x:=⟨_,_,none⟩) (lt_of_cell h.d) h2).trans h.d,(hk.frozen (x:=⟨_,_,none⟩) (lt_of_cell h.d) h2).trans h.g,
   h.ks.trans (hk.mono fun k _ hq=>h3 k hq)⟩
theorem latest_ok (hB:BookAt w b vr vg vm vs vc) (hN:∀ m∈b.ms,m.name.size<=1000000) (hK:KindsAt w) (ht:openAl b 0=0) :
 Calls Tryz.prog 26 #[.agg #[vr,vg,vm,vs,vc]] w fun e w'=>e=.returned (.tuple #[.int .i64 ((latestI b (loadsI b)).getD 0),.bool (latestI b (loadsI b)).isSome,.int .i64 0])/\Below w.heap.size w w':=by
 refine (callsIn_wide (n:=0)).1 (callsIn_of_wp_marks Tryz.func26 rfl trivial (wpIn_wide.2 ?_) rfl);have HB:=Hh hB;have HN:=Hh hN;have HK:=Hh hK;obtain ⟨hk,hpt,hps⟩:=openAl_ok ht;have hbo:=(bookAl_ok hk).1;have HO:=Hh hbo;have HBA:=Hh hk;have HPS:=Hh hps;have hpl:=pasts_le hbo;have hml:=hbo.ml;have HPC:=Hh (fun x (hx:x∈pasts b)=>pasts_came hbo hx);obtain ⟨rfl,rfl,⟨ma,mc,rfl,_,_⟩,⟨sa,sc,rfl,_,_⟩,ra,rc,rfl,_,_⟩:=id hB;clear hB hN hK ht hk hpt hps hbo;simp only [Tryz.ntmps26,List.size_toArray,List.length_cons,List.length_nil,Nat.reduceAdd,Nat.reduceSub,Array.replicate_succ,Array.replicate_zero,List.push_toArray,List.append_toArray,List.nil_append,List.cons_append];go_wp2_with (first
  | (go_at_call 34;(with_reducible refine (open_nothing_ok (HB.out.below (bel)) HN.out (HK.out.below (bel)) (al:=0) (fun hk W hW=>nothing_any _ _ _ _ _ _) HBA.out rfl HPS.out).mono ?_);rintro e w3 ⟨la,rfl,hrow,hb3⟩;obtain ⟨la,lc,rfl⟩:=ownsRow_slice hrow;have HCM:=Hh (cames_of_row hrow);clear hrow;obtain ⟨hc3,hf3⟩:=bcell hb3;have hz3:=hb3.size;(try simp at hz3))
  | (go_at_call 38;(with_reducible refine (nightOf_at (HB.out.below (bel)) HO.out (HCM.out.below (bel)) HPC.out (by omega)).mono ?_);rintro e w4 ⟨RB,lc2,rfl,hld,hRB0,hRBl,hb4⟩;have HLD:=Hh hld;clear hld;obtain ⟨hc4,hf4⟩:=bcell hb4;have hz4:=hb4.size;(try simp at hz4)))
 obtain ⟨W1,hW1⟩:∃ W1,W1=w4.alloc (.cells #[.int .i64 b.room,.int .i64 b.gap,.slice ma b.ms.length mc,.slice sa b.ss.length sc,.slice ra b.rs.length rc,.slice (some ⟨RB,0,none⟩) b.ms.length lc2] 96):=⟨_,rfl⟩;rw [<- hW1];have hb1:Below w.heap.size w W1:=by rw [hW1];(exact bel)
 have hs1:w4.heap.size+1<=W1.heap.size:=by rw [hW1];simp
 have hw4:w3.heap.size+1<=w4.heap.size:=by have:=hb4.size;simpa using this
 have hw3:w.heap.size+1+1+1<=w3.heap.size:=by have:=hb3.size;simpa using this
 have hRB1:w3.heap.size+1<=RB:=by simpa using hRB0
 have x1:W1.cell? ⟨w.heap.size+1,0,none⟩=some (.int .i64 0):=by
  rw [hW1,World.cell?_alloc_past _ _ _ (by omega),hc4 _ _ (by simp;omega),World.cell?_alloc_past _ _ _ (by omega),hc3 _ _ (by simp),World.cell?_alloc_past _ _ _ (by simp),alloc1_cell (by simp)]
 have x2:W1.frozen? ⟨w.heap.size+1,0,none⟩=false:=by
  rw [hW1,World.frozen?_alloc_past _ _ _ (by omega),hf4 _ _ (by simp;omega),World.frozen?_alloc_past _ _ _ (by omega),hf3 _ _ (by simp),World.frozen?_alloc_past _ _ _ (by simp),World.frozen?_alloc_at _ _ _ _ (by simp)]
 have x3:W1.cell? ⟨w.heap.size+1+1,0,none⟩=some (.bool false):=by
  rw [hW1,World.cell?_alloc_past _ _ _ (by omega),hc4 _ _ (by simp;omega),World.cell?_alloc_past _ _ _ (by omega),hc3 _ _ (by simp),alloc1_cell (by simp)]
 have x4:W1.frozen? ⟨w.heap.size+1+1,0,none⟩=false:=by
  rw [hW1,World.frozen?_alloc_past _ _ _ (by omega),hf4 _ _ (by simp;omega),World.frozen?_alloc_past _ _ _ (by omega),hf3 _ _ (by simp),World.frozen?_alloc_at _ _ _ _ (by simp)]
 have hN:∀ k u,(#[.int .i64 b.room,.int .i64 b.gap,.slice ma b.ms.length mc,.slice sa b.ss.length sc,.slice ra b.rs.length rc,.slice (some ⟨RB,0,none⟩) b.ms.length lc2]:Array Value)[k]? = some u->W1.cell? ⟨w4.heap.size,k,none⟩=some u:=fun k u hk=>by
  rw [hW1,World.cell?_alloc_at _ _ _ _ rfl];exact hk
 have hli:IntsAt W1 (some ⟨RB,0,none⟩) (loadsI b):=HLD.out.below (by rw [hW1];(exact bel));have HN:=Hh hN;have HLI:=Hh hli;have HJ0:Hid (LatJ b w W1 [] W1):=⟨x1,x2,x3,x4,KS.refl _ _⟩;clear hW1 hN hli x1 x2 x3 x4 hc3 hf3 hc4 hf4 hb3 hb4;refine wpIn_wide.1 (wpIn_range (gf:=39) (recv:=.agg #[.int .i64 b.room,.int .i64 b.gap,.slice ma b.ms.length mc,.slice sa b.ss.length sc,.slice ra b.rs.length rc,.slice (some ⟨RB,0,none⟩) b.ms.length lc2]) rfl (enters_of Tryz.func39 (by kernel_rfl) rfl)
  (encPl (W1.heap.size+1+1) b.ms.length) (fun x args W h=>by obtain ⟨a,c,tn,rfl,_⟩:=h;rfl) (plansI (loadsI b)) (fun k=>k=W1.heap.size+1+1+1+1) (fun k=>(k < W1.heap.size/\k≠w.heap.size+1/\k≠w.heap.size+1+1)\/(W1.heap.size+2<=k/\k<=W1.heap.size+6)) ⟨by omega,by omega⟩ (by omega)
  (fun W hW hsz=>?seq) (fun pre A=>LatJ b w W1 pre A) (fun _ _=>False) ?hJ ?hJx ?h0 (fun pre x a A=>∃ ta tc,IntsAt A (some ⟨W1.heap.size+1+1+1+1,0,none⟩) x.1/\x.1.length=b.ms.length/\IntsAt A ta x.2/\(∀ y,ta=some y->W1.heap.size+1 < y.block)/\LatJ b w W1 pre A/\W1.heap.size+1+1+1+1 < A.heap.size/\a={ tmps:=#[.agg #[.int .i64 b.room,.int .i64 b.gap,.slice ma b.ms.length mc,.slice sa b.ss.length sc,.slice ra b.rs.length rc],.pointer (some ⟨w.heap.size,0,none⟩),.pointer (some ⟨w.heap.size+1,0,none⟩),.pointer (some ⟨w.heap.size+1+1,0,none⟩),.int .i64 0,.pointer (some ⟨w3.heap.size,0,none⟩),.slice la (pasts b).length lc,.pointer (some ⟨w4.heap.size,0,none⟩),.slice (some ⟨W1.heap.size+1+1+1+1,0,none⟩) b.ms.length b.ms.length,.slice ta x.2.length tc,U,U,.tuple #[.agg #[.int .i64 b.room,.int .i64 b.gap,.slice ma b.ms.length mc,.slice sa b.ss.length sc,.slice ra b.rs.length rc],.slice la (pasts b).length lc,.int .i64 0],.agg #[.int .i64 b.room,.int .i64 b.gap,.slice ma b.ms.length mc,.slice sa b.ss.length sc,.slice ra b.rs.length rc],.tuple #[.agg #[.int .i64 b.room,.int .i64 b.gap,.slice ma b.ms.length mc,.slice sa b.ss.length sc,.slice ra b.rs.length rc],.slice la (pasts b).length lc,.int .i64 0],.agg #[.int .i64 b.room,.int .i64 b.gap,.slice ma b.ms.length mc,.slice sa b.ss.length sc,.slice ra b.rs.length rc],.slice la (pasts b).length lc,.int .i64 0,.int .i64 0,.bool false,U,.agg #[.int .i64 b.room,.int .i64 b.gap,.slice ma b.ms.length mc,.slice sa b.ss.length sc,.slice ra b.rs.length rc],.slice la (pasts b).length lc,.agg #[.int .i64 b.room,.int .i64 b.gap,.slice ma b.ms.length mc,.slice sa b.ss.length sc,.slice ra b.rs.length rc,.slice (some ⟨RB,0,none⟩) b.ms.length lc2],.agg #[.int .i64 b.room,.int .i64 b.gap,.slice ma b.ms.length mc,.slice sa b.ss.length sc,.slice ra b.rs.length rc,.slice (some ⟨RB,0,none⟩) b.ms.length lc2],.func (.func 39) #[.agg #[.int .i64 b.room,.int .i64 b.gap,.slice ma b.ms.length mc,.slice sa b.ss.length sc,.slice ra b.rs.length rc,.slice (some ⟨RB,0,none⟩) b.ms.length lc2]] #[],.slice (some ⟨W1.heap.size+1+1+1+1,0,none⟩) b.ms.length b.ms.length,.slice ta x.2.length tc,U,U,U,U,U,U,U,U,U,U,U,U,U,U,U,U,U,U,U,U,U,U,U,U,U,U],defers:=[] }) ?hMid ?assign ?body ?done ?stop)
 case seq =>
  have hh:=plans_iter (vr:=.int .i64 b.room) (vg:=.int .i64 b.gap) (vm:=.slice ma b.ms.length mc) (vs:=.slice sa b.ss.length sc) (vc:=.slice ra b.rs.length rc) (lc:=lc2) (n:=b.ms.length) (HLI.out.below hW) (by omega) (loadsI_bd HBA.out) (loadsOf_length _ _) (by omega) (p:=fun k=>(k < W1.heap.size/\k≠w.heap.size+1/\k≠w.heap.size+1+1)\/(W1.heap.size+2<=k/\k<=W1.heap.size+6)) (.inl (by omega)) (fun k h1 h2=>.inr (by omega));rw [hsz] at hh;exact hh
 case hJ=>exact fun pre A B h hk=>h.keep hk (by omega) (by omega) (fun k h=>by omega)
 case hJx=>exact fun _ _ _ h _=>h
 case h0=>exact fun W hW hsz=>HJ0.out.keep (KS.all hW (fun _=>True)) trivial trivial (fun _ _=>trivial)
 case hMid =>
  rintro pre x a₁ A B ⟨ta,tc,h1,h2,h3,h4,h5,h6,ha⟩ hk hsz;refine ⟨ta,tc,h1.ks hk (by omega),h2,?_,h4,h5.keep hk (by omega) (by omega) (fun k h=>by omega),by omega,ha⟩;rcases ta with _ | ⟨g,o,sel⟩
  ·intro i hi;obtain ⟨_,_,e,_⟩:=h3 i hi;cases e
  ·intro i hi;obtain ⟨g',o',e,hlt,hc⟩:=h3 i hi;have:=h4 _ e;simp only at this;exact ⟨g',o',e,by omega,(hk.cell (x:=⟨g',o'+i,none⟩) hlt (by simp;omega)).trans hc⟩
 case assign =>
  rintro pre x args A hx ⟨ta,tc,tn,rfl,rfl,hl,hi1,hi2,htb,hsz⟩ hj hlt;have HTB:=Hh htb;have HJ:=Hh hj;have HI1:=Hh hi1;have HI2:=Hh hi2;clear hj hx hi1 hi2 htb;rw [two_param];show Code.wpIn _ _ _ _ _ { tmps:=#[.agg #[.int .i64 b.room,.int .i64 b.gap,.slice ma b.ms.length mc,.slice sa b.ss.length sc,.slice ra b.rs.length rc],.pointer (some ⟨w.heap.size,0,none⟩),.pointer (some ⟨w.heap.size+1,0,none⟩),.pointer (some ⟨w.heap.size+1+1,0,none⟩),.int .i64 0,.pointer (some ⟨w3.heap.size,0,none⟩),.slice la (pasts b).length lc,.pointer (some ⟨w4.heap.size,0,none⟩),U,U,U,U,.tuple #[.agg #[.int .i64 b.room,.int .i64 b.gap,.slice ma b.ms.length mc,.slice sa b.ss.length sc,.slice ra b.rs.length rc],.slice la (pasts b).length lc,.int .i64 0],.agg #[.int .i64 b.room,.int .i64 b.gap,.slice ma b.ms.length mc,.slice sa b.ss.length sc,.slice ra b.rs.length rc],.tuple #[.agg #[.int .i64 b.room,.int .i64 b.gap,.slice ma b.ms.length mc,.slice sa b.ss.length sc,.slice ra b.rs.length rc],.slice la (pasts b).length lc,.int .i64 0],.agg #[.int .i64 b.room,.int .i64 b.gap,.slice ma b.ms.length mc,.slice sa b.ss.length sc,.slice ra b.rs.length rc],.slice la (pasts b).length lc,.int .i64 0,.int .i64 0,.bool false,U,.agg #[.int .i64 b.room,.int .i64 b.gap,.slice ma b.ms.length mc,.slice sa b.ss.length sc,.slice ra b.rs.length rc],.slice la (pasts b).length lc,.agg #[.int .i64 b.room,.int .i64 b.gap,.slice ma b.ms.length mc,.slice sa b.ss.length sc,.slice ra b.rs.length rc,.slice (some ⟨RB,0,none⟩) b.ms.length lc2],.agg #[.int .i64 b.room,.int .i64 b.gap,.slice ma b.ms.length mc,.slice sa b.ss.length sc,.slice ra b.rs.length rc,.slice (some ⟨RB,0,none⟩) b.ms.length lc2],.func (.func 39) #[.agg #[.int .i64 b.room,.int .i64 b.gap,.slice ma b.ms.length mc,.slice sa b.ss.length sc,.slice ra b.rs.length rc,.slice (some ⟨RB,0,none⟩) b.ms.length lc2]] #[],.slice (some ⟨W1.heap.size+1+1+1+1,0,none⟩) b.ms.length b.ms.length,.slice ta x.2.length tc,U,U,U,U,U,U,U,U,U,U,U,U,U,U,U,U,U,U,U,U,U,U,U,U,U,U],defers:=[] } _
  gi_wp2
  gi_wp2
  exact ⟨KS.refl _ _,ta,tc,HI1.out,hl,HI2.out,fun y hy=>by have:=HTB.out y hy;omega,HJ.out,by omega,rfl⟩
 case body =>
  rintro pre x a₁ A ⟨suf,hx⟩ ⟨ta,tc,h1,h2,h3,h4,hj,h6,rfl⟩ hlt;have hmem:x∈plansI (loadsI b):=by rw [hx];simp
  obtain ⟨hok,hxl⟩:=plansI_mem hmem;have hpl5:x.1.length<=50:=by omega
  have hbd:=planOk_bd hok hpl5 (loadsI_bd HBA.out);have hll:(loadsI b).length=x.1.length:=by rw [h2];exact loadsOf_length _ _
  have hkt:=planOk_lt hok hll;have hN:=nightOk HBA.out;have hbA:Below w.heap.size w A:=by
   have:=hj.ks;exact ⟨this.os.trans hb1.os,this.tape.trans hb1.tape,this.output.trans hb1.output,Nat.le_trans hb1.size this.size,fun k hk=>(this.block k (by omega) (by omega)).trans (hb1.block k hk)⟩
  have hla:=late_at (pc:=b.ms.length) (tc:=tc) (HB.out.below hbA) hN.due hN.gap (.slice (some ⟨RB,0,none⟩) b.ms.length lc2) rfl h1 (pn:=b.ms.length) h2.symm h2 h3 rfl hbd.2 hbd.1 hkt (by omega);have hlb:=lateI_bd (plan:=x.1) hN.due hN.gap hbd.2 hbd.1;have hst:(pre ++ [x]).foldl (latestStep b) none=latestStep b (pre.foldl (latestStep b) none) x:=by rw [List.foldl_append];rfl
  have hls:∀ st,latestStep b st x=if fitsI b x.2 && decide (lateI b x.1 x.2<=0) && (match st with | none=>true | some y=>decide (y < - lateI b x.1 x.2)) then some (- lateI b x.1 x.2) else st:=fun st=>rfl;have nn:∀ k u,(#[.int .i64 b.room,.int .i64 b.gap,.slice ma b.ms.length mc,.slice sa b.ss.length sc,.slice ra b.rs.length rc,.slice (some ⟨RB,0,none⟩) b.ms.length lc2]:Array Value)[k]? = some u->A.cell? ⟨w4.heap.size,k,none⟩=some u:=fun k u hk =>
   (hj.ks.cell (x:=⟨w4.heap.size,k,none⟩) (by simp;omega) (by simp;omega)).trans (HN.out k u hk)
  obtain ⟨n0,n1,n2,n3,n4,n5⟩:_/\_/\_/\_/\_/\_:=⟨nn 0 _ rfl,nn 1 _ rfl,nn 2 _ rfl,nn 3 _ rfl,nn 4 _ rfl,nn 5 _ rfl⟩;have jc:=hj.c;have jf:=hj.f;have jd:=hj.d;have jg:=hj.g;have hAl:w4.heap.size < A.heap.size:=by have:=hj.ks.size;omega
  have hB1:=lt_of_cell jc;have hB2:=lt_of_cell jd;simp only at hB1 hB2;have HJ:=Hh hj;have HST:=Hh hst;have HLS:=Hh hls;have HLA:=Hh hla;generalize lateI b x.1 x.2=L at HLA HLS hlb;generalize fitsI b x.2=F at HLA HLS;have hneg:IntKind.i64.wrap (- L)=- L:=IntWalk.i64_in _ (by omega);clear hx h1 h2 h3 h4 hj hmem hok hxl hbd hll hkt hN hst hls hla nn hpl5;have same:∀ B,Below A.heap.size A B->latestStep b (pre.foldl (latestStep b) none) x=pre.foldl (latestStep b) none->KS (fun k=>((k < W1.heap.size/\k≠w.heap.size+1/\k≠w.heap.size+1+1)\/(W1.heap.size+2<=k/\k<=W1.heap.size+6))\/k=W1.heap.size\/k=W1.heap.size+1) A B/\LatJ b w W1 (pre ++ [x]) B:=fun B hb he=>by
   refine ⟨KS.all hb _,?_⟩;have h:=HJ.out.keep (KS.all hb (fun _=>True)) trivial trivial (fun _ _=>trivial);exact ⟨by rw [HST.out,he];exact h.c,h.f,by rw [HST.out,he];exact h.d,h.g,h.ks⟩
  have turn:∀ B,Below A.heap.size A B->latestStep b (pre.foldl (latestStep b) none) x=some (- L)->KS (fun k=>((k < W1.heap.size/\k≠w.heap.size+1/\k≠w.heap.size+1+1)\/(W1.heap.size+2<=k/\k<=W1.heap.size+6))\/k=W1.heap.size\/k=W1.heap.size+1) A ((B.setCell ⟨w.heap.size+1,0,none⟩ (.int .i64 (- L))).setCell ⟨w.heap.size+1+1,0,none⟩ (.bool true)) /\
   LatJ b w W1 (pre ++ [x]) ((B.setCell ⟨w.heap.size+1,0,none⟩ (.int .i64 (- L))).setCell ⟨w.heap.size+1+1,0,none⟩ (.bool true)):=fun B hb he=>by
   have h:=HJ.out.keep (KS.all hb (fun _=>True)) trivial trivial (fun _ _=>trivial);have k1:KS (fun k=>k≠w.heap.size+1/\k≠w.heap.size+1+1) B ((B.setCell ⟨w.heap.size+1,0,none⟩ (.int .i64 (- L))).setCell ⟨w.heap.size+1+1,0,none⟩ (.bool true)):=(KS.setCell (by simp) _ _).trans (KS.setCell (by simp) _ _);refine ⟨(KS.all hb _).trans (k1.mono fun k _ hk=>by omega),?_,?_,?_,?_,h.ks.trans (k1.mono fun k _ hk=>⟨hk.2.1,hk.2.2⟩)⟩
   ·rw [World.cell?_setCell_other (h:=fun e=>by injection e with e _ _;omega),World.cell?_setCell_same' _ _ _ (by rw [h.c];rfl),HST.out,he];rfl
   ·rw [World.frozen?_setCell,World.frozen?_setCell];exact h.f
   ·rw [World.cell?_setCell_same' _ _ _ (by rw [World.cell?_setCell_other (h:=fun e=>by injection e with e _ _;omega),h.d];rfl),HST.out,he];rfl
   ·rw [World.frozen?_setCell,World.frozen?_setCell];exact h.g
  have SAME:=Hh same;have TURN:=Hh turn;clear same turn;cases F
  ·gi_wp2_with (gi_at_call 70;(with_reducible refine (calls_round HLA.out).mono ?_);rintro e w5 ⟨rfl,hb5⟩;obtain ⟨hc5,hf5⟩:=bcell hb5;have hz5:=hb5.size)
   exact SAME.out w5 hb5 (by rw [HLS.out];simp)
  ·by_cases hL:L<=0
   ·cases hs:pre.foldl (latestStep b) none with
    | none =>
     rw [hs] at jc jd;simp only [Option.getD_none,Option.isSome_none] at jc jd;have HS:=Hh hs;clear hs
     gi_wp2_with (gi_at_call 70;(with_reducible refine (calls_round HLA.out).mono ?_);rintro e w5 ⟨rfl,hb5⟩;obtain ⟨hc5,hf5⟩:=bcell hb5;have hz5:=hb5.size)
     exact TURN.out w5 hb5 (by rw [HLS.out,HS.out];simp [hL])
    | some y =>
     rw [hs] at jc jd;simp only [Option.getD_some,Option.isSome_some] at jc jd;have HS:=Hh hs;clear hs;by_cases hy:y < - L
     ·gi_wp2_with (gi_at_call 70;(with_reducible refine (calls_round HLA.out).mono ?_);rintro e w5 ⟨rfl,hb5⟩;obtain ⟨hc5,hf5⟩:=bcell hb5;have hz5:=hb5.size)
      exact TURN.out w5 hb5 (by rw [HLS.out,HS.out];simp [hL,hy])
     ·gi_wp2_with (gi_at_call 70;(with_reducible refine (calls_round HLA.out).mono ?_);rintro e w5 ⟨rfl,hb5⟩;obtain ⟨hc5,hf5⟩:=bcell hb5;have hz5:=hb5.size)
      exact SAME.out w5 hb5 (by rw [HLS.out,HS.out];simp [hL];intro h;omega)
   ·gi_wp2_with (gi_at_call 70;(with_reducible refine (calls_round HLA.out).mono ?_);rintro e w5 ⟨rfl,hb5⟩;obtain ⟨hc5,hf5⟩:=bcell hb5;have hz5:=hb5.size)
    exact SAME.out w5 hb5 (by rw [HLS.out];simp;intro h;omega)
 case done =>
  rintro W hj hd;have jc:=hj.c;have jf:=hj.f;have jd:=hj.d;have jg:=hj.g;have HJ:=Hh hj;have hD:W1.heap.size < W.heap.size:=(Array.getElem?_eq_some_iff.1 hd).1;have hB1:=lt_of_cell jc;have hB2:=lt_of_cell jd;simp only at hB1 hB2;generalize hst:(plansI (loadsI b)).foldl (latestStep b) none=st at jc jd;have HST:=Hh (show latestI b (loadsI b)=st from hst);clear hst;clear hj;go_wp2
  go_region
  go_wp2;obtain ⟨W9,hW9⟩:∃ W9,W9=((W.setCell ⟨w.heap.size+1,0,none⟩ (.int .i64 (st.getD 0))).setCell ⟨w.heap.size+1+1,0,none⟩ (.bool st.isSome)).drew:=⟨_,rfl⟩;rw [<- hW9];have k9:KS (fun k=>k≠w.heap.size+1/\k≠w.heap.size+1+1) W W9:=by rw [hW9];exact ((KS.setCell (by simp) _ _).trans (KS.setCell (by simp) _ _)).trans (KS.drew _ _)
  have hd9:W9.heap[W1.heap.size]? = some (.deferred (some [])):=(k9.block _ hD (by omega)).trans hd;have k10:KS (fun k=>k≠W1.heap.size) W9 (W9.putObj W1.heap.size (.deferred none)):=KS.putObj (by simp) _ _;have c1:(W9.putObj W1.heap.size (.deferred none)).cell? ⟨w.heap.size+1,0,none⟩=some (.int .i64 (st.getD 0)):=by
   rw [k10.cell (x:=⟨w.heap.size+1,0,none⟩) (Nat.lt_of_lt_of_le hB1 k9.size) (by simp;omega),hW9,World.cell?_drew,World.cell?_setCell_other (h:=fun e=>by injection e with e _ _;omega),World.cell?_setCell_same' _ _ _ (by rw [jc];rfl)]
  have c2:(W9.putObj W1.heap.size (.deferred none)).cell? ⟨w.heap.size+1+1,0,none⟩=some (.bool st.isSome):=by
   rw [k10.cell (x:=⟨w.heap.size+1+1,0,none⟩) (Nat.lt_of_lt_of_le hB2 k9.size) (by simp;omega),hW9,World.cell?_drew,World.cell?_setCell_same' _ _ _ (by rw [World.cell?_setCell_other (h:=fun e=>by injection e with e _ _;omega),jd];rfl)]
  have hbw:Below w.heap.size w (W9.putObj W1.heap.size (.deferred none)):=by
   have h1:=HJ.out.ks;have h2:=(h1.toBelow (n:=w.heap.size) (by omega) (fun k hk=>by omega));have h3:=(k9.toBelow (n:=w.heap.size) (by omega) (fun k hk=>by omega));have h4:=(k10.toBelow (n:=w.heap.size) (by have:=k9.size;omega) (fun k hk=>by omega));exact ((hb1.trans h2).trans h3).trans h4
  clear hW9 jc jd jf jg;refine ⟨by simp,.inl ⟨_,_,rfl,run_takeDeferred hd9,?_⟩⟩;exact ⟨.tuple #[.int .i64 (st.getD 0),.bool st.isSome,.int .i64 0],by simp [results,Tryz.results26,go_sem,c1,c2],by rw [HST.out],hbw⟩
 case stop=>exact fun _ _ h _=>h.elim
end
section
variable {b:Bk} {vr vg vm vs vc:Value} {w:World}
theorem missingApi_no (hB:BookAt w b vr vg vm vs vc) (hN:∀ m∈b.ms,m.name.size<=1000000) (hK:KindsAt w) {t:Int} (ht:openAl b 0=t) (h0:t≠0) :
 Calls Tryz.prog 6 #[.agg #[vr,vg,vm,vs,vc]] w fun e w'=>e=.returned (.tuple #[.slice none 0 0,.int .i64 t])/\Below w.heap.size w w':=by
 have HB:=Hh hB;have HN:=Hh hN;have HK:=Hh hK;have HT:=Hh ht;have HH0:=Hh h0;have hz3:(t != 0)=true:=by simpa using h0
 obtain ⟨rfl,rfl,⟨ma,mc,rfl,_,_⟩,⟨sa,sc,rfl,_,_⟩,ra,rc,rfl,_,_⟩:=id hB;clear hB hN hK ht
 go_enter Tryz.func6,Tryz.ntmps6
 go_wp2_with (go_at_call 34;(with_reducible refine (open_nothing_no (HB.out.below (bel)) HN.out (HK.out.below (bel)) (al:=0) (fun hk W hW=>nothing_any _ _ _ _ _ _) HT.out HH0.out).mono ?_);rintro e w3 ⟨rfl,hb3⟩;obtain ⟨hc3,hf3⟩:=bcell hb3;have hz3:=hb3.size;(try simp at hz3));exact bodyPost_ret (v:=.tuple #[.slice none 0 0,.int .i64 t]) (by simp [results,Tryz.results6,go_sem, *]) rfl ⟨rfl,bel⟩
def PartsRet (w:World) (l:List Prt) (e:Ending) (w':World):Prop:=∃ a c,e=.returned (.tuple #[.slice a l.length c,.int .i64 0])/\PartsAt w' a l/\Below w.heap.size w w'
theorem missingApi_ok (hB:BookAt w b vr vg vm vs vc) (hN:∀ m∈b.ms,m.name.size<=1000000) (hK:KindsAt w) (ht:openAl b 0=0) :
 Calls Tryz.prog 6 #[.agg #[vr,vg,vm,vs,vc]] w (PartsRet w (missI b)):=by
 have HB:=Hh hB;have HN:=Hh hN;have HK:=Hh hK;obtain ⟨hk,hpt,hps⟩:=openAl_ok ht;have hbo:=(bookAl_ok hk).1;have HO:=Hh hbo;have HBA:=Hh hk;have HPS:=Hh hps;have hpl:=pasts_le hbo;have HPC:=Hh (fun x (hx:x∈pasts b)=>pasts_came hbo hx);obtain ⟨rfl,rfl,⟨ma,mc,rfl,_,_⟩,⟨sa,sc,rfl,_,_⟩,ra,rc,rfl,_,_⟩:=id hB;clear hB hN hK ht hk hpt hps hbo
 go_enter Tryz.func6,Tryz.ntmps6
 go_wp2_with (first
  | (go_at_call 34;(with_reducible refine (open_nothing_ok (HB.out.below (bel)) HN.out (HK.out.below (bel)) (al:=0) (fun hk W hW=>nothing_any _ _ _ _ _ _) HBA.out rfl HPS.out).mono ?_);rintro e w3 ⟨la,rfl,hrow,hb3⟩;obtain ⟨la,lc,rfl⟩:=ownsRow_slice hrow;have HCM:=Hh (cames_of_row hrow);clear hrow;obtain ⟨hc3,hf3⟩:=bcell hb3;have hz3:=hb3.size;(try simp at hz3))
  | (go_at_call 36;(with_reducible refine (missing_at (HB.out.below (bel)) HO.out (HCM.out.below (bel)) HPC.out (by omega)).mono ?_);rintro e w4 ⟨v4,rfl,hr4,hb4⟩;obtain ⟨a4,c4,rfl⟩:=ownsRow_slice hr4;have HP4:=Hh (show PartsAt w4 a4 (missI b) from parts_of_row hr4);clear hr4;have hz4:=hb4.size;(try simp at hz4)))
 exact bodyPost_ret (v:=.tuple #[.slice a4 (missI b).length c4,.int .i64 0]) (by simp [results,Tryz.results6,go_sem,missI, *]) rfl ⟨a4,c4,rfl,HP4.out,bel⟩
end
attribute [local go_sem] Oper.semAt_some
namespace Sp
def isWhole (b:Bk) (i:Nat) (x:List Int):Bool:=decide (haveOf b (pad x) i=(b.ms[i]?).elim 0 Msg.groups)
def wholeI (b:Bk) (l:List (List Int)) (i:Nat):Int:=((l.countP (isWhole b i):Nat):Int)
def deliveredTo (b:Bk) (k:Nat):List Int:=(List.range k).map fun i=>sayI (wholeI b (pasts b) i) ((pasts b).length:Int)
def deliveredI (b:Bk):List Int:=deliveredTo b b.ms.length
theorem deliveredTo_succ (b:Bk) (k:Nat):deliveredTo b (k+1)=deliveredTo b k ++ [sayI (wholeI b (pasts b) k) ((pasts b).length:Int)]:=by
 unfold deliveredTo;rw [List.range_succ,List.map_append];rfl
theorem deliveredTo_length (b:Bk) (k:Nat):(deliveredTo b k).length=k:=by simp [deliveredTo]
theorem wholeI_snoc (b:Bk) (l:List (List Int)) (i:Nat) (x:List Int):wholeI b (l ++ [x]) i=wholeI b l i+if isWhole b i x=true then 1 else 0:=by
 unfold wholeI;rw [List.countP_append,List.countP_cons,List.countP_nil];split <;> simp_all
theorem wholeI_bd (b:Bk) (l:List (List Int)) (i:Nat):0<=wholeI b l i/\wholeI b l i<=l.length:=by
 unfold wholeI;have:=List.countP_le_length (p:=isWhole b i) (l:=l);omega
end Sp
theorem claimInfo:(Tryz.prog.info? 58).map (fun i=>(i.zero,i.size,i.bytes))=some (some (.int .i64 0),1,8):=by kernel_rfl
section
variable {b:Bk} {vr vg vm vs vc:Value} {w:World}
def ClaimsRet (w:World) (l:List Int) (e:Ending) (w':World):Prop:=∃ a c,e=.returned (.tuple #[.slice a l.length c,.int .i64 0])/\IntsAt w' a l/\Below w.heap.size w w'
theorem ints_of_row2 {w:World} {a:Option Addr} {t:TypeId} {base n c:Nat} {l:List Int} (h:w.ownsRow base t 1 (.slice a n c) n (l.map (Value.int .i64))):IntsAt w a l:=fun i hi=>by
 obtain ⟨g,rfl,_,h2,h3⟩:=row_cell h i (by simpa using hi);refine ⟨g,0,rfl,h2,?_⟩;rw [Nat.zero_add,h3];simp [hi]
theorem delivered_ok (hB:BookAt w b vr vg vm vs vc) (hN:∀ m∈b.ms,m.name.size<=1000000) (hK:KindsAt w) (ht:openAl b 0=0) :
 Calls Tryz.prog 23 #[.agg #[vr,vg,vm,vs,vc]] w (ClaimsRet w (deliveredI b)):=by
 have HB:=Hh hB;have HN:=Hh hN;have HK:=Hh hK;obtain ⟨hk,hpt,hps⟩:=openAl_ok ht;have hbo:=(bookAl_ok hk).1;have HO:=Hh hbo;have HBA:=Hh hk;have HPS:=Hh hps;have hpl:=pasts_le hbo;have hml5:=hbo.ml;have HGR:=Hh hbo.groups;have HPC:=Hh (fun x (hx:x∈pasts b)=>pasts_came hbo hx);obtain ⟨rfl,rfl,⟨ma,mc,rfl,hms,_⟩,⟨sa,sc,rfl,_,_⟩,ra,rc,rfl,_,_⟩:=id hB;have HMS:=Hh hms;clear hB hN hK ht hk hpt hps hbo hms
 go_enter Tryz.func23,Tryz.ntmps23
 go_wp2_with (go_at_call 34;(with_reducible refine (open_nothing_ok (HB.out.below (bel)) HN.out (HK.out.below (bel)) (al:=0) (fun hk W hW=>nothing_any _ _ _ _ _ _) HBA.out rfl HPS.out).mono ?_);rintro e w3 ⟨la,rfl,hrow,hb3⟩;obtain ⟨la,lc,rfl⟩:=ownsRow_slice hrow;have HCM:=Hh (cames_of_row hrow);clear hrow;obtain ⟨hc3,hf3⟩:=bcell hb3;have hz3:=hb3.size;(try simp at hz3));obtain ⟨W0,hW0⟩:∃ W0,W0=w3.alloc (.cells #[.int .i64 b.room,.int .i64 b.gap,.slice ma b.ms.length mc,.slice sa b.ss.length sc,.slice ra b.rs.length rc] 88):=⟨_,rfl⟩;rw [<- hW0];have hb0:Below w.heap.size w W0:=by rw [hW0];(exact bel)
 have q:∀ k u,(#[.int .i64 b.room,.int .i64 b.gap,.slice ma b.ms.length mc,.slice sa b.ss.length sc,.slice ra b.rs.length rc]:Array Value)[k]? = some u->W0.cell? ⟨w3.heap.size,k,none⟩=some u:=fun k u hk=>by rw [hW0,World.cell?_alloc_at _ _ _ _ rfl];exact hk
 have hs0:w3.heap.size < W0.heap.size:=by rw [hW0];simp
 have HCM0:=Hh (HCM.out.below (w':=W0) (by rw [hW0];(exact bel)));have hwl:w.heap.size < w3.heap.size:=by omega
 have HQ:=Hh q;clear hW0 hc3 hf3 hb3 hz3 q;go_loopw [7,26] (fun v i wr=>∃ (k:Nat) (a:Option Addr) (c:Nat),k<=b.ms.length/\i=.int .i64 k/\v=.slice a k c/\wr.ownsRow W0.heap.size 58 1 (.slice a k c) k ((deliveredTo b k).map (Value.int .i64))/\Below W0.heap.size W0 wr) (fun _ i _=>b.ms.length - (intOf i).toNat)
 case atStart=>exact ⟨0,none,0,Nat.zero_le _,rfl,rfl,by simpa [deliveredTo] using World.ownsRow_nil _ _ _ _,Below.refl _ _⟩
 case round =>
  obtain ⟨k,a,c,hk,rfl,rfl,hrow,hW⟩:=hrel;have hWs:=hW.size;obtain ⟨wo,rfl⟩:∃ x,x=wr:=⟨_,rfl⟩;by_cases hlt:k < b.ms.length
  ·have hbw:=Below.next hb0 hW;obtain ⟨mb,mo,rfl,hmb,m0,m1,m2⟩:=HMS.out k hlt;have dm0:=(hbw.cell (p:=⟨mb,mo+k * 3,none⟩) hmb).trans m0;have dm1:=(hbw.cell (p:=⟨mb,mo+k * 3+1,none⟩) hmb).trans m1;have dm2:=(hbw.cell (p:=⟨mb,mo+k * 3+2,none⟩) hmb).trans m2;have hmb2:mb < wo.heap.size:=Nat.lt_of_lt_of_le hmb hbw.size;have hgk:=HGR.out _ (List.getElem_mem hlt);have hek:(b.ms[k]?).elim 0 Msg.groups=b.ms[k].groups:=by rw [List.getElem?_eq_getElem hlt];rfl
   have hds:=deliveredTo_succ b k;have HDS:=Hh hds;generalize b.ms[k]=mk at dm0 dm1 dm2 hgk hek;obtain ⟨gn,gk,gd⟩:=mk;simp only at dm0 dm1 dm2 hgk hek;have HEK:=Hh hek;have HROW:=Hh hrow;have HBW:=Hh hbw;clear m0 m1 m2 hds hek hrow;obtain ⟨n0,n1,n2,n3,n4⟩:_/\_/\_/\_/\_:=⟨(hW.cell (p:=⟨w3.heap.size,0,none⟩) (by simp;omega)).trans (HQ.out 0 _ rfl),(hW.cell (p:=⟨w3.heap.size,1,none⟩) (by simp;omega)).trans (HQ.out 1 _ rfl),(hW.cell (p:=⟨w3.heap.size,2,none⟩) (by simp;omega)).trans (HQ.out 2 _ rfl),(hW.cell (p:=⟨w3.heap.size,3,none⟩) (by simp;omega)).trans (HQ.out 3 _ rfl),(hW.cell (p:=⟨w3.heap.size,4,none⟩) (by simp;omega)).trans (HQ.out 4 _ rfl)⟩;have hs5:w3.heap.size < wo.heap.size:=by omega
   go_wp2;obtain ⟨W1,hW1⟩:∃ W1,W1=wo.alloc (.cells #[.string gn,.int .i64 gk,.int .i64 gd] 111):=⟨_,rfl⟩;rw [<- hW1];have hb1:Below wo.heap.size wo W1:=by rw [hW1];(exact bel)
   have hb1w:Below w.heap.size w W1:=Below.next hbw hb1;have hs1:wo.heap.size < W1.heap.size:=by rw [hW1];simp
   have g1:W1.cell? ⟨wo.heap.size,1,none⟩=some (.int .i64 gk):=by rw [hW1,World.cell?_alloc_at _ _ _ _ rfl];rfl
   have b0:=(hb1.cell (p:=⟨w3.heap.size,0,none⟩) (by simp;omega)).trans n0;have b1:=(hb1.cell (p:=⟨w3.heap.size,1,none⟩) (by simp;omega)).trans n1;have b2:=(hb1.cell (p:=⟨w3.heap.size,2,none⟩) (by simp;omega)).trans n2;have b3:=(hb1.cell (p:=⟨w3.heap.size,3,none⟩) (by simp;omega)).trans n3;have b4:=(hb1.cell (p:=⟨w3.heap.size,4,none⟩) (by simp;omega)).trans n4;have HB1:=Hh (⟨b0,b1,b2,b3,b4,g1⟩:_/\_/\_/\_/\_/\_);have HCM1:=Hh ((HCM0.out.below hW).below hb1);have HB1W:=Hh hb1w;have HBB:=Hh hb1;clear hW1 b0 b1 b2 b3 b4 g1 n0 n1 n2 n3 n4 dm0 dm1 dm2 hb1w hb1 hbw;go_loopw [10,33] (fun v i wr=>∃ j:Nat,j<=(pasts b).length/\i=.int .i64 j/\v=.int .i64 (wholeI b ((pasts b).take j) k)/\Below W1.heap.size W1 wr) (fun _ i _=>(pasts b).length - (intOf i).toNat)
   case atStart=>exact ⟨0,Nat.zero_le _,rfl,by simp [wholeI],Below.refl _ _⟩
   case round =>
    obtain ⟨j,hj,rfl,rfl,hX⟩:=hrel;have hXs:=hX.size;by_cases hjt:j < (pasts b).length
    ·obtain ⟨lb,lo,rfl,hlb,e0,e1,e2,e3⟩:=HCM1.out j hjt;have d0:=(hX.cell hlb).trans e0;have d1:=(hX.cell hlb).trans e1;have d2:=(hX.cell hlb).trans e2;have d3:=(hX.cell hlb).trans e3;have hlb2:lb < wr.heap.size:=Nat.lt_of_lt_of_le hlb hX.size;obtain ⟨hcm,hc4,_⟩:=HPC.out _ (List.getElem_mem hjt);have htk:=List.take_succ_eq_append_getElem hjt;have hwn:=wholeI_snoc b ((pasts b).take j) k (pasts b)[j];rw [<- htk] at hwn;have hwb:=wholeI_bd b ((pasts b).take j) k;have hwl2:((pasts b).take j).length<=1296:=Nat.le_trans (List.length_take_le' _ _) hpl;have hhv:=fun (W':World) (hb:Below w.heap.size w W')=>have_at (HB.out.below hb) HO.out hcm hc4 (m:=(k:Int)) ⟨by omega,by simpa using hlt⟩;have hiw:isWhole b k (pasts b)[j]=decide (haveOf b (pad (pasts b)[j]) (k:Int)=gk):=by unfold isWhole;rw [HEK.out]
     rw [hiw] at hwn;generalize haveOf b (pad (pasts b)[j]) (k:Int)=hv at hhv hwn;obtain ⟨x0,x1,x2,x3,hxp⟩:=four hc4;rw [hxp] at d0 d1 d2 d3 hhv;simp only [List.getD_cons_zero,List.getD_cons_succ] at d0 d1 d2 d3;have hhv2:∀ (W':World),Below w.heap.size w W'->Calls Tryz.prog 67 #[.agg #[.int .i64 b.room,.int .i64 b.gap,.slice (some ⟨mb,mo,none⟩) b.ms.length mc,.slice sa b.ss.length sc,.slice ra b.rs.length rc],.agg #[.int .i64 x0,.int .i64 x1,.int .i64 x2,.int .i64 x3],.int .i64 k] W' fun e w'=>e=.returned (.int .i64 hv)/\Below W'.heap.size W' w':=hhv;have HHV:=Hh hhv2;generalize wholeI b ((pasts b).take j) k=ww at hwn hwb ⊢;have hwr:IntKind.i64.wrap (ww+1)=ww+1:=IntWalk.i64_in _ (by omega);have HWN:=Hh hwn;have HXX:=Hh hX;clear e0 e1 e2 e3 hcm hc4 htk hwn hhv hhv2 hiw hxp hwl2;go_wp2;obtain ⟨W2,hW2⟩:∃ W2,W2=wr.alloc (.cells #[.int .i64 x0,.int .i64 x1,.int .i64 x2,.int .i64 x3] 116):=⟨_,rfl⟩;rw [<- hW2];have hb2:Below wr.heap.size wr W2:=by rw [hW2];(exact bel)
     have hs2:wr.heap.size < W2.heap.size:=by rw [hW2];simp
     have hx2:Below W1.heap.size W1 W2:=Below.next HXX.out hb2;have c:∀ i u,(#[.int .i64 x0,.int .i64 x1,.int .i64 x2,.int .i64 x3]:Array Value)[i]? = some u->W2.cell? ⟨wr.heap.size,i,none⟩=some u:=fun i u hi=>by rw [hW2,World.cell?_alloc_at _ _ _ _ rfl];exact hi
     have hall:∀ w':World,Below W2.heap.size W2 w'->(Below W2.heap.size W2 w'/\w'.cell? ⟨w3.heap.size,0,none⟩=some (.int .i64 b.room)/\w'.cell? ⟨w3.heap.size,1,none⟩=some (.int .i64 b.gap)/\w'.cell? ⟨w3.heap.size,2,none⟩=some (.slice (some ⟨mb,mo,none⟩) b.ms.length mc)/\w'.cell? ⟨w3.heap.size,3,none⟩=some (.slice sa b.ss.length sc)/\w'.cell? ⟨w3.heap.size,4,none⟩=some (.slice ra b.rs.length rc)/\w'.cell? ⟨wo.heap.size,1,none⟩=some (.int .i64 gk)/\w'.cell? ⟨wr.heap.size,0,none⟩=some (.int .i64 x0)/\w'.cell? ⟨wr.heap.size,1,none⟩=some (.int .i64 x1)/\w'.cell? ⟨wr.heap.size,2,none⟩=some (.int .i64 x2)/\w'.cell? ⟨wr.heap.size,3,none⟩=some (.int .i64 x3)):=fun w' h=>by
      have h1:=Below.next hx2 h;obtain ⟨b0,b1,b2,b3,b4,g1⟩:=HB1.out;exact ⟨h,(h1.cell (by simp;omega)).trans b0,(h1.cell (by simp;omega)).trans b1,(h1.cell (by simp;omega)).trans b2,(h1.cell (by simp;omega)).trans b3,(h1.cell (by simp;omega)).trans b4,(h1.cell (by simp;omega)).trans g1,(h.cell (by simp;omega)).trans (c 0 _ rfl),(h.cell (by simp;omega)).trans (c 1 _ rfl),(h.cell (by simp;omega)).trans (c 2 _ rfl),(h.cell (by simp;omega)).trans (c 3 _ rfl)⟩
     have HALL:=Hh hall;have HX2:=Hh (Below.next HB1W.out hx2);have hs6:w3.heap.size < W2.heap.size:=by omega
     have hs7:wo.heap.size < W2.heap.size:=by omega
     clear hW2 c hall;go_region_held3 (fun w'=>Below W2.heap.size W2 w'/\w'.cell? ⟨w3.heap.size,0,none⟩=some (.int .i64 b.room)/\w'.cell? ⟨w3.heap.size,1,none⟩=some (.int .i64 b.gap)/\w'.cell? ⟨w3.heap.size,2,none⟩=some (.slice (some ⟨mb,mo,none⟩) b.ms.length mc)/\w'.cell? ⟨w3.heap.size,3,none⟩=some (.slice sa b.ss.length sc)/\w'.cell? ⟨w3.heap.size,4,none⟩=some (.slice ra b.rs.length rc)/\w'.cell? ⟨wo.heap.size,1,none⟩=some (.int .i64 gk)/\w'.cell? ⟨wr.heap.size,0,none⟩=some (.int .i64 x0)/\w'.cell? ⟨wr.heap.size,1,none⟩=some (.int .i64 x1)/\w'.cell? ⟨wr.heap.size,2,none⟩=some (.int .i64 x2)/\w'.cell? ⟨wr.heap.size,3,none⟩=some (.int .i64 x3))
      ((go_split_ands;exact HALL.out _ (bel)))
      ((go_at_call 67;go_split_ands;(with_reducible refine (HHV.out _ (Below.next HX2.out (by with_reducible assumption))).mono ?_);rintro e w5 ⟨rfl,hb5⟩;obtain ⟨hc5,hf5⟩:=bcell hb5;have hz5:=hb5.size;(try simp at hz5)))
     have hx5:Below W1.heap.size W1 w5:=Below.next hx2 (bel);by_cases hvg:hv=gk
     ·have hd:(hv == gk)=true:=by simpa using hvg
      have hwn:=HWN.out;rw [if_pos (by simpa using hvg)] at hwn;have HWN2:=Hh hwn;subst hvg;clear hwn;go_wp2;go_roundw
      case rel=>exact ⟨j+1,by omega,by go_num,by rw [HWN2.out],hx5⟩
      case measure=>simp [intOf];omega
     ·have hd:(hv == gk)=false:=by simpa using hvg
      have hwn:=HWN.out;rw [if_neg (by simpa using hvg),Int.add_zero] at hwn;have HWN2:=Hh hwn;clear hwn;go_wp2;go_roundw
      case rel=>exact ⟨j+1,by omega,by go_num,by rw [HWN2.out],hx5⟩
      case measure=>simp [intOf];omega
    ·obtain rfl:j=(pasts b).length:=by omega
     rw [List.take_length];have hwb:=wholeI_bd b (pasts b) k;have HXX:=Hh hX;have hds:=HDS.out;generalize hww:wholeI b (pasts b) k=ww at hwb hds ⊢;have HDS2:=Hh hds;have hwo:wo.heap.size<=wr.heap.size:=Nat.le_trans HBB.out.size hX.size;have hrow2:=ownsRow_below HROW.out (Below.next HBB.out hX);have HROW2:=Hh hrow2;clear hds hww hrow2;have hwz:W0.heap.size<=wr.heap.size:=by omega
     go_wp2_with (first
      | (go_at_call 62;(with_reducible refine (say_any _ _ _).mono ?_);rintro e w' ⟨rfl,hw'⟩;have hw2:=hw'.symm;subst hw2)
      | (at_builtin;go_loud (refine wpl_append1 rfl _ _ 65 rfl W0.heap.size 58 Tryz.underlying65 claimInfo rfl (by omega) (.slice a k c) k _ rfl HROW2.out (by omega) (by omega) _ (n:=wr.heap.size) (by simp) rfl (by simp [Value.oneCell']) ?_;intro g cap w6 hown6 hb6)))
     have hown7:w6.ownsRow W0.heap.size 58 1 (.slice (some ⟨g,0,none⟩) (k+1) cap) (k+1) ((deliveredTo b (k+1)).map (Value.int .i64)):=by
      rw [HDS2.out,List.map_append];exact hown6
     have HOWN:=Hh hown7;clear hown6 hown7;go_roundw
     case rel=>exact ⟨k+1,_,_,by omega,by go_num,rfl,HOWN.out,(Below.next hW (Below.next HBB.out HXX.out)).trans hb6⟩
     case measure=>simp [intOf];omega
  ·obtain rfl:k=b.ms.length:=by omega
   have HROW:=Hh hrow;have HW:=Hh hW;clear hrow hW;go_wp2;have hr9:=ints_of_row2 HROW.out;refine bodyPost_ret (v:=.tuple #[.slice a b.ms.length c,.int .i64 0]) (by simp [results,Tryz.results23,go_sem, *]) rfl ⟨a,c,by rw [show (deliveredI b).length=b.ms.length from deliveredTo_length _ _],hr9,Below.next hb0 HW.out⟩
end
def cmpI:List Int->List Int->Int
 | [],[]=>0
 | [],_::_=>-1
 | _::_,[]=>1
 | a::l,b::m=>if a < b then -1 else if a > b then 1 else cmpI l m
theorem cmp1_at (w:World) (x y:Int) {r:Int} (h:Lib.compareInt x y=r):Calls Tryz.prog 99 #[.int .i64 x,.int .i64 y] w fun e w'=>e=.returned (.int .i64 r)/\w'=w:=by
 rw [<- h];exact Tryz.cmp_Compare_int x y w
section
variable {w:World} {la ma:Option Addr} {lc mc:Nat} {l m:List Int}
theorem compare_at (hL:IntsAt w la l) (hM:IntsAt w ma m) (hl:l.length<=1000000) (hm:m.length<=1000000) {t:Int} (ht:cmpI l m=t) :
 Calls Tryz.prog 71 #[.slice la l.length lc,.slice ma m.length mc] w fun e w'=>e=.returned (.int .i64 t)/\w'=w:=by
 have HT:=Hh ht;have HL:=Hh hL;have HM:=Hh hM;clear ht hL hM
 go_enter Tryz.func71,Tryz.ntmps71
 go_wp2;go_loop [11] (fun i=>∃ (k:Nat),k<=l.length/\k<=m.length/\i=.int .i64 k/\cmpI (l.drop k) (m.drop k)=t) (fun i=>l.length - (intOf i).toNat)
 case atStart=>exact ⟨0,Nat.zero_le _,Nat.zero_le _,rfl,HT.out⟩
 case round =>
  obtain ⟨k,hk,hkm,rfl,hc⟩:=hrel;by_cases hlt:k < l.length
  ·obtain ⟨lb,lo,rfl,hlb,e0⟩:=HL.out k hlt;rw [List.drop_eq_getElem_cons hlt] at hc;by_cases hlm:k < m.length
   ·obtain ⟨mb,mo,rfl,hmb,e1⟩:=HM.out k hlm;rw [List.drop_eq_getElem_cons hlm] at hc;unfold cmpI at hc;generalize l[k]=x at hc e0;generalize m[k]=y at hc e1;by_cases h1:x < y
    ·rw [if_pos h1] at hc;have HC:=Hh hc;have HX:=Hh (show Lib.compareInt x y=-1 by unfold Lib.compareInt;rw [if_pos h1]);clear hc h1;go_wp2_with (go_at_call 99;(with_reducible refine (cmp1_at _ _ _ HX.out).mono ?_);rintro e w' ⟨rfl,rfl⟩);go_ret;exact ⟨by rw [<- HC.out];rfl,rfl⟩
    ·rw [if_neg h1] at hc;by_cases h2:x > y
     ·rw [if_pos h2] at hc;have HC:=Hh hc;have HX:=Hh (show Lib.compareInt x y=1 by unfold Lib.compareInt;rw [if_neg h1,if_pos h2]);clear hc h1 h2;go_wp2_with (go_at_call 99;(with_reducible refine (cmp1_at _ _ _ HX.out).mono ?_);rintro e w' ⟨rfl,rfl⟩);go_ret;exact ⟨by rw [<- HC.out];rfl,rfl⟩
     ·rw [if_neg h2] at hc;have HC:=Hh hc;have HX:=Hh (show Lib.compareInt x y=0 by unfold Lib.compareInt;rw [if_neg h1,if_neg h2]);clear hc h1 h2;go_wp2_with (go_at_call 99;(with_reducible refine (cmp1_at _ _ _ HX.out).mono ?_);rintro e w' ⟨rfl,rfl⟩);go_round
      case rel=>exact ⟨k+1,by omega,by omega,by go_num,HC.out⟩
      case measure=>simp [intOf];omega
   ·have hmk:m.drop k=[]:=List.drop_eq_nil_of_le (by omega);rw [hmk] at hc;unfold cmpI at hc;have HC:=Hh hc;clear hc hmk;go_wp2;go_ret;exact ⟨by rw [<- HC.out];rfl,rfl⟩
  ·obtain rfl:k=l.length:=by omega
   rw [List.drop_length] at hc;by_cases hlm:l.length < m.length
   ·rw [List.drop_eq_getElem_cons hlm] at hc;unfold cmpI at hc;have HC:=Hh hc;clear hc;go_wp2;go_ret;exact ⟨by rw [<- HC.out];rfl,rfl⟩
   ·rw [List.drop_eq_nil_of_le (by omega)] at hc;unfold cmpI at hc;have HC:=Hh hc;clear hc;go_wp2;go_ret;exact ⟨by rw [<- HC.out];rfl,rfl⟩
end
def idxs (mask n:Nat):List Nat:=(List.range n).filter fun i=>mask.testBit i
theorem idxs_succ (mask n:Nat):idxs mask (n+1)=if mask.testBit n then idxs mask n ++ [n] else idxs mask n:=by
 unfold idxs;rw [List.range_succ,List.filter_append];cases h:mask.testBit n <;> simp [h]
theorem idxs_le (mask n:Nat):(idxs mask n).length<=n:=by
 unfold idxs;exact Nat.le_trans (List.length_filter_le _ _) (by simp)
def idxI (mask n:Nat):List Int:=(idxs mask n).map fun (i:Nat)=>(i:Int)
def recsOf (rs:List Rec) (mask n:Nat):List Rec:=(idxs mask n).filterMap fun i=>rs[i]?
theorem idxI_succ (mask n:Nat):idxI mask (n+1)=if mask.testBit n then idxI mask n ++ [(n:Int)] else idxI mask n:=by
 unfold idxI;rw [idxs_succ];split <;> simp
theorem recsOf_succ {rs:List Rec} {mask n:Nat} (h:n < rs.length):recsOf rs mask (n+1)=if mask.testBit n then recsOf rs mask n ++ [rs[n]] else recsOf rs mask n:=by
 unfold recsOf;rw [idxs_succ];split
 ·rw [List.filterMap_append];simp [h]
 ·rfl
theorem idxI_length (mask n:Nat):(idxI mask n).length=(idxs mask n).length:=by simp [idxI]
theorem recsOf_length {rs:List Rec} {mask:Nat}:∀ {n:Nat},n<=rs.length->(recsOf rs mask n).length=(idxs mask n).length
 | 0,_=>rfl
 | n+1,h=>by
  rw [recsOf_succ (by omega),idxs_succ];have:=recsOf_length (rs:=rs) (mask:=mask) (n:=n) (by omega);split
  ·simp [this]
  ·exact this
theorem recsOf_mem {rs:List Rec} {mask n:Nat} {r:Rec} (h:r∈recsOf rs mask n):r∈rs:=by
 obtain ⟨i,_,hi⟩:=List.mem_filterMap.1 h;exact List.mem_of_getElem? hi
def subB (b:Bk) (mask:Nat):Bk:={ b with rs:=recsOf b.rs mask b.rs.length }
def clashStep (b:Bk) (st:Option (List Int)) (mask:Nat):Option (List Int) :=
 if (match st with | none=>false | some y=>decide (y.length < (idxI mask b.rs.length).length) || (decide ((idxI mask b.rs.length).length=y.length) && decide (0<=cmpI (idxI mask b.rs.length) y))) then st
 else if (pasts (subB b mask)).isEmpty then some (idxI mask b.rs.length) else st
def clashI (b:Bk):List Int:=((List.range (2 ^ b.rs.length)).foldl (clashStep b) none).getD []
theorem add_off (b o j:Nat):Addr.add ⟨b,o,none⟩ j=⟨b,o+j,none⟩:=by unfold Addr.add;split <;> simp_all
section
variable {P:Program}
def Src1 (X:World) (sa:Option Addr) (c:Nat) (news:List Value):Prop:=(sa=none->c=0/\news=[])/\∀ j u,news[j]? = some u->∃ ad,sa=some ad/\X.cell? (ad.add j)=some u
theorem step_app1K {X:World} {ops:Array Oper} {o:Oper} {a:Act} {K:Act->World->Prop} {Q:Exit->Act->World->Prop} {E:Prop} (hgd:o.guard=none) (s x:Operand) (t:TypeId)
 (ho:o.op=.call { callee:=.builtin .append,args:=#[s,x],argTypes:=#[t,t] }) (base:Nat) (e:TypeId) {z:Value} {k bytes:Nat} (ht:P.underlying t=some (.slice e)) (hi:(P.info? e).map (fun i=>(i.zero,i.size,i.bytes))=some (some z,k,bytes)) (hzs:z.cells.size=k) (hk:0 < k) (hby:bytes<=100)
 (v:Value) (n:Nat) (xs:List Value) (hs:a.eval s=v) (nb:Nat) (news:List Value) (hx:a.eval x=.slice (some ⟨nb,0,none⟩) 1 1) (hl:news.length=k) (h1:∀ u∈news,u.oneCell'=true)
 (r:Nat) (hr:n+1=r) (hnm:r<=1000000) (hbase:base<=X.heap.size) (hown:X.ownsRow base e k v n xs) (hnews:Src1 X (some ⟨nb,0,none⟩) 1 news)
 (h:∀ a' c' w',w'.ownsRow base e k (.slice a' r c') r (xs ++ news)->KS (fun k=>v.ownBlock≠some k) X w'->K (a.put o.dst (.slice a' r c')) w') :
 if Region.wanted o (yielded ops a.tmps)=true then Oper.wp P o a X K Q else E:=by
 subst hr;obtain ⟨i,hi,hz,hsz,hb⟩:=info_parts hi;have hbm:(n+1) * bytes<=140737488355328:=by have:=Nat.mul_le_mul hnm hby;omega
 refine step_append_lies (w:=X) hgd s x t ho base e i z k bytes ht hi hz hsz hb hzs hk v n xs hs hown ⟨nb,0,none⟩ 1 1 news hx (by rw [hl,Nat.one_mul]) (fun j u hj=>?_) h1 (by decide) (by unfold maxLen;omega) hbm hbase X.heap.size rfl fun g c w' h2 h3 _ _=>h _ _ w' h2 (KS.own h3 fun g hg=>by simp [hg]);obtain ⟨ad,e',hc⟩:=hnews.2 j u hj;cases e';exact hc
theorem Src1.ks {X Y:World} {sa:Option Addr} {c:Nat} {news:List Value} (h:Src1 X sa c news) {p:Nat->Prop} (hk:KS p X Y) (hp:∀ ad,sa=some ad->ad.block < X.heap.size/\p ad.block):Src1 Y sa c news :=
 ⟨h.1,fun j u hj=>by
   obtain ⟨ad,e,hc⟩:=h.2 j u hj
   obtain ⟨h1,h2⟩:=hp ad e
   have hb:(Addr.add ad j).block=ad.block:=by unfold Addr.add;split <;> rfl
   exact ⟨ad,e,(hk.cell (x:=ad.add j) (by rw [hb];exact h1) (by rw [hb];exact h2)).trans hc⟩⟩
end
theorem src_new (w:World) (cs:List Value) (t:TypeId) {n:Nat} (hn:n=w.heap.size) (c:Nat):Src1 (w.alloc (.cells cs.toArray t)) (some ⟨n,0,none⟩) c cs:=by
 subst hn;exact ⟨fun h=>(by cases h),fun j u hj=>⟨_,rfl,cells_new w cs t j u hj⟩⟩
def IntsV (w:World) (v:Value) (l:List Int):Prop:=w.ownsRow 0 3 1 v l.length (l.map (Value.int .i64))
def ListsV (w:World) (vs:List Value) (ls:List (List Int)):Prop:=vs.length=ls.length/\∀ (i:Nat) (v:Value) (l:List Int),vs[i]? = some v->ls[i]? = some l->IntsV w v l
def ListsAt (w:World) (a:Option Addr) (ls:List (List Int)):Prop:=∀ i (h:i < ls.length),∃ b o,a=some ⟨b,o,none⟩/\b < w.heap.size/\∃ v,w.cell? ⟨b,o+i,none⟩=some v/\IntsV w v ls[i]
section
variable {w w':World}
theorem IntsV.form {v:Value} {l:List Int} (h:IntsV w v l):∃ a c,v=.slice a l.length c/\IntsAt w a l/\(a=none->c=0)/\l.length<=c:=by
 rcases id h with ⟨hl,⟨rfl,h2⟩ | ⟨g,cap,cur,rfl,_,_,hle,_⟩⟩
 ·refine ⟨none,0,by rw [h2],fun i hi=>by omega,fun _=>rfl,by omega⟩
 ·exact ⟨_,_,rfl,ints_of_row h,fun h=>(by cases h),hle⟩
theorem IntsV.of {base n c:Nat} {a:Option Addr} {l:List Int} (h:w.ownsRow base 3 1 (.slice a n c) n (l.map (Value.int .i64))):IntsV w (.slice a n c) l:=by
 have hn:n=l.length:=by have:=h.1;simp at this;omega
 subst hn;exact h.mono (Nat.zero_le _)
theorem IntsV.nil (w:World):IntsV w (.slice none 0 0) []:=World.ownsRow_nil w 0 3 1
theorem IntsV.below {v:Value} {l:List Int} (h:IntsV w v l) (hb:Below w.heap.size w w'):IntsV w' v l:=ownsRow_below h hb
theorem row_keep' {p:Nat->Prop} {A B:World} {base e size n:Nat} {v:Value} {xs:List Value} (h:A.ownsRow base e size v n xs) (hk:KS p A B) (hp:∀ g,v.ownBlock=some g->p g):B.ownsRow base e size v n xs:=by
 obtain ⟨h1,h2 | ⟨g,cap,cur,rfl,e2,e3,e4⟩⟩:=h
 ·exact ⟨h1,.inl h2⟩
 ·exact ⟨h1,.inr ⟨g,cap,cur,rfl,e2,(hk.block g (Array.getElem?_eq_some_iff.1 e3).1 (hp g rfl)).trans e3,e4⟩⟩
theorem rows_apart' {A:World} {b1 e1 s1 n1 b2 e2 s2 n2:Nat} {v1 v2:Value} {x1 x2:List Value} (h1:A.ownsRow b1 e1 s1 v1 n1 x1) (h2:A.ownsRow b2 e2 s2 v2 n2 x2) (he:e1≠e2):∀ g,v1.ownBlock=some g->v2.ownBlock≠some g:=fun g hg hg2=>by
 obtain ⟨_,⟨rfl,_⟩ | ⟨g1,c1,cur1,rfl,_,e3,_⟩⟩:=h1
 ·cases hg
 ·obtain ⟨_,⟨rfl,_⟩ | ⟨g2,c2,cur2,rfl,_,f3,_⟩⟩:=h2
  ·cases hg2
  ·cases hg;cases hg2;rw [e3] at f3;cases f3;exact he rfl
theorem ListsV.below {vs:List Value} {ls:List (List Int)} (h:ListsV w vs ls) (hb:Below w.heap.size w w'):ListsV w' vs ls:=⟨h.1,fun i v l h1 h2=>(h.2 i v l h1 h2).below hb⟩
theorem ListsV.keep {vs:List Value} {ls:List (List Int)} (h:ListsV w vs ls) {base e size n:Nat} {v:Value} {xs:List Value} (hrow:w.ownsRow base e size v n xs) (he:3≠e) (hk:KS (fun k=>v.ownBlock≠some k) w w'):ListsV w' vs ls :=
 ⟨h.1,fun i u l h1 h2=>row_keep' (h.2 i u l h1 h2) hk fun g hg=>rows_apart' (h.2 i u l h1 h2) hrow he g hg⟩
theorem ListsV.nil (w:World):ListsV w [] []:=⟨rfl,fun i v l h=>by simp at h⟩
theorem ListsV.append {vs us:List Value} {ls ms:List (List Int)} (h:ListsV w vs ls) (k:ListsV w us ms):ListsV w (vs ++ us) (ls ++ ms):=by
 refine ⟨by rw [List.length_append,List.length_append,h.1,k.1],fun i v l h1 h2=>?_⟩;by_cases hi:i < vs.length
 ·rw [List.getElem?_append_left hi] at h1;rw [List.getElem?_append_left (by rw [<- h.1];exact hi)] at h2;exact h.2 i v l h1 h2
 ·rw [List.getElem?_append_right (by omega)] at h1;rw [List.getElem?_append_right (by rw [<- h.1];omega),<- h.1] at h2;exact k.2 _ v l h1 h2
theorem ListsV.single {v:Value} {l:List Int} (h:IntsV w v l):ListsV w [v] [l]:=⟨rfl,fun i u m h1 h2=>by
 cases i with
 | zero=>simp only [List.getElem?_cons_zero,Option.some.injEq] at h1 h2;rw [<- h1,<- h2];exact h
 | succ i=>simp at h1⟩
theorem ListsV.one {vs:List Value} {ls:List (List Int)} (h:ListsV w vs ls):∀ u∈vs,u.oneCell'=true:=fun u hu=>by
 obtain ⟨i,hi,rfl⟩:=List.mem_iff_getElem.1 hu;obtain ⟨a,c,e,_⟩:=(h.2 i vs[i] (ls[i]'(by rw [<- h.1];exact hi)) (List.getElem?_eq_getElem hi) (List.getElem?_eq_getElem _)).form;rw [e];rfl
theorem ListsAt.below {a:Option Addr} {ls:List (List Int)} (h:ListsAt w a ls) (hb:Below w.heap.size w w'):ListsAt w' a ls:=fun i hi=>by
 obtain ⟨b,o,e,hlt,v,hc,hv⟩:=h i hi;exact ⟨b,o,e,Nat.lt_of_lt_of_le hlt hb.size,v,(hb.cell hlt).trans hc,hv.below hb⟩
end
end Go.Proofs.YtdjnkplgllakcaaGreatDoor
