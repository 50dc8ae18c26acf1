/- StoreLoaded -/
import Derived.Test.YtdjnkplgllakcaaGreatDoorSL05
set_option maxHeartbeats 16000000
set_option maxRecDepth 100000
set_option linter.all false
namespace Go.Proofs.YtdjnkplgllakcaaGreatDoor
section
open Go.RowKit Go.Maps Sp
section
variable {b:Bk} {vr vg vm vs vc:Value} {w:World}
def valAt (w:World) (a:Addr):Value:=(w.cell? a).getD undef
theorem valAt_some {w:World} {a:Addr} (h:(w.cell? a).isSome=true):w.cell? a=some (valAt w a):=by
 unfold valAt
 cases hc:w.cell? a with
 | none=>rw [hc] at h;cases h
 | some v=>rfl
def S7 (w:World) (ib o1:Nat) (x0:Int) (tl:List Int) (w':World):Prop:=Below w.heap.size w w'/\w.heap.size+1 < w'.heap.size/\w'.cell? ⟨ib,0,none⟩=some (.int .i64 x0)/\ib < w'.heap.size/\IntsAt w' (some ⟨ib,o1,none⟩) tl/\w'.cell? ⟨w.heap.size+1,0,none⟩=some (valAt w' ⟨w.heap.size+1,0,none⟩)/\w'.cell? ⟨w.heap.size+1,1,none⟩=some (valAt w' ⟨w.heap.size+1,1,none⟩)/\w'.frozen? ⟨w.heap.size+1,0,none⟩=false/\w'.frozen? ⟨w.heap.size+1,1,none⟩=false
theorem s7_drew {ib o1:Nat} {x0:Int} {tl:List Int} {W:World} (h:S7 w ib o1 x0 tl W):S7 w ib o1 x0 tl W.drew:=by
 obtain ⟨h1,h2,h3,h4,h5,h6,h7,h8,h9⟩:=h;exact ⟨h1.drew,h2,h3,h4,h5,h6,h7,h8,h9⟩
theorem s7_below {ib o1:Nat} {x0:Int} {tl:List Int} {W W':World} (h:S7 w ib o1 x0 tl W) (hb:Below W.heap.size W W'):S7 w ib o1 x0 tl W':=by
 obtain ⟨h1,h2,h3,h4,h5,h6,h7,h8,h9⟩:=h;refine ⟨Below.next h1 hb,Nat.lt_of_lt_of_le h2 hb.size,(hb.cell h4).trans h3,Nat.lt_of_lt_of_le h4 hb.size,h5.below hb,valAt_some ?_,valAt_some ?_,(hb.frozen h2).trans h8,(hb.frozen h2).trans h9⟩
 ·rw [hb.cell h2,h6];rfl
 ·rw [hb.cell h2,h7];rfl
theorem s7_store {ib o1:Nat} {x0:Int} {tl:List Int} {W:World} (h:S7 w ib o1 x0 tl W) (hne:ib≠w.heap.size+1) (u0 u1:Value):S7 w ib o1 x0 tl ((W.setCell ⟨w.heap.size+1,0,none⟩ u0).setCell ⟨w.heap.size+1,1,none⟩ u1):=by
 obtain ⟨h1,h2,h3,h4,h5,h6,h7,h8,h9⟩:=h;have hc:∀ k,((W.setCell ⟨w.heap.size+1,0,none⟩ u0).setCell ⟨w.heap.size+1,1,none⟩ u1).cell? ⟨ib,k,none⟩=W.cell? ⟨ib,k,none⟩:=fun k=>by
  rw [World.cell?_setCell_other _ _ _ _ (by simp [Ne.symm hne]),World.cell?_setCell_other _ _ _ _ (by simp [Ne.symm hne])]
 refine ⟨(h1.setCell (by simp) _).setCell (by simp) _,by simpa using h2,by rw [hc,h3],by simpa using h4,fun i hi=>?_,valAt_some ?_,valAt_some ?_,by simpa using h8,by simpa using h9⟩
 ·obtain ⟨b',o',e,h10,h11⟩:=h5 i hi;cases e;exact ⟨_,_,rfl,by simpa using h4,by rw [hc,h11]⟩
 ·simp [go_sem,h6,h7]
 ·simp [go_sem,h6,h7]
theorem valAt_two {w:World} {B:Nat} {x y v0 v1:Value} (h0:w.cell? ⟨B,0,none⟩=some x) (h1:w.cell? ⟨B,1,none⟩=some y) :
 valAt ((w.setCell ⟨B,0,none⟩ v0).setCell ⟨B,1,none⟩ v1) ⟨B,0,none⟩=v0/\valAt ((w.setCell ⟨B,0,none⟩ v0).setCell ⟨B,1,none⟩ v1) ⟨B,1,none⟩=v1:=by
 unfold valAt;constructor <;> simp [go_sem,h0,h1]
theorem least2 {w:World} {a:Option Addr} {c:Nat} {tl:List Int} (x:Int) (h:IntsAt w a (negI tl)) (hl:tl.length<=1000000) :
 Calls Tryz.prog 65 #[.int .i64 x,.slice a tl.length c] w fun e w'=>e=.returned (.int .i64 (leastI x (negI tl)))/\w'=w:=by
 have hn:(negI tl).length=tl.length:=by simp [negI]
 have:=least_at (c:=c) x h (by rw [hn];exact hl) rfl
 rwa [hn] at this
theorem least0 {w:World} {a:Option Addr} {c:Nat} (x:Int) :
 Calls Tryz.prog 65 #[.int .i64 x,.slice a 0 c] w fun e w'=>e=.returned (.int .i64 (leastI x []))/\w'=w :=
 least_at (l:=[]) x (fun i hi=>absurd hi (Nat.not_lt_zero _)) (by simp) rfl
theorem negated0 {w:World} {a:Option Addr} {c:Nat} :
 Calls Tryz.prog 66 #[.slice a 0 c] w fun e w'=>∃ na nc,e=.returned (.slice na 0 nc)/\Below w.heap.size w w' :=
 (negated_at (l:=[]) (fun i hi=>absurd hi (Nat.not_lt_zero _)) (by simp) (by simp)).mono fun e w' ⟨na,nc,h1,_,h2⟩=>⟨na,nc,h1,h2⟩
theorem cp_one {r0 r1 r2 r3 r5 r6:Code} (hc:Tryz.f22.body=some (.seq r0 (.seq r1 (.seq r2 (.seq r3 (.seq r5 (.seq r6 .ret)))))))
 {w W:World} {ib:Nat} {x0:Int} {u0 u1 u2 u3 u4 u5 u8 u9 u10 u11 u13 u14 u15 u16 u17 u18 u19 u20 u21 u22 u23 u24 u25 u26 u27 u28 u29 u30 u31:Value} {Q:Exit->Act->World->Prop}
 (q1:Below w.heap.size w W) (q2:w.heap.size+1 < W.heap.size) (q3:W.cell? ⟨ib,0,none⟩=some (.int .i64 x0)) (q4:ib < W.heap.size) (q5:IntsAt W (some ⟨ib,0,none⟩) [])
 (q6:W.cell? ⟨w.heap.size+1,0,none⟩=some (valAt W ⟨w.heap.size+1,0,none⟩)) (q7:W.cell? ⟨w.heap.size+1,1,none⟩=some (valAt W ⟨w.heap.size+1,1,none⟩)) (q8:W.frozen? ⟨w.heap.size+1,0,none⟩=false) (q9:W.frozen? ⟨w.heap.size+1,1,none⟩=false)
 (hne7:ib≠w.heap.size+1) (hw0:IntKind.i64.wrap (- x0)=- x0) (hw1:IntKind.i64.wrap (- leastI (- x0) [])=- leastI (- x0) [])
 (hQ:∀ (x32 x33 x34 x35 x36 x37 x38 x39 x40 x41 x42 x43 x44 x45 x46 x47:Value) (w9:World),Below w.heap.size w w9->w9.cell? ⟨w.heap.size+1,0,none⟩=some (.int .i64 (leastI x0 []))->w9.cell? ⟨w.heap.size+1,1,none⟩=some (.int .i64 (- leastI (- x0) []))->Q .normal { tmps:=#[u0,u1,u2,u3,u4,u5,.pointer (some ⟨w.heap.size+1,0,none⟩),.int .i64 0,u8,u9,u10,u11,.slice (some ⟨ib,0,none⟩) 1 1,u13,u14,u15,u16,u17,u18,u19,u20,u21,u22,u23,u24,u25,u26,u27,u28,u29,u30,u31,x32,x33,x34,x35,x36,x37,x38,x39,x40,x41,x42,x43,x44,x45,x46,x47],defers:=[] } w9) :
 r6.wp Tryz.prog Q { tmps:=#[u0,u1,u2,u3,u4,u5,.pointer (some ⟨w.heap.size+1,0,none⟩),.int .i64 0,u8,u9,u10,u11,.slice (some ⟨ib,0,none⟩) 1 1,u13,u14,u15,u16,u17,u18,u19,u20,u21,u22,u23,u24,u25,u26,u27,u28,u29,u30,u31,U,U,U,U,U,U,U,U,U,U,U,U,U,U,U,U],defers:=[] } W:=by
 simp only [Tryz.f22,Option.some.injEq,Code.seq.injEq] at hc;obtain ⟨-,-,-,-,-,h6,-⟩:=hc;rw [<- h6];clear h6;have HQ9:=Hh hQ;clear hQ;have hk0:=hne7;go_region_held3 (fun w'=>Below w.heap.size w w'/\w.heap.size+1 < w'.heap.size/\w'.cell? ⟨ib,0,none⟩=some (.int .i64 x0)/\ib < w'.heap.size/\IntsAt w' (some ⟨ib,0,none⟩) []/\w'.cell? ⟨w.heap.size+1,0,none⟩=some (valAt w' ⟨w.heap.size+1,0,none⟩)/\w'.cell? ⟨w.heap.size+1,1,none⟩=some (valAt w' ⟨w.heap.size+1,1,none⟩)/\w'.frozen? ⟨w.heap.size+1,0,none⟩=false/\w'.frozen? ⟨w.heap.size+1,1,none⟩=false)
  ((first | exact ⟨by assumption,by assumption,by assumption,by assumption,by assumption,by assumption,by assumption,by assumption,by assumption⟩ | exact s7_below ⟨by assumption,by assumption,by assumption,by assumption,by assumption,by assumption,by assumption,by assumption,by assumption⟩ (by assumption) | exact s7_store ⟨by assumption,by assumption,by assumption,by assumption,by assumption,by assumption,by assumption,by assumption,by assumption⟩ hne7 _ _ | exact s7_drew ⟨by assumption,by assumption,by assumption,by assumption,by assumption,by assumption,by assumption,by assumption,by assumption⟩))
  (first
    | (go_at_call 65;go_split_ands;(with_reducible refine (least0 x0).mono ?_);rintro e w5 ⟨rfl,rfl⟩)
    | (go_at_call 66;go_split_ands;(with_reducible refine negated0.mono ?_);rintro e w5 ⟨na,nc,rfl,hb5⟩;obtain ⟨hc5,hf5⟩:=bcell hb5)
    | (go_at_call 65;go_split_ands;(with_reducible refine (least0 (- x0)).mono ?_);rintro e w5 ⟨rfl,rfl⟩)
    | fail "no arm")
 all_goals
  go_split_ands
  refine HQ9.out _ _ _ _ _ _ _ _ _ _ _ _ _ _ _ _ _ (by assumption) ?_ ?_
  ·simp [go_sem, *];exact (valAt_two (by assumption) (by assumption)).1
  ·simp [go_sem, *];exact (valAt_two (by assumption) (by assumption)).2
theorem cp_more {r0 r1 r2 r3 r5 r6:Code} (hc:Tryz.f22.body=some (.seq r0 (.seq r1 (.seq r2 (.seq r3 (.seq r5 (.seq r6 .ret)))))))
 {w W:World} {ib nn ic:Nat} {tl:List Int} {x0:Int} {u0 u1 u2 u3 u4 u5 u8 u9 u10 u11 u13 u14 u15 u16 u17 u18 u19 u20 u21 u22 u23 u24 u25 u26 u27 u28 u29 u30 u31:Value} {Q:Exit->Act->World->Prop}
 (q1:Below w.heap.size w W) (q2:w.heap.size+1 < W.heap.size) (q3:W.cell? ⟨ib,0,none⟩=some (.int .i64 x0)) (q4:ib < W.heap.size) (q5:IntsAt W (some ⟨ib,1,none⟩) tl)
 (q6:W.cell? ⟨w.heap.size+1,0,none⟩=some (valAt W ⟨w.heap.size+1,0,none⟩)) (q7:W.cell? ⟨w.heap.size+1,1,none⟩=some (valAt W ⟨w.heap.size+1,1,none⟩)) (q8:W.frozen? ⟨w.heap.size+1,0,none⟩=false) (q9:W.frozen? ⟨w.heap.size+1,1,none⟩=false)
 (hne7:ib≠w.heap.size+1) (hw0:IntKind.i64.wrap (- x0)=- x0) (hw1:IntKind.i64.wrap (- leastI (- x0) (negI tl))=- leastI (- x0) (negI tl)) (hnn:nn - 1=tl.length) (hnl:(negI tl).length=tl.length) (htl2:tl.length<=1000000) (HTB:Hid (∀ y∈tl,0<=y/\y<=1000000)) (hz4:0 < nn) (hz6:nn<=ic) (hc1:¬ ic=1)
 (hQ:∀ (x32 x33 x34 x35 x36 x37 x38 x39 x40 x41 x42 x43 x44 x45 x46 x47:Value) (w9:World),Below w.heap.size w w9->w9.cell? ⟨w.heap.size+1,0,none⟩=some (.int .i64 (leastI x0 tl))->w9.cell? ⟨w.heap.size+1,1,none⟩=some (.int .i64 (- leastI (- x0) (negI tl)))->Q .normal { tmps:=#[u0,u1,u2,u3,u4,u5,.pointer (some ⟨w.heap.size+1,0,none⟩),.int .i64 0,u8,u9,u10,u11,.slice (some ⟨ib,0,none⟩) nn ic,u13,u14,u15,u16,u17,u18,u19,u20,u21,u22,u23,u24,u25,u26,u27,u28,u29,u30,u31,x32,x33,x34,x35,x36,x37,x38,x39,x40,x41,x42,x43,x44,x45,x46,x47],defers:=[] } w9) :
 r6.wp Tryz.prog Q { tmps:=#[u0,u1,u2,u3,u4,u5,.pointer (some ⟨w.heap.size+1,0,none⟩),.int .i64 0,u8,u9,u10,u11,.slice (some ⟨ib,0,none⟩) nn ic,u13,u14,u15,u16,u17,u18,u19,u20,u21,u22,u23,u24,u25,u26,u27,u28,u29,u30,u31,U,U,U,U,U,U,U,U,U,U,U,U,U,U,U,U],defers:=[] } W:=by
 simp only [Tryz.f22,Option.some.injEq,Code.seq.injEq] at hc;obtain ⟨-,-,-,-,-,h6,-⟩:=hc;rw [<- h6];clear h6;have HQ9:=Hh hQ;clear hQ;have HNM:=Hh hnn;clear hnn;have hz1:(0:Int) < ↑nn:=by omega
 have hz2:(1:Int)<=↑nn:=by omega
 have hz3:(↑nn:Int)<=↑ic:=by omega
 have hz5:1<=nn:=by omega
 have hk0:=hne7;go_region_held3 (fun w'=>Below w.heap.size w w'/\w.heap.size+1 < w'.heap.size/\w'.cell? ⟨ib,0,none⟩=some (.int .i64 x0)/\ib < w'.heap.size/\IntsAt w' (some ⟨ib,1,none⟩) tl/\w'.cell? ⟨w.heap.size+1,0,none⟩=some (valAt w' ⟨w.heap.size+1,0,none⟩)/\w'.cell? ⟨w.heap.size+1,1,none⟩=some (valAt w' ⟨w.heap.size+1,1,none⟩)/\w'.frozen? ⟨w.heap.size+1,0,none⟩=false/\w'.frozen? ⟨w.heap.size+1,1,none⟩=false)
  ((first | exact ⟨by assumption,by assumption,by assumption,by assumption,by assumption,by assumption,by assumption,by assumption,by assumption⟩ | exact s7_below ⟨by assumption,by assumption,by assumption,by assumption,by assumption,by assumption,by assumption,by assumption,by assumption⟩ (by assumption) | exact s7_store ⟨by assumption,by assumption,by assumption,by assumption,by assumption,by assumption,by assumption,by assumption,by assumption⟩ hne7 _ _ | exact s7_drew ⟨by assumption,by assumption,by assumption,by assumption,by assumption,by assumption,by assumption,by assumption,by assumption⟩))
  (first
    | (go_at_call 65;go_split_ands;(try rw [HNM.out]);(with_reducible refine (least_at (l:=tl) x0 (by assumption) htl2 rfl).mono ?_);rintro e w5 ⟨rfl,rfl⟩)
    | (go_at_call 66;go_split_ands;(try rw [HNM.out]);(with_reducible refine (negated_at (l:=tl) (by assumption) htl2 HTB.out).mono ?_);rintro e w5 ⟨na,nc,rfl,hnr,hb5⟩;have HNR:=Hh (ints_of_row hnr);obtain ⟨hc5,hf5⟩:=bcell hb5;clear hnr)
    | (go_at_call 65;go_split_ands;(with_reducible refine (least2 (- x0) HNR.out htl2).mono ?_);rintro e w5 ⟨rfl,rfl⟩)
    | fail "no arm")
 all_goals
  go_split_ands
  refine HQ9.out _ _ _ _ _ _ _ _ _ _ _ _ _ _ _ _ _ (by assumption) ?_ ?_
  ·simp [go_sem, *];exact (valAt_two (by assumption) (by assumption)).1
  ·simp [go_sem, *];exact (valAt_two (by assumption) (by assumption)).2
end
section
variable {b:Bk} {vr vg vm vs vc:Value} {w:World}
theorem copies_api_ok (hB:BookAt w b vr vg vm vs vc) (hN:∀ m∈b.ms,m.name.size<=1000000) (hK:KindsAt w) (m g:Int) (ht:groupAl b (m,g)=0) :
 Calls Tryz.prog 22 #[.agg #[vr,vg,vm,vs,vc],.int .i64 m,.int .i64 g] w fun e w'=>e=.returned (.tuple #[.agg #[.int .i64 (loI b (m,g)),.int .i64 (hiI b (m,g))],.int .i64 0])/\Below w.heap.size w w':=by
 have HB:=Hh hB;have HN:=Hh hN;have HK:=Hh hK;obtain ⟨hk,hpt,hps⟩:=openAl_ok ht;have hpart:isPart b (m,g)=true:=by
  cases h:isPart b (m,g)
  ·rw [h] at hpt;simp at hpt
  ·rfl
 have hbo:=(bookAl_ok hk).1;have HO:=Hh hbo;have HBA:=Hh hk;have HPA:=Hh hpart;have HPS:=Hh hps;have hpl:=pasts_le hbo;have hbdO:=oftenI_bd hbo (pasts b) (m,g);obtain ⟨x0,tl,hxt⟩:∃ x0 tl,oftenI b (pasts b) (m,g)=x0::tl:=by
  cases h:oftenI b (pasts b) (m,g) with
  | nil=>simp only [oftenI,List.map_eq_nil_iff] at h;exact absurd h hps
  | cons x l=>exact ⟨x,l,rfl⟩
 have hlo:loI b (m,g)=leastI x0 tl:=by unfold loI;rw [hxt];rfl
 have hhi:hiI b (m,g)=- leastI (- x0) (negI tl):=by unfold hiI;rw [hxt];rfl
 have htl:tl.length+1=(pasts b).length:=by have:=congrArg List.length hxt;simpa [oftenI] using this.symm
 rw [hxt] at hbdO;have hx0:=hbdO x0 (by simp);have htb:∀ y∈tl,0<=y/\y<=20:=fun y hy=>hbdO y (by simp [hy]);have HTB:=Hh (fun (y:Int) (hy:y∈tl)=>(⟨(htb y hy).1,by have:=(htb y hy).2;omega⟩:0<=y/\y<=1000000));have hnb:=leastI_bd (m:=-20) (n:=0) (negI tl) (- x0) (by omega) fun y hy=>by
  obtain ⟨z,hz,rfl⟩:=List.mem_map.1 hy;have:=htb z hz;omega
 have hw0:IntKind.i64.wrap (- x0)=- x0:=wrapI (by omega) (by omega);have hw1:IntKind.i64.wrap (- leastI (- x0) (negI tl))=- leastI (- x0) (negI tl):=wrapI (by omega) (by omega);have hnl:(negI tl).length=tl.length:=by simp [negI]
 have HTL:=Hh htl;have HXT:=Hh hxt;have HLO:=Hh hlo;have HHI:=Hh hhi;clear htl hbdO htb hxt hlo hhi;have HPC:=Hh (fun x (hx:x∈pasts b)=>pasts_came hbo hx);have HPT:=Hh hpt;clear hk hpt hps hpart hbo;obtain ⟨rfl,rfl,⟨ma,mc,rfl,_,_⟩,⟨sa,sc,rfl,_,_⟩,ra,rc,rfl,_,_⟩:=id hB;clear hB hN hK ht
 go_enter Tryz.func22,Tryz.ntmps22
 go_wp2;obtain ⟨W1,hW1⟩:∃ W1,W1=((w.alloc (.cells #[.int .i64 b.room,.int .i64 b.gap,.slice ma b.ms.length mc,.slice sa b.ss.length sc,.slice ra b.rs.length rc] 26)).alloc (.cells #[.int .i64 0,.int .i64 0] 62)).alloc (.cells #[.int .i64 m,.int .i64 g] 85):=⟨_,rfl⟩;rw [<- hW1];have five:=(Five.new w (.int .i64 b.room) (.int .i64 b.gap) (.slice ma b.ms.length mc) (.slice sa b.ss.length sc) (.slice ra b.rs.length rc) 26).below ((bal _ (.cells #[.int .i64 0,.int .i64 0] 62)).alloc (by simp) (.cells #[.int .i64 m,.int .i64 g] 85)) (by simp);rw [<- hW1] at five;have hb0:Below w.heap.size w W1:=by rw [hW1];(exact bel)
 have hsz:W1.heap.size=w.heap.size+1+1+1:=by rw [hW1];simp
 have p0:W1.cell? ⟨w.heap.size+1+1,0,none⟩=some (.int .i64 m):=by rw [hW1,World.cell?_alloc_at _ _ _ _ (by simp)];rfl
 have p1:W1.cell? ⟨w.heap.size+1+1,1,none⟩=some (.int .i64 g):=by rw [hW1,World.cell?_alloc_at _ _ _ _ (by simp)];rfl
 have q0:W1.cell? ⟨w.heap.size+1,0,none⟩=some (.int .i64 0):=by rw [hW1,World.cell?_alloc_past _ _ _ (by simp),World.cell?_alloc_at _ _ _ _ (by simp)];rfl
 have q1:W1.cell? ⟨w.heap.size+1,1,none⟩=some (.int .i64 0):=by rw [hW1,World.cell?_alloc_past _ _ _ (by simp),World.cell?_alloc_at _ _ _ _ (by simp)];rfl
 have r0:W1.frozen? ⟨w.heap.size+1,0,none⟩=false:=by rw [hW1];simp [go_sem]
 have r1:W1.frozen? ⟨w.heap.size+1,1,none⟩=false:=by rw [hW1];simp [go_sem]
 have hall:∀ w':World,Below W1.heap.size W1 w'->(Below W1.heap.size W1 w'/\w'.cell? ⟨w.heap.size,0,none⟩=some (.int .i64 b.room)/\w'.cell? ⟨w.heap.size,1,none⟩=some (.int .i64 b.gap)/\w'.cell? ⟨w.heap.size,2,none⟩=some (.slice ma b.ms.length mc)/\w'.cell? ⟨w.heap.size,3,none⟩=some (.slice sa b.ss.length sc)/\w'.cell? ⟨w.heap.size,4,none⟩=some (.slice ra b.rs.length rc)/\w'.cell? ⟨w.heap.size+1+1,0,none⟩=some (.int .i64 m)/\w'.cell? ⟨w.heap.size+1+1,1,none⟩=some (.int .i64 g)/\w'.cell? ⟨w.heap.size+1,0,none⟩=some (.int .i64 0)/\w'.cell? ⟨w.heap.size+1,1,none⟩=some (.int .i64 0)/\w'.frozen? ⟨w.heap.size+1,0,none⟩=false/\w'.frozen? ⟨w.heap.size+1,1,none⟩=false):=fun w' h=>by
  exact ⟨h,(h.cell (by simp;omega)).trans five.c0,(h.cell (by simp;omega)).trans five.c1,(h.cell (by simp;omega)).trans five.c2,(h.cell (by simp;omega)).trans five.c3,(h.cell (by simp;omega)).trans five.c4,(h.cell (by simp;omega)).trans p0,(h.cell (by simp;omega)).trans p1,(h.cell (by simp;omega)).trans q0,(h.cell (by simp;omega)).trans q1,(h.frozen (by simp;omega)).trans r0,(h.frozen (by simp;omega)).trans r1⟩
 have HALL:=Hh hall;clear hW1 hall p0 p1 q0 q1 r0 r1 five;have hgr:=fun (w':World)=>group_at (m,g) w';have HGR:=Hh hgr;clear hgr;go_region_held3 (fun w'=>Below W1.heap.size W1 w'/\w'.cell? ⟨w.heap.size,0,none⟩=some (.int .i64 b.room)/\w'.cell? ⟨w.heap.size,1,none⟩=some (.int .i64 b.gap)/\w'.cell? ⟨w.heap.size,2,none⟩=some (.slice ma b.ms.length mc)/\w'.cell? ⟨w.heap.size,3,none⟩=some (.slice sa b.ss.length sc)/\w'.cell? ⟨w.heap.size,4,none⟩=some (.slice ra b.rs.length rc)/\w'.cell? ⟨w.heap.size+1+1,0,none⟩=some (.int .i64 m)/\w'.cell? ⟨w.heap.size+1+1,1,none⟩=some (.int .i64 g)/\w'.cell? ⟨w.heap.size+1,0,none⟩=some (.int .i64 0)/\w'.cell? ⟨w.heap.size+1,1,none⟩=some (.int .i64 0)/\w'.frozen? ⟨w.heap.size+1,0,none⟩=false/\w'.frozen? ⟨w.heap.size+1,1,none⟩=false)
  ((go_split_ands;exact HALL.out _ (bel)))
  (first
    | (go_at_call 61;(with_reducible refine (HGR.out _).mono ?_);rintro e w2 ⟨B,rfl,hB1,q0,q1,hb2⟩;have hq:∀ W,Below w2.heap.size w2 W->W.cell? ⟨B,0,none⟩=some (.int .i64 m)/\W.cell? ⟨B,1,none⟩=some (.int .i64 g)/\B < W.heap.size:=(fun W h=>⟨(h.cell hB1).trans q0,(h.cell hB1).trans q1,Nat.lt_of_lt_of_le hB1 h.size⟩);have HQ:=Hh hq;clear hq q0 q1;obtain ⟨hc2,hf2⟩:=bcell hb2;have hz2:=hb2.size;(try simp at hz2);(try (have hy2:w.heap.size+1+1+1 < w2.heap.size:=by omega)))
    | (go_at_call 34;go_split_ands;have hX:=Below.next hb0 ‹Below W1.heap.size W1 _›;(with_reducible refine (open_group_ok (HB.out.below hX) HN.out (HK.out.below hX) _ (al:=if isPart b (m,g) then 0 else 6) (fun hk W hW=>group1_at (p:=(m,g)) (HB.out.below (Below.next hX hW)) (bookAl_ok hk).1.groups (HQ.out W (Below.next (by first | exact Below.refl _ _ | exact bal _ _) hW)).1 (HQ.out W (Below.next (by first | exact Below.refl _ _ | exact bal _ _) hW)).2.1 (HQ.out W (Below.next (by first | exact Below.refl _ _ | exact bal _ _) hW)).2.2) HBA.out HPT.out HPS.out).mono ?_);rintro e w3 ⟨la,rfl,hrow,hb3⟩;obtain ⟨la,lc,rfl⟩:=ownsRow_slice hrow;obtain ⟨Bs,hBs,hrow⟩:=row_named hrow;(try simp at hBs);have HROW:=Hh hrow;clear hrow;obtain ⟨hc3,hf3⟩:=bcell hb3;have hz3:=hb3.size;(try simp at hz3);(try (have hy3:w.heap.size+1+1+1 < w3.heap.size:=by omega))))
 all_goals
  have hrw:∀ W9,Below w3.heap.size w3 W9->W9.ownsRow Bs 116 4 (.slice la (pasts b).length lc) (pasts b).length ((pasts b).flatMap cellsP):=fun W9 h=>ownsRow_below HROW.out h;have HRW:=Hh hrw;clear hrw;go_wp2_with (first
   | (go_at_call 64;(with_reducible refine (often_at (p:=(m,g)) (HB.out.below (bel)) HO.out (la:=la) (l:=pasts b) (cames_of_row (base:=Bs) (n:=(pasts b).length) (c:=lc) (by repeat (first | (with_reducible refine ownsRow_setCell_below ?_ (by simp;omega) _) | exact HROW.out | exact HRW.out _ (bel)))) HPC.out (by omega) HPA.out).mono ?_);rintro e w4 hout;rw [HXT.out] at hout;obtain ⟨ib,ic,nn,rfl,hnn,hic,hi0,hir,hib1,hib2,hb4⟩:=ints_two hout;have HIR:=Hh hir;obtain ⟨hc4,hf4⟩:=bcell hb4;have HNN:=Hh hnn;have HIC:=Hh hic;clear hir hout hnn hic))
  have hb9:Below w.heap.size w w4:=bel;have k0:w4.cell? ⟨w.heap.size+1,0,none⟩=some (.int .i64 0):=by rw [hc4 _ _ (by simp;omega)];simp [go_sem, *]
  have k1:w4.cell? ⟨w.heap.size+1,1,none⟩=some (.int .i64 0):=by rw [hc4 _ _ (by simp;omega)];simp [go_sem, *]
  have k2:w4.frozen? ⟨w.heap.size+1,0,none⟩=false:=by rw [hf4 _ _ (by simp;omega)];simp [go_sem, *]
  have k3:w4.frozen? ⟨w.heap.size+1,1,none⟩=false:=by rw [hf4 _ _ (by simp;omega)];simp [go_sem, *]
  have hsz4:w.heap.size+1 < w4.heap.size:=by have:=hb4.size;simp at this;omega
  clear hc4 hf4 hb4;have v0:=valAt_some (w:=w4) (a:=⟨w.heap.size+1,0,none⟩) (by rw [k0];rfl);have v1:=valAt_some (w:=w4) (a:=⟨w.heap.size+1,1,none⟩) (by rw [k1];rfl);have hne7:ib≠w.heap.size+1:=by have:w.heap.size+1 < _:=Nat.lt_of_lt_of_le (by simp;omega) hib1;omega
  have hnn:=HNN.out;have hic:=HIC.out;have hz1:(0:Int) < ↑nn:=by omega
  have hz2:(1:Int)<=↑nn:=by omega
  have hz3:(↑nn:Int)<=↑ic:=by omega
  have hz4:0 < nn:=by omega
  have hz5:1<=nn:=by omega
  have hz6:nn<=ic:=by omega
  have HNM:=Hh (show nn - 1=tl.length by omega);clear hnn hic;have htl2:tl.length<=1000000:=by have:=HTL.out;omega
  clear k0 k1;have hir:=HIR.out;obtain ⟨o1,hcap,hir⟩:∃ o1,((ic=1/\o1=0)\/(¬ ic=1/\o1=1))/\IntsAt w4 (some ⟨ib,o1,none⟩) tl:=by
   by_cases h1:ic=1
   ·exact ⟨0,.inl ⟨h1,rfl⟩,fun i hi=>by have:=HNM.out;omega⟩
   ·exact ⟨1,.inr ⟨h1,rfl⟩,hir⟩
  rcases hcap with ⟨rfl,rfl⟩ | ⟨hc1,rfl⟩
  ·obtain rfl:tl=[]:=List.eq_nil_of_length_eq_zero (by have:=HNM.out;omega);obtain rfl:nn=1:=by omega
   refine cp_one rfl hb9 hsz4 hi0 hib2 hir v0 v1 k2 k3 hne7 hw0 hw1 ?_
   intros
   go_wp2;exact bodyPost_ret (v:=.tuple #[.agg #[.int .i64 (leastI x0 []),.int .i64 (- leastI (- x0) [])],.int .i64 0]) (by simp [results,Tryz.results22,go_sem, *]) rfl ⟨by rw [HLO.out,HHI.out];rfl,by assumption⟩
  ·refine cp_more rfl hb9 hsz4 hi0 hib2 hir v0 v1 k2 k3 hne7 hw0 hw1 HNM.out hnl htl2 HTB hz4 hz6 hc1 ?_
   intros
   go_wp2;exact bodyPost_ret (v:=.tuple #[.agg #[.int .i64 (leastI x0 tl),.int .i64 (- leastI (- x0) (negI tl))],.int .i64 0]) (by simp [results,Tryz.results22,go_sem, *]) rfl ⟨by rw [HLO.out,HHI.out],by assumption⟩
end
section
variable {b:Bk} {vr vg vm vs vc:Value} {w:World}
def throughAsk (b:Bk) (s:Int):Int:=if inB s 0 ((b.ss.length:Int) - 1) then 0 else 6
def throughAl (b:Bk) (s:Int):Int:=openAl b (throughAsk b s)
def throughI (b:Bk) (s:Int):List Int:=Lib.compact (sortI ((pasts b).map fun x=>x.getD s.toNat 0))
theorem through1_at (hB:BookAt w b vr vg vm vs vc) {B:Nat} {s:Int} (h0:w.cell? ⟨B,0,none⟩=some (.int .i64 s)) (hlt:B < w.heap.size) :
 Calls Tryz.prog 57 #[.agg #[vr,vg,vm,vs,vc],.pointer (some ⟨B,0,none⟩)] w fun e w'=>e=.returned (.int .i64 (throughAsk b s))/\Below w.heap.size w w':=by
 obtain ⟨_,_,_,⟨sa,sc,rfl,_,hsl⟩,_⟩:=id hB;have hw:IntKind.i64.wrap ((b.ss.length:Int) - 1)=(b.ss.length:Int) - 1:=wrapI (by omega) (by omega);unfold throughAsk;clear hB;cases h:inB s 0 ((b.ss.length:Int) - 1)
 all_goals
  have H:=Hh h;clear h
  go_enter Tryz.func57,Tryz.ntmps57
  go_wp2_with (go_at_call 58;(with_reducible refine (inside_at H.out).mono ?_);rintro e w' ⟨rfl,rfl⟩);go_ret;exact ⟨rfl,bel⟩
theorem pad_getD {x:List Int} {n:Nat}:(pad x).getD n 0=x.getD n 0:=by
 unfold pad;simp only [List.getD_eq_getElem?_getD];by_cases hx:n < x.length
 ·simp [List.getElem?_append,hx]
 ·simp [List.getElem?_append,hx,List.getElem?_replicate];split <;> rfl
def nthI (n:Nat) (l:List (List Int)):List Int:=l.map fun x=>(pad x).getD n 0
theorem through_ok (hB:BookAt w b vr vg vm vs vc) (hN:∀ m∈b.ms,m.name.size<=1000000) (hK:KindsAt w) (s:Int) (ht:throughAl b s=0) :
 Calls Tryz.prog 20 #[.agg #[vr,vg,vm,vs,vc],.int .i64 s] w fun e w'=>∃ a c,e=.returned (.tuple #[.slice a (throughI b s).length c,.int .i64 0])/\IntsAt w' a (throughI b s)/\Below w.heap.size w w':=by
 have HB:=Hh hB;have HN:=Hh hN;have HK:=Hh hK;obtain ⟨hk,hpt,hps⟩:=openAl_ok ht;have hin:inB s 0 ((b.ss.length:Int) - 1)=true:=by
  cases h:inB s 0 ((b.ss.length:Int) - 1)
  ·unfold throughAsk at hpt;rw [h] at hpt;simp at hpt
  ·rfl
 have hs0:0<=s/\s<=(b.ss.length:Int) - 1:=by unfold inB at hin;simpa using hin
 have hbo:=(bookAl_ok hk).1;have hsl:=hbo.sl;have hs4:s < 4:=by omega
 obtain ⟨sn,rfl⟩:∃ sn:Nat,s=sn:=⟨s.toNat,by omega⟩;have HBA:=Hh hk;have HPS:=Hh hps;have hpl:=pasts_le hbo;have HPC:=Hh (fun x (hx:x∈pasts b)=>pasts_came hbo hx);have HPT:=Hh hpt;have hsn4:sn < 4:=by omega
 have hsn0:(0:Int)<=(sn:Int):=by omega
 have hsn4':(sn:Int) < 4:=by omega
 clear hk hpt hps hbo hin;obtain ⟨rfl,rfl,⟨ma,mc,rfl,_,_⟩,⟨sa,sc,rfl,_,_⟩,ra,rc,rfl,_,_⟩:=id hB;clear hB hN hK ht hs0 hs4
 go_enter Tryz.func20,Tryz.ntmps20
 go_wp2_with (go_at_call 34;(with_reducible refine (open_through_ok (HB.out.below (bel)) HN.out (HK.out.below (bel)) _ (al:=throughAsk b sn) (fun hk W hW=>through1_at (HB.out.below (Below.next (bel) hW)) ((hW.cell (by simp)).trans (alloc1_cell (by simp))) (Nat.lt_of_lt_of_le (by simp) hW.size)) HBA.out HPT.out HPS.out).mono ?_);rintro e w3 ⟨la,rfl,hrow,hb3⟩;obtain ⟨la,lc,rfl⟩:=ownsRow_slice hrow;have HCM:=Hh (cames_of_row hrow);clear hrow;obtain ⟨hc3,hf3⟩:=bcell hb3;have hz3:=hb3.size;(try simp at hz3));obtain ⟨W0,hW0⟩:∃ W0,W0=w3.alloc (.cells #[.int .i64 b.room,.int .i64 b.gap,.slice ma b.ms.length mc,.slice sa b.ss.length sc,.slice ra b.rs.length rc] 88):=⟨_,rfl⟩;rw [<- hW0];have hb0:Below w.heap.size w W0:=by rw [hW0];(exact bel)
 have s0:W0.cell? ⟨w.heap.size+1,0,none⟩=some (.int .i64 sn):=by rw [hW0,World.cell?_alloc_past _ _ _ (by omega),hc3 _ _ (by simp),alloc1_cell (by simp)]
 have hsz0:w.heap.size+1 < W0.heap.size:=by rw [hW0];simp;omega
 have HCM0:=Hh (HCM.out.below (w':=W0) (by rw [hW0];(exact bel)));clear hW0 hc3 hf3 hb3 hz3;go_loopw [9,24] (fun v i wr=>∃ (k:Nat) (a:Option Addr) (c:Nat),k<=(pasts b).length/\i=.int .i64 k/\v=.slice a k c/\wr.ownsRow W0.heap.size 3 1 (.slice a k c) k ((nthI sn ((pasts b).take k)).map (Value.int .i64))/\Below W0.heap.size W0 wr) (fun _ i _=>(pasts b).length - (intOf i).toNat)
 case atStart=>exact ⟨0,none,0,Nat.zero_le _,rfl,rfl,by simpa [nthI] using World.ownsRow_nil _ _ _ _,Below.refl _ _⟩
 case round =>
  obtain ⟨k,a,c,hk,rfl,rfl,hrow,hW⟩:=hrel;have hWs:=hW.size;by_cases hlt:k < (pasts b).length
  ·obtain ⟨lb,lo,rfl,hlb,e0,e1,e2,e3⟩:=HCM0.out k hlt;have d0:=(hW.cell hlb).trans e0;have d1:=(hW.cell hlb).trans e1;have d2:=(hW.cell hlb).trans e2;have d3:=(hW.cell hlb).trans e3;have hlb2:lb < wr.heap.size:=Nat.lt_of_lt_of_le hlb hW.size;have s1:=(hW.cell (p:=⟨w.heap.size+1,0,none⟩) hsz0).trans s0;obtain ⟨hcm,hc4,hcl⟩:=HPC.out _ (List.getElem_mem hlt);have htk:=List.take_succ_eq_append_getElem hlt;obtain ⟨x0,x1,x2,x3,hxp⟩:=four hc4;have hnth:nthI sn ((pasts b).take (k+1))=nthI sn ((pasts b).take k) ++ [[x0,x1,x2,x3].getD sn 0]:=by
    unfold nthI;rw [htk,List.map_append,List.map_cons,List.map_nil,hxp]
   rw [hxp] at d0 d1 d2 d3;simp only [List.getD_cons_zero,List.getD_cons_succ] at d0 d1 d2 d3;have HROW:=Hh hrow;have HNTH:=Hh hnth;clear e0 e1 e2 e3 hcm hc4 hcl htk hxp hrow hnth;have hsz1:w.heap.size+1 < wr.heap.size:=by omega
   obtain ⟨xs,hxs,hget⟩:∃ xs:Int,[x0,x1,x2,x3].getD sn 0=xs/\∀ h,[Value.int .i64 x0,Value.int .i64 x1,Value.int .i64 x2,Value.int .i64 x3][sn]'h=.int .i64 xs:=by
    rcases (show sn=0\/sn=1\/sn=2\/sn=3 by omega) with rfl | rfl | rfl | rfl <;> exact ⟨_,rfl,fun _=>rfl⟩
   have HXS:=Hh hxs;clear hxs;go_wp2_with (at_builtin;go_loud (refine wpl_append1 rfl _ _ 35 rfl W0.heap.size 3 Tryz.underlying35 intInfo rfl (by omega) (.slice a k c) k _ rfl (HROW.out.alloc _) (by simp;omega) (by omega) _ (n:=wr.heap.size+1) (by simp) rfl (by simp [Value.oneCell']) ?_;intro g cap w2 hown2 hb2));have hown3:w2.ownsRow W0.heap.size 3 1 (.slice (some ⟨g,0,none⟩) (k+1) cap) (k+1) ((nthI sn ((pasts b).take (k+1))).map (Value.int .i64)):=by
    rw [HNTH.out,List.map_append,HXS.out];exact hown2
   have HOWN:=Hh hown3;clear hown2 hown3;go_roundw
   case rel=>exact ⟨k+1,_,_,by omega,by go_num,rfl,HOWN.out,(hW.alloc hWs _).trans hb2⟩
   case measure=>simp [intOf];omega
  ·obtain rfl:k=(pasts b).length:=by omega
   rw [List.take_length] at hrow;have HROW:=Hh hrow;have hnl:(pasts b).length=(nthI sn (pasts b)).length:=by simp [nthI]
   have hnl2:(pasts b).length=(sortI (nthI sn (pasts b))).length:=by rw [sortI_length,hnl]
   have HNL:=Hh hnl;have HNL2:=Hh hnl2;clear hrow hnl hnl2;go_wp2_with (first
    | (go_at_call 59;(with_reducible refine (sort_at HNL.out hWs HROW.out (by rw [<- HNL.out];omega)).mono ?_);rintro e w4 ⟨rfl,hr4,hb4⟩;have HR4:=Hh hr4;clear hr4;have hs4:=hb4.size)
    | (go_at_call 60;(with_reducible refine (compact_at HNL2.out (Nat.le_trans hWs hs4) HR4.out (by rw [<- HNL2.out];omega)).mono ?_);rintro e w5 ⟨rfl,hi5,hb5⟩;have HI5:=Hh hi5;clear hi5))
   have hth:throughI b (sn:Int)=Lib.compact (sortI (nthI sn (pasts b))):=by
    unfold throughI nthI;congr 2;exact List.map_congr_left fun x _=>(pad_getD).symm
   exact bodyPost_ret (v:=.tuple #[.slice a (Lib.compact (sortI (nthI sn (pasts b)))).length c,.int .i64 0]) (by simp [results,Tryz.results20,go_sem, *]) rfl ⟨a,c,by rw [hth],by rw [hth];exact HI5.out,Below.next hb0 ((hW.trans hb4).trans hb5)⟩
end
section
variable {b:Bk} {vr vg vm vs vc:Value} {w:World}
theorem histories_at (hB:BookAt w b vr vg vm vs vc) (hN:∀ m∈b.ms,m.name.size<=1000000) (hK:KindsAt w) :
 Calls Tryz.prog 19 #[.agg #[vr,vg,vm,vs,vc]] w fun e w'=>e=.returned (.tuple #[.int .i64 (if bookAl b=0 then ((pasts b).length:Nat) else 0),.int .i64 (bookAl b)])/\Below w.heap.size w w':=by
 have HB:=Hh hB;have HN:=Hh hN;have HK:=Hh hK;obtain ⟨rfl,rfl,⟨ma,mc,rfl,_,_⟩,⟨sa,sc,rfl,_,_⟩,ra,rc,rfl,_,_⟩:=id hB;clear hB hN hK;by_cases hk:bookAl b=0
 ·have H0:=Hh hk;rw [hk,if_pos rfl];clear hk
  go_enter Tryz.func19,Tryz.ntmps19
  go_wp2_with (first
   | (go_at_call 55;(with_reducible refine (checkBook_at (HB.out.below (bel)) HN.out (HK.out.below (bel)) H0.out).mono ?_);rintro e w1 ⟨rfl,hb1⟩;obtain ⟨hc1,hf1⟩:=bcell hb1;have hz1:w.heap.size < w1.heap.size:=(by have:=hb1.size;simp at this;omega))
   | (go_at_call 56;(with_reducible refine (all_at2 (HB.out.below (bel)) (HK.out.below (bel)) H0.out).mono ?_);rintro e w3 ⟨l',rfl,hrow,hb3⟩;obtain ⟨la,lc,rfl⟩:=ownsRow_slice hrow;have HROW:=Hh hrow;clear hrow))
  exact bodyPost_ret (v:=.tuple #[.int .i64 ((pasts b).length:Nat),.int .i64 0]) (by simp [results,Tryz.results19,go_sem, *]) rfl ⟨rfl,bel⟩
 ·rw [if_neg hk];generalize ht:bookAl b=t at hk;have H0:=Hh ht;have hz3:(t != 0)=true:=by simpa using hk
  clear ht
  go_enter Tryz.func19,Tryz.ntmps19
  go_wp2_with (go_at_call 55;(with_reducible refine (checkBook_at (HB.out.below (bel)) HN.out (HK.out.below (bel)) H0.out).mono ?_);rintro e w1 ⟨rfl,hb1⟩;obtain ⟨hc1,hf1⟩:=bcell hb1;have hz1:w.heap.size < w1.heap.size:=(by have:=hb1.size;simp at this;omega));exact bodyPost_ret (v:=.tuple #[.int .i64 0,.int .i64 t]) (by simp [results,Tryz.results19,go_sem, *]) rfl ⟨rfl,bel⟩
end
def partsOf (i:Nat) (n:Nat):List Prt:=(List.range n).map fun (g:Nat)=>((i:Int),(g:Int))
def partsTo (b:Bk) (k:Nat):List Prt:=(List.range k).flatMap fun i=>partsOf i ((b.ms[i]?).elim 0 Msg.groups).toNat
def partsL (b:Bk):List Prt:=partsTo b b.ms.length
theorem partsOf_succ (i n:Nat):partsOf i (n+1)=partsOf i n ++ [((i:Int),(n:Int))]:=by unfold partsOf;rw [List.range_succ,List.map_append];rfl
theorem partsTo_succ (b:Bk) (k:Nat):partsTo b (k+1)=partsTo b k ++ partsOf k ((b.ms[k]?).elim 0 Msg.groups).toNat:=by unfold partsTo;rw [List.range_succ,List.flatMap_append];simp
theorem partsTo_prefix (b:Bk):∀ (n k:Nat) (_:k<=n),∃ suf,partsTo b n=partsTo b k ++ suf
 | 0,k,h=>by obtain rfl:k=0:=by omega
             exact ⟨[],by simp⟩
 | n+1,k,h=>by
  by_cases hk:k=n+1
  ·subst hk;exact ⟨[],by simp⟩
  ·obtain ⟨suf,hs⟩:=partsTo_prefix b n k (by omega);exact ⟨suf ++ partsOf n ((b.ms[n]?).elim 0 Msg.groups).toNat,by rw [partsTo_succ,hs,List.append_assoc]⟩
theorem partsOf_prefix (i:Nat):∀ (n g:Nat) (_:g<=n),∃ suf,partsOf i n=partsOf i g ++ suf
 | 0,g,h=>by obtain rfl:g=0:=by omega
             exact ⟨[],by simp⟩
 | n+1,g,h=>by
  by_cases hk:g=n+1
  ·subst hk;exact ⟨[],by simp⟩
  ·obtain ⟨suf,hs⟩:=partsOf_prefix i n g (by omega);exact ⟨suf ++ [((i:Int),(n:Int))],by rw [partsOf_succ,hs,List.append_assoc]⟩
theorem parts_next (b:Bk) {k g:Nat} (hk:k < b.ms.length) (hg:g < ((b.ms[k]?).elim 0 Msg.groups).toNat):∃ suf,partsL b=(partsTo b k ++ partsOf k g) ++ ((k:Int),(g:Int))::suf:=by
 obtain ⟨s1,h1⟩:=partsTo_prefix b b.ms.length (k+1) (by omega);obtain ⟨s2,h2⟩:=partsOf_prefix k _ (g+1) hg;exact ⟨s2 ++ s1,by unfold partsL;rw [h1,partsTo_succ,h2,partsOf_succ];simp⟩
def encP (p:Prt) (args:Array Value) (_:World):Prop:=args=#[.agg #[.int .i64 p.1,.int .i64 p.2]]
section
variable {b:Bk} {vr vg vm vs vc:Value}
theorem parts_iter {w0 W:World} (hB:BookAt w0 b vr vg vm vs vc) (hG:∀ m∈b.ms,0<=m.groups/\m.groups<=1000) (hW:Below w0.heap.size w0 W) {p:Nat->Prop} (hp0:∀ k,k < w0.heap.size->p k) :
 Iter Tryz.prog 73 (.agg #[vr,vg,vm,vs,vc]) encP (partsL b) (fun _=>False) p W:=by
 intro l J Jx hJ hJx hY h0;have HJ:=Hh (fun pre A B h k=>hJ pre A B h (KS.mono k fun _ _ _=>trivial:KS (fun k=>¬ False) A B));have HY:=Hh hY;have H0:=Hh h0;have HW:=Hh hW;have HG:=Hh hG;have HP0:=Hh hp0;have HB:=Hh hB;obtain ⟨rfl,rfl,⟨ma,mc,rfl,hms,hml⟩,⟨sa,sc,rfl,_,_⟩,ra,rc,rfl,_,_⟩:=id hB;have HM:=Hh hms;clear hms hB hJ hJx hY h0 hW hG hp0
 (refine callsIn_of_wp Tryz.func73 rfl trivial ?_ rfl;simp only [Tryz.ntmps73,List.size_toArray,List.length_cons,List.length_nil,Nat.reduceAdd,Nat.reduceSub,Array.replicate_succ,Array.replicate_zero,List.push_toArray,List.append_toArray,List.nil_append,List.cons_append])
 gi_wp2
 have hks0:KS (fun _=>True) W (W.alloc (.cells #[.int .i64 b.room,.int .i64 b.gap,.slice ma b.ms.length mc,.slice sa b.ss.length sc,.slice ra b.rs.length rc] 88)):=KS.alloc _ _ _
 gi_loopw [11] (fun i wr=>∃ k:Nat,k<=b.ms.length/\i=.int .i64 k/\J (partsTo b k) wr/\Below w0.heap.size w0 wr) (fun i _=>b.ms.length - (intOf i).toNat)
 case atStart=>exact ⟨0,Nat.zero_le _,rfl,HJ.out _ _ _ H0.out hks0,by have:=HW.out;(exact bel)⟩
 case round =>
  obtain ⟨k,hk,rfl,hj,hb⟩:=hrel;have HJ0:=Hh hj;clear hj;by_cases hlt:k < b.ms.length
  ·obtain ⟨mb,mo,rfl,hmb,e0,e1,e2⟩:=HM.out k hlt;have d0:=(hb.cell hmb).trans e0;have d1:=(hb.cell hmb).trans e1;have d2:=(hb.cell hmb).trans e2;have hmb2:mb < wr.heap.size:=Nat.lt_of_lt_of_le hmb hb.size;have hgs:=HG.out _ (List.getElem_mem hlt);have hgn:((b.ms[k]?).elim 0 Msg.groups)=b.ms[k].groups:=by rw [List.getElem?_eq_getElem hlt];rfl
   generalize hx:b.ms[k]=x at d0 d1 d2 hgs hgn;obtain ⟨n,hn⟩:∃ n:Nat,x.groups=n:=⟨x.groups.toNat,by omega⟩;rw [hn] at d1 hgn;have HGN:=Hh hgn;have hn1:n<=1000:=by omega
   clear e0 e1 e2 hgs hx hgn hn
   gi_wp2
   have hks1:KS (fun _=>True) wr (wr.alloc (.cells #[.string x.name,.int .i64 n,.int .i64 x.due] 111)):=KS.alloc _ _ _
   gi_loopw [18] (fun i wr=>∃ g:Nat,g<=n/\i=.int .i64 g/\J (partsTo b k ++ partsOf k g) wr/\Below w0.heap.size w0 wr) (fun i _=>n - (intOf i).toNat)
   case atStart=>exact ⟨0,Nat.zero_le _,rfl,by simpa [partsOf] using HJ.out _ _ _ HJ0.out hks1,bel⟩
   case round =>
    obtain ⟨g,hg,rfl,hj2,hb2⟩:=hrel;have HJ2:=Hh hj2;clear hj2;by_cases hlt2:g < n
    ·obtain ⟨fn,tmps,assign,body,hy,hR⟩:=HY.out (partsTo b k ++ partsOf k g) ((k:Int),(g:Int)) _ wr (parts_next b hlt (by rw [HGN.out];simpa using hlt2)) rfl HJ2.out;have HR:=Hh hR;clear hR
     gi_wp2
     refine HR.out.mono ?_;rintro e B (⟨rfl,hj',hk'⟩ | ⟨rfl,hjx⟩)
     ·have hj3:J (partsTo b k ++ partsOf k (g+1)) B:=by rw [partsOf_succ,<- List.append_assoc];exact hj'
      have HJ3:=Hh hj3;have hb3:Below w0.heap.size w0 B:=⟨hk'.os.trans hb2.os,hk'.tape.trans hb2.tape,hk'.output.trans hb2.output,Nat.le_trans hb2.size hk'.size,fun j hj=>(hk'.block j (Nat.lt_of_lt_of_le hj hb2.size) (HP0.out j hj)).trans (hb2.block j hj)⟩;clear hj3 hj' hk'
      gi_wp2
      go_roundw
      case rel=>exact ⟨g+1,by omega,by go_num,HJ3.out,hb3⟩
      case measure=>simp [intOf];omega
     ·have HJX:=Hh hjx;clear hjx
      gi_wp2
      exact bodyPost_ret (v:=.tuple #[]) (by simp [results,Tryz.results73,go_sem]) rfl ⟨⟨_,rfl⟩,.inr ⟨_,HJX.out⟩⟩
    ·obtain rfl:g=n:=by omega
     have hj3:J (partsTo b (k+1)) wr:=by rw [partsTo_succ,HGN.out];exact HJ2.out
     have HJ3:=Hh hj3;clear hj3
     gi_wp2
     go_roundw
     case rel=>exact ⟨k+1,by omega,by go_num,HJ3.out,hb2⟩
     case measure=>simp [intOf];omega
  ·obtain rfl:k=b.ms.length:=by omega
   gi_wp2
   go_end0
   exact ⟨⟨_,rfl⟩,.inl HJ0.out⟩
end
attribute [local go_sem] Oper.semAt_some
theorem parts_isPart {b:Bk} {x:Prt} (h:x∈partsL b):isPart b x=true:=by
 unfold partsL partsTo at h;obtain ⟨i,hi,h⟩:=List.mem_flatMap.1 h;unfold partsOf at h;obtain ⟨g,hg,rfl⟩:=List.mem_map.1 h;rw [List.mem_range] at hi hg;clear h;unfold isPart inB;simp only [Int.toNat_natCast];simp only [Bool.and_eq_true,decide_eq_true_eq];generalize hn:(b.ms[i]?).elim 0 Msg.groups=n at hg;omega
theorem parts_bd {b:Bk} (hO:BkOk b):(partsL b).length<=5000:=by
 unfold partsL partsTo;rw [List.length_flatMap];have h:=sum_map_le (fun i=>(partsOf i ((b.ms[i]?).elim 0 Msg.groups).toNat).length) 1000 (List.range b.ms.length) fun i hi=>by
  unfold partsOf;rw [List.length_map,List.length_range]
  cases hm:b.ms[i]? with
  | none=>simp
  | some m =>
   have:=(hO.groups m (List.mem_of_getElem? hm)).2;simp only [Option.elim];omega
 rw [List.length_range] at h;have:=hO.ml;omega
theorem partInfo:(Tryz.prog.info? 85).map (fun i=>(i.zero,i.size,i.bytes))=some (some (.agg #[.int .i64 0,.int .i64 0]),2,16):=by kernel_rfl
def cellsQ (p:Prt):List Value:=[.int .i64 p.1,.int .i64 p.2]
def isMiss (b:Bk) (l:List (List Int)) (p:Prt):Bool:=decide (countI (oftenI b l p) 1 < (l.length:Int))
def missL (b:Bk) (l:List (List Int)) (pre:List Prt):List Prt:=pre.filter (isMiss b l)
theorem calls_round {P:Program} {f:FuncId} {args:Array Value} {w:World} {R:Ending->World->Prop} {l n:Nat} (h:Calls P f args w R):CallsIn (Fence.wide.inRound l) n P f args w R:=(callsIn_wide (n:=n)).2 h
section
variable {b:Bk} {vr vg vm vs vc:Value}
structure MisJ (w:World) (b:Bk) (vr vg vm vs vc:Value) (la:Option Addr) (lc:Nat) (l:List (List Int)) (pre:List Prt) (A:World):Prop where
 five:Five A w.heap.size vr vg vm vs vc
 c:A.cell? ⟨w.heap.size+1,0,none⟩=some (.slice la l.length lc)
 out:∃ v,A.cell? ⟨w.heap.size+2,0,none⟩=some v/\A.frozen? ⟨w.heap.size+2,0,none⟩=false/\A.ownsRow (w.heap.size+5) 85 2 v (missL b l pre).length ((missL b l pre).flatMap cellsQ)
 base:Below w.heap.size w A
 lt:w.heap.size+4 < A.heap.size
theorem MisJ.keep {w A B:World} {la:Option Addr} {lc:Nat} {l:List (List Int)} {pre:List Prt} (h:MisJ w b vr vg vm vs vc la lc l pre A) {p:Nat->Prop} (hk:KS p A B) (hp:∀ k,k<=w.heap.size+2\/w.heap.size+5<=k->p k):MisJ w b vr vg vm vs vc la lc l pre B:=by
 obtain ⟨h1,h2,⟨v,h3,h4,h5⟩,h6,h7⟩:=h;have e:∀ o,B.cell? ⟨w.heap.size,o,none⟩=A.cell? ⟨w.heap.size,o,none⟩:=fun o=>hk.cell (x:=⟨w.heap.size,o,none⟩) (by simp;omega) (hp _ (.inl (by simp)));refine ⟨⟨(e 0).trans h1.c0,(e 1).trans h1.c1,(e 2).trans h1.c2,(e 3).trans h1.c3,(e 4).trans h1.c4,Nat.lt_of_lt_of_le h1.lt hk.size⟩,(hk.cell (x:=⟨w.heap.size+1,0,none⟩) (by simp;omega) (hp _ (.inl (by simp)))).trans h2,
  ⟨v,(hk.cell (x:=⟨w.heap.size+2,0,none⟩) (by simp;omega) (hp _ (.inl (by simp)))).trans h3,(hk.frozen (x:=⟨w.heap.size+2,0,none⟩) (by simp;omega) (hp _ (.inl (by simp)))).trans h4,ownsRow_ks h5 hk fun k hk=>hp k (.inr hk)⟩,
  ⟨hk.os.trans h6.os,hk.tape.trans h6.tape,hk.output.trans h6.output,Nat.le_trans h6.size hk.size,fun k hkk=>(hk.block k (Nat.lt_of_lt_of_le hkk h6.size) (hp k (.inl (by omega)))).trans (h6.block k hkk)⟩,Nat.lt_of_lt_of_le h7 hk.size⟩
def MisMid (w:World) (b:Bk) (vr vg vm vs vc:Value) (la:Option Addr) (lc:Nat) (l:List (List Int)) (pre:List Prt) (x:Prt) (a:Act) (A:World):Prop :=
 ∃ B,w.heap.size+5<=B/\B < A.heap.size/\A.cell? ⟨B,0,none⟩=some (.int .i64 x.1)/\A.cell? ⟨B,1,none⟩=some (.int .i64 x.2) /\
  a={ tmps:=#[.agg #[vr,vg,vm,vs,vc],.slice la l.length lc,.pointer (some ⟨w.heap.size,0,none⟩),.pointer (some ⟨w.heap.size+1,0,none⟩),.slice none 0 0,.pointer (some ⟨w.heap.size+2,0,none⟩),.pointer (some ⟨B,0,none⟩),.agg #[vr,vg,vm,vs,vc],.func (.func 73) #[.agg #[vr,vg,vm,vs,vc]] #[],.agg #[.int .i64 x.1,.int .i64 x.2],U,U,U,U,U,U,U,U,U,U,U,U,U],defers:=[] }/\MisJ w b vr vg vm vs vc la lc l pre A
def MisOut (w:World) (b:Bk) (l:List (List Int)) (e:Ending) (w':World):Prop:=∃ v,e=.returned v/\w'.ownsRow (w.heap.size+5) 85 2 v (missL b l (partsL b)).length ((missL b l (partsL b)).flatMap cellsQ)/\Below w.heap.size w w'
theorem missing_at {w:World} (hB:BookAt w b vr vg vm vs vc) (hO:BkOk b) {la:Option Addr} {lc:Nat} {l:List (List Int)} (hL:CamesAt w la l) (hl:∀ x∈l,Came b (pad x)/\(pad x).length=4/\x.length=b.ss.length) (hll:l.length<=2000) :
 Calls Tryz.prog 36 #[.agg #[vr,vg,vm,vs,vc],.slice la l.length lc] w (MisOut w b l):=by
 refine (callsIn_wide (n:=0)).1 (callsIn_of_wp_marks Tryz.func36 rfl trivial (wpIn_wide.2 ?_) rfl);have HB:=Hh hB;have HO:=Hh hO;have HL:=Hh hL;have HLL:=Hh hl;obtain ⟨rfl,rfl,⟨ma,mc,rfl,_,_⟩,⟨sa,sc,rfl,_,_⟩,ra,rc,rfl,_,_⟩:=id hB;clear hB hO hL hl;simp only [Tryz.ntmps36,List.size_toArray,List.length_cons,List.length_nil,Nat.reduceAdd,Nat.reduceSub,Array.replicate_succ,Array.replicate_zero,List.push_toArray,List.append_toArray,List.nil_append,List.cons_append];go_wp2;obtain ⟨W1,hW1⟩:∃ W1,W1=((w.alloc (.cells #[.int .i64 b.room,.int .i64 b.gap,.slice ma b.ms.length mc,.slice sa b.ss.length sc,.slice ra b.rs.length rc] 88)).alloc (.cells #[.slice la l.length lc] 89)).alloc (.cells #[.slice none 0 0] 31):=⟨_,rfl⟩;rw [<- hW1];have hb1:Below w.heap.size w W1:=by rw [hW1];(exact bel)
 have hs1:W1.heap.size=w.heap.size+1+1+1:=by rw [hW1];simp
 have hj1:∀ W,Below W1.heap.size W1 W->W.heap.size=W1.heap.size+1+1->MisJ w b (.int .i64 b.room) (.int .i64 b.gap) (.slice ma b.ms.length mc) (.slice sa b.ss.length sc) (.slice ra b.rs.length rc) la lc l [] W:=by
  intro W hW hsz;have five:=((Five.new w (.int .i64 b.room) (.int .i64 b.gap) (.slice ma b.ms.length mc) (.slice sa b.ss.length sc) (.slice ra b.rs.length rc) 88).below ((bal _ (.cells #[.slice la l.length lc] 89)).alloc (by simp) (.cells #[.slice none 0 0] 31)) (by simp));rw [<- hW1] at five;refine ⟨five.below hW five.lt,?_,⟨.slice none 0 0,?_,?_,by simpa [missL] using World.ownsRow_nil _ _ _ _⟩,Below.next hb1 hW,by omega⟩
  ·refine (hW.cell (p:=⟨w.heap.size+1,0,none⟩) (by simp;omega)).trans ?_;rw [hW1,World.cell?_alloc_past _ _ _ (by simp),alloc1_cell (by simp)]
  ·refine (hW.cell (p:=⟨w.heap.size+2,0,none⟩) (by simp;omega)).trans ?_;rw [hW1,alloc1_cell (by simp)]
  ·refine (hW.frozen (p:=⟨w.heap.size+2,0,none⟩) (by simp;omega)).trans ?_;rw [hW1,World.frozen?_alloc_at _ _ _ _ (by simp)]
 have HJ1:=Hh hj1;clear hj1 hW1;have e3:W1.heap.size+1=w.heap.size+4:=by omega
 refine wpIn_wide.1 (wpIn_range (gf:=73) (recv:=.agg #[.int .i64 b.room,.int .i64 b.gap,.slice ma b.ms.length mc,.slice sa b.ss.length sc,.slice ra b.rs.length rc]) rfl (enters_of Tryz.func73 (by kernel_rfl) rfl)
  encP (fun x args W h=>by rw [h];rfl) (partsL b) (fun _=>False) (fun k=>k < w.heap.size) ⟨fun h=>h,fun h=>h⟩ (by omega)
  (fun W hW hsz=>?seq) (MisJ w b (.int .i64 b.room) (.int .i64 b.gap) (.slice ma b.ms.length mc) (.slice sa b.ss.length sc) (.slice ra b.rs.length rc) la lc l) (fun _ _=>False) ?hJ ?hJx ?h0 (MisMid w b (.int .i64 b.room) (.int .i64 b.gap) (.slice ma b.ms.length mc) (.slice sa b.ss.length sc) (.slice ra b.rs.length rc) la lc l) ?hMid ?assign ?body ?done ?stop)
 case seq=>exact parts_iter HB.out HO.out.groups (Below.next hb1 hW) (fun k hk=>hk)
 case hJ=>exact fun pre A B h hk=>h.keep hk fun k hk h=>h.elim id fun h=>by omega
 case hJx=>exact fun _ _ _ h _=>h
 case h0=>exact fun W hW hsz=>HJ1.out W hW hsz
 case hMid =>
  rintro pre x a₁ A B ⟨Bx,h1,h2,c0,c1,ha,hj⟩ hk hsz;exact ⟨Bx,h1,by omega,(hk.cell h2 (by simp;omega)).trans c0,(hk.cell h2 (by simp;omega)).trans c1,ha,hj.keep hk (by omega)⟩
 case assign =>
  rintro pre x args A hx rfl hj hlt;have HJ:=Hh hj;clear hj hx;rw [one_param];show Code.wpIn _ _ _ _ _ { tmps:=#[.agg #[.int .i64 b.room,.int .i64 b.gap,.slice ma b.ms.length mc,.slice sa b.ss.length sc,.slice ra b.rs.length rc],.slice la l.length lc,.pointer (some ⟨w.heap.size,0,none⟩),.pointer (some ⟨w.heap.size+1,0,none⟩),.slice none 0 0,.pointer (some ⟨w.heap.size+1+1,0,none⟩),U,.agg #[.int .i64 b.room,.int .i64 b.gap,.slice ma b.ms.length mc,.slice sa b.ss.length sc,.slice ra b.rs.length rc],.func (.func 73) #[.agg #[.int .i64 b.room,.int .i64 b.gap,.slice ma b.ms.length mc,.slice sa b.ss.length sc,.slice ra b.rs.length rc]] #[],.agg #[.int .i64 x.1,.int .i64 x.2],U,U,U,U,U,U,U,U,U,U,U,U,U],defers:=[] } _
  gi_wp2
  refine ⟨(KS.alloc _ _ _),A.heap.size,by omega,by simp,?_,?_,rfl,HJ.out.keep (KS.alloc (fun _=>True) _ _) (fun _ _=>trivial)⟩
  ·rw [World.cell?_alloc_at _ _ _ _ rfl];rfl
  ·rw [World.cell?_alloc_at _ _ _ _ rfl];rfl
 case body =>
  rintro pre x a₁ A hx ⟨Bx,h1,h2,c0,c1,rfl,hj⟩ hlt;have hlen:pre.length < 5000:=by
   obtain ⟨suf,hx⟩:=hx;have:=parts_bd HO.out;rw [hx] at this;simp at this;omega
  have hpx:isPart b x=true:=parts_isPart (by obtain ⟨suf,hx⟩:=hx;rw [hx];simp);obtain ⟨f0,f1,f2,f3,f4,f5⟩:=hj.five;have fc:=hj.c;have hbel:=hj.base;have HBA:=Hh (HB.out.below hbel);have HLA:=Hh (HL.out.below hbel);have HPX:=Hh hpx;have HJ:=Hh hj;clear hj hpx hx;obtain ⟨x1,x2⟩:=x;simp only at c0 c1;have hA1:w.heap.size+1 < A.heap.size:=by omega
  have hA2:w.heap.size+2 < A.heap.size:=by omega
  gi_wp2
  refine wpIn_mono (Q:=fun e a' w'=>e=.normal/\Below A.heap.size A w'/\∃ u10 u11 u12 u13 u14 u15 u16,a'={ tmps:=#[.agg #[.int .i64 b.room,.int .i64 b.gap,.slice ma b.ms.length mc,.slice sa b.ss.length sc,.slice ra b.rs.length rc],.slice la l.length lc,.pointer (some ⟨w.heap.size,0,none⟩),.pointer (some ⟨w.heap.size+1,0,none⟩),.slice none 0 0,.pointer (some ⟨w.heap.size+2,0,none⟩),.pointer (some ⟨Bx,0,none⟩),.agg #[.int .i64 b.room,.int .i64 b.gap,.slice ma b.ms.length mc,.slice sa b.ss.length sc,.slice ra b.rs.length rc],.func (.func 73) #[.agg #[.int .i64 b.room,.int .i64 b.gap,.slice ma b.ms.length mc,.slice sa b.ss.length sc,.slice ra b.rs.length rc]] #[],.agg #[.int .i64 x1,.int .i64 x2],u10,u11,u12,u13,u14,u15,u16,.bool (decide (countI (oftenI b l (x1,x2)) 1 < (l.length:Int))),U,U,U,U,U],defers:=[] }) ?_ ?_
  ·gi_region_with (first
    | (gi_at_call 64;(with_reducible refine (calls_round (often_at (p:=(x1,x2)) (HBA.out.below (bel)) HO.out (HLA.out.below (bel)) HLL.out hll HPX.out)).mono ?_);rintro e w4 ⟨ia,ic,rfl,hir,hb4⟩;have HIR:=Hh hir;obtain ⟨hc4,hf4⟩:=bcell hb4;have hz4:=hb4.size;(try simp at hz4);have fc4:w4.cell? ⟨w.heap.size+1,0,none⟩=some (.slice la l.length lc):=(hb4.cell (p:=⟨w.heap.size+1,0,none⟩) (by simp;omega)).trans fc;clear hir)
    | (gi_at_call 63;(with_reducible refine (calls_round (count_at 1 (ints_of_row HIR.out) (by simp [oftenI];omega) rfl)).mono ?_);rintro e w5 ⟨rfl,rfl⟩))
   all_goals exact ⟨rfl,bel,_,_,_,_,_,_,_,rfl⟩
  rintro e a' w4 ⟨rfl,hb4,u10,u11,u12,u13,u14,u15,u16,rfl⟩;have hJ4:=HJ.out.keep (KS.all hb4 (fun _=>True)) (fun _ _=>trivial);have d0:=(hb4.cell (p:=⟨Bx,0,none⟩) h2).trans c0;have d1:=(hb4.cell (p:=⟨Bx,1,none⟩) h2).trans c1;clear f0 f1 f2 f3 f4 f5 fc c0 c1;have hB2:Bx < w4.heap.size:=Nat.lt_of_lt_of_le h2 hb4.size;obtain ⟨v,o1,o2,hrow⟩:=hJ4.out;have HJ4:=Hh hJ4;have HROW:=Hh hrow;have hlt4:=hJ4.lt;have hbel4:=hJ4.base;have hmb:(missL b l pre).length < 5000:=Nat.lt_of_le_of_lt (List.length_filter_le _ _) hlen;clear hJ4 hrow;by_cases hm:countI (oftenI b l (x1,x2)) 1 < (l.length:Int)
  ·have hd:decide (countI (oftenI b l (x1,x2)) 1 < (l.length:Int))=true:=decide_eq_true hm;have hml:missL b l (pre ++ [(x1,x2)])=missL b l pre ++ [(x1,x2)]:=by
    unfold missL;rw [List.filter_append,List.filter_cons,if_pos (show isMiss b l (x1,x2)=true from hd),List.filter_nil]
   have HML:=Hh hml;rw [hd];obtain ⟨i0,hi,hz0,hz1,hz2⟩:=info_parts partInfo;clear hd hml hm
   gi_wp2_with (gi_at_builtin;go_loud (refine wpListIn_append_own _ rfl _ _ 31 rfl (w.heap.size+5) 85 i0 (.agg #[.int .i64 0,.int .i64 0]) 2 16 Tryz.underlying31 hi hz0 hz1 hz2 rfl (by decide) _ _ _ rfl (ownsRow_ks HROW.out (KS.alloc (fun _=>True) _ _) (fun _ _=>trivial)) ⟨w4.heap.size,0,none⟩ 1 1 [.int .i64 x1,.int .i64 x2] rfl rfl (cells_new _ _ _) (by simp [Value.oneCell']) (by unfold maxLen;omega) (by omega) (by simp;omega) ?_;intro v' w1 hown' hgrow _;obtain ⟨g',cap',rfl⟩:=ownsRow_succ hown';have hks:=grow_ks (ownsRow_ks HROW.out (KS.alloc (fun _=>True) w4 _) (fun _ _=>trivial)) hgrow;have q1:=(hks.cell (x:=⟨w.heap.size+2,0,none⟩) (by simp;omega) (by simp));have q2:=(hks.frozen (x:=⟨w.heap.size+2,0,none⟩) (by simp;omega) (by simp));rw [World.cell?_alloc_past _ _ _ (by omega),o1] at q1;rw [World.frozen?_alloc_past _ _ _ (by omega),o2] at q2))
   have hks3:KS (fun k=>k≠w.heap.size+2) w1 (w1.setCell ⟨w.heap.size+2,0,none⟩ (.slice (some ⟨g',0,none⟩) ((missL b l pre).length+1) cap')):=KS.setCell (by simp) _ _;have hks1:=KS.alloc (fun k=>k < w.heap.size+5) w4 (.cells #[.int .i64 x1,.int .i64 x2] 85);have hks4:KS (fun k=>k < w.heap.size+5/\k≠w.heap.size+2) w4 (w1.setCell ⟨w.heap.size+2,0,none⟩ (.slice (some ⟨g',0,none⟩) ((missL b l pre).length+1) cap')):=((hks1.trans hks).mono fun k _ h=>h.1).trans (hks3.mono fun k _ h=>h.2);have hks5:=(KS.all hb4 (fun k=>k < w.heap.size+5/\k≠w.heap.size+2)).trans hks4;refine ⟨hks5.mono fun k _ h=>by omega,?_⟩;have e:∀ o,(w1.setCell ⟨w.heap.size+2,0,none⟩ (.slice (some ⟨g',0,none⟩) ((missL b l pre).length+1) cap')).cell? ⟨w.heap.size,o,none⟩=A.cell? ⟨w.heap.size,o,none⟩:=fun o=>hks5.cell (x:=⟨w.heap.size,o,none⟩) (by simp;omega) (by simp);have h5:=HJ.out.five;refine ⟨⟨(e 0).trans h5.c0,(e 1).trans h5.c1,(e 2).trans h5.c2,(e 3).trans h5.c3,(e 4).trans h5.c4,Nat.lt_of_lt_of_le h5.lt hks5.size⟩,(hks5.cell (x:=⟨w.heap.size+1,0,none⟩) (by simp;omega) (by simp)).trans HJ.out.c,⟨_,World.cell?_setCell_same' _ _ _ (by rw [q1];rfl),by rw [World.frozen?_setCell];exact q2,?_⟩,?_,Nat.lt_of_lt_of_le hlt4 hks4.size⟩
   ·rw [HML.out,List.flatMap_append,List.length_append,List.flatMap_cons,List.flatMap_nil,List.append_nil];exact ownsRow_ks hown' hks3 (fun k hk=>by omega)
   ·exact ⟨hks4.os.trans hbel4.os,hks4.tape.trans hbel4.tape,hks4.output.trans hbel4.output,Nat.le_trans hbel4.size hks4.size,fun k hkk=>(hks4.block k (Nat.lt_of_lt_of_le hkk hbel4.size) ⟨by omega,by omega⟩).trans (hbel4.block k hkk)⟩
  ·have hd:decide (countI (oftenI b l (x1,x2)) 1 < (l.length:Int))=false:=decide_eq_false hm;have hml:missL b l (pre ++ [(x1,x2)])=missL b l pre:=by
    unfold missL;rw [List.filter_append,List.filter_cons,if_neg (by rw [show isMiss b l (x1,x2)=false from hd];simp),List.filter_nil,List.append_nil]
   have HML:=Hh hml;rw [hd];clear hd hml hm
   gi_wp2
   refine ⟨(KS.all hb4 _),?_⟩;have h:=HJ4.out;exact ⟨h.five,h.c,by rw [HML.out];exact h.out,h.base,h.lt⟩
 case done =>
  rintro W hj hd;obtain ⟨h1,h2,⟨v,o1,o2,hrow⟩,hbel,hlt⟩:=hj;clear h1 h2;go_wp2;refine ⟨by simp,.inl ⟨_,_,rfl,run_takeDeferred hd,?_⟩⟩;have hks:KS (fun k=>k≠W1.heap.size) W (W.putObj W1.heap.size (.deferred none)):=KS.putObj (by simp) _ _;exact ⟨_,results_tmp rfl _ _ _,⟨_,rfl,ownsRow_ks hrow hks (fun k hk=>by omega),⟨hks.os.trans hbel.os,hks.tape.trans hbel.tape,hks.output.trans hbel.output,Nat.le_trans hbel.size hks.size,fun k hkk=>(hks.block k (Nat.lt_of_lt_of_le hkk hbel.size) (by omega)).trans (hbel.block k hkk)⟩⟩⟩
 case stop=>exact fun _ _ h _=>h.elim
end
end
end Go.Proofs.YtdjnkplgllakcaaGreatDoor
