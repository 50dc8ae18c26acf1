/- StoreTapes -/
import Derived.Test.YtgagoahfdnnpkaaGreatDoorSG26
import Derived.StillTailTactics
set_option maxHeartbeats 8000000
set_option maxRecDepth 100000
set_option linter.all false
namespace Go.Proofs.YtgagoahfdnnpkaaGreatDoor
section
open Go.RowKit Go.Maps Sp Mt Go.Conc
section
variable {w w1:World} {B Bd:Nat} {vm vs:Value} {ra xa la ma:Option Addr} {xc lc mc:Nat}
theorem st_tail {r0 r1 r2 r3 r4 r5 r6 r7 r8 r9 r10 r11 r12 r13 r14 r15 r16 r17 r18 r19:Code} (hc:Tryz.f5.body=some (.seq r0 (.seq r1 (.seq r2 (.seq r3 (.seq r4 (.seq r5 (.seq r6 (.seq r7 (.seq r8 (.seq r9 (.seq r10 (.seq r11 (.seq r12 (.seq r13 (.seq r14 (.seq r15 (.seq r16 (.seq r17 (.seq r18 (r19))))))))))))))))))))) {n:Nat} (hn:n<=B) (hE:ExAt w B vm vs ra) (hx:IntsAt w xa [0,1,2]) (hd0:w.cell? ⟨Bd,0,none⟩=some (.int .i64 1)) (hd1:w.cell? ⟨Bd,1,none⟩=some (.int .i64 1)) (hl:IntsAt w la [0,2]) (hm:PartsAt w ma [(0,0),(0,1),(1,2)]) :
 (.seq r10 (.seq r11 (.seq r12 (.seq r13 (.seq r14 (.seq r15 (.seq r16 (.seq r17 (.seq r18 (r19))))))))):Code).wp Tryz.prog (bodyPost Tryz.prog Tryz.f5 fun e w2=>∃ v,e=.returned v/\v=.bool true/\Below n w w2) { tmps:=#[.bool false,.pointer (some ⟨B,0,none⟩),.int .i64 3,.int .i64 0,.slice xa 3 xc,.int .i64 0,.int .i64 0,.int .i64 0,.int .i64 1,.int .i64 0,.pointer (some ⟨Bd,0,none⟩),.int .i64 0,.slice la 2 lc,.int .i64 0,.slice ma 3 mc,.int .i64 0,.int .i64 0,.int .i64 1,.int .i64 0,U,U,U,U,U,U,U,U,U,U,U,U,U,U,.agg #[.int .i64 3,.int .i64 5,vm,vs,.slice ra 3 3],.tuple #[.int .i64 3,.int .i64 0],.agg #[.int .i64 3,.int .i64 5,vm,vs,.slice ra 3 3],.tuple #[.int .i64 3,.int .i64 0],.int .i64 3,.int .i64 0,.tuple #[.slice xa 3 xc,.int .i64 0],.agg #[.int .i64 3,.int .i64 5,vm,vs,.slice ra 3 3],.tuple #[.slice xa 3 xc,.int .i64 0],.slice xa 3 xc,.int .i64 0,.tuple #[.int .i64 0,.int .i64 0],.agg #[.int .i64 3,.int .i64 5,vm,vs,.slice ra 3 3],.tuple #[.int .i64 0,.int .i64 0],.int .i64 0,.int .i64 0,.tuple #[.int .i64 1,.int .i64 0],.agg #[.int .i64 3,.int .i64 5,vm,vs,.slice ra 3 3],.tuple #[.int .i64 1,.int .i64 0],.int .i64 1,.int .i64 0,.tuple #[.agg #[.int .i64 1,.int .i64 1],.int .i64 0],.agg #[.int .i64 3,.int .i64 5,vm,vs,.slice ra 3 3],.tuple #[.agg #[.int .i64 1,.int .i64 1],.int .i64 0],.agg #[.int .i64 1,.int .i64 1],.int .i64 0,.tuple #[.slice la 2 lc,.int .i64 0],.agg #[.int .i64 3,.int .i64 5,vm,vs,.slice ra 3 3],.tuple #[.slice la 2 lc,.int .i64 0],.slice la 2 lc,.int .i64 0,.tuple #[.slice ma 3 mc,.int .i64 0],.agg #[.int .i64 3,.int .i64 5,vm,vs,.slice ra 3 3],.tuple #[.slice ma 3 mc,.int .i64 0],.slice ma 3 mc,.int .i64 0,.tuple #[.int .i64 0,.int .i64 1,.int .i64 0],.agg #[.int .i64 3,.int .i64 5,vm,vs,.slice ra 3 3],.tuple #[.int .i64 0,.int .i64 1,.int .i64 0],.int .i64 0,.int .i64 1,.int .i64 0,U,U,U,U,U,U,U,U,U,U,U,U,U,U,U,U,U,U,U,U,U,U,U,U,U,U,U,U,U,U,U,U,U,U,U,U,U,U,U,U,U,U,U,U,U,U,U,U,U,U,U,U,U,U,U,U,U,U,U,U,U,U,U,U,U,U,U,U,U,U,U,U,U,U,U,U,U,U,U,U,U,U,U,U,U,U,U,U,U,U,U,U,U,U,U,U,U,U,U,U,U,U,U,U,U,U,U,U,U,U,U,U,U,U,U,U,U,U,U,U,U,U,U,U,U,U,U,U,U,U,U,U,U,U,U,U,U,U,U,U,U,U,U,U,U,U,U,U,U,U,U,U,U,U,U,U,U,U,U,U,U,U,U,U,U,U,U,U,U,U,U,U,U,U,U,U,U,U,U],defers:=[] } w:=by
 have hc':=hc;simp only [Tryz.f5,Option.some.injEq,Code.seq.injEq] at hc;obtain ⟨rfl,rfl,rfl,rfl,rfl,rfl,rfl,rfl,rfl,rfl,rfl,rfl,rfl,rfl,rfl,rfl,rfl,rfl,rfl,hr19⟩:=hc;clear hr19;have hbk:=hE.bk;have hkd:=hE.kd;obtain ⟨x0,x1,x2,x3,x4,x5,w0,hw0,hbk0,hkd0,hsee⟩:=hE;have HW0:=Hh (⟨hw0,hbk0,hkd0,hsee⟩:_/\_/\_/\_);have HBK:=Hh hbk;have HKD:=Hh hkd;have HX:=Hh hx;have HL:=Hh hl;have HM:=Hh hm;have hB0:=lt_of_cell x0;have hD0:=lt_of_cell hd0;simp only at hB0 hD0;obtain ⟨_,_,⟨va,vc1,rfl,_,_⟩,⟨sa,sc,rfl,_,_⟩,_⟩:=id hbk;have hra:=hbk.rs;obtain ⟨_,_,e,hra,_⟩:=hra;cases e;have HRA:=Hh hra;have HD:=Hh (⟨hd0,hd1⟩:_/\_);have HXX:=Hh (⟨x0,x1,x2,x3,x4,x5⟩:_/\_/\_/\_/\_/\_);clear hbk hkd hx hl hm hra hw0 hbk0 hkd0 hsee;go_wp2_with (first
  | (go_at_call 6;(with_reducible refine (exPack13 (HBK.out.below (bel)) (HKD.out.below (bel))).mono ?_);rintro e p1 ⟨pa,pc,rfl,hi1,hb1⟩;have HI1:=Hh hi1;clear hi1;obtain ⟨hc1,hf1⟩:=bcell hb1;have hB1:B < p1.heap.size:=(by have:=hb1.size;(try simp at this);omega);have hD1:Bd < p1.heap.size:=(by have:=hb1.size;(try simp at this);omega))
  | (go_at_call 9;(with_reducible refine (exTimes (HBK.out.below (bel)) (HKD.out.below (bel)) (ints_lit2 _ 1 0 (by simp))).mono ?_);rintro e p2 ⟨ta,tc,rfl,hi2,hb2⟩;have HI2:=Hh hi2;clear hi2;obtain ⟨hc2,hf2⟩:=bcell hb2;have hB2:B < p2.heap.size:=(by have:=hb2.size;(try simp at this);omega);have hD2:Bd < p2.heap.size:=(by have:=hb2.size;(try simp at this);omega))
  | (go_at_call 6;(with_reducible refine (exPack15 (HBK.out.below (bel)) (HKD.out.below (bel))).mono ?_);rintro e p3 ⟨qa,qc,rfl,hb3⟩;obtain ⟨hc3,hf3⟩:=bcell hb3;have hB3:B < p3.heap.size:=(by have:=hb3.size;(try simp at this);omega);have hD3:Bd < p3.heap.size:=(by have:=hb3.size;(try simp at this);omega))
  | (go_at_call 16;(with_reducible refine (exLatest (HBK.out.below (bel)) (HKD.out.below (bel))).mono ?_);rintro e p4 ⟨rfl,hb4⟩;obtain ⟨hc4,hf4⟩:=bcell hb4;have hB4:B < p4.heap.size:=(by have:=hb4.size;(try simp at this);omega);have hD4:Bd < p4.heap.size:=(by have:=hb4.size;(try simp at this);omega))
  | (go_at_call 13;(with_reducible refine (exPunch (HBK.out.below (bel)) (HKD.out.below (bel)) (ints_lit2 _ 1 0 (by simp))).mono ?_);rintro e p5 ⟨ua,uc,rfl,hi5,hb5⟩;have HI5:=Hh hi5;clear hi5;obtain ⟨hc5,hf5⟩:=bcell hb5;have hB5:B < p5.heap.size:=(by have:=hb5.size;(try simp at this);omega);have hD5:Bd < p5.heap.size:=(by have:=hb5.size;(try simp at this);omega)))
 obtain ⟨W17,hW17⟩:∃ W17,W17=p5.alloc (.cells #[.slice ua 2 uc] 40):=⟨_,rfl⟩;rw [<- hW17];have hb17:Below w.heap.size w W17:=by rw [hW17];(exact bel)
 have hp17:Below p5.heap.size p5 W17:=by rw [hW17];(exact bel)
 have hb35:Below p2.heap.size p2 p5:=bel;have hb25:Below p1.heap.size p1 p5:=bel;have hb5w:Below w.heap.size w p5:=bel;have u30:W17.cell? ⟨p5.heap.size,0,none⟩=some (.slice ua 2 uc):=by rw [hW17];exact alloc1_cell rfl
 have hu30:p5.heap.size < W17.heap.size:=by rw [hW17];simp
 have hP17:=Hh (HI1.out.below (Below.next hb25 hp17));have hT17:=Hh (HI2.out.below (Below.next hb35 hp17));have hU17:=Hh (HI5.out.below hp17);have hB17:B < W17.heap.size:=by have:=hb17.size;omega
 have hD17:Bd < W17.heap.size:=by have:=hb17.size;omega
 have d0:=(hb17.cell (p:=⟨Bd,0,none⟩) hD0).trans HD.out.1;have d1:=(hb17.cell (p:=⟨Bd,1,none⟩) hD0).trans HD.out.2;clear hb1 hb2 hb3 hb4 hb5 hc1 hc2 hc3 hc4 hc5 hf1 hf2 hf3 hf4 hf5 hW17 hB1 hB2 hB3 hB4 hB5 hD1 hD2 hD3 hD4 hD5 x0 x1 x2 x3 x4 x5 hd0 hd1;have heq:=fun w=>(neqBand 1 1 1 1 w).trans (by simp:_=Result.ok (Value.bool false) w)
 (refine wp_region_bel (by kernel_rfl) (by kernel_rfl) ?_;(repeat (go_big_quiet_step ((go_at_call 26;with_reducible exact Calls.bel_of (to_at 1 1 _)))));refine wpQuiet_nil ?_;rintro _ ⟨xq,rfl⟩)
 have hx18:Below W17.heap.size W17 (later W17 xq):=later_below _ _;generalize later W17 xq=W18 at hx18 ⊢;have hb18:=Below.next hb17 hx18;have hB18:B < W18.heap.size:=by have:=hx18.size;omega
 have y0:=(hb18.cell (p:=⟨B,0,none⟩) hB0).trans HXX.out.1;have y1:=(hb18.cell (p:=⟨B,1,none⟩) hB0).trans HXX.out.2.1;have y2:=(hb18.cell (p:=⟨B,2,none⟩) hB0).trans HXX.out.2.2.1;have y3:=(hb18.cell (p:=⟨B,3,none⟩) hB0).trans HXX.out.2.2.2.1;have y4:=(hb18.cell (p:=⟨B,4,none⟩) hB0).trans HXX.out.2.2.2.2.1;have y5:=(hb18.frozen (p:=⟨B,4,none⟩) hB0).trans HXX.out.2.2.2.2.2;have HRA18:=Hh (HRA.out.below hb18);obtain ⟨i0,hi0,hi1,hi2,hi3⟩:=info_parts recInfo;clear d0 d1 heq;go_wp2_with (at_builtin;go_loud (refine wpList_append_grows _ rfl _ _ 24 rfl 70 i0 (.agg #[.int .i64 0,.int .i64 0,.int .i64 0,.int .i64 0]) 4 32 Tryz.underlying24 hi0 hi1 hi2 hi3 rfl (by decide) ra 3 3 (exB.rs.flatMap cellsR) rfl (none_recs HRA18.out) rfl (recs_src HRA18.out (bal _ _)) ⟨W18.heap.size,0,none⟩ 1 1 [.int .i64 0,.int .i64 0,.int .i64 0,.int .i64 0] rfl rfl (cells_new _ _ _) (by simp [Value.oneCell']) (by decide) (by unfold maxLen;omega) (by omega) ?_;intro v9 w9 hown9 hg9;obtain ⟨a9,c9,rfl⟩:=ownsRow_slice hown9;have hb9:Below W18.heap.size W18 w9:=Below.next (bal _ _) (Below.of_grown hg9);have z0:=(hb9.cell (p:=⟨B,0,none⟩) hB18).trans y0;have z1:=(hb9.cell (p:=⟨B,1,none⟩) hB18).trans y1;have z2:=(hb9.cell (p:=⟨B,2,none⟩) hB18).trans y2;have z3:=(hb9.cell (p:=⟨B,3,none⟩) hB18).trans y3;have z4:=(hb9.cell (p:=⟨B,4,none⟩) hB18).trans y4;have z5:=(hb9.frozen (p:=⟨B,4,none⟩) hB18).trans y5;have hB9:B < w9.heap.size:=Nat.lt_of_lt_of_le hB18 hb9.size));obtain ⟨Wf,hWf⟩:∃ Wf,Wf=w9.setCell ⟨B,4,none⟩ (.slice a9 4 c9):=⟨_,rfl⟩;rw [<- hWf];have hb99:Below w.heap.size w w9:=Below.next hb18 hb9;have hWs:Wf.heap.size=w9.heap.size:=by rw [hWf];simp [World.setCell]
 obtain ⟨hw0,hbk0,hkd0,hsee⟩:=HW0.out;have hsf:Sees w0 Wf:=by
  refine ⟨by have:=hb99.size;omega,fun a ha=>?_⟩;rw [hWf,World.cell?_setCell_other (h:=fun e=>by rw [<- e] at ha;simp at ha;omega)];exact (World.cell?_of_block (hb99.block _ (by omega))).trans (hsee.2 a ha)
 have hrow:=ownsRow_setCell_below hown9 (a:=⟨B,4,none⟩) (by simp;omega) (.slice a9 4 c9);rw [<- hWf] at hrow;have hrecs:RecsAt Wf a9 exC.rs:=recs_of_row (l:=exC.rs) (by exact hrow);have hbf0:=hsf.book hbk0;have hBf:BookAt Wf exC (.int .i64 3) (.int .i64 5) (.slice va exB.ms.length vc1) (.slice sa exB.ss.length sc) (.slice a9 4 c9):=⟨hbf0.room,hbf0.gap,hbf0.ms,hbf0.ss,a9,c9,rfl,hrecs,by decide⟩;have hKf:=hsf.kinds hkd0;have hxf:=ints_set (p:=⟨B,4,none⟩) (v:=.slice a9 4 c9) (HX.out.below hb99) z4;have hpf:=ints_set (p:=⟨B,4,none⟩) (v:=.slice a9 4 c9) (hP17.out.below (Below.next hx18 hb9)) z4;have htf:=ints_set (p:=⟨B,4,none⟩) (v:=.slice a9 4 c9) (hT17.out.below (Below.next hx18 hb9)) z4;have hlf:=ints_set (p:=⟨B,4,none⟩) (v:=.slice a9 4 c9) (HL.out.below hb99) z4;have hmf:=parts_set (p:=⟨B,4,none⟩) (v:=.slice a9 4 c9) (HM.out.below hb99) z4;have huf:=parts_set (p:=⟨B,4,none⟩) (v:=.slice a9 4 c9) (hU17.out.below (Below.next hx18 hb9)) z4;have hpB:p5.heap.size≠B:=by have:=hb5w.size;omega
 have u30f:Wf.cell? ⟨p5.heap.size,0,none⟩=some (.slice ua 2 uc):=by
  rw [hWf,World.cell?_setCell_other (h:=fun e=>by injection e with e _ _;exact hpB e.symm),(Below.next hx18 hb9).cell (p:=⟨p5.heap.size,0,none⟩) hu30];exact u30
 have hu3f:p5.heap.size < Wf.heap.size:=by have:=(Below.next hx18 hb9).size;omega
 have hbn:Below n w Wf:=by rw [hWf];exact Below.wr (hb99.mono (by omega)) hn _
 rw [<- hWf] at hxf hpf htf hlf hmf huf;have HXf:=Hh hxf;have HPf:=Hh hpf;have HTf:=Hh htf;have HLf:=Hh hlf;have HMf:=Hh hmf;have HUf:=Hh huf;have HBN:=Hh hbn;clear hxf hpf htf hlf hmf huf hWf hsf hrow hrecs hbf0 hown9 hg9 z0 z1 z2 z3 z4 z5 y0 y1 y2 y3 y4 y5 hbn hb99 hsee hbk0 hkd0 hw0;refine (exClash hBf hKf).mono ?_;rintro e w10 ⟨fa,fc,rfl,hfi,hb10⟩;have HFI:=Hh hfi;clear hfi hBf hKf;have hb10n:Below n w w10:=HBN.out.trans (hb10.mono (by have:=HBN.out.size;omega));have v30:=(hb10.cell (p:=⟨p5.heap.size,0,none⟩) hu3f).trans u30f;have GX:=Hh (HXf.out.below hb10);have GP:=Hh (HPf.out.below hb10);have GT:=Hh (HTf.out.below hb10);have GL:=Hh (HLf.out.below hb10);have GM:=Hh (HMf.out.below hb10);have GU:=Hh (HUf.out.below hb10);have GN:=Hh hb10n;have GV:=Hh v30;clear hb10n v30 hb10 u30f u30;go_wp2;exact st_end hc' GN.out (by omega) HFI.out GX.out GP.out GT.out GL.out GM.out GU.out GV.out
end
theorem st_9 {r0 r1 r2 r3 r4 r5 r6 r7 r8 r9 r10 r11 r12 r13 r14 r15 r16 r17 r18 r19:Code} (hc:Tryz.f5.body=some (.seq r0 (.seq r1 (.seq r2 (.seq r3 (.seq r4 (.seq r5 (.seq r6 (.seq r7 (.seq r8 (.seq r9 (.seq r10 (.seq r11 (.seq r12 (.seq r13 (.seq r14 (.seq r15 (.seq r16 (.seq r17 (.seq r18 (r19))))))))))))))))))))) {B Bd:Nat} {vm vs:Value} {ra xa la ma:Option Addr} {xc lc mc:Nat} {w:World} (hE:ExAt w B vm vs ra) {k:List Item} {cs:List Frame} {K:Frame->List Frame->World->Prop}
 (hk:∀ w',Old w w'->Leads Tryz.prog K ((Go.Conc.base 5).at { tmps:=#[.bool false,.pointer (some ⟨B,0,none⟩),.int .i64 3,.int .i64 0,.slice xa 3 xc,.int .i64 0,.int .i64 0,.int .i64 0,.int .i64 1,.int .i64 0,.pointer (some ⟨Bd,0,none⟩),.int .i64 0,.slice la 2 lc,.int .i64 0,.slice ma 3 mc,.int .i64 0,.int .i64 0,.int .i64 1,.int .i64 0,U,U,U,U,U,U,U,U,U,U,U,U,U,U,.agg #[.int .i64 3,.int .i64 5,vm,vs,.slice ra 3 3],.tuple #[.int .i64 3,.int .i64 0],.agg #[.int .i64 3,.int .i64 5,vm,vs,.slice ra 3 3],.tuple #[.int .i64 3,.int .i64 0],.int .i64 3,.int .i64 0,.tuple #[.slice xa 3 xc,.int .i64 0],.agg #[.int .i64 3,.int .i64 5,vm,vs,.slice ra 3 3],.tuple #[.slice xa 3 xc,.int .i64 0],.slice xa 3 xc,.int .i64 0,.tuple #[.int .i64 0,.int .i64 0],.agg #[.int .i64 3,.int .i64 5,vm,vs,.slice ra 3 3],.tuple #[.int .i64 0,.int .i64 0],.int .i64 0,.int .i64 0,.tuple #[.int .i64 1,.int .i64 0],.agg #[.int .i64 3,.int .i64 5,vm,vs,.slice ra 3 3],.tuple #[.int .i64 1,.int .i64 0],.int .i64 1,.int .i64 0,.tuple #[.agg #[.int .i64 1,.int .i64 1],.int .i64 0],.agg #[.int .i64 3,.int .i64 5,vm,vs,.slice ra 3 3],.tuple #[.agg #[.int .i64 1,.int .i64 1],.int .i64 0],.agg #[.int .i64 1,.int .i64 1],.int .i64 0,.tuple #[.slice la 2 lc,.int .i64 0],.agg #[.int .i64 3,.int .i64 5,vm,vs,.slice ra 3 3],.tuple #[.slice la 2 lc,.int .i64 0],.slice la 2 lc,.int .i64 0,.tuple #[.slice ma 3 mc,.int .i64 0],.agg #[.int .i64 3,.int .i64 5,vm,vs,.slice ra 3 3],.tuple #[.slice ma 3 mc,.int .i64 0],.slice ma 3 mc,.int .i64 0,.tuple #[.int .i64 0,.int .i64 1,.int .i64 0],.agg #[.int .i64 3,.int .i64 5,vm,vs,.slice ra 3 3],.tuple #[.int .i64 0,.int .i64 1,.int .i64 0],.int .i64 0,.int .i64 1,.int .i64 0,U,U,U,U,U,U,U,U,U,U,U,U,U,U,U,U,U,U,U,U,U,U,U,U,U,U,U,U,U,U,U,U,U,U,U,U,U,U,U,U,U,U,U,U,U,U,U,U,U,U,U,U,U,U,U,U,U,U,U,U,U,U,U,U,U,U,U,U,U,U,U,U,U,U,U,U,U,U,U,U,U,U,U,U,U,U,U,U,U,U,U,U,U,U,U,U,U,U,U,U,U,U,U,U,U,U,U,U,U,U,U,U,U,U,U,U,U,U,U,U,U,U,U,U,U,U,U,U,U,U,U,U,U,U,U,U,U,U,U,U,U,U,U,U,U,U,U,U,U,U,U,U,U,U,U,U,U,U,U,U,U,U,U,U,U,U,U,U,U,U,U,U,U,U,U,U,U,U,U],defers:=[] } k) cs w') :
 Leads Tryz.prog K ((Go.Conc.base 5).at { tmps:=#[.bool false,.pointer (some ⟨B,0,none⟩),.int .i64 3,.int .i64 0,.slice xa 3 xc,.int .i64 0,.int .i64 0,.int .i64 0,.int .i64 1,.int .i64 0,.pointer (some ⟨Bd,0,none⟩),.int .i64 0,.slice la 2 lc,.int .i64 0,.slice ma 3 mc,.int .i64 0,U,U,U,U,U,U,U,U,U,U,U,U,U,U,U,U,U,.agg #[.int .i64 3,.int .i64 5,vm,vs,.slice ra 3 3],.tuple #[.int .i64 3,.int .i64 0],.agg #[.int .i64 3,.int .i64 5,vm,vs,.slice ra 3 3],.tuple #[.int .i64 3,.int .i64 0],.int .i64 3,.int .i64 0,.tuple #[.slice xa 3 xc,.int .i64 0],.agg #[.int .i64 3,.int .i64 5,vm,vs,.slice ra 3 3],.tuple #[.slice xa 3 xc,.int .i64 0],.slice xa 3 xc,.int .i64 0,.tuple #[.int .i64 0,.int .i64 0],.agg #[.int .i64 3,.int .i64 5,vm,vs,.slice ra 3 3],.tuple #[.int .i64 0,.int .i64 0],.int .i64 0,.int .i64 0,.tuple #[.int .i64 1,.int .i64 0],.agg #[.int .i64 3,.int .i64 5,vm,vs,.slice ra 3 3],.tuple #[.int .i64 1,.int .i64 0],.int .i64 1,.int .i64 0,.tuple #[.agg #[.int .i64 1,.int .i64 1],.int .i64 0],.agg #[.int .i64 3,.int .i64 5,vm,vs,.slice ra 3 3],.tuple #[.agg #[.int .i64 1,.int .i64 1],.int .i64 0],.agg #[.int .i64 1,.int .i64 1],.int .i64 0,.tuple #[.slice la 2 lc,.int .i64 0],.agg #[.int .i64 3,.int .i64 5,vm,vs,.slice ra 3 3],.tuple #[.slice la 2 lc,.int .i64 0],.slice la 2 lc,.int .i64 0,.tuple #[.slice ma 3 mc,.int .i64 0],.agg #[.int .i64 3,.int .i64 5,vm,vs,.slice ra 3 3],.tuple #[.slice ma 3 mc,.int .i64 0],.slice ma 3 mc,.int .i64 0,U,U,U,U,U,U,U,U,U,U,U,U,U,U,U,U,U,U,U,U,U,U,U,U,U,U,U,U,U,U,U,U,U,U,U,U,U,U,U,U,U,U,U,U,U,U,U,U,U,U,U,U,U,U,U,U,U,U,U,U,U,U,U,U,U,U,U,U,U,U,U,U,U,U,U,U,U,U,U,U,U,U,U,U,U,U,U,U,U,U,U,U,U,U,U,U,U,U,U,U,U,U,U,U,U,U,U,U,U,U,U,U,U,U,U,U,U,U,U,U,U,U,U,U,U,U,U,U,U,U,U,U,U,U,U,U,U,U,U,U,U,U,U,U,U,U,U,U,U,U,U,U,U,U,U,U,U,U,U,U,U,U,U,U,U,U,U,U,U,U,U,U,U,U,U,U,U,U,U,U,U,U,U,U,U],defers:=[] } (.code r9::k)) cs w:=by
 have nb:(Go.Conc.base 5).kind=.normal:=rfl;have hbk:=hE.bk;have hkd:=hE.kd;obtain ⟨x0,x1,x2,x3,x4,_,_⟩:=hE;have hB0:=lt_of_cell x0;simp only at hB0;simp only [Tryz.f5,Option.some.injEq,Code.seq.injEq] at hc;obtain ⟨-,-,-,-,-,-,-,-,-,h9,-,-,-,-,-,-,-,-,-,-⟩:=hc;rw [<- h9];clear h9;refine leads_region fun d=>?_;simp only [List.size_toArray,List.length_cons,List.length_nil,Nat.reduceAdd,Nat.zero_add,List.range,List.range.loop];have atc:∀ (w:World) (d:Nat) (a:Addr),(w.at d).cell? a=w.cell? a:=fun _ _ _=>rfl;have ats:∀ (w:World) (d:Nat),(w.at d).heap.size=w.heap.size:=fun _ _=>rfl;refine leads_op (.agg #[.int .i64 3,.int .i64 5,vm,vs,.slice ra 3 3]) nb rfl rfl (fun d=>by simp [go_sem,atc,x0,x1,x2,x3,x4]) (fun d=>by simp [go_sem,atc,ats,x0,x1,x2,x3,x4,EvOk,hB0]) fun d2=>?_;go_simp;refine leads_call (f:=25) (args:=#[.agg #[.int .i64 3,.int .i64 5,vm,vs,.slice ra 3 3]]) (Z:=fun v w1=>v=.tuple #[.int .i64 0,.int .i64 1,.int .i64 0]/\Old w w1) nb rfl rfl (fun d=>by simp [go_sem]) (fun d=>by simp [go_sem];exact ev_call Tryz.func25 (by kernel_rfl) (by kernel_rfl)) (fun d3=>?_) ?_
 ·refine (exAsk (w:=((w.at d).at d2).at d3) ((show Twin 0 w (((w.at d).at d2).at d3) from ⟨rfl,rfl,rfl,fun _=>rfl,fun _=>rfl,fun _ _=>rfl⟩).book hbk) ((show Twin 0 w (((w.at d).at d2).at d3) from ⟨rfl,rfl,rfl,fun _=>rfl,fun _=>rfl,fun _ _=>rfl⟩).kinds hkd) _ _).mono ?_;rintro fr' cs' w1 ⟨h1,h2,ho⟩;exact ⟨_,h1,h2,rfl,⟨ho.os,ho.output,ho.size,ho.block⟩⟩
 rintro v w1 ⟨rfl,ho⟩;go_simp;refine leads_op (.tuple #[.int .i64 0,.int .i64 1,.int .i64 0]) nb rfl rfl (fun d=>by simp [go_sem]) (fun d=>by simp [go_sem]) fun d=>?_;go_simp;refine leads_op (.int .i64 0) nb rfl rfl (fun d=>by simp [go_sem]) (fun d=>by simp [go_sem]) fun d=>?_;go_simp;refine leads_op (.int .i64 1) nb rfl rfl (fun d=>by simp [go_sem]) (fun d=>by simp [go_sem]) fun d=>?_;go_simp;refine leads_op (.int .i64 0) nb rfl rfl (fun d=>by simp [go_sem]) (fun d=>by simp [go_sem]) fun d=>?_;go_simp;refine leads_op (.int .i64 0) nb rfl rfl (fun d=>by simp [go_sem]) (fun d=>by simp [go_sem]) fun d=>?_;go_simp;refine leads_op (.int .i64 1) nb rfl rfl (fun d=>by simp [go_sem]) (fun d=>by simp [go_sem]) fun d=>?_;go_simp;refine leads_op (.int .i64 0) nb rfl rfl (fun d=>by simp [go_sem]) (fun d=>by simp [go_sem]) fun d=>?_;go_simp;refine leads_inRegion fun d=>?_;exact hk _ ⟨ho.os,ho.output,ho.size,ho.block⟩
theorem stBody_eq2:∃ r0 r1 r2 r3 r4 r5 r6 r7 r8 r9 r10 r11 r12 r13 r14 r15 r16 r17 r18 r19,Tryz.f5.body=some (.seq r0 (.seq r1 (.seq r2 (.seq r3 (.seq r4 (.seq r5 (.seq r6 (.seq r7 (.seq r8 (.seq r9 (.seq r10 (.seq r11 (.seq r12 (.seq r13 (.seq r14 (.seq r15 (.seq r16 (.seq r17 (.seq r18 (r19)))))))))))))))))))):=⟨_,_,_,_,_,_,_,_,_,_,_,_,_,_,_,_,_,_,_,_,rfl⟩
theorem stFrame {c:Code} (hc:Tryz.f5.body=some c):Frame.enter Tryz.prog 5 #[] .normal=(Go.Conc.base 5).at { tmps:=#[U,U,U,U,U,U,U,U,U,U,U,U,U,U,U,U,U,U,U,U,U,U,U,U,U,U,U,U,U,U,U,U,U,U,U,U,U,U,U,U,U,U,U,U,U,U,U,U,U,U,U,U,U,U,U,U,U,U,U,U,U,U,U,U,U,U,U,U,U,U,U,U,U,U,U,U,U,U,U,U,U,U,U,U,U,U,U,U,U,U,U,U,U,U,U,U,U,U,U,U,U,U,U,U,U,U,U,U,U,U,U,U,U,U,U,U,U,U,U,U,U,U,U,U,U,U,U,U,U,U,U,U,U,U,U,U,U,U,U,U,U,U,U,U,U,U,U,U,U,U,U,U,U,U,U,U,U,U,U,U,U,U,U,U,U,U,U,U,U,U,U,U,U,U,U,U,U,U,U,U,U,U,U,U,U,U,U,U,U,U,U,U,U,U,U,U,U,U,U,U,U,U,U,U,U,U,U,U,U,U,U,U,U,U,U,U,U,U,U,U,U,U,U,U,U,U,U,U,U,U,U,U,U,U,U,U,U,U,U,U,U,U,U,U,U,U,U,U,U,U,U,U,U,U],defers:=[] } [.code c]:=by
 rw [Go.Conc.enter_at #[] Tryz.func5 hc];simp only [Tryz.ntmps5,List.size_toArray,List.length_cons,List.length_nil,Nat.reduceAdd,Nat.reduceSub,Array.replicate_succ,Array.replicate_zero,List.push_toArray,List.append_toArray,List.nil_append,List.cons_append]
theorem on_at (w:World) (d:Nat):Twin 0 w (w.at d):=⟨rfl,rfl,rfl,fun _=>rfl,fun _=>rfl,fun _ _=>rfl⟩
theorem stored_co {w:World} (hK:KindsAt w) (c:Frame) (cs:List Frame) :
 Leads Tryz.prog (fun fr' cs' w1=>fr'=c.finish (.bool true)/\cs'=cs/\Old w w1) (Frame.enter Tryz.prog 5 #[] .normal) (c::cs) w:=by
 obtain ⟨r0,r1,r2,r3,r4,r5,r6,r7,r8,r9,r10,r11,r12,r13,r14,r15,r16,r17,r18,r19,hc⟩:=stBody_eq2;have hok:=progOk.code _ _ Tryz.func5 _ hc;simp only [codeOk,Bool.and_eq_true] at hok;obtain ⟨k0,k1,k2,k3,k4,k5,k6,k7,k8,_,k10⟩:=hok;rw [stFrame hc];have nb:(Go.Conc.base 5).kind=.normal:=rfl;have nd:MarksOnly []:=fun d hd=>by cases hd
 refine piece_step k0 nb nd (Z:=SZ0) (fun a w1 w2 ht h=>h) (fun W hW=>st_0 hc) fun a0 w0 hz ho0=>?_;obtain rfl:=hz;refine piece_step k1 nb nd (Z:=SZ1 w.heap.size) (fun a w1 w2 ht h=>by obtain ⟨B,vm,vs,ra,h1,hn,h2⟩:=h;exact ⟨B,vm,vs,ra,h1,hn,h2.twin ht⟩) (fun W hW=>st_1 hc (by rw [hW.size];exact ho0.size) (hW.kinds (ho0.kinds hK))) fun a1 w1 hz ho=>?_;obtain ⟨B,vm,vs,ra,rfl,hB,hE⟩:=hz;have ho1:=ho0.trans ho;clear ho;refine piece_step k2 nb nd (Z:=SZ2 B vm vs ra) (fun a w1 w2 ht h=>h) (fun W hW=>st_2 hc (hE.twin hW)) fun a2 w2 hz ho=>?_;obtain rfl:=hz;have hE:=hE.old ho;have ho2:=ho1.trans ho;clear ho;refine piece_step k3 nb nd (Z:=SZ3 B vm vs ra) (fun a w1 w2 ht h=>by obtain ⟨xa,xc,h1,h2⟩:=h;exact ⟨xa,xc,h1,ht.ints h2⟩) (fun W hW=>st_3 hc (hE.twin hW)) fun a3 w3 hz ho=>?_;obtain ⟨xa,xc,rfl,hx⟩:=hz;have hE:=hE.old ho;have ho3:=ho2.trans ho;clear ho;refine piece_step k4 nb nd (Z:=SZ4 B vm vs ra xa xc) (fun a w1 w2 ht h=>h) (fun W hW=>st_4 hc (hE.twin hW)) fun a4 w4 hz ho=>?_;obtain rfl:=hz;have hE:=hE.old ho;have hx:=ho.ints hx;have ho4:=ho3.trans ho;clear ho;refine piece_step k5 nb nd (Z:=SZ5 B vm vs ra xa xc) (fun a w1 w2 ht h=>h) (fun W hW=>st_5 hc (hE.twin hW)) fun a5 w5 hz ho=>?_;obtain rfl:=hz;have hE:=hE.old ho;have hx:=ho.ints hx;have ho5:=ho4.trans ho;clear ho;refine piece_step k6 nb nd (Z:=SZ6 B vm vs ra xa xc) (fun a w1 w2 ht h=>by obtain ⟨Bd,h1,h2,h3⟩:=h;exact ⟨Bd,h1,(ht.cell _).trans h2,(ht.cell _).trans h3⟩) (fun W hW=>st_6 hc (hE.twin hW)) fun a6 w6 hz ho=>?_;obtain ⟨Bd,rfl,hd0,hd1⟩:=hz;have hE:=hE.old ho;have hx:=ho.ints hx;have ho6:=ho5.trans ho;clear ho;refine piece_step k7 nb nd (Z:=SZ7 B vm vs ra xa xc Bd) (fun a w1 w2 ht h=>by obtain ⟨la,lc,h1,h2⟩:=h;exact ⟨la,lc,h1,ht.ints h2⟩) (fun W hW=>st_7 hc (hE.twin hW)) fun a7 w7 hz ho=>?_;obtain ⟨la,lc,rfl,hl⟩:=hz;have hE:=hE.old ho;have hx:=ho.ints hx;have hd0:=ho.cell2 hd0;have hd1:=ho.cell2 hd1;have ho7:=ho6.trans ho;clear ho;refine piece_step k8 nb nd (Z:=SZ8 B vm vs ra xa xc Bd la lc) (fun a w1 w2 ht h=>by obtain ⟨ma,mc,h1,h2⟩:=h;exact ⟨ma,mc,h1,ht.parts h2⟩) (fun W hW=>st_8 hc (hE.twin hW)) fun a8 w8 hz ho=>?_;obtain ⟨ma,mc,rfl,hm⟩:=hz;have hE:=hE.old ho;have hx:=ho.ints hx;have hd0:=ho.cell2 hd0;have hd1:=ho.cell2 hd1;have hl:=ho.ints hl;have ho8:=ho7.trans ho;clear ho;refine leads_seq fun d=>?_;have hE:=hE.twin (on_at w8 d);have ho8:=ho8.at d;have hx:=(on_at w8 d).ints hx;have hl:=(on_at w8 d).ints hl;have hm:=(on_at w8 d).parts hm;refine st_9 hc hE fun w9 ho=>?_;have hE:=hE.old ho;have hx:=ho.ints hx;have hd0:=ho.cell2 (w:=w8.at d) hd0;have hd1:=ho.cell2 (w:=w8.at d) hd1;have hl:=ho.ints hl;have hm:=ho.parts hm;have ho9:=ho8.trans ho;refine (tail_coN (n:=w.heap.size) (hn:=ho9.size) (f:=5) Tryz.func5 ?ck nd (Z:=fun v _=>v=.bool true) (fun v w1 w2 ht h=>h) (fun W hW=>?tl)).mono ?_
 case ck=>simp only [codeOk,Bool.and_eq_true];exact k10
 case tl =>
  refine Code.wp_mono ?_ (st_tail hc hB (hE.twin hW) (hW.ints hx) ((hW.cell _).trans hd0) ((hW.cell _).trans hd1) (hW.ints hl) (hW.parts hm));intro e a w' h;exact h
 ·rintro fr' cs' w' ⟨v,h1,h2,rfl,hoo⟩;exact ⟨h1,h2,⟨hoo.os.trans ho9.os,hoo.output.trans ho9.output,Nat.le_trans ho9.size hoo.size,fun k hk=>(hoo.block k hk).trans (ho9.block k hk)⟩⟩
end
section
open Go.RowKit Go.Maps Sp
def SesRaw (w:World) (a:Option Addr) (l:List (List Prt)):Prop:=∀ i (h:i < l.length),∃ b o,a=some ⟨b,o,none⟩/\b < w.heap.size /\
 ∃ pa pc,w.cell? ⟨b,o+i,none⟩=some (.slice pa l[i].length pc)/\l[i].length<=pc/\PartsAt w pa l[i]
structure RawAt (w:World) (b:Bk) (vr vg vm vs vc:Value):Prop where
 room:vr=.int .i64 b.room
 gap:vg=.int .i64 b.gap
 ms:∃ a c,vm=.slice a b.ms.length c/\MsgsAt w a b.ms
 ss:∃ a c,vs=.slice a b.ss.length c/\SesRaw w a b.ss
 rs:∃ a c,vc=.slice a b.rs.length c/\RecsAt w a b.rs
theorem SesRaw.below {w w':World} {a:Option Addr} {l:List (List Prt)} (h:SesRaw w a l) (hb:Below w.heap.size w w'):SesRaw w' a l:=fun i hi=>by
 obtain ⟨b,o,e,hlt,pa,pc,h1,h2,h4⟩:=h i hi;exact ⟨b,o,e,Nat.lt_of_lt_of_le hlt hb.size,pa,pc,(hb.cell hlt).trans h1,h2,h4.below hb⟩
def SmallB (b:Bk):Prop:=b.ms.length<=20/\b.ss.length<=20/\b.rs.length<=20/\(∀ m∈b.ms,m.name.size<=100)/\∀ s∈b.ss,s.length<=20
theorem RawAt.book {w:World} {b:Bk} {vr vg vm vs vc:Value} (h:RawAt w b vr vg vm vs vc) (hs:SmallB b):BookAt w b vr vg vm vs vc:=by
 obtain ⟨h1,h2,⟨a1,c1,e1,h3⟩,⟨a2,c2,e2,h4⟩,a3,c3,e3,h5⟩:=h;obtain ⟨s1,s2,s3,s4,s5⟩:=hs;refine ⟨h1,h2,⟨a1,c1,e1,h3,by omega⟩,⟨a2,c2,e2,fun i hi=>?_,by omega⟩,a3,c3,e3,h5,by omega⟩;obtain ⟨b',o,e,hlt,pa,pc,q1,q2,q4⟩:=h4 i hi;have:=s5 _ (List.getElem_mem hi);exact ⟨b',o,e,hlt,pa,pc,q1,q2,by omega,q4⟩
theorem great_at {b:Bk} {vr vg vm vs vc:Value} {w:World} (hB:RawAt w b vr vg vm vs vc) {g:Bool} (hg:g=true↔¬ SmallB b) :
 Calls Tryz.prog 4 #[.agg #[vr,vg,vm,vs,vc]] w fun e w'=>e=.returned (.bool g)/\Below w.heap.size w w':=by
 have HG:=Hh hg;clear hg;obtain ⟨rfl,rfl,⟨ma,mc,rfl,hM⟩,⟨sa,sc,rfl,hS⟩,ra,rc,rfl,_⟩:=hB;have HM:=Hh hM;clear hM;have HS:=Hh hS;clear hS;by_cases h1:20 < b.ms.length
 ·obtain rfl:g=true:=HG.out.2 fun h=>by have:=h.1;omega
  go_enter Tryz.func4,Tryz.ntmps4
  go_wp2;go_ret;exact ⟨rfl,bel⟩
 by_cases h2:20 < b.ss.length
 ·obtain rfl:g=true:=HG.out.2 fun h=>by have:=h.2.1;omega
  go_enter Tryz.func4,Tryz.ntmps4
  go_wp2;go_ret;exact ⟨rfl,bel⟩
 by_cases h3:20 < b.rs.length
 ·obtain rfl:g=true:=HG.out.2 fun h=>by have:=h.2.2.1;omega
  go_enter Tryz.func4,Tryz.ntmps4
  go_wp2;go_ret;exact ⟨rfl,bel⟩
 have hl1:b.ms.length<=20:=by omega
 have hl2:b.ss.length<=20:=by omega
 have hl3:b.rs.length<=20:=by omega
 go_enter Tryz.func4,Tryz.ntmps4
 go_wp2;obtain ⟨W0,hW0⟩:∃ W0,W0=w.alloc (.cells #[.int .i64 b.room,.int .i64 b.gap,.slice ma b.ms.length mc,.slice sa b.ss.length sc,.slice ra b.rs.length rc] 26):=⟨_,rfl⟩;rw [<- hW0];have five:=Five.new w (.int .i64 b.room) (.int .i64 b.gap) (.slice ma b.ms.length mc) (.slice sa b.ss.length sc) (.slice ra b.rs.length rc) 26;rw [<- hW0] at five;have hb0:Below w.heap.size w W0:=by rw [hW0];(exact bel)
 clear hW0;obtain ⟨n0,n1,n2,n3,n4,nl⟩:=five;go_loopw [3] (fun i wr=>∃ (k:Nat),k<=b.ms.length/\i=.int .i64 k/\Hid (∀ m∈b.ms.take k,m.name.size<=100)/\Below W0.heap.size W0 wr) (fun i _=>b.ms.length - (intOf i).toNat)
 case atStart=>exact ⟨0,Nat.zero_le _,rfl,by simp [Hid],Below.refl _ _⟩
 case round =>
  obtain ⟨k,hk,rfl,hG,hW⟩:=hrel;obtain ⟨wo,rfl⟩:∃ wo:World,wo=wr:=⟨_,rfl⟩;have hWs:=hW.size;have m2:=(hW.cell (p:=⟨w.heap.size,2,none⟩) nl).trans n2;have m3:=(hW.cell (p:=⟨w.heap.size,3,none⟩) nl).trans n3;have ml:w.heap.size < wo.heap.size:=by omega
  have hbw:=Below.next hb0 hW;clear n0 n1 n2 n3 n4;by_cases hlt:k < b.ms.length
  ·obtain ⟨mb,mo,rfl,hmb,h0,_,_⟩:=HM.out k hlt;have c0:=(hbw.cell hmb).trans h0;have hmb2:mb < wo.heap.size:=Nat.lt_of_lt_of_le hmb hbw.size;have htk:=List.take_succ_eq_append_getElem hlt;clear h0;have hgr:100 < b.ms[k].name.size->g=true:=fun h=>HG.out.2 fun hs=>by have:=hs.2.2.2.1 _ (List.getElem_mem hlt);omega
   generalize b.ms[k]=m at c0 htk hgr;have HT:=Hh htk;clear htk;obtain ⟨nm,gr,du⟩:=m;dsimp only at c0 hgr;by_cases h100:100 < nm.size
   ·obtain rfl:=hgr h100;clear hgr;go_wp2;go_ret;exact ⟨rfl,bel⟩
   ·clear hgr;have hle:nm.size<=100:=by omega
    go_wp2;go_roundw
    case rel =>
     refine ⟨k+1,by omega,by go_num,?_,bel⟩;intro m hm;rw [HT.out,List.mem_append,List.mem_singleton] at hm;rcases hm with hm | rfl
     ·exact hG.out m hm
     ·exact hle
    case measure=>simp [intOf];omega
  ·obtain rfl:k=b.ms.length:=by omega
   have hN:Hid (∀ m∈b.ms,m.name.size<=100):=by have:=hG.out;rwa [List.take_length] at this
   clear hG;go_wp2;go_loopw [4] (fun i wr=>∃ (k:Nat),k<=b.ss.length/\i=.int .i64 k/\Hid (∀ s∈b.ss.take k,s.length<=20)/\Below wo.heap.size wo wr) (fun i _=>b.ss.length - (intOf i).toNat)
   case atStart=>exact ⟨0,Nat.zero_le _,rfl,by simp [Hid],Below.refl _ _⟩
   case round =>
    obtain ⟨j,hj,rfl,hG,hX⟩:=hrel;have hXs:=hX.size;have l3:=(hX.cell (p:=⟨w.heap.size,3,none⟩) ml).trans m3;have ll:w.heap.size < wr.heap.size:=by omega
    have hbx:=Below.next hbw hX;clear m2 m3;by_cases hjt:j < b.ss.length
    ·obtain ⟨sb,so,rfl,hsb,pa,pc,h0,hpc,_⟩:=HS.out j hjt;have c0:=(hbx.cell hsb).trans h0;have hsb2:sb < wr.heap.size:=Nat.lt_of_lt_of_le hsb hbx.size;have htk:=List.take_succ_eq_append_getElem hjt;clear h0;have hgr:20 < b.ss[j].length->g=true:=fun h=>HG.out.2 fun hs=>by have:=hs.2.2.2.2 _ (List.getElem_mem hjt);omega
     generalize b.ss[j]=s at c0 htk hpc hgr;have HT:=Hh htk;clear htk;by_cases h20:20 < s.length
     ·obtain rfl:=hgr h20;clear hgr;go_wp2;go_ret;exact ⟨rfl,bel⟩
     ·clear hgr;have hle:s.length<=20:=by omega
      go_wp2;go_roundw
      case rel =>
       refine ⟨j+1,by omega,by go_num,?_,bel⟩;intro m hm;rw [HT.out,List.mem_append,List.mem_singleton] at hm;rcases hm with hm | rfl
       ·exact hG.out m hm
       ·exact hle
      case measure=>simp [intOf];omega
    ·obtain rfl:j=b.ss.length:=by omega
     have hQ:Hid (∀ s∈b.ss,s.length<=20):=by have:=hG.out;rwa [List.take_length] at this
     clear hG;obtain rfl:g=false:=by
      cases g with
      | false=>rfl
      | true=>exact absurd ⟨hl1,hl2,hl3,hN.out,hQ.out⟩ (HG.out.1 rfl)
     go_wp2;go_ret;exact ⟨rfl,bel⟩
attribute [local go_sem] Oper.semAt_some
section
variable {b:Bk} {vr vg vm vs vc:Value} {w:World}
end
end
section
open Go.RowKit Go.Maps Sp Mt Go.Conc
theorem Twin.raw {n:Nat} {w w1:World} (h:Twin n w w1) {b:Bk} {vr vg vm vs vc:Value} (k:RawAt w b vr vg vm vs vc):RawAt w1 b vr vg vm vs vc:=by
 obtain ⟨h1,h2,⟨a1,c1,e1,h3⟩,⟨a2,c2,e2,h4⟩,a3,c3,e3,h5⟩:=k;refine ⟨h1,h2,⟨a1,c1,e1,h.msgs h3⟩,⟨a2,c2,e2,fun i hi=>?_⟩,a3,c3,e3,h.recs h5⟩;obtain ⟨b,o,e,hlt,pa,pc,q1,q2,q4⟩:=h4 i hi;exact ⟨b,o,e,by rw [h.size];exact hlt,pa,pc,(h.cell _).trans q1,q2,h.parts q4⟩
theorem RawAt.below {w w1:World} (h:Below w.heap.size w w1) {b:Bk} {vr vg vm vs vc:Value} (k:RawAt w b vr vg vm vs vc):RawAt w1 b vr vg vm vs vc:=by
 obtain ⟨h1,h2,⟨a1,c1,e1,h3⟩,⟨a2,c2,e2,h4⟩,a3,c3,e3,h5⟩:=k;exact ⟨h1,h2,⟨a1,c1,e1,h3.below h⟩,⟨a2,c2,e2,h4.below h⟩,a3,c3,e3,h5.below h⟩
theorem Old.raw {w w1:World} (h:Old w w1) {b:Bk} {vr vg vm vs vc:Value} (k:RawAt w b vr vg vm vs vc):RawAt w1 b vr vg vm vs vc:=(on_twin w1 w.tape 0).raw (k.below h.below)
structure LawAt (w:World) (B:Nat) (b:Bk) (l:List Int) (vr vg vm vs vc:Value) (la:Option Addr):Prop where
 c0:w.cell? ⟨B,0,none⟩=some vr
 c1:w.cell? ⟨B,1,none⟩=some vg
 c2:w.cell? ⟨B,2,none⟩=some vm
 c3:w.cell? ⟨B,3,none⟩=some vs
 c4:w.cell? ⟨B,4,none⟩=some vc
 raw:RawAt w b vr vg vm vs vc
 kd:KindsAt w
 im:IntsAt w la l
section
variable {w w1:World} {B:Nat} {b:Bk} {l:List Int} {vr vg vm vs vc:Value} {la:Option Addr}
theorem LawAt.twin {n:Nat} (h:LawAt w B b l vr vg vm vs vc la) (t:Twin n w w1):LawAt w1 B b l vr vg vm vs vc la:=⟨(t.cell _).trans h.c0,(t.cell _).trans h.c1,(t.cell _).trans h.c2,(t.cell _).trans h.c3,(t.cell _).trans h.c4,t.raw h.raw,t.kinds h.kd,t.ints h.im⟩
theorem LawAt.old (h:LawAt w B b l vr vg vm vs vc la) (t:Old w w1):LawAt w1 B b l vr vg vm vs vc la:=⟨t.cell2 h.c0,t.cell2 h.c1,t.cell2 h.c2,t.cell2 h.c3,t.cell2 h.c4,t.raw h.raw,t.kinds h.kd,t.ints h.im⟩
theorem ints_nil {a:Option Addr}:IntsAt w a []:=fun i hi=>absurd hi (Nat.not_lt_zero _)
theorem SmallB.names {b:Bk} (h:SmallB b):∀ m∈b.ms,m.name.size<=1000000:=fun m hm=>Nat.le_trans (h.2.2.2.1 m hm) (by decide)
theorem SmallB.groups {b:Bk} (h:SmallB b):True:=trivial
end
end
section
open Go.RowKit Sp
theorem past_len {b:Bk} {x:List Int} (hx:x∈pasts b):x.length=b.ss.length:=(mem_pasts.1 hx).1
theorem past_came {b:Bk} {x:List Int} (hx:x∈pasts b):Came b x:=by
 obtain ⟨h1,h2,_⟩:=mem_pasts.1 hx;intro i hi;obtain ⟨k1,k2,k3⟩:=h2 i (by omega);simp only [List.getD_eq_getElem?_getD,List.getElem?_eq_getElem (show i < x.length by omega),Option.getD_some];exact ⟨k1,k3⟩
theorem missI_isPart {b:Bk} {p:Prt} (h:p∈missI b):isPart b p=true:=parts_isPart (List.mem_filter.1 h).1
end
section
open Go.RowKit Go.Maps Sp
def U16sAt (w:World) (a:Option Addr) (l:List Int):Prop:=∀ i (h:i < l.length),∃ b o,a=some ⟨b,o,none⟩/\b < w.heap.size/\w.cell? ⟨b,o+i,none⟩=some (.int .u16 l[i])/\0<=l[i]/\l[i]<=65535
theorem U16sAt.below {w w':World} {a:Option Addr} {l:List Int} (h:U16sAt w a l) (hb:Below w.heap.size w w'):U16sAt w' a l:=fun i hi=>by
 obtain ⟨b,o,e,hlt,h1,h2⟩:=h i hi;exact ⟨b,o,e,Nat.lt_of_lt_of_le hlt hb.size,(hb.cell hlt).trans h1,h2⟩
section
variable {w:World} {la:Option Addr} {lc n:Nat} {l:List Int}
end
section
variable {b:Bk} {vr vg vm vs vc:Value} {w:World} {la:Option Addr} {lc n:Nat} {l:List Int}
end
end
section
open Go.RowKit Sp
def fitP (n:Int) (x:Int × Int):Prop:=¬ (x.1 < -1\/n<=x.1\/¬ (x.1=-1↔x.2=0))
def heldL:List (Int × Int)->Int->Int
 | [],_=>0
 | x::l,j=>(if x.1=j then x.2 else 0)+heldL l j
def mostL (m:Int):List Int->Int
 | []=>m
 | x::l=>mostL (max m x) l
theorem mostL_le (m:Int):∀ l:List Int,m<=mostL m l:=fun l=>by
 induction l generalizing m with
 | nil=>exact Int.le_refl _
 | cons x l ih=>exact Int.le_trans (by omega) (ih (max m x))
theorem mostL_in (m:Int):∀ (l:List Int),mostL m l=m\/mostL m l∈l:=fun l=>by
 induction l generalizing m with
 | nil=>exact .inl rfl
 | cons x l ih =>
  show mostL (max m x) l=m\/mostL (max m x) l∈x::l;rcases ih (max m x) with h | h
  ·rw [h];by_cases hx:x<=m
   ·exact .inl (by omega)
   ·exact .inr (by rw [show max m x=x by omega];simp)
  ·exact .inr (by simp [h])
theorem mostL_snoc (m:Int) (l:List Int) (x:Int):mostL m (l ++ [x])=max (mostL m l) x:=by
 induction l generalizing m with
 | nil=>rfl
 | cons y l ih=>exact ih _
theorem heldL_append:∀ (l m:List (Int × Int)) (j:Int),heldL (l ++ m) j=heldL l j+heldL m j
 | [],m,j=>by simp [heldL]
 | x::l,m,j=>by
  show (if x.1=j then x.2 else 0)+heldL (l ++ m) j=(if x.1=j then x.2 else 0)+heldL l j+heldL m j;rw [heldL_append l m j];omega
theorem heldL_none:∀ {l:List (Int × Int)} {j:Int},(∀ x∈l,x.1≠j)->heldL l j=0
 | [],_,_=>rfl
 | x::l,j,h=>by
  unfold heldL;rw [if_neg (h x (by simp)),heldL_none fun y hy=>h y (by simp [hy])];rfl
theorem heldL_nn:∀ {l:List (Int × Int)} {j:Int},(∀ x∈l,0<=x.2)->0<=heldL l j
 | [],_,_=>Int.le_refl _
 | x::l,j,h=>by
  unfold heldL;have h1:=heldL_nn (l:=l) (j:=j) fun y hy=>h y (by simp [hy]);have h2:=h x (by simp);split <;> omega
theorem heldL_pos:∀ {l:List (Int × Int)} {j:Int} {x:Int × Int},(∀ x∈l,0<=x.2)->x∈l->x.1=j->x.2≠0->0 < heldL l j
 | y::l,j,x,h,hx,e,h0=>by
  unfold heldL;have h1:=heldL_nn (l:=l) (j:=j) fun y hy=>h y (by simp [hy]);have h2:=h y (by simp);rcases List.mem_cons.1 hx with rfl | hx
  ·rw [if_pos e];omega
  ·have:=heldL_pos (fun y hy=>h y (by simp [hy])) hx e h0;split <;> omega
theorem getD_set {l:List Int} {k:Nat} (h:k < l.length) (v:Int) (j:Nat):(l.set k v).getD j 0=if k=j then v else l.getD j 0:=by
 simp only [List.getD_eq_getElem?_getD,List.getElem?_set];by_cases e:k=j
 ·subst e;simp [h]
 ·simp [e]
theorem getD_fill (l:List Int) (n j:Nat):(l ++ List.replicate n 0).getD j 0=l.getD j 0:=by
 simp only [List.getD_eq_getElem?_getD];by_cases h:j < l.length
 ·rw [List.getElem?_append_left h]
 ·rw [List.getElem?_append_right (by omega),List.getElem?_eq_none (l:=l) (by omega)]
  cases hg:(List.replicate n (0:Int))[j - l.length]? with
  | none=>rfl
  | some y =>
   have:=List.eq_of_mem_replicate (List.mem_of_getElem? hg);simp [this]
theorem tapeStep_char {n:Int} {out:List Int} {k ld:Int} (h:fitP n (k,ld)):∃ o,tapeStep n out k ld=some o/\(o.length:Int)=max (out.length:Int) (k+1)/\∀ j:Nat,o.getD j 0=out.getD j 0+if k=(j:Int) then ld else 0:=by
 unfold fitP at h;simp only at h;unfold tapeStep;rw [if_neg h];by_cases h0:k < 0
 ·rw [if_pos h0];exact ⟨out,rfl,by omega,fun j=>by rw [if_neg (by omega)];omega⟩
 ·rw [if_neg h0];refine ⟨_,rfl,?_,fun j=>?_⟩
  ·rw [List.length_set,List.length_append,List.length_replicate];omega
  ·rw [getD_set (by rw [List.length_append,List.length_replicate];omega),getD_fill,getD_fill];by_cases e:k.toNat=j
   ·rw [if_pos e,if_pos (by omega),e]
   ·rw [if_neg e,if_neg (by omega)];omega
theorem tapesGo_char {n:Int}:∀ (l:List (Int × Int)) (out:List Int),(∀ x∈l,fitP n x)->∃ o,tapesGo n out l=some o/\(o.length:Int)=mostL ((out.length:Int) - 1) (l.map Prod.fst)+1/\∀ j:Nat,o.getD j 0=out.getD j 0+heldL l j
 | [],out,_=>⟨out,rfl,by simp [mostL],fun j=>by simp [heldL]⟩
 | (k,ld)::l,out,h=>by
  obtain ⟨o1,e1,h1,h2⟩:=tapeStep_char (out:=out) (h (k,ld) (by simp));obtain ⟨o,e2,h3,h4⟩:=tapesGo_char l o1 fun x hx=>h x (by simp [hx]);refine ⟨o,?_,?_,fun j=>?_⟩
  ·show (tapeStep n out k ld).bind _=_;rw [e1];exact e2
  ·rw [h3,h1];show mostL _ _+1=mostL (max _ k) _+1;rw [show max (out.length:Int) (k+1) - 1=max ((out.length:Int) - 1) k by omega]
  ·rw [h4,h2];show _=_+((if k=(j:Int) then ld else 0)+heldL l j);omega
theorem tapesGo_fit {n:Int}:∀ (l:List (Int × Int)) (out o:List Int),tapesGo n out l=some o->∀ x∈l,fitP n x
 | [],_,_,_,x,hx=>by cases hx
 | (k,ld)::l,out,o,h,x,hx=>by
  have h:(tapeStep n out k ld).bind (fun o=>tapesGo n o l)=some o:=h
  cases e:tapeStep n out k ld with
  | none=>rw [e] at h;cases h
  | some o1 =>
   rw [e] at h;rcases List.mem_cons.1 hx with rfl | hx
   ·intro hc;unfold tapeStep at e;rw [if_pos hc] at e;cases e
   ·exact tapesGo_fit l o1 o h x hx
theorem zip_fst {l m:List Int} (h:l.length=m.length):(l.zip m).map Prod.fst=l:=List.map_fst_zip (by omega)
theorem mem_of_held {l:List (Int × Int)} {j:Int} (h:heldL l j≠0):∃ x∈l,x.1=j:=Classical.byContradiction fun hc=>h (heldL_none fun x hx e=>hc ⟨x,hx,e⟩)
theorem planOk_mk {loads plan:List Int} (hl:loads.length=plan.length) (h0:∀ x∈loads,0<=x) (h:∀ x∈plan.zip loads,fitP plan.length x) (ha:∀ k:Nat,(k:Int)<=mostL (-1) plan->(k:Int)∈plan):∃ o,planOk loads plan=some o:=by
 obtain ⟨o,e,h1,h2⟩:=tapesGo_char (plan.zip loads) [] h;rw [zip_fst hl.symm] at h1;refine ⟨o,?_⟩;unfold planOk tapesI;rw [e];show (if 0∈o then none else some o)=some o;rw [if_neg fun hm=>?_];obtain ⟨j,hj,ej⟩:=List.mem_iff_getElem.1 hm;have h3:=h2 j;rw [List.getD_eq_getElem?_getD,List.getElem?_eq_getElem hj,Option.getD_some,ej] at h3;have hin:=ha j (by rw [show ((([]:List Int).length:Int) - 1)=-1 from rfl] at h1;omega);obtain ⟨i,hi,ei⟩:=List.mem_iff_getElem.1 hin;have hz:(plan[i],loads[i]'(by omega))∈plan.zip loads:=List.mem_iff_getElem.2 ⟨i,by rw [List.length_zip];omega,by simp⟩;have hf:=h _ hz;have:=heldL_pos (j:=(j:Int)) (fun x hx=>h0 _ (List.of_mem_zip hx).2) hz ei (fun hc=>hf (.inr (.inr fun hb=>by have:=hb.2 hc;omega)));simp at h3;omega
theorem planOk_inv {loads plan o:List Int} (hl:loads.length=plan.length) (h:planOk loads plan=some o) :
 (∀ x∈plan.zip loads,fitP plan.length x)/\(o.length:Int)=mostL (-1) plan+1/\(∀ k:Nat,k < o.length->(k:Int)∈plan)/\(∀ k:Nat,o.getD k 0=heldL (plan.zip loads) k)/\0 ∉ o:=by
 unfold planOk tapesI at h
 cases e:tapesGo plan.length [] (plan.zip loads) with
 | none=>rw [e] at h;cases h
 | some o1 =>
  rw [e] at h;have h:(if 0∈o1 then none else some o1)=some o:=h;split at h
  ·cases h
  ·rename_i hz
   cases h;have hf:=tapesGo_fit _ _ _ e;obtain ⟨o2,e2,h1,h2⟩:=tapesGo_char (plan.zip loads) [] hf;rw [e] at e2;cases e2;rw [zip_fst hl.symm] at h1;have h3:∀ k:Nat,o.getD k 0=heldL (plan.zip loads) k:=fun k=>by rw [h2 k];simp
   refine ⟨hf,h1,fun k hk=>?_,h3,hz⟩;have hne:heldL (plan.zip loads) k≠0:=fun hc=>hz (by
    rw [<- h3,List.getD_eq_getElem?_getD,List.getElem?_eq_getElem hk,Option.getD_some] at hc
    rw [<- hc];exact List.getElem_mem hk)
   obtain ⟨x,hx,ex⟩:=mem_of_held hne;rw [<- ex];exact (List.of_mem_zip hx).1
def turnK (f:Nat) (k:Int):Int:=if 0<=k then (f:Int) - 1 - k else k
structure PlanV (loads out:List Int) (f:Nat) (k:Nat):Prop where
 len:out.length=k
 few:f<=k
 at':∀ i (h:i < out.length),(loads.getD i 0=0->out[i]=-1)/\(loads.getD i 0≠0->0<=out[i]/\out[i] < (f:Int))
 all:∀ j:Nat,j < f->(j:Int)∈out
theorem PlanV.turn {loads out:List Int} {f k:Nat} (h:PlanV loads out f k):PlanV loads (out.map (turnK f)) f k:=by
 obtain ⟨h1,h2,h3,h4⟩:=h;refine ⟨by simp [h1],h2,fun i hi=>?_,fun j hj=>?_⟩
 ·have hk:i < out.length:=by simpa using hi
  rw [List.getElem_map];obtain ⟨h5,h6⟩:=h3 i hk;refine ⟨fun h=>?_,fun h=>?_⟩
  ·rw [h5 h];rfl
  ·have:=h6 h;unfold turnK;rw [if_pos this.1];omega
 ·refine List.mem_map.2 ⟨((f - 1 - j:Nat):Int),h4 _ (by omega),?_⟩;unfold turnK;rw [if_pos (by omega)];omega
theorem PlanV.ok {loads out:List Int} {f:Nat} (h:PlanV loads out f loads.length) (h0:∀ x∈loads,0<=x):∃ o,planOk loads out=some o:=by
 obtain ⟨h1,h2,h3,h4⟩:=h;have hlt:∀ x∈out,x < (f:Int):=fun x hx=>by
  obtain ⟨i,hi,rfl⟩:=List.mem_iff_getElem.1 hx;obtain ⟨h5,h6⟩:=h3 i hi;by_cases hz:loads.getD i 0=0
  ·rw [h5 hz];omega
  ·exact (h6 hz).2
 refine planOk_mk h1.symm h0 (fun x hx=>?_) (fun k hk=>h4 k ?_)
 ·obtain ⟨i,hi,e⟩:=List.mem_iff_getElem.1 hx;have hi1:i < out.length:=by rw [List.length_zip] at hi;omega
  have hi2:i < loads.length:=by omega
  rw [List.getElem_zip] at e;subst e;obtain ⟨h5,h6⟩:=h3 i hi1;have e2:loads.getD i 0=loads[i]:=by rw [List.getD_eq_getElem?_getD,List.getElem?_eq_getElem hi2,Option.getD_some]
  rw [e2] at h5 h6;unfold fitP;simp only;by_cases hz:loads[i]=0
  ·have:=h5 hz;omega
  ·have:=h6 hz;omega
 ·rcases mostL_in (-1) out with h7 | h7
  ·omega
  ·have:=hlt _ h7;omega
end
section
open Go.RowKit Go.Maps Sp
section
variable {w:World} {la pa:Option Addr} {lc pc n m:Nat} {loads plan o:List Int}
theorem fit_parts {n:Nat} {k x:Int} (h:fitP n (k,x)):decide (k < -1)=false/\decide ((n:Int)<=k)=false/\(!(decide (k < 0) == (x == 0)))=false:=by
 unfold fitP at h;simp only at h;refine ⟨by rw [decide_eq_false_iff_not];omega,by rw [decide_eq_false_iff_not];omega,?_⟩;by_cases hx:x=0
 ·have:k=-1:=by omega
  simp [hx,this]
 ·have:¬ k < 0:=by omega
  simp [hx,this]
theorem tapesOf_at (hL:IntsAt w la loads) (hP:IntsAt w pa plan) (hn:n=loads.length) (hm:m=plan.length) (hl:loads.length=plan.length) (hpl:plan.length<=1000) (ho:planOk loads plan=some o) :
 Calls Tryz.prog 43 #[.slice la n lc,.slice pa m pc] w fun e w'=>e=.returned (.int .i64 o.length)/\Below w.heap.size w w':=by
 subst hn hm;obtain ⟨hf,ho1,ho2,_,_⟩:=planOk_inv hl ho;have HF:=Hh hf;have HO2:=Hh ho2;have HO1:=Hh ho1;have HL:=Hh hL;have HP:=Hh hP;have hlb:∀ k,k<=plan.length->-1<=mostL (-1) (plan.take k)/\mostL (-1) (plan.take k)<=(plan.length:Int):=fun k hk=>by
  refine ⟨mostL_le _ _,?_⟩;rcases mostL_in (-1) (plan.take k) with h | h
  ·omega
  ·have hx:=List.mem_of_mem_take h;obtain ⟨i,hi,e⟩:=List.mem_iff_getElem.1 hx;have hz:(plan[i],loads[i]'(by omega))∈plan.zip loads:=List.mem_iff_getElem.2 ⟨i,by rw [List.length_zip];omega,by simp⟩;have:=hf _ hz;unfold fitP at this;simp only at this;omega
 have HLB:=Hh hlb;have HLN:=Hh hl;clear hL hP hf ho ho1 ho2 hlb hl
 go_enter Tryz.func43,Tryz.ntmps43
 go_wp2;go_loopw [5,6] (fun v i wr=>∃ k:Nat,k<=plan.length/\i=.int .i64 k/\v=.int .i64 (mostL (-1) (plan.take k))/\Below w.heap.size w wr) (fun _ i _=>plan.length - (intOf i).toNat)
 case atStart=>exact ⟨0,Nat.zero_le _,rfl,rfl,Below.refl _ _⟩
 case round =>
  obtain ⟨k,hk,rfl,rfl,hW⟩:=hrel;have hWs:=hW.size;by_cases hlt:k < plan.length
  ·have hlt2:k < loads.length:=by rw [HLN.out];exact hlt
   obtain ⟨lb,lo,rfl,hlb,e0⟩:=HL.out k hlt2;obtain ⟨pb,po,rfl,hpb,f0⟩:=HP.out k hlt;have d0:=(hW.cell hlb).trans e0;have d1:=(hW.cell hpb).trans f0;have hlb2:lb < wr.heap.size:=Nat.lt_of_lt_of_le hlb hWs;have hpb2:pb < wr.heap.size:=Nat.lt_of_lt_of_le hpb hWs;have hz:(plan[k],loads[k])∈plan.zip loads:=List.mem_iff_getElem.2 ⟨k,by rw [List.length_zip,HLN.out,Nat.min_self];exact hlt,by simp⟩;obtain ⟨q1,q2,q3⟩:=fit_parts (HF.out _ hz);have hsn:mostL (-1) (plan.take (k+1))=max (mostL (-1) (plan.take k)) plan[k]:=by rw [List.take_succ_eq_append_getElem hlt,mostL_snoc]
   generalize loads[k]=x at d0 q3 e0;generalize plan[k]=y at d1 q1 q2 q3 hsn f0;have HSN:=Hh hsn;clear e0 f0 hsn hz;generalize mostL (-1) (plan.take k)=z at HSN;go_wp2;go_quiet (fail);go_wp2;go_roundw
   case rel=>exact ⟨k+1,by omega,by go_num,by rw [HSN.out],bel⟩
   case measure=>simp [intOf];omega
  ·obtain rfl:k=plan.length:=by omega
   have hbd:=HLB.out plan.length (Nat.le_refl _);rw [List.take_length] at hbd ⊢;have ho1:=HO1.out;generalize mostL (-1) plan=z at hbd ho1;go_wp2;go_loopw [7] (fun i wr=>∃ k:Nat,(k:Int)<=z+1/\i=.int .i64 k/\Below w.heap.size w wr) (fun i _=>(z+1 - intOf i).toNat)
   case atStart=>exact ⟨0,by omega,rfl,hW⟩
   case round =>
    obtain ⟨k,hk,rfl,hW⟩:=hrel;have hWs:=hW.size;by_cases hlt:(k:Int)<=z
    ·have hin:=Hh (show decide ((k:Int)∈plan)=true by rw [decide_eq_true_iff];exact HO2.out k (by omega));go_wp2_with (go_at_call 78;(with_reducible refine (hasNum_at (HP.out.below hW) rfl (by omega) hin.out).mono ?_);rintro e w1 ⟨rfl,rfl⟩);go_roundw
     case rel=>exact ⟨k+1,by omega,by go_num,hW⟩
     case measure=>simp [intOf];omega
    ·have hkz:(k:Int)=z+1:=by omega
     have hw:IntKind.i64.wrap (z+1)=(o.length:Int):=by rw [wrapI (by omega) (by omega)];omega
     go_wp2;go_ret;exact ⟨rfl,hW⟩
theorem held_at (hL:IntsAt w la loads) (hP:IntsAt w pa plan) (hn:n=loads.length) (hm:m=plan.length) (hl:loads.length=plan.length) (hpl:plan.length<=1000) (hb:∀ x∈loads,0<=x/\x<=1000) (t:Int) {h:Int} (hh:heldL (plan.zip loads) t=h) :
 Calls Tryz.prog 80 #[.slice la n lc,.slice pa m pc,.int .i64 t] w fun e w'=>e=.returned (.int .i64 h)/\w'=w:=by
 subst hn hm;have HL:=Hh hL;have HP:=Hh hP;have HB:=Hh hb;have HH:=Hh hh;have HLN:=Hh hl;clear hL hP hb hh hl
 go_enter Tryz.func80,Tryz.ntmps80
 go_wp2;go_loop [7,8] (fun v i=>∃ (k:Nat) (s:Int),k<=plan.length/\i=.int .i64 k/\v=.int .i64 s/\Hid (s=heldL ((plan.take k).zip (loads.take k)) t)/\0<=s/\s<=k * 1000) (fun _ i=>plan.length - (intOf i).toNat)
 case atStart=>exact ⟨0,0,Nat.zero_le _,rfl,rfl,(by simp [heldL]:(0:Int)=_),by omega,by omega⟩
 case round =>
  obtain ⟨k,s,hk,rfl,rfl,HS,hs0,hs1⟩:=hrel;by_cases hlt:k < plan.length
  ·have hlt2:k < loads.length:=by rw [HLN.out];exact hlt
   obtain ⟨lb,lo,rfl,hlb,e0⟩:=HL.out k hlt2;obtain ⟨pb,po,rfl,hpb,f0⟩:=HP.out k hlt;have hbx:=HB.out _ (List.getElem_mem hlt2);have hsn:heldL ((plan.take (k+1)).zip (loads.take (k+1))) t=heldL ((plan.take k).zip (loads.take k)) t+if plan[k]=t then loads[k] else 0:=by
    rw [List.take_succ_eq_append_getElem hlt,List.take_succ_eq_append_getElem hlt2,List.zip_append (by simp only [List.length_take];have:=HLN.out;omega),heldL_append];simp [heldL]
   generalize loads[k]=x at e0 hbx hsn;generalize plan[k]=y at f0 hsn;rw [<- HS.out] at hsn;have HSN:=Hh hsn;clear hsn;by_cases hy:y=t
   ·have hy1:(y == t)=true:=by rw [beq_iff_eq];exact hy
    have hwx:IntKind.i64.wrap (s+x)=s+x:=wrapI (by omega) (by omega);have HY:=Hh hy;clear hy;go_wp2;go_round
    case rel=>exact ⟨k+1,s+x,by omega,by go_num,rfl,(by rw [HSN.out,if_pos HY.out]:s+x=_),by omega,by omega⟩
    case measure=>simp [intOf];omega
   ·have hy1:(y == t)=false:=by rw [beq_eq_false_iff_ne];exact hy
    have HY:=Hh hy;clear hy;go_wp2;go_round
    case rel=>exact ⟨k+1,s,by omega,by go_num,rfl,(by rw [HSN.out,if_neg HY.out];omega:s=_),by omega,by omega⟩
    case measure=>simp [intOf];omega
  ·obtain rfl:k=plan.length:=by omega
   have hs:=HS.out;rw [List.take_length,List.take_of_length_le (Nat.le_of_eq HLN.out),HH.out] at hs;subst hs;go_wp2;go_ret;exact ⟨rfl,rfl⟩
end
end
end Go.Proofs.YtgagoahfdnnpkaaGreatDoor
