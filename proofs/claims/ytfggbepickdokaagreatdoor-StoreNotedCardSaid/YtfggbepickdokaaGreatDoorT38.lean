/- Leads to the Store laws of chapter 6: V9 V10 E4 E5. -/
import Derived.Test.YtfggbepickdokaaGreatDoorT37
set_option maxHeartbeats 4000000
set_option maxRecDepth 100000
set_option linter.all false
namespace Go.Proofs.YtfggbepickdokaaGreatDoor
open Go.RowKit Go.Maps Sp Mt Go.Conc
theorem st_9 {r0 r1 r2 r3 r4 r5 r6 r7 r8 r9 r10 r11 r12 r13 r14 r15 r16 r17 r18 r19:Code} (hc:Tryz.f8.body=some (.seq r0 (.seq r1 (.seq r2 (.seq r3 (.seq r4 (.seq r5 (.seq r6 (.seq r7 (.seq r8 (.seq r9 (.seq r10 (.seq r11 (.seq r12 (.seq r13 (.seq r14 (.seq r15 (.seq r16 (.seq r17 (.seq r18 (r19))))))))))))))))))))) {B Bd:Nat} {vm vs:Value} {ra xa la ma:Option Addr} {xc lc mc:Nat} {w:World} (hE:ExAt w B vm vs ra) {k:List Item} {cs:List Frame} {K:Frame→List Frame→World→Prop}
 (hk:∀ w',Old w w'→Leads Tryz.prog K ((Go.Conc.base 8).at { tmps:=#[.bool false,.pointer (some ⟨B,0,none⟩),.int .i64 3,.int .i64 0,.slice xa 3 xc,.int .i64 0,.int .i64 0,.int .i64 0,.int .i64 1,.int .i64 0,.pointer (some ⟨Bd,0,none⟩),.int .i64 0,.slice la 2 lc,.int .i64 0,.slice ma 3 mc,.int .i64 0,.int .i64 0,.int .i64 1,.int .i64 0,U,U,U,U,U,U,U,U,U,U,U,U,U,U,.agg #[.int .i64 3,.int .i64 5,vm,vs,.slice ra 3 3],.tuple #[.int .i64 3,.int .i64 0],.agg #[.int .i64 3,.int .i64 5,vm,vs,.slice ra 3 3],.tuple #[.int .i64 3,.int .i64 0],.int .i64 3,.int .i64 0,.tuple #[.slice xa 3 xc,.int .i64 0],.agg #[.int .i64 3,.int .i64 5,vm,vs,.slice ra 3 3],.tuple #[.slice xa 3 xc,.int .i64 0],.slice xa 3 xc,.int .i64 0,.tuple #[.int .i64 0,.int .i64 0],.agg #[.int .i64 3,.int .i64 5,vm,vs,.slice ra 3 3],.tuple #[.int .i64 0,.int .i64 0],.int .i64 0,.int .i64 0,.tuple #[.int .i64 1,.int .i64 0],.agg #[.int .i64 3,.int .i64 5,vm,vs,.slice ra 3 3],.tuple #[.int .i64 1,.int .i64 0],.int .i64 1,.int .i64 0,.tuple #[.agg #[.int .i64 1,.int .i64 1],.int .i64 0],.agg #[.int .i64 3,.int .i64 5,vm,vs,.slice ra 3 3],.tuple #[.agg #[.int .i64 1,.int .i64 1],.int .i64 0],.agg #[.int .i64 1,.int .i64 1],.int .i64 0,.tuple #[.slice la 2 lc,.int .i64 0],.agg #[.int .i64 3,.int .i64 5,vm,vs,.slice ra 3 3],.tuple #[.slice la 2 lc,.int .i64 0],.slice la 2 lc,.int .i64 0,.tuple #[.slice ma 3 mc,.int .i64 0],.agg #[.int .i64 3,.int .i64 5,vm,vs,.slice ra 3 3],.tuple #[.slice ma 3 mc,.int .i64 0],.slice ma 3 mc,.int .i64 0,.tuple #[.int .i64 0,.int .i64 1,.int .i64 0],.agg #[.int .i64 3,.int .i64 5,vm,vs,.slice ra 3 3],.tuple #[.int .i64 0,.int .i64 1,.int .i64 0],.int .i64 0,.int .i64 1,.int .i64 0,U,U,U,U,U,U,U,U,U,U,U,U,U,U,U,U,U,U,U,U,U,U,U,U,U,U,U,U,U,U,U,U,U,U,U,U,U,U,U,U,U,U,U,U,U,U,U,U,U,U,U,U,U,U,U,U,U,U,U,U,U,U,U,U,U,U,U,U,U,U,U,U,U,U,U,U,U,U,U,U,U,U,U,U,U,U,U,U,U,U,U,U,U,U,U,U,U,U,U,U,U,U,U,U,U,U,U,U,U,U,U,U,U,U,U,U,U,U,U,U,U,U,U,U,U,U,U,U,U,U,U,U,U,U,U,U,U,U,U,U,U,U,U,U,U,U,U,U,U,U,U,U,U,U,U,U,U,U,U,U,U,U,U,U,U,U,U,U,U,U,U,U,U,U,U,U,U,U,U],defers:=[] } k) cs w') :
 Leads Tryz.prog K ((Go.Conc.base 8).at { tmps:=#[.bool false,.pointer (some ⟨B,0,none⟩),.int .i64 3,.int .i64 0,.slice xa 3 xc,.int .i64 0,.int .i64 0,.int .i64 0,.int .i64 1,.int .i64 0,.pointer (some ⟨Bd,0,none⟩),.int .i64 0,.slice la 2 lc,.int .i64 0,.slice ma 3 mc,.int .i64 0,U,U,U,U,U,U,U,U,U,U,U,U,U,U,U,U,U,.agg #[.int .i64 3,.int .i64 5,vm,vs,.slice ra 3 3],.tuple #[.int .i64 3,.int .i64 0],.agg #[.int .i64 3,.int .i64 5,vm,vs,.slice ra 3 3],.tuple #[.int .i64 3,.int .i64 0],.int .i64 3,.int .i64 0,.tuple #[.slice xa 3 xc,.int .i64 0],.agg #[.int .i64 3,.int .i64 5,vm,vs,.slice ra 3 3],.tuple #[.slice xa 3 xc,.int .i64 0],.slice xa 3 xc,.int .i64 0,.tuple #[.int .i64 0,.int .i64 0],.agg #[.int .i64 3,.int .i64 5,vm,vs,.slice ra 3 3],.tuple #[.int .i64 0,.int .i64 0],.int .i64 0,.int .i64 0,.tuple #[.int .i64 1,.int .i64 0],.agg #[.int .i64 3,.int .i64 5,vm,vs,.slice ra 3 3],.tuple #[.int .i64 1,.int .i64 0],.int .i64 1,.int .i64 0,.tuple #[.agg #[.int .i64 1,.int .i64 1],.int .i64 0],.agg #[.int .i64 3,.int .i64 5,vm,vs,.slice ra 3 3],.tuple #[.agg #[.int .i64 1,.int .i64 1],.int .i64 0],.agg #[.int .i64 1,.int .i64 1],.int .i64 0,.tuple #[.slice la 2 lc,.int .i64 0],.agg #[.int .i64 3,.int .i64 5,vm,vs,.slice ra 3 3],.tuple #[.slice la 2 lc,.int .i64 0],.slice la 2 lc,.int .i64 0,.tuple #[.slice ma 3 mc,.int .i64 0],.agg #[.int .i64 3,.int .i64 5,vm,vs,.slice ra 3 3],.tuple #[.slice ma 3 mc,.int .i64 0],.slice ma 3 mc,.int .i64 0,U,U,U,U,U,U,U,U,U,U,U,U,U,U,U,U,U,U,U,U,U,U,U,U,U,U,U,U,U,U,U,U,U,U,U,U,U,U,U,U,U,U,U,U,U,U,U,U,U,U,U,U,U,U,U,U,U,U,U,U,U,U,U,U,U,U,U,U,U,U,U,U,U,U,U,U,U,U,U,U,U,U,U,U,U,U,U,U,U,U,U,U,U,U,U,U,U,U,U,U,U,U,U,U,U,U,U,U,U,U,U,U,U,U,U,U,U,U,U,U,U,U,U,U,U,U,U,U,U,U,U,U,U,U,U,U,U,U,U,U,U,U,U,U,U,U,U,U,U,U,U,U,U,U,U,U,U,U,U,U,U,U,U,U,U,U,U,U,U,U,U,U,U,U,U,U,U,U,U,U,U,U,U,U,U],defers:=[] } (.code r9::k)) cs w:=by
 have nb:(Go.Conc.base 8).kind=.normal:=rfl
 have hbk:=hE.bk
 have hkd:=hE.kd
 obtain ⟨x0,x1,x2,x3,x4,_,_⟩:=hE
 have hB0:=lt_of_cell x0
 simp only at hB0
 simp only [Tryz.f8,Option.some.injEq,Code.seq.injEq] at hc
 obtain ⟨-,-,-,-,-,-,-,-,-,h9,-,-,-,-,-,-,-,-,-,-⟩:=hc
 rw [← h9]
 clear h9
 refine leads_region fun d=>?_
 simp only [List.size_toArray,List.length_cons,List.length_nil,Nat.reduceAdd,Nat.zero_add,List.range,List.range.loop]
 have atc:∀ (w:World) (d:Nat) (a:Addr),(w.at d).cell? a=w.cell? a:=fun _ _ _=>rfl
 have ats:∀ (w:World) (d:Nat),(w.at d).heap.size=w.heap.size:=fun _ _=>rfl
 refine leads_op (.agg #[.int .i64 3,.int .i64 5,vm,vs,.slice ra 3 3]) nb rfl rfl (fun d=>by simp [go_sem,atc,x0,x1,x2,x3,x4]) (fun d=>by simp [go_sem,atc,ats,x0,x1,x2,x3,x4,EvOk,hB0]) fun d2=>?_
 go_simp
 refine leads_call (f:=36) (args:=#[.agg #[.int .i64 3,.int .i64 5,vm,vs,.slice ra 3 3]]) (Z:=fun v w1=>v=.tuple #[.int .i64 0,.int .i64 1,.int .i64 0]∧Old w w1) nb rfl rfl (fun d=>by simp [go_sem]) (fun d=>by simp [go_sem];exact ev_call Tryz.func36 (by kernel_rfl) (by kernel_rfl)) (fun d3=>?_) ?_
 ·refine (exAsk (w:=((w.at d).at d2).at d3) ((show Twin 0 w (((w.at d).at d2).at d3) from ⟨rfl,rfl,rfl,fun _=>rfl,fun _=>rfl,fun _ _=>rfl⟩).book hbk) ((show Twin 0 w (((w.at d).at d2).at d3) from ⟨rfl,rfl,rfl,fun _=>rfl,fun _=>rfl,fun _ _=>rfl⟩).kinds hkd) _ _).mono ?_
  rintro fr' cs' w1 ⟨h1,h2,ho⟩
  exact ⟨_,h1,h2,rfl,⟨ho.os,ho.output,ho.size,ho.block⟩⟩
 rintro v w1 ⟨rfl,ho⟩
 go_simp
 refine leads_op (.tuple #[.int .i64 0,.int .i64 1,.int .i64 0]) nb rfl rfl (fun d=>by simp [go_sem]) (fun d=>by simp [go_sem]) fun d=>?_
 go_simp
 refine leads_op (.int .i64 0) nb rfl rfl (fun d=>by simp [go_sem]) (fun d=>by simp [go_sem]) fun d=>?_
 go_simp
 refine leads_op (.int .i64 1) nb rfl rfl (fun d=>by simp [go_sem]) (fun d=>by simp [go_sem]) fun d=>?_
 go_simp
 refine leads_op (.int .i64 0) nb rfl rfl (fun d=>by simp [go_sem]) (fun d=>by simp [go_sem]) fun d=>?_
 go_simp
 refine leads_op (.int .i64 0) nb rfl rfl (fun d=>by simp [go_sem]) (fun d=>by simp [go_sem]) fun d=>?_
 go_simp
 refine leads_op (.int .i64 1) nb rfl rfl (fun d=>by simp [go_sem]) (fun d=>by simp [go_sem]) fun d=>?_
 go_simp
 refine leads_op (.int .i64 0) nb rfl rfl (fun d=>by simp [go_sem]) (fun d=>by simp [go_sem]) fun d=>?_
 go_simp
 refine leads_inRegion fun d=>?_
 exact hk _ ⟨ho.os,ho.output,ho.size,ho.block⟩
theorem stBody_eq2:∃ r0 r1 r2 r3 r4 r5 r6 r7 r8 r9 r10 r11 r12 r13 r14 r15 r16 r17 r18 r19,Tryz.f8.body=some (.seq r0 (.seq r1 (.seq r2 (.seq r3 (.seq r4 (.seq r5 (.seq r6 (.seq r7 (.seq r8 (.seq r9 (.seq r10 (.seq r11 (.seq r12 (.seq r13 (.seq r14 (.seq r15 (.seq r16 (.seq r17 (.seq r18 (r19)))))))))))))))))))):=⟨_,_,_,_,_,_,_,_,_,_,_,_,_,_,_,_,_,_,_,_,rfl⟩
theorem stFrame {c:Code} (hc:Tryz.f8.body=some c):Frame.enter Tryz.prog 8 #[] .normal=(Go.Conc.base 8).at { tmps:=#[U,U,U,U,U,U,U,U,U,U,U,U,U,U,U,U,U,U,U,U,U,U,U,U,U,U,U,U,U,U,U,U,U,U,U,U,U,U,U,U,U,U,U,U,U,U,U,U,U,U,U,U,U,U,U,U,U,U,U,U,U,U,U,U,U,U,U,U,U,U,U,U,U,U,U,U,U,U,U,U,U,U,U,U,U,U,U,U,U,U,U,U,U,U,U,U,U,U,U,U,U,U,U,U,U,U,U,U,U,U,U,U,U,U,U,U,U,U,U,U,U,U,U,U,U,U,U,U,U,U,U,U,U,U,U,U,U,U,U,U,U,U,U,U,U,U,U,U,U,U,U,U,U,U,U,U,U,U,U,U,U,U,U,U,U,U,U,U,U,U,U,U,U,U,U,U,U,U,U,U,U,U,U,U,U,U,U,U,U,U,U,U,U,U,U,U,U,U,U,U,U,U,U,U,U,U,U,U,U,U,U,U,U,U,U,U,U,U,U,U,U,U,U,U,U,U,U,U,U,U,U,U,U,U,U,U,U,U,U,U,U,U,U,U,U,U,U,U,U,U,U,U,U,U],defers:=[] } [.code c]:=by
 rw [Go.Conc.enter_at #[] Tryz.func8 hc]
 simp only [Tryz.ntmps8,List.size_toArray,List.length_cons,List.length_nil,Nat.reduceAdd,Nat.reduceSub,Array.replicate_succ,Array.replicate_zero,List.push_toArray,List.append_toArray,List.nil_append,List.cons_append]
theorem on_at (w:World) (d:Nat):Twin 0 w (w.at d):=⟨rfl,rfl,rfl,fun _=>rfl,fun _=>rfl,fun _ _=>rfl⟩
theorem stored_co {w:World} (hK:KindsAt w) (c:Frame) (cs:List Frame) :
 Leads Tryz.prog (fun fr' cs' w1=>fr'=c.finish (.bool true)∧cs'=cs∧Old w w1) (Frame.enter Tryz.prog 8 #[] .normal) (c::cs) w:=by
 obtain ⟨r0,r1,r2,r3,r4,r5,r6,r7,r8,r9,r10,r11,r12,r13,r14,r15,r16,r17,r18,r19,hc⟩:=stBody_eq2
 have hok:=progOk.code _ _ Tryz.func8 _ hc
 simp only [codeOk,Bool.and_eq_true] at hok
 obtain ⟨k0,k1,k2,k3,k4,k5,k6,k7,k8,_,k10⟩:=hok
 rw [stFrame hc]
 have nb:(Go.Conc.base 8).kind=.normal:=rfl
 have nd:MarksOnly []:=fun d hd=>by cases hd
 refine piece_step k0 nb nd (Z:=SZ0) (fun a w1 w2 ht h=>h) (fun W hW=>st_0 hc) fun a0 w0 hz ho0=>?_
 obtain rfl:=hz
 refine piece_step k1 nb nd (Z:=SZ1 w.heap.size) (fun a w1 w2 ht h=>by obtain ⟨B,vm,vs,ra,h1,hn,h2⟩:=h;exact ⟨B,vm,vs,ra,h1,hn,h2.twin ht⟩) (fun W hW=>st_1 hc (by rw [hW.size];exact ho0.size) (hW.kinds (ho0.kinds hK))) fun a1 w1 hz ho=>?_
 obtain ⟨B,vm,vs,ra,rfl,hB,hE⟩:=hz
 have ho1:=ho0.trans ho
 clear ho
 refine piece_step k2 nb nd (Z:=SZ2 B vm vs ra) (fun a w1 w2 ht h=>h) (fun W hW=>st_2 hc (hE.twin hW)) fun a2 w2 hz ho=>?_
 obtain rfl:=hz
 have hE:=hE.old ho
 have ho2:=ho1.trans ho
 clear ho
 refine piece_step k3 nb nd (Z:=SZ3 B vm vs ra) (fun a w1 w2 ht h=>by obtain ⟨xa,xc,h1,h2⟩:=h;exact ⟨xa,xc,h1,ht.ints h2⟩) (fun W hW=>st_3 hc (hE.twin hW)) fun a3 w3 hz ho=>?_
 obtain ⟨xa,xc,rfl,hx⟩:=hz
 have hE:=hE.old ho
 have ho3:=ho2.trans ho
 clear ho
 refine piece_step k4 nb nd (Z:=SZ4 B vm vs ra xa xc) (fun a w1 w2 ht h=>h) (fun W hW=>st_4 hc (hE.twin hW)) fun a4 w4 hz ho=>?_
 obtain rfl:=hz
 have hE:=hE.old ho
 have hx:=ho.ints hx
 have ho4:=ho3.trans ho
 clear ho
 refine piece_step k5 nb nd (Z:=SZ5 B vm vs ra xa xc) (fun a w1 w2 ht h=>h) (fun W hW=>st_5 hc (hE.twin hW)) fun a5 w5 hz ho=>?_
 obtain rfl:=hz
 have hE:=hE.old ho
 have hx:=ho.ints hx
 have ho5:=ho4.trans ho
 clear ho
 refine piece_step k6 nb nd (Z:=SZ6 B vm vs ra xa xc) (fun a w1 w2 ht h=>by obtain ⟨Bd,h1,h2,h3⟩:=h;exact ⟨Bd,h1,(ht.cell _).trans h2,(ht.cell _).trans h3⟩) (fun W hW=>st_6 hc (hE.twin hW)) fun a6 w6 hz ho=>?_
 obtain ⟨Bd,rfl,hd0,hd1⟩:=hz
 have hE:=hE.old ho
 have hx:=ho.ints hx
 have ho6:=ho5.trans ho
 clear ho
 refine piece_step k7 nb nd (Z:=SZ7 B vm vs ra xa xc Bd) (fun a w1 w2 ht h=>by obtain ⟨la,lc,h1,h2⟩:=h;exact ⟨la,lc,h1,ht.ints h2⟩) (fun W hW=>st_7 hc (hE.twin hW)) fun a7 w7 hz ho=>?_
 obtain ⟨la,lc,rfl,hl⟩:=hz
 have hE:=hE.old ho
 have hx:=ho.ints hx
 have hd0:=ho.cell2 hd0
 have hd1:=ho.cell2 hd1
 have ho7:=ho6.trans ho
 clear ho
 refine piece_step k8 nb nd (Z:=SZ8 B vm vs ra xa xc Bd la lc) (fun a w1 w2 ht h=>by obtain ⟨ma,mc,h1,h2⟩:=h;exact ⟨ma,mc,h1,ht.parts h2⟩) (fun W hW=>st_8 hc (hE.twin hW)) fun a8 w8 hz ho=>?_
 obtain ⟨ma,mc,rfl,hm⟩:=hz
 have hE:=hE.old ho
 have hx:=ho.ints hx
 have hd0:=ho.cell2 hd0
 have hd1:=ho.cell2 hd1
 have hl:=ho.ints hl
 have ho8:=ho7.trans ho
 clear ho
 refine leads_seq fun d=>?_
 have hE:=hE.twin (on_at w8 d)
 have ho8:=ho8.at d
 have hx:=(on_at w8 d).ints hx
 have hl:=(on_at w8 d).ints hl
 have hm:=(on_at w8 d).parts hm
 refine st_9 hc hE fun w9 ho=>?_
 have hE:=hE.old ho
 have hx:=ho.ints hx
 have hd0:=ho.cell2 (w:=w8.at d) hd0
 have hd1:=ho.cell2 (w:=w8.at d) hd1
 have hl:=ho.ints hl
 have hm:=ho.parts hm
 have ho9:=ho8.trans ho
 refine (tail_coN (n:=w.heap.size) (hn:=ho9.size) (f:=8) Tryz.func8 ?ck nd (Z:=fun v _=>v=.bool true) (fun v w1 w2 ht h=>h) (fun W hW=>?tl)).mono ?_
 case ck=>simp only [codeOk,Bool.and_eq_true];exact k10
 case tl =>
  refine Code.wp_mono ?_ (st_tail hc hB (hE.twin hW) (hW.ints hx) ((hW.cell _).trans hd0) ((hW.cell _).trans hd1) (hW.ints hl) (hW.parts hm))
  intro e a w' h
  exact h
 ·rintro fr' cs' w' ⟨v,h1,h2,rfl,hoo⟩
  exact ⟨h1,h2,⟨hoo.os.trans ho9.os,hoo.output.trans ho9.output,Nat.le_trans ho9.size hoo.size,fun k hk=>(hoo.block k hk).trans (ho9.block k hk)⟩⟩
end Go.Proofs.YtfggbepickdokaaGreatDoor
namespace Go.Proofs.YtfggbepickdokaaGreatDoor
open Go.RowKit Go.Maps Sp
theorem bytes_ext {a b:ByteArray} (h:a.data.toList=b.data.toList):a=b:=by
 cases a;cases b
 simp only at h
 rw [Array.toList_inj.1 h]
def nameL (m:Msg):List UInt8:=m.name.data.toList
theorem rMessages_at {b:Bk} {vr vg vm vs vc:Value} {w:World} (hB:BookAt w b vr vg vm vs vc) (hN:∀ m∈b.ms,m.name.size≤1000000) {t:Int} (h:msgsAl b=t) :
 Calls Tryz.prog 74 #[.agg #[vr,vg,vm,vs,vc]] w fun e w'=>e=.returned (.int .i64 t)∧Below w.heap.size w w':=by
 obtain ⟨ma,mc,rfl,hM,hl⟩:=hB.ms
 unfold msgsAl at h
 by_cases h5:5 < b.ms.length
 ·rw [if_pos h5] at h
  subst h
  go_enter Tryz.func74,Tryz.ntmps74
  go_wp2
  go_ret
  exact ⟨rfl,bel⟩
 ·rw [if_neg h5] at h
  have H:=Hh h;clear h hB
  have HM:=Hh hM;clear hM
  have HN:=Hh hN;clear hN
  go_enter Tryz.func74,Tryz.ntmps74
  go_wp2
  obtain ⟨W0,hW0⟩:∃ W0,W0=w.alloc (.cells #[vr,vg,.slice ma b.ms.length mc,vs,vc] 26):=⟨_,rfl⟩
  rw [← hW0]
  have hb0:Below w.heap.size w W0:=by rw [hW0];(exact bel)
  have n2:W0.cell? ⟨w.heap.size,2,none⟩=some (.slice ma b.ms.length mc):=by rw [hW0,World.cell?_alloc_at _ _ _ _ rfl];rfl
  have hs0:w.heap.size < W0.heap.size:=by rw [hW0];simp
  clear hW0
  go_loopw [3] (fun i wr=>∃ (k:Nat) (seen:List (List UInt8)),k≤b.ms.length∧i=.int .i64 k∧Hid (goM seen (b.ms.drop k)=t)∧Hid (∀ x,x∈seen↔∃ j,∃ h:j < b.ms.length,j < k∧nameL b.ms[j]=x)∧Below W0.heap.size W0 wr) (fun i _=>b.ms.length - (intOf i).toNat)
  case atStart=>exact ⟨0,[],Nat.zero_le _,rfl,by simpa [Hid] using H.out,by intro x;simp,Below.refl _ _⟩
  case round =>
   obtain ⟨k,seen,hk,rfl,hG,hS,hW⟩:=hrel
   have hWs:=hW.size
   obtain ⟨wo,rfl⟩:∃ x,x=wr:=⟨_,rfl⟩
   have hbw:=Below.next hb0 hW
   have m2:=(hW.cell (p:=⟨w.heap.size,2,none⟩) hs0).trans n2
   have hx2:w.heap.size < wo.heap.size:=by omega
   by_cases hlt:k < b.ms.length
   ·obtain ⟨mb,mo,rfl,hmb,h0,h1,h2⟩:=HM.out k hlt
    have c0:=(hbw.cell hmb).trans h0
    have c1:=(hbw.cell hmb).trans h1
    have c2:=(hbw.cell hmb).trans h2
    have hmb2:mb < wo.heap.size:=Nat.lt_of_lt_of_le hmb hbw.size
    clear h0 h1 h2
    have hG':=hG.out
    rw [List.drop_eq_getElem_cons hlt,goM] at hG'
    clear hG
    have hnm:b.ms[k].name.size≤1000000:=HN.out _ (List.getElem_mem hlt)
    generalize hm:b.ms[k]=m at c0 c1 c2 hG' hnm
    obtain ⟨nm,gr,du⟩:=m
    dsimp only at c0 c1 c2 hG' hnm
    have HMK:=Hh hm;clear hm
    cases hn:isName nm.data.toList
    ·have H1:=Hh hn
     simp only [hn,if_true] at hG'
     subst hG'
     clear hn
     go_wp2_with (go_at_call 115;(with_reducible refine (rIsName_at _ _ hnm H1.out).mono ?_);rintro e w' ⟨rfl,rfl⟩)
     go_ret
     exact ⟨rfl,bel⟩
    ·have H1:=Hh hn
     simp only [hn,if_false,Bool.true_eq_false] at hG'
     have HG:=Hh hG'
     clear hn hG'
     go_wp2_with (go_at_call 115;(with_reducible refine (rIsName_at _ _ hnm H1.out).mono ?_);rintro e w' ⟨rfl,rfl⟩)
     obtain ⟨W1,hW1⟩:∃ W1,W1=wo.alloc (.cells #[.string nm,.int .i64 gr,.int .i64 du] 76):=⟨_,rfl⟩
     rw [← hW1]
     have hb1:Below wo.heap.size wo W1:=by rw [hW1];(exact bel)
     have hs1:wo.heap.size < W1.heap.size:=by rw [hW1];simp
     have g0:W1.cell? ⟨wo.heap.size,0,none⟩=some (.string nm):=by rw [hW1,World.cell?_alloc_at _ _ _ _ rfl];rfl
     have g1:W1.cell? ⟨wo.heap.size,1,none⟩=some (.int .i64 gr):=by rw [hW1,World.cell?_alloc_at _ _ _ _ rfl];rfl
     have g2:W1.cell? ⟨wo.heap.size,2,none⟩=some (.int .i64 du):=by rw [hW1,World.cell?_alloc_at _ _ _ _ rfl];rfl
     clear hW1
     go_loopw [5] (fun i wr=>∃ (j:Nat),j≤k∧i=.int .i64 j∧Hid (∀ i,∀ h:i < b.ms.length,i < j→b.ms[i].name≠nm)∧Below W1.heap.size W1 wr) (fun i _=>k - (intOf i).toNat)
     case atStart=>exact ⟨0,Nat.zero_le _,rfl,(fun i h hi=>absurd hi (Nat.not_lt_zero _)),Below.refl _ _⟩
     case round =>
      obtain ⟨j,hj,rfl,hne,hX⟩:=hrel
      have hXs:=hX.size
      have hbx:=Below.next hb1 hX
      have hbx2:=Below.next hbw hbx
      have x0:=(hX.cell (p:=⟨wo.heap.size,0,none⟩) hs1).trans g0
      have x1:=(hX.cell (p:=⟨wo.heap.size,1,none⟩) hs1).trans g1
      have x2:=(hX.cell (p:=⟨wo.heap.size,2,none⟩) hs1).trans g2
      have hxl:wo.heap.size < wr.heap.size:=by omega
      have y2:=(hbx.cell (p:=⟨w.heap.size,2,none⟩) hx2).trans m2
      have hyl:w.heap.size < wr.heap.size:=by omega
      by_cases hjt:j < k
      ·have hjl:j < b.ms.length:=by omega
       obtain ⟨_,_,he,hjb,q0,_,_⟩:=HM.out j hjl
       cases he
       have p0:=(hbx2.cell hjb).trans q0
       have hjb2:mb < wr.heap.size:=by omega
       have hname:b.ms[j].name=nm→nm.data.toList∈seen:=fun e=>(hS.out _).2 ⟨j,hjl,hjt,by unfold nameL;rw [e]⟩
       have hne':∀ h:j < b.ms.length,b.ms[j].name=b.ms[j].name:=fun _=>rfl
       clear q0 hne'
       have hstep:b.ms[j].name≠nm→∀ i,∀ h:i < b.ms.length,i < j+1→b.ms[i].name≠nm:=fun h i hi hij=>by
        by_cases hij2:i < j
        ·exact hne.out i hi hij2
        ·obtain rfl:i=j:=by omega
         exact h
       generalize b.ms[j].name=nj at p0 hname hstep
       by_cases hq:nj=nm
       ·have hmem:=hname hq
        have hG2:=HG.out
        rw [if_pos hmem] at hG2
        subst hG2
        subst hq
        clear hname hstep hmem
        go_wp2
        go_quiet (fail)
        go_wp2
        go_ret
        exact ⟨rfl,bel⟩
       ·have HS2:=Hh (hstep hq)
        have hbq:(nj.toList == nm.toList)=false:=by
         rw [ByteArray.toList_eq,ByteArray.toList_eq,beq_eq_false_iff_ne]
         exact fun e=>hq (bytes_ext e)
        clear hname hstep
        go_wp2
        go_quiet (fail)
        go_wp2
        go_roundw
        case rel=>exact ⟨j+1,by omega,by go_num,HS2.out,bel⟩
        case measure=>simp [intOf];omega
      ·obtain rfl:j=k:=by omega
       have hmem:nm.data.toList ∉ seen:=fun h=>by
        obtain ⟨i,hi,hij,e⟩:=(hS.out _).1 h
        exact hne.out i hi hij (bytes_ext e)
       have hG2:=HG.out
       rw [if_neg hmem] at hG2
       have hseen:∀ x,x∈nm.data.toList::seen↔∃ i,∃ h:i < b.ms.length,i < j+1∧nameL b.ms[i]=x:=fun x=>by
        rw [List.mem_cons,hS.out]
        constructor
        ·rintro (rfl | ⟨i,hi,hij,e⟩)
         ·exact ⟨j,hlt,by omega,by rw [HMK.out];rfl⟩
         ·exact ⟨i,hi,by omega,e⟩
        ·rintro ⟨i,hi,hij,e⟩
         by_cases hij2:i < j
         ·exact .inr ⟨i,hi,hij2,e⟩
         ·obtain rfl:i=j:=by omega
          refine .inl ?_
          rw [← e,HMK.out];rfl
       have HSEEN:=Hh hseen
       clear hmem hseen
       by_cases hgb:inB gr 1 4=false
       ·have H2:=Hh hgb
        simp only [hgb,true_or,if_true] at hG2
        subst hG2
        clear hgb
        go_wp2_with (go_at_call 26;(with_reducible refine (rin_at H2.out).mono ?_);rintro e w' ⟨rfl,rfl⟩)
        go_ret
        exact ⟨rfl,bel⟩
       ·have hgb:=(Bool.not_eq_false _).mp hgb
        have H2:=Hh hgb
        by_cases hd:inB du 0 999=false
        ·have H3:=Hh hd
         simp only [hd,or_true,if_true] at hG2
         subst hG2
         clear hgb hd
         go_wp2_with (first | (go_at_call 26;(with_reducible refine (rin_at H2.out).mono ?_);rintro e w' ⟨rfl,rfl⟩) | (go_at_call 26;(with_reducible refine (rin_at H3.out).mono ?_);rintro e w' ⟨rfl,rfl⟩))
         go_ret
         exact ⟨rfl,bel⟩
        ·have hd:=(Bool.not_eq_false _).mp hd
         have H3:=Hh hd
         simp only [hgb,hd,Bool.true_eq_false,or_self,if_false] at hG2
         have HG3:=Hh hG2
         clear hgb hd hG2
         go_wp2_with (first | (go_at_call 26;(with_reducible refine (rin_at H2.out).mono ?_);rintro e w' ⟨rfl,rfl⟩) | (go_at_call 26;(with_reducible refine (rin_at H3.out).mono ?_);rintro e w' ⟨rfl,rfl⟩))
         go_roundw
         case rel=>exact ⟨j+1,nm.data.toList::seen,by omega,by go_num,HG3.out,HSEEN.out,Below.next hW hbx⟩
         case measure=>simp [intOf];omega
   ·have:goM seen (b.ms.drop k)=t:=hG.out
    rw [List.drop_eq_nil_of_le (by omega)] at this
    simp only [goM] at this
    subst this
    go_wp2
    go_ret
    exact ⟨rfl,bel⟩
theorem PartsAt.take {w:World} {a:Option Addr} {l:List Prt} (h:PartsAt w a l) (k:Nat):PartsAt w a (l.take k):=fun i hi=>by
 have hi':i < l.length:=by simp at hi;omega
 have:=h i hi'
 rwa [List.getElem_take]
theorem rSessions_at {b:Bk} {vr vg vm vs vc:Value} {w:World} (hB:BookAt w b vr vg vm vs vc) (hG:∀ m∈b.ms,0≤m.groups∧m.groups≤1000) {t:Int} (h:sessAl b=t) :
 Calls Tryz.prog 75 #[.agg #[vr,vg,vm,vs,vc]] w fun e w'=>e=.returned (.int .i64 t)∧Below w.heap.size w w':=by
 obtain ⟨sa,sc,rfl,hM,hl⟩:=hB.ss
 unfold sessAl at h
 by_cases h4:4 < b.ss.length
 ·rw [if_pos h4] at h
  subst h
  go_enter Tryz.func75,Tryz.ntmps75
  go_wp2
  go_ret
  exact ⟨rfl,bel⟩
 ·rw [if_neg h4] at h
  have H:=Hh h;clear h
  have HB:=Hh hB;clear hB
  have HG:=Hh hG;clear hG
  clear hM
  go_enter Tryz.func75,Tryz.ntmps75
  go_wp2
  obtain ⟨W0,hW0⟩:∃ W0,W0=w.alloc (.cells #[vr,vg,vm,.slice sa b.ss.length sc,vc] 26):=⟨_,rfl⟩
  rw [← hW0]
  have five:=Five.new w vr vg vm (.slice sa b.ss.length sc) vc 26
  rw [← hW0] at five
  have hb0:Below w.heap.size w W0:=by rw [hW0];(exact bel)
  have hB0:=HB.out.below hb0
  have HS:Hid (SessAt W0 sa b.ss):=by obtain ⟨_,_,e,h,_⟩:=hB0.ss;cases e;exact h
  have HB0:=Hh hB0
  clear hW0 hB0
  obtain ⟨n0,n1,n2,n3,n4,nl⟩:=five
  go_loopw [3] (fun i wr=>∃ (k:Nat),k≤b.ss.length∧i=.int .i64 k∧Hid (goS b (b.ss.drop k)=t)∧Below W0.heap.size W0 wr) (fun i _=>b.ss.length - (intOf i).toNat)
  case atStart=>exact ⟨0,Nat.zero_le _,rfl,H.out,Below.refl _ _⟩
  case round =>
   obtain ⟨k,hk,rfl,hG0,hW⟩:=hrel
   obtain ⟨wo,rfl⟩:∃ wo:World,wo=wr:=⟨_,rfl⟩
   have hWs:=hW.size
   have m0:=(hW.cell (p:=⟨w.heap.size,0,none⟩) nl).trans n0
   have m1:=(hW.cell (p:=⟨w.heap.size,1,none⟩) nl).trans n1
   have m2:=(hW.cell (p:=⟨w.heap.size,2,none⟩) nl).trans n2
   have m3:=(hW.cell (p:=⟨w.heap.size,3,none⟩) nl).trans n3
   have m4:=(hW.cell (p:=⟨w.heap.size,4,none⟩) nl).trans n4
   have ml:w.heap.size < wo.heap.size:=by omega
   by_cases hlt:k < b.ss.length
   ·obtain ⟨sb,so,rfl,hsb,pa,pc,h0,hpc,hpl,hP⟩:=HS.out k hlt
    have c0:=(hW.cell hsb).trans h0
    have hsb2:sb < wo.heap.size:=Nat.lt_of_lt_of_le hsb hW.size
    have hP0:=Hh (hP.below hW);clear hP
    have hG':=hG0.out
    rw [List.drop_eq_getElem_cons hlt,goS] at hG'
    clear hG0 h0
    generalize hs:b.ss[k]=s at c0 hG' hpc hpl hP0
    have HSS:=Hh hs;clear hs
    by_cases h5:5 < s.length
    ·rw [if_pos h5] at hG'
     subst hG'
     go_wp2
     go_ret
     exact ⟨rfl,Below.next hb0 hW⟩
    ·rw [if_neg h5] at hG'
     have HG1:=Hh hG';clear hG'
     go_wp2
     have HBo:=Hh (HB0.out.below hW)
     clear n0 n1 n2 n3 n4
     go_loopw [5] (fun i wr=>∃ (j:Nat) (seen:List Prt),j≤s.length∧i=.int .i64 j∧Hid (goP b seen (s.drop j)=goP b [] s)∧Hid (∀ x,x∈seen↔x∈s.take j)∧Below wo.heap.size wo wr) (fun i _=>s.length - (intOf i).toNat)
     case atStart=>exact ⟨0,[],Nat.zero_le _,rfl,by simp [Hid],by intro x;simp,Below.refl _ _⟩
     case round =>
      obtain ⟨j,seen,hj,rfl,hQ,hSE,hX⟩:=hrel
      have hXs:=hX.size
      have l0:=(hX.cell (p:=⟨w.heap.size,0,none⟩) ml).trans m0
      have l1:=(hX.cell (p:=⟨w.heap.size,1,none⟩) ml).trans m1
      have l2:=(hX.cell (p:=⟨w.heap.size,2,none⟩) ml).trans m2
      have l3:=(hX.cell (p:=⟨w.heap.size,3,none⟩) ml).trans m3
      have l4:=(hX.cell (p:=⟨w.heap.size,4,none⟩) ml).trans m4
      have ll:w.heap.size < wr.heap.size:=by omega
      by_cases hltj:j < s.length
      ·obtain ⟨pb,po,rfl,hpb,p0,p1⟩:=hP0.out j hltj
       have d0:=(hX.cell hpb).trans p0
       have d1:=(hX.cell hpb).trans p1
       have hpb2:pb < wr.heap.size:=by omega
       have hQ':=hQ.out
       rw [List.drop_eq_getElem_cons hltj,goP] at hQ'
       have htk:=List.take_succ_eq_append_getElem hltj
       clear hQ p0 p1
       have HPT:=Hh ((hP0.out.below hX).take j)
       have hjpc:(j:Int)≤pc:=by omega
       have hj0:(0:Int)≤j:=by omega
       have hln:j=(s.take j).length:=by simp;omega
       have HLN:=Hh hln
       have hll:(s.take j).length≤1000000:=by simp;omega
       generalize hp:s[j]=p at d0 d1 hQ' htk
       obtain ⟨pm,pg⟩:=p
       dsimp only at d0 d1
       have HTK:=Hh htk
       have HBr:=Hh (HBo.out.below hX)
       clear hp htk hln
       cases hi:isPart b (pm,pg)
       ·have H1:=Hh hi
        simp only [hi,if_true] at hQ'
        have hG2:=HG1.out
        rw [← hQ',if_pos (by decide)] at hG2
        subst hG2
        clear hi hQ'
        go_wp2
        (refine wp_region_bel (by kernel_rfl) (by kernel_rfl) ?_;(repeat (go_big_quiet_step ((go_at_call 116;with_reducible exact Calls.bel_of (rIs_at (p:=(pm,pg)) (HBr.out.below (later_below _ _)) HG.out H1.out)))));refine wpQuiet_nil ?_;rintro _ ⟨xq,rfl⟩)
        go_wp2
        go_ret
        exact ⟨rfl,Below.next (Below.next (Below.next hb0 hW) hX) (later_below _ _)⟩
       ·have H1:=Hh hi
        simp only [hi,Bool.true_eq_false,if_false] at hQ'
        clear hi
        by_cases hmem:(pm,pg)∈seen
        ·have HR:=Hh (show decide ((pm,pg)∈s.take j)=true by simpa using (hSE.out _).1 hmem)
         simp only [hmem,if_true] at hQ'
         have hG2:=HG1.out
         rw [← hQ',if_pos (by decide)] at hG2
         subst hG2
         clear hmem hQ'
         go_wp2
         (refine wp_region_bel (by kernel_rfl) (by kernel_rfl) ?_;(repeat (go_big_quiet_step ((go_at_call 116;with_reducible exact Calls.bel_of (rIs_at (p:=(pm,pg)) (HBr.out.below (later_below _ _)) HG.out H1.out)))));refine wpQuiet_nil ?_;rintro _ ⟨xq,rfl⟩)
         go_wp2
         have hx5:Below wr.heap.size wr (later wr xq):=later_below _ _
         generalize later wr xq=W5 at hx5 ⊢
         have d0:=(hx5.cell hpb2).trans d0
         have d1:=(hx5.cell hpb2).trans d1
         have hpb5:pb < W5.heap.size:=Nat.lt_of_lt_of_le hpb2 hx5.size
         have HP5:=Hh (HPT.out.below hx5)
         go_wp2
         (refine wp_region_bel (by kernel_rfl) (by kernel_rfl) ?_;(repeat (go_big_quiet_step ((go_at_call 117;with_reducible exact Calls.bel_of (has_at (p:=(pm,pg)) (HP5.out.below (later_below _ _)) HLN.out hll HR.out)))));refine wpQuiet_nil ?_;rintro _ ⟨xq,rfl⟩)
         go_wp2
         go_ret
         exact ⟨rfl,Below.next (Below.next (Below.next (Below.next hb0 hW) hX) hx5) (later_below _ _)⟩
        ·have HR:=Hh (show decide ((pm,pg)∈s.take j)=false by simpa using fun h=>hmem ((hSE.out _).2 h))
         simp only [hmem,if_false] at hQ'
         have HQ:=Hh hQ'
         have hse2:∀ x,x∈(pm,pg)::seen↔x∈s.take (j+1):=fun x=>by
          rw [HTK.out,List.mem_cons,hSE.out,List.mem_append,List.mem_singleton,or_comm]
         have HSE2:=Hh hse2
         clear hmem hQ' hse2
         go_wp2
         (refine wp_region_bel (by kernel_rfl) (by kernel_rfl) ?_;(repeat (go_big_quiet_step ((go_at_call 116;with_reducible exact Calls.bel_of (rIs_at (p:=(pm,pg)) (HBr.out.below (later_below _ _)) HG.out H1.out)))));refine wpQuiet_nil ?_;rintro _ ⟨xq,rfl⟩)
         go_wp2
         have hx5:Below wr.heap.size wr (later wr xq):=later_below _ _
         generalize later wr xq=W5 at hx5 ⊢
         have d0:=(hx5.cell hpb2).trans d0
         have d1:=(hx5.cell hpb2).trans d1
         have hpb5:pb < W5.heap.size:=Nat.lt_of_lt_of_le hpb2 hx5.size
         have HP5:=Hh (HPT.out.below hx5)
         go_wp2
         (refine wp_region_bel (by kernel_rfl) (by kernel_rfl) ?_;(repeat (go_big_quiet_step ((go_at_call 117;with_reducible exact Calls.bel_of (has_at (p:=(pm,pg)) (HP5.out.below (later_below _ _)) HLN.out hll HR.out)))));refine wpQuiet_nil ?_;rintro _ ⟨xq,rfl⟩)
         go_wp2
         go_roundw
         case rel=>exact ⟨j+1,(pm,pg)::seen,by omega,by go_num,HQ.out,HSE2.out,Below.next (Below.next hX hx5) (later_below _ _)⟩
         case measure=>simp [intOf];omega
      ·have hQ':goP b seen (s.drop j)=goP b [] s:=hQ.out
       rw [List.drop_eq_nil_of_le (by omega)] at hQ'
       simp only [goP] at hQ'
       have hG2:=HG1.out
       rw [← hQ',if_neg (by decide)] at hG2
       have HG2:=Hh hG2
       clear hQ' hG2 hQ
       go_wp2
       go_roundw
       case rel=>exact ⟨k+1,by omega,by go_num,HG2.out,Below.next hW hX⟩
       case measure=>simp [intOf];omega
   ·have:goS b (b.ss.drop k)=t:=hG0.out
    rw [List.drop_eq_nil_of_le (by omega)] at this
    simp only [goS] at this
    subst this
    go_wp2
    go_ret
    exact ⟨rfl,Below.next hb0 hW⟩
end Go.Proofs.YtfggbepickdokaaGreatDoor
