/- Leads to the Store laws of chapter 6: V5. -/
import Derived.Test.YtfggbepickdokaaGreatDoorT35
set_option maxHeartbeats 200000
set_option maxRecDepth 100000
set_option linter.all false
namespace Go.Proofs.YtfggbepickdokaaGreatDoor
open Go.RowKit Go.Maps Sp Mt Go.Conc
def Sees (w0 w:World):Prop:=w0.heap.size≤w.heap.size∧∀ a,a.block < w0.heap.size→w.cell? a=w0.cell? a
theorem Sees.below {w0 w:World} (h:Below w0.heap.size w0 w):Sees w0 w:=⟨h.size,fun a ha=>World.cell?_of_block (h.block _ ha)⟩
theorem Sees.book {w0 w:World} (h:Sees w0 w) {b:Bk} {vr vg vm vs vc:Value} (k:BookAt w0 b vr vg vm vs vc):BookAt w b vr vg vm vs vc:=by
 obtain ⟨h1,h2,⟨a1,c1,e1,h3,g1⟩,⟨a2,c2,e2,h4,g2⟩,a3,c3,e3,h5,g3⟩:=k
 refine ⟨h1,h2,⟨a1,c1,e1,fun i hi=>?_,g1⟩,⟨a2,c2,e2,fun i hi=>?_,g2⟩,a3,c3,e3,fun i hi=>?_,g3⟩
 ·obtain ⟨b,o,e,hlt,q1,q2,q3⟩:=h3 i hi
  exact ⟨b,o,e,Nat.lt_of_lt_of_le hlt h.1,(h.2 _ hlt).trans q1,(h.2 _ hlt).trans q2,(h.2 _ hlt).trans q3⟩
 ·obtain ⟨b,o,e,hlt,pa,pc,q1,q2,q3,q4⟩:=h4 i hi
  refine ⟨b,o,e,Nat.lt_of_lt_of_le hlt h.1,pa,pc,(h.2 _ hlt).trans q1,q2,q3,fun j hj=>?_⟩
  obtain ⟨b',o',e',hlt',p1,p2⟩:=q4 j hj
  exact ⟨b',o',e',Nat.lt_of_lt_of_le hlt' h.1,(h.2 _ hlt').trans p1,(h.2 _ hlt').trans p2⟩
 ·obtain ⟨b,o,e,hlt,q1,q2,q3,q4⟩:=h5 i hi
  exact ⟨b,o,e,Nat.lt_of_lt_of_le hlt h.1,(h.2 _ hlt).trans q1,(h.2 _ hlt).trans q2,(h.2 _ hlt).trans q3,(h.2 _ hlt).trans q4⟩
theorem Sees.kinds {w0 w:World} (h:Sees w0 w) (k:KindsAt w0):KindsAt w:=⟨Nat.lt_of_lt_of_le k.1 h.1,fun i hi=>by
 obtain ⟨⟨s,e,h0⟩,h1,h2,h3,h4⟩:=k.2 i hi
 exact ⟨⟨s,e,(h.2 _ k.1).trans h0⟩,(h.2 _ k.1).trans h1,(h.2 _ k.1).trans h2,(h.2 _ k.1).trans h3,(h.2 _ k.1).trans h4⟩⟩
structure ExAt (w:World) (B:Nat) (vm vs:Value) (ra:Option Addr):Prop where
 c0:w.cell? ⟨B,0,none⟩=some (.int .i64 3)
 c1:w.cell? ⟨B,1,none⟩=some (.int .i64 5)
 c2:w.cell? ⟨B,2,none⟩=some vm
 c3:w.cell? ⟨B,3,none⟩=some vs
 c4:w.cell? ⟨B,4,none⟩=some (.slice ra 3 3)
 f4:w.frozen? ⟨B,4,none⟩=false
 own:∃ w0,w0.heap.size=B∧BookAt w0 exB (.int .i64 3) (.int .i64 5) vm vs (.slice ra 3 3)∧KindsAt w0∧Sees w0 w
section
variable {w w1:World} {B:Nat} {vm vs:Value} {ra:Option Addr}
theorem ExAt.bk (h:ExAt w B vm vs ra):BookAt w exB (.int .i64 3) (.int .i64 5) vm vs (.slice ra 3 3):=by
 obtain ⟨w0,_,h1,_,h2⟩:=h.own
 exact h2.book h1
theorem ExAt.kd (h:ExAt w B vm vs ra):KindsAt w:=by
 obtain ⟨w0,_,_,h1,h2⟩:=h.own
 exact h2.kinds h1
theorem ExAt.twin {n:Nat} (h:ExAt w B vm vs ra) (t:Twin n w w1):ExAt w1 B vm vs ra:=⟨(t.cell _).trans h.c0,(t.cell _).trans h.c1,(t.cell _).trans h.c2,(t.cell _).trans h.c3,(t.cell _).trans h.c4,(t.frozen _).trans h.f4,by
 obtain ⟨w0,h0,h1,h2,h3⟩:=h.own
 exact ⟨w0,h0,h1,h2,by rw [t.size];exact h3.1,fun a ha=>(t.cell a).trans (h3.2 a ha)⟩⟩
theorem ExAt.old (h:ExAt w B vm vs ra) (t:Old w w1):ExAt w1 B vm vs ra:=⟨t.cell2 h.c0,t.cell2 h.c1,t.cell2 h.c2,t.cell2 h.c3,t.cell2 h.c4,(World.frozen?_of_block (t.block B (lt_of_cell h.c4))).trans h.f4,by
 obtain ⟨w0,h0,h1,h2,h3⟩:=h.own
 exact ⟨w0,h0,h1,h2,Nat.le_trans h3.1 t.size,fun a ha=>(World.cell?_of_block (t.block _ (Nat.lt_of_lt_of_le ha h3.1))).trans (h3.2 a ha)⟩⟩
theorem piece_step {b:Frame} {a:Act} {w:World} {k:List Item} {cs:List Frame} {c R:Code} (hc:codeOk Tryz.prog c=true) (hb:b.kind=.normal) (hd:MarksOnly a.defers) {Z:Act→World→Prop} (hZ:∀ a w1 w2,Twin w.heap.size w1 w2→Z a w1→Z a w2)
 (h:∀ W,Twin w.heap.size w W→c.wp Tryz.prog (PZ W Z) a W) {K:Frame→List Frame→World→Prop} (hk:∀ a' w',Z a' w'→Old w w'→Leads Tryz.prog K (b.at a' (.code R::k)) cs w') :
 Leads Tryz.prog K (b.at a (.code (.seq c R)::k)) cs w:=by
 refine leads_seq fun d=>?_
 refine (piece_co (w:=w.at d) hc hb hd hZ (fun W hW=>h W hW.unat)).trans ?_
 rintro fr' cs' w' ⟨a',rfl,rfl,hz,ho⟩
 exact hk a' w' hz ⟨ho.os,ho.output,ho.size,ho.block⟩
def SA0  :Act:={ tmps:=#[.bool false,U,U,U,U,U,U,U,U,U,U,U,U,U,U,U,U,U,U,U,U,U,U,U,U,U,U,U,U,U,U,U,U,U,U,U,U,U,U,U,U,U,U,U,U,U,U,U,U,U,U,U,U,U,U,U,U,U,U,U,U,U,U,U,U,U,U,U,U,U,U,U,U,U,U,U,U,U,U,U,U,U,U,U,U,U,U,U,U,U,U,U,U,U,U,U,U,U,U,U,U,U,U,U,U,U,U,U,U,U,U,U,U,U,U,U,U,U,U,U,U,U,U,U,U,U,U,U,U,U,U,U,U,U,U,U,U,U,U,U,U,U,U,U,U,U,U,U,U,U,U,U,U,U,U,U,U,U,U,U,U,U,U,U,U,U,U,U,U,U,U,U,U,U,U,U,U,U,U,U,U,U,U,U,U,U,U,U,U,U,U,U,U,U,U,U,U,U,U,U,U,U,U,U,U,U,U,U,U,U,U,U,U,U,U,U,U,U,U,U,U,U,U,U,U,U,U,U,U,U,U,U,U,U,U,U,U,U,U,U,U,U,U,U,U,U,U,U,U,U,U,U,U,U],defers:=[] }
def SZ0  (a':Act) (w2:World):Prop:=a'=SA0  
theorem st_0 {r0 r1 r2 r3 r4 r5 r6 r7 r8 r9 r10:Code} (hc:Tryz.f8.body=some (.seq r0 (.seq r1 (.seq r2 (.seq r3 (.seq r4 (.seq r5 (.seq r6 (.seq r7 (.seq r8 (.seq r9 (r10))))))))))))  :r0.wp Tryz.prog (PZ w (SZ0 )) ({ tmps:=#[U,U,U,U,U,U,U,U,U,U,U,U,U,U,U,U,U,U,U,U,U,U,U,U,U,U,U,U,U,U,U,U,U,U,U,U,U,U,U,U,U,U,U,U,U,U,U,U,U,U,U,U,U,U,U,U,U,U,U,U,U,U,U,U,U,U,U,U,U,U,U,U,U,U,U,U,U,U,U,U,U,U,U,U,U,U,U,U,U,U,U,U,U,U,U,U,U,U,U,U,U,U,U,U,U,U,U,U,U,U,U,U,U,U,U,U,U,U,U,U,U,U,U,U,U,U,U,U,U,U,U,U,U,U,U,U,U,U,U,U,U,U,U,U,U,U,U,U,U,U,U,U,U,U,U,U,U,U,U,U,U,U,U,U,U,U,U,U,U,U,U,U,U,U,U,U,U,U,U,U,U,U,U,U,U,U,U,U,U,U,U,U,U,U,U,U,U,U,U,U,U,U,U,U,U,U,U,U,U,U,U,U,U,U,U,U,U,U,U,U,U,U,U,U,U,U,U,U,U,U,U,U,U,U,U,U,U,U,U,U,U,U,U,U,U,U,U,U,U,U,U,U,U,U],defers:=[] }) w:=by
 simp only [Tryz.f8,Option.some.injEq,Code.seq.injEq] at hc
 obtain ⟨rfl,rfl,rfl,rfl,rfl,rfl,rfl,rfl,rfl,rfl,rfl⟩:=hc
 go_wp2
 exact ⟨rfl,rfl,Below.refl _ _⟩
def SA1  (B:Nat) (vm:Value) (vs:Value) (ra:Option Addr):Act:={ tmps:=#[.bool false,.pointer (some ⟨B,0,none⟩),U,U,U,U,U,U,U,U,U,U,U,U,U,U,U,U,U,U,U,U,U,U,U,U,U,U,U,U,U,U,U,.agg #[.int .i64 3,.int .i64 5,vm,vs,.slice ra 3 3],U,U,U,U,U,U,U,U,U,U,U,U,U,U,U,U,U,U,U,U,U,U,U,U,U,U,U,U,U,U,U,U,U,U,U,U,U,U,U,U,U,U,U,U,U,U,U,U,U,U,U,U,U,U,U,U,U,U,U,U,U,U,U,U,U,U,U,U,U,U,U,U,U,U,U,U,U,U,U,U,U,U,U,U,U,U,U,U,U,U,U,U,U,U,U,U,U,U,U,U,U,U,U,U,U,U,U,U,U,U,U,U,U,U,U,U,U,U,U,U,U,U,U,U,U,U,U,U,U,U,U,U,U,U,U,U,U,U,U,U,U,U,U,U,U,U,U,U,U,U,U,U,U,U,U,U,U,U,U,U,U,U,U,U,U,U,U,U,U,U,U,U,U,U,U,U,U,U,U,U,U,U,U,U,U,U,U,U,U,U,U,U,U,U,U,U,U,U,U,U,U,U,U,U,U,U,U,U,U,U,U,U,U,U,U,U,U,U,U,U],defers:=[] }
def SZ1 (n:Nat) (a':Act) (w2:World):Prop:=∃ B vm vs ra,a'=SA1  B vm vs ra∧n≤B∧ExAt w2 B vm vs ra
theorem st_1 {r0 r1 r2 r3 r4 r5 r6 r7 r8 r9 r10:Code} (hc:Tryz.f8.body=some (.seq r0 (.seq r1 (.seq r2 (.seq r3 (.seq r4 (.seq r5 (.seq r6 (.seq r7 (.seq r8 (.seq r9 (r10)))))))))))) {n:Nat} (hn:n≤w.heap.size) (hK:KindsAt w):r1.wp Tryz.prog (PZ w (SZ1 n)) (SA0  ) w:=by
 simp only [Tryz.f8,Option.some.injEq,Code.seq.injEq] at hc
 obtain ⟨rfl,rfl,rfl,rfl,rfl,rfl,rfl,rfl,rfl,rfl,rfl⟩:=hc
 unfold SA0
 go_wp2_with (go_at_call 40;(with_reducible refine (example_at _).mono ?_);rintro e w1 ⟨vr,vg,vm,vs,ra,rfl,hbk,hb1⟩;obtain ⟨rfl,rfl,⟨ma,mc,rfl,_,_⟩,⟨sa,sc,rfl,_,_⟩,_⟩:=id hbk;have HBK:=Hh hbk;clear hbk)
 have hbw:Below w.heap.size w (w1.alloc (.cells #[.int .i64 3,.int .i64 5,.slice ma exB.ms.length mc,.slice sa exB.ss.length sc,.slice ra 3 3] 26)):=bel
 refine ⟨rfl,⟨w1.heap.size,_,_,_,rfl,Nat.le_trans hn hb1.size,?_,?_,?_,?_,?_,by rw [World.frozen?_alloc_at _ _ _ _ rfl],w1,rfl,HBK.out,hK.below hb1,Sees.below (bel)⟩,hbw⟩ <;> (rw [World.cell?_alloc_at _ _ _ _ rfl];rfl)
def SA2 (B:Nat) (vm vs:Value) (ra:Option Addr) :Act:={ tmps:=#[.bool false,.pointer (some ⟨B,0,none⟩),.int .i64 3,.int .i64 0,U,U,U,U,U,U,U,U,U,U,U,U,U,U,U,U,U,U,U,U,U,U,U,U,U,U,U,U,U,.agg #[.int .i64 3,.int .i64 5,vm,vs,.slice ra 3 3],.tuple #[.int .i64 3,.int .i64 0],.agg #[.int .i64 3,.int .i64 5,vm,vs,.slice ra 3 3],.tuple #[.int .i64 3,.int .i64 0],.int .i64 3,.int .i64 0,U,U,U,U,U,U,U,U,U,U,U,U,U,U,U,U,U,U,U,U,U,U,U,U,U,U,U,U,U,U,U,U,U,U,U,U,U,U,U,U,U,U,U,U,U,U,U,U,U,U,U,U,U,U,U,U,U,U,U,U,U,U,U,U,U,U,U,U,U,U,U,U,U,U,U,U,U,U,U,U,U,U,U,U,U,U,U,U,U,U,U,U,U,U,U,U,U,U,U,U,U,U,U,U,U,U,U,U,U,U,U,U,U,U,U,U,U,U,U,U,U,U,U,U,U,U,U,U,U,U,U,U,U,U,U,U,U,U,U,U,U,U,U,U,U,U,U,U,U,U,U,U,U,U,U,U,U,U,U,U,U,U,U,U,U,U,U,U,U,U,U,U,U,U,U,U,U,U,U,U,U,U,U,U,U,U,U,U,U,U,U,U,U,U,U,U,U,U,U,U,U,U,U,U,U,U,U,U,U,U,U,U,U,U,U],defers:=[] }
def SZ2 (B:Nat) (vm vs:Value) (ra:Option Addr) (a':Act) (w2:World):Prop:=a'=SA2 B vm vs ra 
theorem st_2 {r0 r1 r2 r3 r4 r5 r6 r7 r8 r9 r10:Code} (hc:Tryz.f8.body=some (.seq r0 (.seq r1 (.seq r2 (.seq r3 (.seq r4 (.seq r5 (.seq r6 (.seq r7 (.seq r8 (.seq r9 (r10)))))))))))) {B:Nat} {vm vs:Value} {ra:Option Addr} (hE:ExAt w B vm vs ra):r2.wp Tryz.prog (PZ w (SZ2 B vm vs ra)) (SA1  B vm vs ra) w:=by
 simp only [Tryz.f8,Option.some.injEq,Code.seq.injEq] at hc
 obtain ⟨rfl,rfl,rfl,rfl,rfl,rfl,rfl,rfl,rfl,rfl,rfl⟩:=hc
 unfold SA1
 have hbk:=hE.bk
 have hkd:=hE.kd
 obtain ⟨x0,x1,x2,x3,x4,_,_⟩:=hE
 have HBK:=Hh hbk
 have HKD:=Hh hkd
 have hB0:=lt_of_cell x0
 simp only at hB0
 clear hbk hkd
 go_wp2_with (go_at_call 25;(with_reducible refine (exHist HBK.out HKD.out).mono ?_);rintro e w1 ⟨rfl,hb1⟩)
 exact ⟨rfl,rfl,hb1⟩
def SA3 (B:Nat) (vm vs:Value) (ra:Option Addr) (xa:Option Addr) (xc:Nat):Act:={ tmps:=#[.bool false,.pointer (some ⟨B,0,none⟩),.int .i64 3,.int .i64 0,.slice xa 3 xc,.int .i64 0,U,U,U,U,U,U,U,U,U,U,U,U,U,U,U,U,U,U,U,U,U,U,U,U,U,U,U,.agg #[.int .i64 3,.int .i64 5,vm,vs,.slice ra 3 3],.tuple #[.int .i64 3,.int .i64 0],.agg #[.int .i64 3,.int .i64 5,vm,vs,.slice ra 3 3],.tuple #[.int .i64 3,.int .i64 0],.int .i64 3,.int .i64 0,.tuple #[.slice xa 3 xc,.int .i64 0],.agg #[.int .i64 3,.int .i64 5,vm,vs,.slice ra 3 3],.tuple #[.slice xa 3 xc,.int .i64 0],.slice xa 3 xc,.int .i64 0,U,U,U,U,U,U,U,U,U,U,U,U,U,U,U,U,U,U,U,U,U,U,U,U,U,U,U,U,U,U,U,U,U,U,U,U,U,U,U,U,U,U,U,U,U,U,U,U,U,U,U,U,U,U,U,U,U,U,U,U,U,U,U,U,U,U,U,U,U,U,U,U,U,U,U,U,U,U,U,U,U,U,U,U,U,U,U,U,U,U,U,U,U,U,U,U,U,U,U,U,U,U,U,U,U,U,U,U,U,U,U,U,U,U,U,U,U,U,U,U,U,U,U,U,U,U,U,U,U,U,U,U,U,U,U,U,U,U,U,U,U,U,U,U,U,U,U,U,U,U,U,U,U,U,U,U,U,U,U,U,U,U,U,U,U,U,U,U,U,U,U,U,U,U,U,U,U,U,U,U,U,U,U,U,U,U,U,U,U,U,U,U,U,U,U,U,U,U,U,U,U,U,U,U,U,U,U,U,U,U],defers:=[] }
def SZ3 (B:Nat) (vm vs:Value) (ra:Option Addr) (a':Act) (w2:World):Prop:=∃ xa xc,a'=SA3 B vm vs ra xa xc∧IntsAt w2 xa [0,1,2]
theorem st_3 {r0 r1 r2 r3 r4 r5 r6 r7 r8 r9 r10:Code} (hc:Tryz.f8.body=some (.seq r0 (.seq r1 (.seq r2 (.seq r3 (.seq r4 (.seq r5 (.seq r6 (.seq r7 (.seq r8 (.seq r9 (r10)))))))))))) {B:Nat} {vm vs:Value} {ra:Option Addr} (hE:ExAt w B vm vs ra):r3.wp Tryz.prog (PZ w (SZ3 B vm vs ra)) (SA2 B vm vs ra ) w:=by
 simp only [Tryz.f8,Option.some.injEq,Code.seq.injEq] at hc
 obtain ⟨rfl,rfl,rfl,rfl,rfl,rfl,rfl,rfl,rfl,rfl,rfl⟩:=hc
 unfold SA2
 have hbk:=hE.bk
 have hkd:=hE.kd
 obtain ⟨x0,x1,x2,x3,x4,_,_⟩:=hE
 have HBK:=Hh hbk
 have HKD:=Hh hkd
 have hB0:=lt_of_cell x0
 simp only at hB0
 clear hbk hkd
 go_wp2_with (go_at_call 27;(with_reducible refine (exThrough HBK.out HKD.out).mono ?_);rintro e w1 ⟨xa,xc,rfl,hi1,hb1⟩)
 exact ⟨rfl,⟨xa,xc,rfl,hi1⟩,hb1⟩
def SA4 (B:Nat) (vm vs:Value) (ra:Option Addr) (xa:Option Addr) (xc:Nat) :Act:={ tmps:=#[.bool false,.pointer (some ⟨B,0,none⟩),.int .i64 3,.int .i64 0,.slice xa 3 xc,.int .i64 0,.int .i64 0,.int .i64 0,U,U,U,U,U,U,U,U,U,U,U,U,U,U,U,U,U,U,U,U,U,U,U,U,U,.agg #[.int .i64 3,.int .i64 5,vm,vs,.slice ra 3 3],.tuple #[.int .i64 3,.int .i64 0],.agg #[.int .i64 3,.int .i64 5,vm,vs,.slice ra 3 3],.tuple #[.int .i64 3,.int .i64 0],.int .i64 3,.int .i64 0,.tuple #[.slice xa 3 xc,.int .i64 0],.agg #[.int .i64 3,.int .i64 5,vm,vs,.slice ra 3 3],.tuple #[.slice xa 3 xc,.int .i64 0],.slice xa 3 xc,.int .i64 0,.tuple #[.int .i64 0,.int .i64 0],.agg #[.int .i64 3,.int .i64 5,vm,vs,.slice ra 3 3],.tuple #[.int .i64 0,.int .i64 0],.int .i64 0,.int .i64 0,U,U,U,U,U,U,U,U,U,U,U,U,U,U,U,U,U,U,U,U,U,U,U,U,U,U,U,U,U,U,U,U,U,U,U,U,U,U,U,U,U,U,U,U,U,U,U,U,U,U,U,U,U,U,U,U,U,U,U,U,U,U,U,U,U,U,U,U,U,U,U,U,U,U,U,U,U,U,U,U,U,U,U,U,U,U,U,U,U,U,U,U,U,U,U,U,U,U,U,U,U,U,U,U,U,U,U,U,U,U,U,U,U,U,U,U,U,U,U,U,U,U,U,U,U,U,U,U,U,U,U,U,U,U,U,U,U,U,U,U,U,U,U,U,U,U,U,U,U,U,U,U,U,U,U,U,U,U,U,U,U,U,U,U,U,U,U,U,U,U,U,U,U,U,U,U,U,U,U,U,U,U,U,U,U,U,U,U,U,U,U,U,U,U,U,U,U,U,U,U,U,U,U,U,U],defers:=[] }
def SZ4 (B:Nat) (vm vs:Value) (ra:Option Addr) (xa:Option Addr) (xc:Nat) (a':Act) (w2:World):Prop:=a'=SA4 B vm vs ra xa xc 
theorem st_4 {r0 r1 r2 r3 r4 r5 r6 r7 r8 r9 r10:Code} (hc:Tryz.f8.body=some (.seq r0 (.seq r1 (.seq r2 (.seq r3 (.seq r4 (.seq r5 (.seq r6 (.seq r7 (.seq r8 (.seq r9 (r10)))))))))))) {B:Nat} {vm vs:Value} {ra:Option Addr} {xa:Option Addr} {xc:Nat} (hE:ExAt w B vm vs ra):r4.wp Tryz.prog (PZ w (SZ4 B vm vs ra xa xc)) (SA3 B vm vs ra xa xc) w:=by
 simp only [Tryz.f8,Option.some.injEq,Code.seq.injEq] at hc
 obtain ⟨rfl,rfl,rfl,rfl,rfl,rfl,rfl,rfl,rfl,rfl,rfl⟩:=hc
 unfold SA3
 have hbk:=hE.bk
 have hkd:=hE.kd
 obtain ⟨x0,x1,x2,x3,x4,_,_⟩:=hE
 have HBK:=Hh hbk
 have HKD:=Hh hkd
 have hB0:=lt_of_cell x0
 simp only at hB0
 clear hbk hkd
 go_wp2_with (go_at_call 41;(with_reducible refine (exCame00 HBK.out HKD.out).mono ?_);rintro e w1 ⟨rfl,hb1⟩)
 exact ⟨rfl,rfl,hb1⟩
def SA5 (B:Nat) (vm vs:Value) (ra:Option Addr) (xa:Option Addr) (xc:Nat) :Act:={ tmps:=#[.bool false,.pointer (some ⟨B,0,none⟩),.int .i64 3,.int .i64 0,.slice xa 3 xc,.int .i64 0,.int .i64 0,.int .i64 0,.int .i64 1,.int .i64 0,U,U,U,U,U,U,U,U,U,U,U,U,U,U,U,U,U,U,U,U,U,U,U,.agg #[.int .i64 3,.int .i64 5,vm,vs,.slice ra 3 3],.tuple #[.int .i64 3,.int .i64 0],.agg #[.int .i64 3,.int .i64 5,vm,vs,.slice ra 3 3],.tuple #[.int .i64 3,.int .i64 0],.int .i64 3,.int .i64 0,.tuple #[.slice xa 3 xc,.int .i64 0],.agg #[.int .i64 3,.int .i64 5,vm,vs,.slice ra 3 3],.tuple #[.slice xa 3 xc,.int .i64 0],.slice xa 3 xc,.int .i64 0,.tuple #[.int .i64 0,.int .i64 0],.agg #[.int .i64 3,.int .i64 5,vm,vs,.slice ra 3 3],.tuple #[.int .i64 0,.int .i64 0],.int .i64 0,.int .i64 0,.tuple #[.int .i64 1,.int .i64 0],.agg #[.int .i64 3,.int .i64 5,vm,vs,.slice ra 3 3],.tuple #[.int .i64 1,.int .i64 0],.int .i64 1,.int .i64 0,U,U,U,U,U,U,U,U,U,U,U,U,U,U,U,U,U,U,U,U,U,U,U,U,U,U,U,U,U,U,U,U,U,U,U,U,U,U,U,U,U,U,U,U,U,U,U,U,U,U,U,U,U,U,U,U,U,U,U,U,U,U,U,U,U,U,U,U,U,U,U,U,U,U,U,U,U,U,U,U,U,U,U,U,U,U,U,U,U,U,U,U,U,U,U,U,U,U,U,U,U,U,U,U,U,U,U,U,U,U,U,U,U,U,U,U,U,U,U,U,U,U,U,U,U,U,U,U,U,U,U,U,U,U,U,U,U,U,U,U,U,U,U,U,U,U,U,U,U,U,U,U,U,U,U,U,U,U,U,U,U,U,U,U,U,U,U,U,U,U,U,U,U,U,U,U,U,U,U,U,U,U,U,U,U,U,U,U,U,U,U,U,U,U,U,U,U,U,U,U],defers:=[] }
def SZ5 (B:Nat) (vm vs:Value) (ra:Option Addr) (xa:Option Addr) (xc:Nat) (a':Act) (w2:World):Prop:=a'=SA5 B vm vs ra xa xc 
theorem st_5 {r0 r1 r2 r3 r4 r5 r6 r7 r8 r9 r10:Code} (hc:Tryz.f8.body=some (.seq r0 (.seq r1 (.seq r2 (.seq r3 (.seq r4 (.seq r5 (.seq r6 (.seq r7 (.seq r8 (.seq r9 (r10)))))))))))) {B:Nat} {vm vs:Value} {ra:Option Addr} {xa:Option Addr} {xc:Nat} (hE:ExAt w B vm vs ra):r5.wp Tryz.prog (PZ w (SZ5 B vm vs ra xa xc)) (SA4 B vm vs ra xa xc ) w:=by
 simp only [Tryz.f8,Option.some.injEq,Code.seq.injEq] at hc
 obtain ⟨rfl,rfl,rfl,rfl,rfl,rfl,rfl,rfl,rfl,rfl,rfl⟩:=hc
 unfold SA4
 have hbk:=hE.bk
 have hkd:=hE.kd
 obtain ⟨x0,x1,x2,x3,x4,_,_⟩:=hE
 have HBK:=Hh hbk
 have HKD:=Hh hkd
 have hB0:=lt_of_cell x0
 simp only at hB0
 clear hbk hkd
 go_wp2_with (go_at_call 41;(with_reducible refine (exCame11 HBK.out HKD.out).mono ?_);rintro e w1 ⟨rfl,hb1⟩)
 exact ⟨rfl,rfl,hb1⟩
def SA6 (B:Nat) (vm vs:Value) (ra:Option Addr) (xa:Option Addr) (xc:Nat) (Bd:Nat):Act:={ tmps:=#[.bool false,.pointer (some ⟨B,0,none⟩),.int .i64 3,.int .i64 0,.slice xa 3 xc,.int .i64 0,.int .i64 0,.int .i64 0,.int .i64 1,.int .i64 0,.pointer (some ⟨Bd,0,none⟩),.int .i64 0,U,U,U,U,U,U,U,U,U,U,U,U,U,U,U,U,U,U,U,U,U,.agg #[.int .i64 3,.int .i64 5,vm,vs,.slice ra 3 3],.tuple #[.int .i64 3,.int .i64 0],.agg #[.int .i64 3,.int .i64 5,vm,vs,.slice ra 3 3],.tuple #[.int .i64 3,.int .i64 0],.int .i64 3,.int .i64 0,.tuple #[.slice xa 3 xc,.int .i64 0],.agg #[.int .i64 3,.int .i64 5,vm,vs,.slice ra 3 3],.tuple #[.slice xa 3 xc,.int .i64 0],.slice xa 3 xc,.int .i64 0,.tuple #[.int .i64 0,.int .i64 0],.agg #[.int .i64 3,.int .i64 5,vm,vs,.slice ra 3 3],.tuple #[.int .i64 0,.int .i64 0],.int .i64 0,.int .i64 0,.tuple #[.int .i64 1,.int .i64 0],.agg #[.int .i64 3,.int .i64 5,vm,vs,.slice ra 3 3],.tuple #[.int .i64 1,.int .i64 0],.int .i64 1,.int .i64 0,.tuple #[.agg #[.int .i64 1,.int .i64 1],.int .i64 0],.agg #[.int .i64 3,.int .i64 5,vm,vs,.slice ra 3 3],.tuple #[.agg #[.int .i64 1,.int .i64 1],.int .i64 0],.agg #[.int .i64 1,.int .i64 1],.int .i64 0,U,U,U,U,U,U,U,U,U,U,U,U,U,U,U,U,U,U,U,U,U,U,U,U,U,U,U,U,U,U,U,U,U,U,U,U,U,U,U,U,U,U,U,U,U,U,U,U,U,U,U,U,U,U,U,U,U,U,U,U,U,U,U,U,U,U,U,U,U,U,U,U,U,U,U,U,U,U,U,U,U,U,U,U,U,U,U,U,U,U,U,U,U,U,U,U,U,U,U,U,U,U,U,U,U,U,U,U,U,U,U,U,U,U,U,U,U,U,U,U,U,U,U,U,U,U,U,U,U,U,U,U,U,U,U,U,U,U,U,U,U,U,U,U,U,U,U,U,U,U,U,U,U,U,U,U,U,U,U,U,U,U,U,U,U,U,U,U,U,U,U,U,U,U,U,U,U,U,U,U,U,U,U,U,U,U,U,U,U,U,U,U,U,U,U],defers:=[] }
def SZ6 (B:Nat) (vm vs:Value) (ra:Option Addr) (xa:Option Addr) (xc:Nat) (a':Act) (w2:World):Prop:=∃ Bd,a'=SA6 B vm vs ra xa xc Bd∧w2.cell? ⟨Bd,0,none⟩=some (.int .i64 1)∧w2.cell? ⟨Bd,1,none⟩=some (.int .i64 1)
theorem st_6 {r0 r1 r2 r3 r4 r5 r6 r7 r8 r9 r10:Code} (hc:Tryz.f8.body=some (.seq r0 (.seq r1 (.seq r2 (.seq r3 (.seq r4 (.seq r5 (.seq r6 (.seq r7 (.seq r8 (.seq r9 (r10)))))))))))) {B:Nat} {vm vs:Value} {ra:Option Addr} {xa:Option Addr} {xc:Nat} (hE:ExAt w B vm vs ra):r6.wp Tryz.prog (PZ w (SZ6 B vm vs ra xa xc)) (SA5 B vm vs ra xa xc ) w:=by
 simp only [Tryz.f8,Option.some.injEq,Code.seq.injEq] at hc
 obtain ⟨rfl,rfl,rfl,rfl,rfl,rfl,rfl,rfl,rfl,rfl,rfl⟩:=hc
 unfold SA5
 have hbk:=hE.bk
 have hkd:=hE.kd
 obtain ⟨x0,x1,x2,x3,x4,_,_⟩:=hE
 have HBK:=Hh hbk
 have HKD:=Hh hkd
 have hB0:=lt_of_cell x0
 simp only at hB0
 clear hbk hkd
 go_wp2_with (go_at_call 42;(with_reducible refine (exCopies HBK.out HKD.out).mono ?_);rintro e w1 ⟨rfl,hb1⟩)
 refine ⟨rfl,⟨w1.heap.size,rfl,?_,?_⟩,bel⟩ <;> (rw [World.cell?_alloc_at _ _ _ _ rfl];rfl)
def SA7 (B:Nat) (vm vs:Value) (ra:Option Addr) (xa:Option Addr) (xc:Nat) (Bd:Nat) (la:Option Addr) (lc:Nat):Act:={ tmps:=#[.bool false,.pointer (some ⟨B,0,none⟩),.int .i64 3,.int .i64 0,.slice xa 3 xc,.int .i64 0,.int .i64 0,.int .i64 0,.int .i64 1,.int .i64 0,.pointer (some ⟨Bd,0,none⟩),.int .i64 0,.slice la 2 lc,.int .i64 0,U,U,U,U,U,U,U,U,U,U,U,U,U,U,U,U,U,U,U,.agg #[.int .i64 3,.int .i64 5,vm,vs,.slice ra 3 3],.tuple #[.int .i64 3,.int .i64 0],.agg #[.int .i64 3,.int .i64 5,vm,vs,.slice ra 3 3],.tuple #[.int .i64 3,.int .i64 0],.int .i64 3,.int .i64 0,.tuple #[.slice xa 3 xc,.int .i64 0],.agg #[.int .i64 3,.int .i64 5,vm,vs,.slice ra 3 3],.tuple #[.slice xa 3 xc,.int .i64 0],.slice xa 3 xc,.int .i64 0,.tuple #[.int .i64 0,.int .i64 0],.agg #[.int .i64 3,.int .i64 5,vm,vs,.slice ra 3 3],.tuple #[.int .i64 0,.int .i64 0],.int .i64 0,.int .i64 0,.tuple #[.int .i64 1,.int .i64 0],.agg #[.int .i64 3,.int .i64 5,vm,vs,.slice ra 3 3],.tuple #[.int .i64 1,.int .i64 0],.int .i64 1,.int .i64 0,.tuple #[.agg #[.int .i64 1,.int .i64 1],.int .i64 0],.agg #[.int .i64 3,.int .i64 5,vm,vs,.slice ra 3 3],.tuple #[.agg #[.int .i64 1,.int .i64 1],.int .i64 0],.agg #[.int .i64 1,.int .i64 1],.int .i64 0,.tuple #[.slice la 2 lc,.int .i64 0],.agg #[.int .i64 3,.int .i64 5,vm,vs,.slice ra 3 3],.tuple #[.slice la 2 lc,.int .i64 0],.slice la 2 lc,.int .i64 0,U,U,U,U,U,U,U,U,U,U,U,U,U,U,U,U,U,U,U,U,U,U,U,U,U,U,U,U,U,U,U,U,U,U,U,U,U,U,U,U,U,U,U,U,U,U,U,U,U,U,U,U,U,U,U,U,U,U,U,U,U,U,U,U,U,U,U,U,U,U,U,U,U,U,U,U,U,U,U,U,U,U,U,U,U,U,U,U,U,U,U,U,U,U,U,U,U,U,U,U,U,U,U,U,U,U,U,U,U,U,U,U,U,U,U,U,U,U,U,U,U,U,U,U,U,U,U,U,U,U,U,U,U,U,U,U,U,U,U,U,U,U,U,U,U,U,U,U,U,U,U,U,U,U,U,U,U,U,U,U,U,U,U,U,U,U,U,U,U,U,U,U,U,U,U,U,U,U,U,U,U,U,U,U,U,U,U,U,U,U],defers:=[] }
def SZ7 (B:Nat) (vm vs:Value) (ra:Option Addr) (xa:Option Addr) (xc:Nat) (Bd:Nat) (a':Act) (w2:World):Prop:=∃ la lc,a'=SA7 B vm vs ra xa xc Bd la lc∧IntsAt w2 la [0,2]
theorem st_7 {r0 r1 r2 r3 r4 r5 r6 r7 r8 r9 r10:Code} (hc:Tryz.f8.body=some (.seq r0 (.seq r1 (.seq r2 (.seq r3 (.seq r4 (.seq r5 (.seq r6 (.seq r7 (.seq r8 (.seq r9 (r10)))))))))))) {B:Nat} {vm vs:Value} {ra:Option Addr} {xa:Option Addr} {xc:Nat} {Bd:Nat} (hE:ExAt w B vm vs ra):r7.wp Tryz.prog (PZ w (SZ7 B vm vs ra xa xc Bd)) (SA6 B vm vs ra xa xc Bd) w:=by
 simp only [Tryz.f8,Option.some.injEq,Code.seq.injEq] at hc
 obtain ⟨rfl,rfl,rfl,rfl,rfl,rfl,rfl,rfl,rfl,rfl,rfl⟩:=hc
 unfold SA6
 have hbk:=hE.bk
 have hkd:=hE.kd
 obtain ⟨x0,x1,x2,x3,x4,_,_⟩:=hE
 have HBK:=Hh hbk
 have HKD:=Hh hkd
 have hB0:=lt_of_cell x0
 simp only at hB0
 clear hbk hkd
 go_wp2_with (go_at_call 29;(with_reducible refine (exDelivered HBK.out HKD.out).mono ?_);rintro e w1 ⟨la,lc,rfl,hi1,hb1⟩)
 exact ⟨rfl,⟨la,lc,rfl,hi1⟩,hb1⟩
def SA8 (B:Nat) (vm vs:Value) (ra:Option Addr) (xa:Option Addr) (xc:Nat) (Bd:Nat) (la:Option Addr) (lc:Nat) (ma:Option Addr) (mc:Nat):Act:={ tmps:=#[.bool false,.pointer (some ⟨B,0,none⟩),.int .i64 3,.int .i64 0,.slice xa 3 xc,.int .i64 0,.int .i64 0,.int .i64 0,.int .i64 1,.int .i64 0,.pointer (some ⟨Bd,0,none⟩),.int .i64 0,.slice la 2 lc,.int .i64 0,.slice ma 3 mc,.int .i64 0,U,U,U,U,U,U,U,U,U,U,U,U,U,U,U,U,U,.agg #[.int .i64 3,.int .i64 5,vm,vs,.slice ra 3 3],.tuple #[.int .i64 3,.int .i64 0],.agg #[.int .i64 3,.int .i64 5,vm,vs,.slice ra 3 3],.tuple #[.int .i64 3,.int .i64 0],.int .i64 3,.int .i64 0,.tuple #[.slice xa 3 xc,.int .i64 0],.agg #[.int .i64 3,.int .i64 5,vm,vs,.slice ra 3 3],.tuple #[.slice xa 3 xc,.int .i64 0],.slice xa 3 xc,.int .i64 0,.tuple #[.int .i64 0,.int .i64 0],.agg #[.int .i64 3,.int .i64 5,vm,vs,.slice ra 3 3],.tuple #[.int .i64 0,.int .i64 0],.int .i64 0,.int .i64 0,.tuple #[.int .i64 1,.int .i64 0],.agg #[.int .i64 3,.int .i64 5,vm,vs,.slice ra 3 3],.tuple #[.int .i64 1,.int .i64 0],.int .i64 1,.int .i64 0,.tuple #[.agg #[.int .i64 1,.int .i64 1],.int .i64 0],.agg #[.int .i64 3,.int .i64 5,vm,vs,.slice ra 3 3],.tuple #[.agg #[.int .i64 1,.int .i64 1],.int .i64 0],.agg #[.int .i64 1,.int .i64 1],.int .i64 0,.tuple #[.slice la 2 lc,.int .i64 0],.agg #[.int .i64 3,.int .i64 5,vm,vs,.slice ra 3 3],.tuple #[.slice la 2 lc,.int .i64 0],.slice la 2 lc,.int .i64 0,.tuple #[.slice ma 3 mc,.int .i64 0],.agg #[.int .i64 3,.int .i64 5,vm,vs,.slice ra 3 3],.tuple #[.slice ma 3 mc,.int .i64 0],.slice ma 3 mc,.int .i64 0,U,U,U,U,U,U,U,U,U,U,U,U,U,U,U,U,U,U,U,U,U,U,U,U,U,U,U,U,U,U,U,U,U,U,U,U,U,U,U,U,U,U,U,U,U,U,U,U,U,U,U,U,U,U,U,U,U,U,U,U,U,U,U,U,U,U,U,U,U,U,U,U,U,U,U,U,U,U,U,U,U,U,U,U,U,U,U,U,U,U,U,U,U,U,U,U,U,U,U,U,U,U,U,U,U,U,U,U,U,U,U,U,U,U,U,U,U,U,U,U,U,U,U,U,U,U,U,U,U,U,U,U,U,U,U,U,U,U,U,U,U,U,U,U,U,U,U,U,U,U,U,U,U,U,U,U,U,U,U,U,U,U,U,U,U,U,U,U,U,U,U,U,U,U,U,U,U,U,U,U,U,U,U,U,U],defers:=[] }
def SZ8 (B:Nat) (vm vs:Value) (ra:Option Addr) (xa:Option Addr) (xc:Nat) (Bd:Nat) (la:Option Addr) (lc:Nat) (a':Act) (w2:World):Prop:=∃ ma mc,a'=SA8 B vm vs ra xa xc Bd la lc ma mc∧PartsAt w2 ma [(0,0),(0,1),(1,2)]
theorem st_8 {r0 r1 r2 r3 r4 r5 r6 r7 r8 r9 r10:Code} (hc:Tryz.f8.body=some (.seq r0 (.seq r1 (.seq r2 (.seq r3 (.seq r4 (.seq r5 (.seq r6 (.seq r7 (.seq r8 (.seq r9 (r10)))))))))))) {B:Nat} {vm vs:Value} {ra:Option Addr} {xa:Option Addr} {xc:Nat} {Bd:Nat} {la:Option Addr} {lc:Nat} (hE:ExAt w B vm vs ra):r8.wp Tryz.prog (PZ w (SZ8 B vm vs ra xa xc Bd la lc)) (SA7 B vm vs ra xa xc Bd la lc) w:=by
 simp only [Tryz.f8,Option.some.injEq,Code.seq.injEq] at hc
 obtain ⟨rfl,rfl,rfl,rfl,rfl,rfl,rfl,rfl,rfl,rfl,rfl⟩:=hc
 unfold SA7
 have hbk:=hE.bk
 have hkd:=hE.kd
 obtain ⟨x0,x1,x2,x3,x4,_,_⟩:=hE
 have HBK:=Hh hbk
 have HKD:=Hh hkd
 have hB0:=lt_of_cell x0
 simp only at hB0
 clear hbk hkd
 go_wp2_with (go_at_call 28;(with_reducible refine (exMissing HBK.out HKD.out).mono ?_);rintro e w1 ⟨ma,mc,rfl,hi1,hb1⟩)
 exact ⟨rfl,⟨ma,mc,rfl,hi1⟩,hb1⟩
end
end Go.Proofs.YtfggbepickdokaaGreatDoor
