/- Leads to StoreAgain of chapter 6: AG1 AG2 AG3 RF0 AG4 AG5 AG6. -/
import Derived.Test.YtgemjjdkjmpmlaaGreatDoorAG02
set_option maxHeartbeats 16000000
set_option maxRecDepth 100000
set_option linter.all false
namespace Go.Proofs.YtgemjjdkjmpmlaaGreatDoor
open Go.RowKit Go.Maps Sp Mt Go.Conc
variable {B cn cc ln lc pn pc kc P qn qc k:Nat} {b:Bk} {s t:Int} {vr vg vm vs vc x:Value} {w w0:World} {ca la pa ka qa:Option Addr} {cl ks:List Int} {l ps:List Prt} {p:Prt} {d:Nat→Value}
noncomputable def gp (k:Nat):Code:=sql (sqN k (Tryz.f3.body.getD .skip))
theorem gpBody_eq:Tryz.f3.body=some (.seq (gp 0) (.seq (gp 1) (.seq (gp 2) (.seq (gp 3) (.seq (gp 4) (.seq (gp 5) (.seq (gp 6) (.seq (gp 7) (.seq (gp 8) (.seq (gp 9) (.seq (gp 10) (.seq (gp 11) (.seq (gp 12) .ret))))))))))))):=by kernel_rfl
theorem gp1_eq:gp 1=.seq (sql (gp 1)) (.cond (.tmp 17) (cnd (sqr (gp 1))) .skip):=by kernel_rfl
theorem gp8_eq:gp 8=.seq (sql (gp 8)) (.cond (.tmp 65) (cnd (sqr (gp 8))) .skip):=by kernel_rfl
noncomputable def gBody:Code:=lpc (blk (sqr (gp 11)))
theorem gp11_eq:gp 11=.seq (sql (gp 11)) (.block 2 (.loop gBody)):=by kernel_rfl
theorem gBody_eq:gBody=.seq (sql gBody) (.seq (.block 3 (.seq (sql (blk (sql (sqr gBody)))) (.cond (.tmp 90) (cnd (sqr (blk (sql (sqr gBody))))) .skip))) (sqr (sqr gBody))):=by kernel_rfl
def fgI (x0 x1 x2:Value) (d:Nat→Value):Act:={ tmps:=#[x0,x1,x2,d 3,d 4,d 5,d 6,d 7,d 8,d 9,d 10,d 11,d 12,d 13,d 14,d 15,d 16,d 17,d 18,d 19,d 20,d 21,d 22,d 23,d 24,d 25,d 26,d 27,d 28,d 29,d 30,d 31,d 32,d 33,d 34,d 35,d 36,d 37,d 38,d 39,d 40,d 41,d 42,d 43,d 44,d 45,d 46,d 47,d 48,d 49,d 50,d 51,d 52,d 53,d 54,d 55,d 56,d 57,d 58,d 59,d 60,d 61,d 62,d 63,d 64,d 65,d 66,d 67,d 68,d 69,d 70,d 71,d 72,d 73,d 74,d 75,d 76,d 77,d 78,d 79,d 80,d 81,d 82,d 83,d 84,d 85,d 86,d 87,d 88,d 89,d 90,d 91],defers:=[] }
def fgG (B:Nat) (s:Int) (vr vg vm vs vc:Value) (ka:Option Addr) (ks:List Int) (kc:Nat) (x:Value) (d:Nat→Value):Act:={ tmps:=#[.agg #[vr,vg,vm,vs,vc],.slice ka ks.length kc,.int .u8 s,.pointer (some ⟨B,0,none⟩),d 4,d 5,.bool false,d 7,d 8,d 9,d 10,d 11,d 12,d 13,d 14,d 15,d 16,x,d 18,d 19,d 20,d 21,d 22,d 23,d 24,d 25,d 26,d 27,d 28,d 29,d 30,d 31,d 32,d 33,d 34,d 35,d 36,d 37,d 38,d 39,d 40,d 41,d 42,d 43,d 44,d 45,d 46,d 47,d 48,d 49,d 50,d 51,d 52,d 53,d 54,d 55,d 56,d 57,d 58,d 59,d 60,d 61,d 62,d 63,d 64,d 65,d 66,d 67,d 68,d 69,d 70,d 71,d 72,d 73,d 74,d 75,d 76,d 77,d 78,d 79,d 80,d 81,d 82,d 83,d 84,d 85,d 86,d 87,d 88,d 89,d 90,d 91],defers:=[] }
def fgA (B:Nat) (s:Int) (cn cc ln lc:Nat) (ca la:Option Addr) (d:Nat→Value):Act:={ tmps:=#[d 0,d 1,.int .u8 s,.pointer (some ⟨B,0,none⟩),d 4,d 5,d 6,.slice ca cn cc,.slice la ln lc,d 9,d 10,d 11,d 12,d 13,d 14,d 15,d 16,d 17,d 18,d 19,d 20,d 21,d 22,d 23,d 24,d 25,d 26,d 27,d 28,d 29,d 30,d 31,d 32,d 33,d 34,d 35,d 36,d 37,d 38,d 39,d 40,d 41,d 42,d 43,d 44,d 45,d 46,d 47,d 48,d 49,d 50,d 51,d 52,d 53,d 54,d 55,d 56,d 57,d 58,d 59,d 60,d 61,d 62,d 63,d 64,d 65,d 66,d 67,d 68,d 69,d 70,d 71,d 72,d 73,d 74,d 75,d 76,d 77,d 78,d 79,d 80,d 81,d 82,d 83,d 84,d 85,d 86,d 87,d 88,d 89,d 90,d 91],defers:=[] }
def fgL (B:Nat) (s:Int) (cn cc ln lc pn pc:Nat) (ca la pa:Option Addr) (d:Nat→Value):Act:={ tmps:=#[d 0,d 1,.int .u8 s,.pointer (some ⟨B,0,none⟩),d 4,d 5,d 6,.slice ca cn cc,.slice la ln lc,d 9,.slice pa pn pc,d 11,d 12,d 13,d 14,d 15,d 16,d 17,d 18,d 19,d 20,d 21,d 22,d 23,d 24,d 25,d 26,d 27,d 28,d 29,d 30,d 31,d 32,d 33,d 34,d 35,d 36,d 37,d 38,d 39,d 40,d 41,d 42,d 43,d 44,d 45,d 46,d 47,d 48,d 49,d 50,d 51,d 52,d 53,d 54,d 55,d 56,d 57,d 58,d 59,d 60,d 61,d 62,d 63,d 64,d 65,d 66,d 67,d 68,d 69,d 70,d 71,d 72,d 73,d 74,d 75,d 76,d 77,d 78,d 79,d 80,d 81,d 82,d 83,d 84,d 85,d 86,d 87,d 88,d 89,d 90,d 91],defers:=[] }
def fgP (B P qn qc:Nat) (qa:Option Addr) (k:Nat) (d:Nat→Value):Act:={ tmps:=#[d 0,d 1,d 2,.pointer (some ⟨B,0,none⟩),d 4,d 5,d 6,d 7,d 8,d 9,d 10,d 11,.pointer (some ⟨P,0,none⟩),.slice qa qn qc,.int .i64 (k:Int),d 15,d 16,d 17,d 18,d 19,d 20,d 21,d 22,d 23,d 24,d 25,d 26,d 27,d 28,d 29,d 30,d 31,d 32,d 33,d 34,d 35,d 36,d 37,d 38,d 39,d 40,d 41,d 42,d 43,d 44,d 45,d 46,d 47,d 48,d 49,d 50,d 51,d 52,d 53,d 54,d 55,d 56,d 57,d 58,d 59,d 60,d 61,d 62,d 63,d 64,d 65,d 66,d 67,d 68,d 69,d 70,d 71,d 72,d 73,d 74,d 75,d 76,d 77,d 78,d 79,d 80,d 81,d 82,d 83,d 84,d 85,d 86,d 87,d 88,d 89,d 90,d 91],defers:=[] }
def GZ0 (n:Nat) (b:Bk) (s:Int) (vr vg vm vs vc:Value) (ka:Option Addr) (ks:List Int) (kc:Nat) (a':Act) (w2:World):Prop:=∃ B x,(∃ d,a'=fgG B s vr vg vm vs vc ka ks kc x d)∧LawAt w2 B b [] vr vg vm vs vc none∧n≤B∧∀ i,w2.frozen? ⟨B,i,none⟩=false
theorem ag_0 (hR:RawAt w b vr vg vm vs vc) (hK:KindsAt w):(gp 0).wp Tryz.prog (PZ w (GZ0 w.heap.size b s vr vg vm vs vc ka ks kc)) (fgI (.agg #[vr,vg,vm,vs,vc]) (.slice ka ks.length kc) (.int .u8 s) d) w:=by
 simp only [gp,sqN,sql,sqr,cnd,blk,lpc,Tryz.f3,Option.getD_some,fgI]
 have HR:=Hh hR
 have HK:=Hh hK
 clear hR hK
 go_wp2
 have hbw:Below w.heap.size w (w.alloc (.cells #[vr,vg,vm,vs,vc] 26)):=bel
 refine ⟨rfl,⟨w.heap.size,d 17,fr_of (by kernel_rfl),⟨?_,?_,?_,?_,?_,HR.out.below hbw,HK.out.below hbw,ints_nil⟩,Nat.le_refl _,fun i=>by rw [World.frozen?_alloc_at _ _ _ _ rfl]⟩,hbw⟩ <;> (rw [World.cell?_alloc_at _ _ _ _ rfl];rfl)
def GZ1 (B:Nat) (s:Int) (vr vg vm vs vc:Value) (ka:Option Addr) (ks:List Int) (kc:Nat) (x:Bool) (a':Act) (w2:World):Prop:=∃ d,a'=fgG B s vr vg vm vs vc ka ks kc (.bool x) d
theorem ag_1 {y:Bool} (hE:LawAt w B b [] vr vg vm vs vc none) (hx:y=true↔¬ (SmallB b∧bookAl b=0)):(sql (gp 1)).wp Tryz.prog (PZ w (GZ1 B s vr vg vm vs vc ka ks kc y)) (fgG B s vr vg vm vs vc ka ks kc x d) w:=by
 simp only [gp,sqN,sql,sqr,cnd,blk,lpc,Tryz.f3,Option.getD_some,fgG]
 have hrw:=hE.raw
 obtain ⟨x0,x1,x2,x3,x4,_,_,_⟩:=hE
 have HRW:=Hh hrw
 have hB0:=lt_of_cell x0
 simp only at hB0
 by_cases hs:SmallB b∧bookAl b=0
 ·have HG:=Hh (show (true=true↔SmallB b∧bookAl b=0) by simp [hs])
  obtain rfl:y=false:=by
   cases y with
   | false=>rfl
   | true=>exact absurd hs (hx.1 rfl)
  clear hs hx hrw
  go_wp2_with (go_at_call 13;(with_reducible refine (fit_at HRW.out HG.out).mono ?_);rintro e w1 ⟨rfl,hb1⟩)
  exact ⟨rfl,fr_of (by kernel_rfl),hb1⟩
 ·have HG:=Hh (show (false=true↔SmallB b∧bookAl b=0) by simp [hs])
  obtain rfl:y=true:=hx.2 fun h=>hs h
  clear hs hx hrw
  go_wp2_with (go_at_call 13;(with_reducible refine (fit_at HRW.out HG.out).mono ?_);rintro e w1 ⟨rfl,hb1⟩)
  exact ⟨rfl,fr_of (by kernel_rfl),hb1⟩
structure AgSt (w:World) (B:Nat) (b:Bk) (vr vg vm vs vc:Value) (ca:Option Addr) (cl:List Int):Prop where
 c0:w.cell? ⟨B,0,none⟩=some vr
 c1:w.cell? ⟨B,1,none⟩=some vg
 c2:w.cell? ⟨B,2,none⟩=some vm
 c3:w.cell? ⟨B,3,none⟩=some vs
 c4:w.cell? ⟨B,4,none⟩=some vc
 bk:BookAt w b vr vg vm vs vc
 kd:KindsAt w
 cm:IntsAt w ca cl
theorem AgSt.old {w1:World} (h:AgSt w B b vr vg vm vs vc ca cl) (t:Old w w1):AgSt w1 B b vr vg vm vs vc ca cl:=⟨t.cell2 h.c0,t.cell2 h.c1,t.cell2 h.c2,t.cell2 h.c3,t.cell2 h.c4,t.book h.bk,t.kinds h.kd,t.ints h.cm⟩
theorem AgSt.twin {w1:World} {n:Nat} (h:AgSt w B b vr vg vm vs vc ca cl) (t:Twin n w w1):AgSt w1 B b vr vg vm vs vc ca cl:=⟨(t.cell _).trans h.c0,(t.cell _).trans h.c1,(t.cell _).trans h.c2,(t.cell _).trans h.c3,(t.cell _).trans h.c4,t.book h.bk,t.kinds h.kd,t.ints h.cm⟩
theorem put_book {v0 v1 v2 v3 v4:Value} (h0:w.cell? ⟨B,0,none⟩=some vr) (h1:w.cell? ⟨B,1,none⟩=some vg) (h2:w.cell? ⟨B,2,none⟩=some vm) (h3:w.cell? ⟨B,3,none⟩=some vs) (h4:w.cell? ⟨B,4,none⟩=some vc) :
 Five (((((w.setCell ⟨B,0,none⟩ v0).setCell ⟨B,1,none⟩ v1).setCell ⟨B,2,none⟩ v2).setCell ⟨B,3,none⟩ v3).setCell ⟨B,4,none⟩ v4) B v0 v1 v2 v3 v4∧KS (fun k=>k≠B) w (((((w.setCell ⟨B,0,none⟩ v0).setCell ⟨B,1,none⟩ v1).setCell ⟨B,2,none⟩ v2).setCell ⟨B,3,none⟩ v3).setCell ⟨B,4,none⟩ v4) :=
 ⟨Five.put (by rw [h0];rfl) (by rw [h1];rfl) (by rw [h2];rfl) (by rw [h3];rfl) (by rw [h4];rfl) (lt_of_cell h0),((((KS.setCell (by simp) _ _).trans (KS.setCell (by simp) _ _)).trans (KS.setCell (by simp) _ _)).trans (KS.setCell (by simp) _ _)).trans (KS.setCell (by simp) _ _)⟩
variable {B cn cc ln lc pn pc kc P qn qc k:Nat} {b:Bk} {s t:Int} {vr vg vm vs vc x:Value} {w w0:World} {ca la pa ka qa:Option Addr} {cl ks:List Int} {l ps:List Prt} {p:Prt} {d:Nat→Value}
def GZL (B:Nat) (s:Int) (cn cc ln lc:Nat) (ca la:Option Addr) (w:World):Exit→Act→World→Prop
 | .normal,a',w2=>(∃ d,a'=fgA B s cn cc ln lc ca la d)∧Below w.heap.size w w2
 | _,_,_=>False
theorem ag_L1 (hE:AgSt w B b vr vg vm vs vc ca cl) (hO:BkOk b) (hl:PartsAt w la l) (hll:l.length≤1000000) (hln:ln=l.length) (hp:PartsAt w pa ps) (hpn:pn=ps.length) (hps:ps.length≤1000000) (hcn:cn=cl.length) (hcl:cl.length=b.ss.length) (hC:Came b cl) (hlaw:∀ p∈ps,copies b cl p=0→p∈l) :
 (gp 7).wp Tryz.prog (GZL B s cn cc ln lc ca la w) (fgL B s cn cc ln lc pn pc ca la pa d) w:=by
 simp only [gp,sqN,sql,sqr,cnd,blk,lpc,Tryz.f3,Option.getD_some,fgL]
 have HL:=Hh hl
 have HP:=Hh hp
 have HB:=Hh hE.bk
 have HM:=Hh hE.cm
 have HO:=Hh hO
 have HC:=Hh hC
 have HCL:=Hh hcl
 have HCN:=Hh hcn
 have HLN:=Hh hln
 have HPN:=Hh hpn
 have HLAW:=Hh hlaw
 obtain ⟨c0,c1,c2,c3,c4,_,_,_⟩:=hE
 have hB0:=lt_of_cell c0
 simp only at hB0
 have hpnb:pn≤1000000:=by omega
 clear hl hp hO hC hcl hcn hln hpn hlaw
 go_wp2
 go_loopw [11] (fun i wr=>∃ k:Nat,k≤pn∧i=.int .i64 k∧Below w.heap.size w wr) (fun i _=>pn - (intOf i).toNat)
 case atStart=>exact ⟨0,Nat.zero_le _,rfl,Below.refl _ _⟩
 case round =>
  obtain ⟨k,hk,rfl,hW⟩:=hrel
  have hWs:=hW.size
  by_cases hlt:k < pn
  ·have hkp:k < ps.length:=by rw [← HPN.out];exact hlt
   obtain ⟨lb,lo,rfl,hlb,e0,e1⟩:=HP.out k hkp
   have d0:=(hW.cell (p:=⟨lb,lo+k * 2,none⟩) hlb).trans e0
   have d1:=(hW.cell (p:=⟨lb,lo+k * 2+1,none⟩) hlb).trans e1
   have x0:=(hW.cell (p:=⟨B,0,none⟩) hB0).trans c0
   have x1:=(hW.cell (p:=⟨B,1,none⟩) hB0).trans c1
   have x2:=(hW.cell (p:=⟨B,2,none⟩) hB0).trans c2
   have x3:=(hW.cell (p:=⟨B,3,none⟩) hB0).trans c3
   have x4:=(hW.cell (p:=⟨B,4,none⟩) hB0).trans c4
   have hlb2:lb < wr.heap.size:=Nat.lt_of_lt_of_le hlb hWs
   have hB2:B < wr.heap.size:=by omega
   have hin:=HLAW.out _ (List.getElem_mem hkp)
   have HBr:=Hh (HB.out.below hW)
   generalize ps[k]=q at d0 d1 hin e0 e1
   obtain ⟨qm,qg⟩:=q
   simp only at d0 d1
   generalize hct:copies b cl (qm,qg)=ct at hin
   have HCT:=Hh hct
   clear e0 e1 hct
   by_cases hz:ct=0
   ·have e9:(ct == 0)=true:=by rw [beq_iff_eq];exact hz
    have HH:=Hh (show decide ((qm,qg)∈l)=true by rw [decide_eq_true_iff];exact hin hz)
    clear hin hz
    go_wp2
    (refine wp_region_bel (by kernel_rfl) (by kernel_rfl) ?_;(repeat (go_big_quiet_step ((first | (go_at_call 20;with_reducible exact Calls.bel_of (rCopies_at (HBr.out.below (later_below _ _)) HO.out (HM.out.below (Below.next hW (later_below _ _))) HCN.out HCL.out HC.out (qm,qg) HCT.out)) | (go_at_call 21;with_reducible exact Calls.bel_of (hasPart_at (p:=(qm,qg)) (HL.out.below (Below.next hW (later_below _ _))) HLN.out hll HH.out))))));refine wpQuiet_nil ?_;rintro _ ⟨xq,rfl⟩)
    go_wp2
    go_roundw
    case rel=>exact ⟨k+1,by omega,by go_num,Below.next hW (later_below _ _)⟩
    case measure=>simp [intOf];omega
   ·have e9:(ct == 0)=false:=by rw [beq_eq_false_iff_ne];exact hz
    clear hin hz
    go_wp2
    (refine wp_region_bel (by kernel_rfl) (by kernel_rfl) ?_;(repeat (go_big_quiet_step ((go_at_call 20;with_reducible exact Calls.bel_of (rCopies_at (HBr.out.below (later_below _ _)) HO.out (HM.out.below (Below.next hW (later_below _ _))) HCN.out HCL.out HC.out (qm,qg) HCT.out)))));refine wpQuiet_nil ?_;rintro _ ⟨xq,rfl⟩)
    go_wp2
    go_roundw
    case rel=>exact ⟨k+1,by omega,by go_num,Below.next hW (later_below _ _)⟩
    case measure=>simp [intOf];omega
  ·obtain rfl:k=pn:=by omega
   go_wp2
   exact ⟨fr_of (by kernel_rfl),hW⟩
variable {B cn cc ln lc pn pc kc P qn qc k:Nat} {b:Bk} {s t:Int} {vr vg vm vs vc x:Value} {w w0:World} {ca la pa ka qa:Option Addr} {cl ks:List Int} {l ps:List Prt} {p:Prt} {d:Nat→Value}
structure CE (w0 w:World):Prop where
 size:w0.heap.size≤w.heap.size
 cell:∀ b o,b < w0.heap.size→w.cell? ⟨b,o,none⟩=w0.cell? ⟨b,o,none⟩
section
variable {X:World}
theorem CE.cell2 (h:CE w0 X) {b o:Nat} {v:Value} (hc:w0.cell? ⟨b,o,none⟩=some v):X.cell? ⟨b,o,none⟩=some v:=(h.cell b o (lt_of_cell hc)).trans hc
theorem CE.onN (h:CE w0 w) (k:OldN w0.heap.size w X):CE w0 X:=⟨Nat.le_trans h.size k.size,fun b o hb=>(World.cell?_of_block (k.block b hb)).trans (h.cell b o hb)⟩
theorem CE.msgs (h:CE w0 X) {a:Option Addr} {l:List Msg} (k:MsgsAt w0 a l):MsgsAt X a l:=fun i hi=>by
 obtain ⟨b,o,e,hlt,h1,h2,h3⟩:=k i hi
 exact ⟨b,o,e,Nat.lt_of_lt_of_le hlt h.size,h.cell2 h1,h.cell2 h2,h.cell2 h3⟩
theorem CE.parts (h:CE w0 X) {a:Option Addr} {l:List Prt} (k:PartsAt w0 a l):PartsAt X a l:=fun i hi=>by
 obtain ⟨b,o,e,hlt,h1,h2⟩:=k i hi
 exact ⟨b,o,e,Nat.lt_of_lt_of_le hlt h.size,h.cell2 h1,h.cell2 h2⟩
theorem CE.sess (h:CE w0 X) {a:Option Addr} {l:List (List Prt)} (k:SesRaw w0 a l):SesRaw X a l:=fun i hi=>by
 obtain ⟨b,o,e,hlt,pa,pc,h1,h2,h3⟩:=k i hi
 exact ⟨b,o,e,Nat.lt_of_lt_of_le hlt h.size,pa,pc,h.cell2 h1,h2,h.parts h3⟩
theorem CE.recs (h:CE w0 X) {a:Option Addr} {l:List Rec} (k:RecsAt w0 a l):RecsAt X a l:=fun i hi=>by
 obtain ⟨b,o,e,hlt,h0,h1,h2,h3⟩:=k i hi
 exact ⟨b,o,e,Nat.lt_of_lt_of_le hlt h.size,h.cell2 h0,h.cell2 h1,h.cell2 h2,h.cell2 h3⟩
theorem CE.raw (h:CE w0 X) (k:RawAt w0 b vr vg vm vs vc):RawAt X b vr vg vm vs vc:=by
 obtain ⟨h1,h2,⟨a1,c1,e1,h3⟩,⟨a2,c2,e2,h4⟩,a3,c3,e3,h5⟩:=k
 exact ⟨h1,h2,⟨a1,c1,e1,h.msgs h3⟩,⟨a2,c2,e2,h.sess h4⟩,a3,c3,e3,h.recs h5⟩
theorem CE.kinds (h:CE w0 X) (k:KindsAt w0):KindsAt X:=⟨Nat.lt_of_lt_of_le k.1 h.size,fun i hi=>by
 obtain ⟨⟨q,e,h0⟩,h1,h2,h3,h4⟩:=k.2 i hi
 exact ⟨⟨q,e,h.cell2 h0⟩,h.cell2 h1,h.cell2 h2,h.cell2 h3,h.cell2 h4⟩⟩
end
def GZA (B:Nat) (s:Int) (tb:Bk) (vr vg vm vs:Value) (cl:List Int) (l:List Prt) (a':Act) (w2:World):Prop:=∃ ca cc la lc vc',(∃ d,a'=fgA B s cl.length cc l.length lc ca la d)∧AgSt w2 B tb vr vg vm vs vc' ca cl∧PartsAt w2 la l
theorem ag_A {tb:Bk} (hR0:RawAt w0 b vr vg vm vs vc) (hK0:KindsAt w0) (h0:CE w0 w) (hB:w0.heap.size≤B) (hE:LawAt w B b [] vr vg vm vs vc none) (hF:∀ i,w.frozen? ⟨B,i,none⟩=false) (hS:SmallB b) (hk:bookAl b=0) (hU:U16sAt w ka ks) (hcl:cameP b ks=cl) (htb:truB b cl=tb) (hal:bookAl tb=0) (hop:openAl tb 0=0) (hl:missI tb=l) (hll:l.length≤1000000) (hlaw:∀ p∈partsL tb,copies tb cl p=0→p∈l) :
 wps Tryz.prog [gp 2,gp 3,gp 4,gp 5,gp 6,gp 7] (fun a' w2=>GZA B s tb vr vg vm vs cl l a' w2∧OldN w0.heap.size w w2) (fgG B s vr vg vm vs vc ka ks kc x d) w:=by
 unfold fgG
 obtain ⟨rfl,rfl,⟨ma,mc,rfl,_⟩,⟨sa,sc,rfl,_⟩,ra,rc,rfl,_⟩:=id hR0
 have hss20:b.ss.length≤20:=hS.2.1
 have hms20:b.ms.length≤20:=hS.1
 have hre:Really b cl:=by rw [← hcl];exact cameP_really b ks
 have hms:tb.ms=b.ms:=by rw [← htb];rfl
 have hss:tb.ss=b.ss:=by rw [← htb];rfl
 have hcn:cl.length=tb.ss.length:=by rw [hss];exact hre.1
 have hcm:Came tb cl:=fun i hi=>by
  have hi2:i < cl.length:=by omega
  obtain ⟨k1,k2,k3⟩:=hre.2 i hi2
  rw [getD_of_lt hi2]
  refine ⟨k1,?_⟩
  simp only [hss]
  exact k3
 have HR0:=Hh hR0
 have HK0:=Hh hK0
 have HS:=Hh hS
 have HBA:=Hh hk
 have HNM:=Hh (show ∀ m∈tb.ms,m.name.size≤1000000 by rw [hms];exact hS.names)
 have HAL:=Hh hal
 have HOP:=Hh hop
 have HL:=Hh hl
 have HLAW:=Hh hlaw
 have HTB:=Hh htb
 have HRE:=Hh hre
 have HCM:=Hh hcm
 have HCN:=Hh hcn
 have HSS:=Hh hss
 have HMS:=Hh hms
 have HCL:=Hh hcl
 have HS2:=Hh hS.2.2.2.2
 have HNS:=Hh h0.size
 have H0:=Hh h0
 have HU:=Hh hU
 have HF:=Hh hF
 clear hR0 hK0 hS hk hal hop hl hlaw htb hre hcm hcn hss hms hcl h0 hU hF
 refine wps_nq ?_
 obtain ⟨c9,hcc⟩:∃ c,gp 2=c:=⟨_,rfl⟩
 rw [hcc]
 simp only [gp,sqN,sql,sqr,cnd,blk,lpc,Tryz.f3,Option.getD_some] at hcc
 subst hcc
 obtain ⟨c0,c1,c2,c3,c4,_,_,_⟩:=id hE
 have HBx:=Hh (hE.raw.book HS.out)
 have EE:=Hh hE
 clear hE
 have hB0:=lt_of_cell c0
 simp only at hB0
 go_wp2_with (go_at_call 15;(with_reducible refine (came_at HBx.out hss20 HS2.out HU.out rfl).mono ?_);rintro e w1 ⟨ca,cc,rfl,hx1,hb1⟩)
 rw [HCL.out] at hx1 ⊢
 have hBw:B < w.heap.size:=hB0
 refine ⟨rfl,fun X1 t1=>?_⟩
 have o1:=Old.twin0 (Old.ofBelow hb1) t1
 have E1:=EE.out.old o1
 have CI:=Hh (row_twin hx1 t1)
 have F1:=Hh (fun i=>(o1.frozen2 hB0 i).trans (HF.out i))
 have hBX:B < X1.heap.size:=Nat.lt_of_lt_of_le hB0 o1.size
 have OO1:=Hh o1
 clear c0 c1 c2 c3 c4 HBx EE hb1 t1 o1 hB0 hx1
 refine wps_nq ?_
 obtain ⟨c9,hcc⟩:∃ c,gp 3=c:=⟨_,rfl⟩
 rw [hcc]
 simp only [gp,sqN,sql,sqr,cnd,blk,lpc,Tryz.f3,Option.getD_some] at hcc
 subst hcc
 obtain ⟨c0,c1,c2,c3,c4,_,_,_⟩:=id E1
 have HBx:=Hh (E1.raw.book HS.out)
 have HKx:=Hh E1.kd
 clear E1
 go_wp2_with (go_at_call 16;(with_reducible refine (truly_at HBx.out HBA.out (ints_of_row CI.out) rfl HRE.out).mono ?_);rintro e w1 ⟨ta,tc,rfl,hbk1,hrow1,hb1⟩;have q0:=(hb1.cell (p:=⟨B,0,none⟩) hBX).trans c0;have q1:=(hb1.cell (p:=⟨B,1,none⟩) hBX).trans c1;have q2:=(hb1.cell (p:=⟨B,2,none⟩) hBX).trans c2;have q3:=(hb1.cell (p:=⟨B,3,none⟩) hBX).trans c3;have q4:=(hb1.cell (p:=⟨B,4,none⟩) hBX).trans c4;have f0:=(hb1.frozen (p:=⟨B,0,none⟩) hBX).trans (F1.out 0);have f1:=(hb1.frozen (p:=⟨B,1,none⟩) hBX).trans (F1.out 1);have f2:=(hb1.frozen (p:=⟨B,2,none⟩) hBX).trans (F1.out 2);have f3:=(hb1.frozen (p:=⟨B,3,none⟩) hBX).trans (F1.out 3);have f4:=(hb1.frozen (p:=⟨B,4,none⟩) hBX).trans (F1.out 4);have hB1:B < w1.heap.size:=Nat.lt_of_lt_of_le hBX hb1.size;have HBK:=Hh hbk1;have HROW:=Hh hrow1;clear hbk1 hrow1)
 refine ⟨rfl,fun X2 t1=>?_⟩
 obtain ⟨⟨g0,g1,g2,g3,g4,_⟩,hks⟩:=put_book (v0:=.int .i64 b.room) (v1:=.int .i64 b.gap) (v2:=.slice ma b.ms.length mc) (v3:=.slice sa b.ss.length sc) (v4:=.slice ta b.rs.length tc) q0 q1 q2 q3 q4
 have on1:OldN w0.heap.size w w1:=(OldN.ofOld OO1.out HNS.out).trans (OldN.ofOld (Old.ofBelow hb1) (Nat.le_trans HNS.out OO1.out.size))
 have on2:=(on1.ks HNS.out hB hks).twin0 t1
 have h02:CE w0 X2:=H0.out.onN on2
 have hB2:=(h02.raw HR0.out).book HS.out
 have hrow2:=ownsRow_ks HROW.out hks (fun k hk=>by show k≠B;omega)
 have hrr:=recs_of_row (row_twin hrow2 t1)
 rw [HTB.out] at hrr
 have hcI:=ints_of_row (row_twin (ownsRow_ks (ownsRow_below CI.out hb1) hks (fun k hk=>by show k≠B;omega)) t1)
 have E2:AgSt X2 B tb (.int .i64 b.room) (.int .i64 b.gap) (.slice ma b.ms.length mc) (.slice sa b.ss.length sc) (.slice ta b.rs.length tc) ca cl:=by
  refine ⟨(t1.cell _).trans g0,(t1.cell _).trans g1,(t1.cell _).trans g2,(t1.cell _).trans g3,(t1.cell _).trans g4,?_,h02.kinds HK0.out,hcI⟩
  have hrl:tb.rs.length=b.rs.length:=by rw [← HTB.out];exact truB_len b cl
  rw [← HTB.out] at hrr ⊢
  exact ⟨hB2.room,hB2.gap,hB2.ms,hB2.ss,ta,tc,by rw [truB_len],hrr,by rw [truB_len];have:=recs_len HBA.out;omega⟩
 have hG:=HAL.out
 have HGR:=Hh (bookAl_ok hG).1.groups
 have HBO:=Hh (bookAl_ok hG).1
 have hms2:tb.ms.length≤20:=by rw [HMS.out];exact hms20
 have OO2:=Hh on2
 clear c0 c1 c2 c3 c4 HBx HKx hks g0 g1 g2 g3 g4 on1 on2 h02 hB2 hrow2 hrr hcI hG t1 hb1 q0 q1 q2 q3 q4 f0 f1 f2 f3 f4 hB1 HBK HROW F1 OO1 CI
 generalize Value.slice ta b.rs.length tc=vc2 at E2 ⊢
 refine wps_nq ?_
 obtain ⟨c9,hcc⟩:∃ c,gp 4=c:=⟨_,rfl⟩
 rw [hcc]
 simp only [gp,sqN,sql,sqr,cnd,blk,lpc,Tryz.f3,Option.getD_some] at hcc
 subst hcc
 obtain ⟨c0,c1,c2,c3,c4,_,_,_⟩:=id E2
 have HBx:=Hh E2.bk
 have HKx:=Hh E2.kd
 have EE:=Hh E2
 clear E2
 have hB0:=lt_of_cell c0
 simp only at hB0
 go_wp2_with (go_at_call 17;(with_reducible refine (missingApi_ok HBx.out HNM.out HKx.out HOP.out).mono ?_);rintro e w1 ⟨qa,qc,rfl,hx1,hb1⟩)
 rw [HL.out] at hx1 ⊢
 refine ⟨rfl,fun X3 t1=>?_⟩
 have o1:=Old.twin0 (Old.ofBelow hb1) t1
 have E3:=EE.out.old o1
 have OO3:=Hh (OO2.out.trans (OldN.ofOld o1 (Nat.le_trans HNS.out OO2.out.size)))
 have LI:=Hh (t1.parts hx1)
 clear hx1
 clear c0 c1 c2 c3 c4 HBx HKx EE t1 o1 hB0 hb1 OO2
 refine wps_nq ?_
 obtain ⟨c9,hcc⟩:∃ c,gp 5=c:=⟨_,rfl⟩
 rw [hcc]
 simp only [gp,sqN,sql,sqr,cnd,blk,lpc,Tryz.f3,Option.getD_some] at hcc
 subst hcc
 obtain ⟨c0,c1,c2,c3,c4,_,_,_⟩:=id E3
 have HBx:=Hh E3.bk
 have HKx:=Hh E3.kd
 have EE:=Hh E3
 clear E3
 have hB0:=lt_of_cell c0
 simp only at hB0
 go_wp2_with (go_at_call 18;(with_reducible refine (ordered_at HBx.out HGR.out LI.out rfl hll (fun p hp=>missI_isPart (by rw [HL.out];exact hp)) (by have:=missI_sorted tb;rwa [HL.out] at this)).mono ?_);rintro e w1 ⟨rfl,hb1⟩)
 refine ⟨rfl,fun X4 t1=>?_⟩
 have o1:=Old.twin0 (Old.ofBelow hb1) t1
 have E4:=EE.out.old o1
 have OO4:=Hh (OO3.out.trans (OldN.ofOld o1 (Nat.le_trans HNS.out OO3.out.size)))
 replace LI:=Hh (o1.parts LI.out)
 clear c0 c1 c2 c3 c4 HBx HKx EE t1 o1 hB0 hb1 OO3
 refine wps_nq ?_
 obtain ⟨c9,hcc⟩:∃ c,gp 6=c:=⟨_,rfl⟩
 rw [hcc]
 simp only [gp,sqN,sql,sqr,cnd,blk,lpc,Tryz.f3,Option.getD_some] at hcc
 subst hcc
 obtain ⟨c0,c1,c2,c3,c4,_,_,_⟩:=id E4
 have HBx:=Hh E4.bk
 have HKx:=Hh E4.kd
 have EE:=Hh E4
 clear E4
 have hB0:=lt_of_cell c0
 simp only at hB0
 go_wp2_with (go_at_call 19;(with_reducible refine (rPartsOf_all HBx.out HBO.out hms2).mono ?_);rintro e w1 ⟨pa,pc,rfl,hx1,hb1⟩)
 refine ⟨rfl,fun X5 t1=>?_⟩
 have o1:=Old.twin0 (Old.ofBelow hb1) t1
 have E5:=EE.out.old o1
 have OO5:=Hh (OO4.out.trans (OldN.ofOld o1 (Nat.le_trans HNS.out OO4.out.size)))
 replace LI:=Hh (o1.parts LI.out)
 have PI:=Hh (t1.parts hx1)
 clear hx1
 clear c0 c1 c2 c3 c4 HBx HKx EE t1 o1 hB0 hb1 OO4
 refine wps_nq (Code.wp_mono (fun e a' w1 h=>?_) (wp_fr (F:=fgL B s cl.length cc l.length qc (partsL tb).length pc ca qa pa) (by kernel_rfl) fun d=>ag_L1 E5 HBO.out LI.out hll rfl PI.out rfl (Nat.le_trans (parts_bd HBO.out) (by decide)) rfl HCN.out HCM.out HLAW.out))
 cases e <;> try exact h.elim
 obtain ⟨⟨d1,rfl⟩,hb⟩:=h
 refine ⟨rfl,fun X6 t1=>?_⟩
 have o1:=(Old.ofBelow hb).twin0 t1
 exact ⟨⟨ca,cc,qa,qc,_,⟨d1,rfl⟩,E5.old o1,o1.parts LI.out⟩,OO5.out.trans (OldN.ofOld o1 (Nat.le_trans HNS.out OO5.out.size))⟩
variable {B pl iN mN pc xc dc P Q C ec wn:Nat} {b:Bk} {s s2 s3 g u c lo hi gr:Int} {vr vg vm vs vc x:Value} {w w0:World} {pa xa da ea:Option Addr} {q dq sn:List Int} {d:Nat→Value}
section
variable {b:Bk} {vr vg vm vs vc:Value} {w:World}
end
def ListI (w:World) (a:Option Addr) (ls:List (List Int)):Prop:=∀ i (h:i < ls.length),∃ b o xa xc,a=some ⟨b,o,none⟩∧b < w.heap.size∧w.cell? ⟨b,o+i,none⟩=some (.slice xa ls[i].length xc)∧IntsAt w xa ls[i]
theorem ListI.of {w:World} {a:Option Addr} {ls:List (List Int)} (h:ListsAt w a ls):ListI w a ls:=fun i hi=>by
 obtain ⟨b,o,e,hlt,v,hc,hv⟩:=h i hi
 obtain ⟨xa,xc,rfl,hx,_⟩:=hv.form
 exact ⟨b,o,xa,xc,e,hlt,hc,hx⟩
theorem ListI.old {w w1:World} {a:Option Addr} {ls:List (List Int)} (h:ListI w a ls) (t:Old w w1):ListI w1 a ls:=fun i hi=>by
 obtain ⟨b,o,xa,xc,e,hlt,hc,hx⟩:=h i hi
 exact ⟨b,o,xa,xc,e,Nat.lt_of_lt_of_le hlt t.size,t.cell2 hc,t.ints hx⟩
theorem ListI.twin {n:Nat} {w w1:World} {a:Option Addr} {ls:List (List Int)} (h:ListI w a ls) (t:Twin n w w1):ListI w1 a ls:=fun i hi=>by
 obtain ⟨b,o,xa,xc,e,hlt,hc,hx⟩:=h i hi
 exact ⟨b,o,xa,xc,e,by rw [t.size];exact hlt,(t.cell _).trans hc,t.ints hx⟩
variable {B cn cc ln lc pn pc kc P qn qc k:Nat} {b:Bk} {s t:Int} {vr vg vm vs vc x:Value} {w w0:World} {ca la pa ka qa:Option Addr} {cl ks:List Int} {l ps:List Prt} {p:Prt} {d:Nat→Value}
def fgQ (B P qn qc:Nat) (qa:Option Addr) (d:Nat→Value):Act:={ tmps:=#[d 0,d 1,d 2,.pointer (some ⟨B,0,none⟩),d 4,d 5,d 6,d 7,d 8,d 9,d 10,d 11,.pointer (some ⟨P,0,none⟩),.slice qa qn qc,d 14,d 15,d 16,d 17,d 18,d 19,d 20,d 21,d 22,d 23,d 24,d 25,d 26,d 27,d 28,d 29,d 30,d 31,d 32,d 33,d 34,d 35,d 36,d 37,d 38,d 39,d 40,d 41,d 42,d 43,d 44,d 45,d 46,d 47,d 48,d 49,d 50,d 51,d 52,d 53,d 54,d 55,d 56,d 57,d 58,d 59,d 60,d 61,d 62,d 63,d 64,d 65,d 66,d 67,d 68,d 69,d 70,d 71,d 72,d 73,d 74,d 75,d 76,d 77,d 78,d 79,d 80,d 81,d 82,d 83,d 84,d 85,d 86,d 87,d 88,d 89,d 90,d 91],defers:=[] }
def GZ8 (B:Nat) (s:Int) (cn cc ln lc:Nat) (ca la:Option Addr) (y:Bool) (a':Act) (w2:World):Prop:=a'.tmps[65]? = some (.bool y)∧∃ d,a'=fgA B s cn cc ln lc ca la d
theorem ag_8 {y:Bool} (hy:((ln:Int) == 0)=y):(sql (gp 8)).wp Tryz.prog (PZ w (GZ8 B s cn cc ln lc ca la y)) (fgA B s cn cc ln lc ca la d) w:=by
 simp only [gp,sqN,sql,sqr,cnd,blk,lpc,Tryz.f3,Option.getD_some,fgA]
 cases y with
 | true =>
  go_wp2
  exact ⟨rfl,⟨rfl,fr_of (by kernel_rfl)⟩,bel⟩
 | false =>
  go_wp2
  exact ⟨rfl,⟨rfl,fr_of (by kernel_rfl)⟩,bel⟩
structure GSt (w:World) (B P:Nat) (b:Bk) (vr vg vm vs vc:Value) (ca qa:Option Addr) (cl:List Int) (p:Prt):Prop where
 ag:AgSt w B b vr vg vm vs vc ca cl
 ls:ListI w qa (pasts b)
 p0:w.cell? ⟨P,0,none⟩=some (.int .i64 p.1)
 p1:w.cell? ⟨P,1,none⟩=some (.int .i64 p.2)
theorem GSt.old {w1:World} (h:GSt w B P b vr vg vm vs vc ca qa cl p) (t:Old w w1):GSt w1 B P b vr vg vm vs vc ca qa cl p:=⟨h.ag.old t,h.ls.old t,t.cell2 h.p0,t.cell2 h.p1⟩
theorem GSt.twin {w1:World} {n:Nat} (h:GSt w B P b vr vg vm vs vc ca qa cl p) (t:Twin n w w1):GSt w1 B P b vr vg vm vs vc ca qa cl p:=⟨h.ag.twin t,h.ls.twin t,(t.cell _).trans h.p0,(t.cell _).trans h.p1⟩
def GZQ (B:Nat) (b:Bk) (vr vg vm vs vc:Value) (ca:Option Addr) (cl:List Int) (p:Prt) (a':Act) (w2:World):Prop:=∃ P qc qa,(∃ d,a'=fgQ B P (pasts b).length qc qa d)∧GSt w2 B P b vr vg vm vs vc ca qa cl p
theorem ag_P {iN:Nat} (hE:AgSt w B b vr vg vm vs vc ca cl) (hL:PartsAt w la l) (hin:iN < l.length) (hp:l[iN]=p) (hi:s % (l.length:Int)=(iN:Int)) (hll:l.length≤1000000) (hs0:0≤s) (hs1:s≤255) (hO:BkOk b) (hr:∀ r∈b.rs,recAl b r=0) :
 wps Tryz.prog [gp 9,gp 10] (fun a' w2=>GZQ B b vr vg vm vs vc ca cl p a' w2∧Old w w2) (fgA B s cn cc l.length lc ca la d) w:=by
 unfold fgA
 have HO:=Hh hO
 have HR:=Hh hr
 obtain ⟨lb,lo,rfl,hlb,e0,e1⟩:=hL iN hin
 rw [hp] at e0 e1
 have HI:=Hh hi
 have hnz:((l.length:Int) == 0)=false:=by rw [beq_eq_false_iff_ne];omega
 have hin2:(iN:Int) < (l.length:Int):=by omega
 clear hO hr hL hp
 refine wps_nq ?_
 obtain ⟨c9,hcc⟩:∃ c,gp 9=c:=⟨_,rfl⟩
 rw [hcc]
 simp only [gp,sqN,sql,sqr,cnd,blk,lpc,Tryz.f3,Option.getD_some] at hcc
 subst hcc
 have HE:=Hh hE
 clear hE
 go_wp2
 have hbz:Below w.heap.size w (w.alloc (.cells #[.int .i64 p.1,.int .i64 p.2] 41)):=bel
 have z0:(w.alloc (.cells #[.int .i64 p.1,.int .i64 p.2] 41)).cell? ⟨w.heap.size,0,none⟩=some (.int .i64 p.1):=by rw [World.cell?_alloc_at _ _ _ _ rfl];rfl
 have z1:(w.alloc (.cells #[.int .i64 p.1,.int .i64 p.2] 41)).cell? ⟨w.heap.size,1,none⟩=some (.int .i64 p.2):=by rw [World.cell?_alloc_at _ _ _ _ rfl];rfl
 refine ⟨rfl,fun X1 t1=>?_⟩
 have o1:=(Old.ofBelow hbz).twin0 t1
 have E1:=HE.out.old o1
 have Z0:=Hh ((t1.cell _).trans z0)
 have Z1:=Hh ((t1.cell _).trans z1)
 have OO1:=Hh o1
 clear hbz z0 z1 t1 o1 HE e0 e1 hlb hnz hin2
 generalize w.heap.size=P at Z0 Z1 ⊢
 refine wps_nq ?_
 obtain ⟨c9,hcc⟩:∃ c,gp 10=c:=⟨_,rfl⟩
 rw [hcc]
 simp only [gp,sqN,sql,sqr,cnd,blk,lpc,Tryz.f3,Option.getD_some] at hcc
 subst hcc
 obtain ⟨c0,c1,c2,c3,c4,_,_,_⟩:=id E1
 have HBx:=Hh E1.bk
 have HKx:=Hh E1.kd
 have EE:=Hh E1
 clear E1
 have hB0:=lt_of_cell c0
 simp only at hB0
 go_wp2_with (go_at_call 22;(with_reducible refine (rPastsOf_at HBx.out HO.out HR.out).mono ?_);rintro e w1 ⟨qa,qc,pvs,rfl,hrow1,hl1,hb1⟩)
 have hli:=ListI.of (lists_of_row hrow1 hl1)
 refine ⟨rfl,fun X2 t1=>?_⟩
 have o1:=(Old.ofBelow hb1).twin0 t1
 exact ⟨⟨P,qc,qa,fr_of (by kernel_rfl),EE.out.old o1,hli.twin t1,o1.cell2 Z0.out,o1.cell2 Z1.out⟩,OO1.out.trans o1⟩
def GZP (B P qn qc:Nat) (qa:Option Addr) (k:Nat) (a':Act) (w2:World):Prop:=∃ d,a'=fgP B P qn qc qa k d
theorem ag_18:(sql (gp 11)).wp Tryz.prog (PZ w (GZP B P qn qc qa 0)) (fgQ B P qn qc qa d) w:=by
 simp only [gp,sqN,sql,sqr,cnd,blk,lpc,Tryz.f3,Option.getD_some,fgQ]
 go_wp2
 exact ⟨rfl,fr_of (by kernel_rfl),bel⟩
theorem ag_head (hk:k < qn) (hq:qn≤1000000):(sql gBody).wp Tryz.prog (PZ w (GZP B P qn qc qa k)) (fgP B P qn qc qa k d) w:=by
 simp only [gBody,gp,sqN,sql,sqr,cnd,blk,lpc,Tryz.f3,Option.getD_some,fgP]
 go_wp2
 exact ⟨rfl,fr_of (by kernel_rfl),bel⟩
section
variable {ct:Int}
theorem past_cells (hE:GSt w B P b vr vg vm vs vc ca qa cl p) (hk:k < (pasts b).length):∃ lb lo xa xc,qa=some ⟨lb,lo,none⟩∧w.cell? ⟨lb,lo+k,none⟩=some (.slice xa (pasts b)[k].length xc)∧IntsAt w xa (pasts b)[k]:=by
 obtain ⟨lb,lo,xa,xc,e,_,h1,h2⟩:=hE.ls k hk
 exact ⟨lb,lo,xa,xc,e,h1,h2⟩
theorem ag_body (hE:GSt w B P b vr vg vm vs vc ca qa cl p) (hO:BkOk b) (hk:k < (pasts b).length) (hq:qn=(pasts b).length) (hq2:qn≤1000000) (hct:copies b (pasts b)[k] p≠0):gBody.wp Tryz.prog (PZ w (GZP B P qn qc qa (k+1))) (fgP B P qn qc qa k d) w:=by
 obtain ⟨lb,lo,xa,xc,rfl,e0,hx⟩:=past_cells hE hk
 have hxm:=List.getElem_mem hk
 have HXL:=Hh (past_len hxm)
 have HXC:=Hh (past_came hxm)
 have HX:=Hh hx
 have HO:=Hh hO
 have HB:=Hh hE.ag.bk
 generalize hct2:copies b (pasts b)[k] p=ct at hct
 have HCT:=Hh hct2
 generalize (pasts b)[k]=y at e0 HXL HXC HX HCT
 have hkq:k < qn:=by omega
 have e9:(ct == 0)=false:=by rw [beq_eq_false_iff_ne];exact hct
 obtain ⟨⟨c0,c1,c2,c3,c4,_,_,_⟩,_,p0,p1⟩:=hE
 have hB0:=lt_of_cell c0
 have hP0:=lt_of_cell p0
 have hl0:=lt_of_cell e0
 simp only at hB0 hP0 hl0
 obtain ⟨pm,pg⟩:=p
 simp only at p0 p1
 clear hx hO hct hct2 hxm hq hk
 simp only [gBody,gp,sqN,sql,sqr,cnd,blk,lpc,Tryz.f3,Option.getD_some,fgP]
 go_wp2
 (refine wp_region_bel (by kernel_rfl) (by kernel_rfl) ?_;(repeat (go_big_quiet_step ((go_at_call 20;with_reducible exact Calls.bel_of (rCopies_at (HB.out.below (later_below _ _)) HO.out (HX.out.below (later_below _ _)) rfl HXL.out HXC.out (pm,pg) HCT.out)))));refine wpQuiet_nil ?_;rintro _ ⟨xq,rfl⟩)
 go_wp2
 exact ⟨rfl,fr_of (by kernel_rfl),later_below _ _⟩
theorem ag_21 (hE:GSt w B P b vr vg vm vs vc ca qa cl p) (hO:BkOk b) (hk:k < (pasts b).length) (hq:qn=(pasts b).length) (hq2:qn≤1000000) (hct:copies b (pasts b)[k] p=0):(sql (blk (sql (sqr gBody)))).wp Tryz.prog (PZ w (fun a' _=>a'.tmps[90]? = some (.bool true)∧Kn a' 92 [])) (fgP B P qn qc qa k d) w:=by
 obtain ⟨lb,lo,xa,xc,rfl,e0,hx⟩:=past_cells hE hk
 have hxm:=List.getElem_mem hk
 have HXL:=Hh (past_len hxm)
 have HXC:=Hh (past_came hxm)
 have HX:=Hh hx
 have HO:=Hh hO
 have HB:=Hh hE.ag.bk
 have HCT:=Hh hct
 generalize (pasts b)[k]=y at e0 HXL HXC HX HCT
 have hkq:k < qn:=by omega
 obtain ⟨⟨c0,c1,c2,c3,c4,_,_,_⟩,_,p0,p1⟩:=hE
 have hB0:=lt_of_cell c0
 have hP0:=lt_of_cell p0
 have hl0:=lt_of_cell e0
 simp only at hB0 hP0 hl0
 obtain ⟨pm,pg⟩:=p
 simp only at p0 p1
 clear hx hO hct hxm hq hk
 simp only [gBody,gp,sqN,sql,sqr,cnd,blk,lpc,Tryz.f3,Option.getD_some,fgP]
 (refine wp_region_bel (by kernel_rfl) (by kernel_rfl) ?_;(repeat (go_big_quiet_step ((go_at_call 20;with_reducible exact Calls.bel_of (rCopies_at (HB.out.below (later_below _ _)) HO.out (HX.out.below (later_below _ _)) rfl HXL.out HXC.out (pm,pg) HCT.out)))));refine wpQuiet_nil ?_;rintro _ ⟨xq,rfl⟩)
 exact ⟨rfl,⟨rfl,⟨rfl,rfl,trivial⟩⟩,later_below _ _⟩
end
variable {B cn cc ln lc pn pc kc P qn qc k:Nat} {b:Bk} {s t:Int} {vr vg vm vs vc x:Value} {w w0:World} {ca la pa ka qa:Option Addr} {cl ks:List Int} {l ps:List Prt} {p:Prt} {d:Nat→Value}
theorem ag_leaves {a:Act} {k:List Item} (g6:a.tmps[6]? = some (.bool true)) (df:a.defers=[]) (h:Old w0 w) :
 Leaving0 Tryz.prog (fun v w'=>v=.bool true∧Old w0 w') { (Go.Conc.base 3).at a k with mode:=.returning } [] w:=by
 refine ⟨rfl,rfl,rfl,df,by kernel_rfl,.bool true,_,Tryz.func3,fun d=>⟨⟨rfl,h.at d⟩,#[],?_,by simp⟩⟩
 rw [Sem.runT_eq]
 refine Prod.ext ?_ ?_ <;> simp [results,Tryz.results3,go_sem,Frame.at,Go.Conc.base,g6]
theorem agFrame {c:Code} {x0 x1 x2:Value} (hc:Tryz.f3.body=some c):Frame.enter Tryz.prog 3 #[x0,x1,x2] .normal=(Go.Conc.base 3).at (fgI x0 x1 x2 fun _=>undef) [.code c]:=by
 rw [Go.Conc.enter_at #[x0,x1,x2] Tryz.func3 hc]
 simp only [Tryz.ntmps3,fgI,List.size_toArray,List.length_cons,List.length_nil,Nat.reduceAdd,Nat.reduceSub,Array.replicate_succ,Array.replicate_zero,List.push_toArray,List.append_toArray,List.nil_append,List.cons_append]
theorem stored_leads {w':World} (hK:KindsAt w) (t:Twin 0 w w') (c:Frame) (cs:List Frame):Leads Tryz.prog (fun fr' cs' w1=>∃ v,fr'=c.finish v∧cs'=cs∧v=.bool true∧Old w w1) (Frame.enter Tryz.prog 14 #[] .normal) (c::cs) w':=by
 refine (stored_co (t.kinds hK) c cs).mono ?_
 rintro fr' cs' w2 ⟨h1,h2,ho⟩
 exact ⟨_,h1,h2,rfl,t.old0 ho⟩
theorem U16sAt.twin {w1:World} {n:Nat} (h:U16sAt w ka ks) (t:Twin n w w1):U16sAt w1 ka ks:=fun i hi=>by
 obtain ⟨b,o,e,hlt,h1,h2⟩:=h i hi
 exact ⟨b,o,e,by rw [t.size];exact hlt,(t.cell _).trans h1,h2⟩
theorem U16sAt.old {w1:World} (h:U16sAt w ka ks) (t:Old w w1):U16sAt w1 ka ks:=fun i hi=>by
 obtain ⟨b,o,e,hlt,h1,h2⟩:=h i hi
 exact ⟨b,o,e,Nat.lt_of_lt_of_le hlt t.size,t.cell2 h1,h2⟩
theorem ag_early2 (hold:Old w0 w) (hK:KindsAt w) {a:Act} (q:Kn a 92 []) {kk:List Item} :
 LeadsA Tryz.prog (Leaving0 Tryz.prog fun v w'=>v=.bool true∧Old w0 w') ((Go.Conc.base 3).at a (.code (cnd (sqr (gp 1)))::kk)) [] w:=by
 have nb:(Go.Conc.base 3).kind=.normal:=rfl
 simp only [gBody,gp,sqN,sql,sqr,cnd,blk,lpc,Tryz.f3,Option.getD_some]
 refine all_seq ?_
 refine all_region ?_
 simp only [List.size_toArray,List.length_cons,List.length_nil,Nat.reduceAdd,Nat.zero_add,List.range,List.range.loop]
 refine sc 14 #[] nb rfl rfl rfl (fun w'=>by simp [go_sem];exact ev_call Tryz.func14 (by kernel_rfl) (by kernel_rfl)) q (by decide) rfl (v:=.bool true) (fun c w' t=>stored_leads hK t _ _) fun _ _ ho q=>?_
 replace hK:=ho.kinds hK
 replace hold:=hold.trans ho
 clear ho
 refine st (.bool true) nb rfl rfl rfl (fun _=>by simp [go_sem,q.g 18 rfl]) q (by decide) rfl fun _ q=>?_
 refine all_end ?_
 refine all_ret ?_
 intro w' t
 exact .done (ag_leaves (q.g 6 rfl) q.df (hold.twin0 t))
theorem ag_early15 (hold:Old w0 w) (hK:KindsAt w) {a:Act} (q:Kn a 92 []) {kk:List Item} :
 LeadsA Tryz.prog (Leaving0 Tryz.prog fun v w'=>v=.bool true∧Old w0 w') ((Go.Conc.base 3).at a (.code (cnd (sqr (gp 8)))::kk)) [] w:=by
 have nb:(Go.Conc.base 3).kind=.normal:=rfl
 simp only [gBody,gp,sqN,sql,sqr,cnd,blk,lpc,Tryz.f3,Option.getD_some]
 refine all_seq ?_
 refine all_region ?_
 simp only [List.size_toArray,List.length_cons,List.length_nil,Nat.reduceAdd,Nat.zero_add,List.range,List.range.loop]
 refine sc 14 #[] nb rfl rfl rfl (fun w'=>by simp [go_sem];exact ev_call Tryz.func14 (by kernel_rfl) (by kernel_rfl)) q (by decide) rfl (v:=.bool true) (fun c w' t=>stored_leads hK t _ _) fun _ _ ho q=>?_
 replace hK:=ho.kinds hK
 replace hold:=hold.trans ho
 clear ho
 refine st (.bool true) nb rfl rfl rfl (fun _=>by simp [go_sem,q.g 66 rfl]) q (by decide) rfl fun _ q=>?_
 refine all_end ?_
 refine all_ret ?_
 intro w' t
 exact .done (ag_leaves (q.g 6 rfl) q.df (hold.twin0 t))
theorem ag_early22 (hold:Old w0 w) (hK:KindsAt w) {a:Act} (q:Kn a 92 []) {kk:List Item} :
 LeadsA Tryz.prog (Leaving0 Tryz.prog fun v w'=>v=.bool true∧Old w0 w') ((Go.Conc.base 3).at a (.code (cnd (sqr (blk (sql (sqr gBody)))))::kk)) [] w:=by
 have nb:(Go.Conc.base 3).kind=.normal:=rfl
 simp only [gBody,gp,sqN,sql,sqr,cnd,blk,lpc,Tryz.f3,Option.getD_some]
 refine all_seq ?_
 refine all_region ?_
 simp only [List.size_toArray,List.length_cons,List.length_nil,Nat.reduceAdd,Nat.zero_add,List.range,List.range.loop]
 refine sc 14 #[] nb rfl rfl rfl (fun w'=>by simp [go_sem];exact ev_call Tryz.func14 (by kernel_rfl) (by kernel_rfl)) q (by decide) rfl (v:=.bool true) (fun c w' t=>stored_leads hK t _ _) fun _ _ ho q=>?_
 replace hK:=ho.kinds hK
 replace hold:=hold.trans ho
 clear ho
 refine st (.bool true) nb rfl rfl rfl (fun _=>by simp [go_sem,q.g 91 rfl]) q (by decide) rfl fun _ q=>?_
 refine all_end ?_
 refine all_ret ?_
 intro w' t
 exact .done (ag_leaves (q.g 6 rfl) q.df (hold.twin0 t))
variable {B cn cc ln lc pn pc kc P qn qc k:Nat} {b:Bk} {s t:Int} {vr vg vm vs vc x:Value} {w w0:World} {ca la pa ka qa:Option Addr} {cl ks:List Int} {l ps:List Prt} {p:Prt} {d:Nat→Value}
theorem least_ix {Q:Nat→Prop}:(∃ j,Q j)→∃ j,Q j∧∀ i,i < j→¬ Q i:=by
 intro ⟨j,hj⟩
 induction j using Nat.strongRecOn with
 | _ j ih =>
  by_cases h:∃ i,i < j∧Q i
  ·obtain ⟨i,hi,hq⟩:=h
   exact ih i hi hq
  ·exact ⟨j,hj,fun i hi hq=>h ⟨i,hi,hq⟩⟩
theorem ag_rounds {b':Bk} (hok:codeOk Tryz.prog gBody=true) (hO:BkOk b') (hq:qn=(pasts b').length) (hq2:qn≤1000000) {j:Nat} (hj:j < (pasts b').length) (hz:copies b' (pasts b')[j] p=0) (hfirst:∀ i (h:i < (pasts b').length),i < j→copies b' (pasts b')[i] p≠0) {kk:List Item} :
 ∀ (m k:Nat),k+m=j→∀ (w:World),Old w0 w→GSt w B P b' vr vg vm vs vc ca qa cl p→∀ (d:Nat→Value),Leads Tryz.prog (Leaving0 Tryz.prog fun v w'=>v=.bool true∧Old w0 w') ((Go.Conc.base 3).at (fgP B P qn qc qa k d) (.code gBody::.inLoop gBody::kk)) [] w:=by
 have nb:(Go.Conc.base 3).kind=.normal:=rfl
 have nd:MarksOnly []:=fun d hd=>by cases hd
 intro m
 induction m with
 | zero =>
  intro k hk w ho1 hE d
  obtain rfl:k=j:=by omega
  have hok':=hok
  rw [gBody_eq] at hok'
  simp only [codeOk,Bool.and_eq_true] at hok'
  obtain ⟨k1,⟨k2,_⟩,_⟩:=hok'
  rw [gBody_eq]
  refine leads_seq fun e1=>?_
  have hE1:=hE.twin (on_at w e1)
  refine piece_here k1 nb nd (Z:=GZP B P qn qc qa k) (fun a w1 w2 ht h=>h) (fun W hW=>ag_head (by omega) hq2) fun a2 w2 hz2 ho3=>?_
  obtain ⟨d2,rfl⟩:=hz2
  have hE2:=hE1.old ho3
  have hoA:=(ho1.at e1).trans ho3
  refine leads_seq fun e2=>?_
  refine leads_block fun e3=>?_
  refine leads_seq fun e4=>?_
  have hE3:=((hE2.twin (on_at w2 e2)).twin (on_at _ e3)).twin (on_at _ e4)
  have hoB:=((hoA.at e2).at e3).at e4
  refine piece_here k2 nb nd (Z:=fun a' _=>a'.tmps[90]? = some (.bool true)∧Kn a' 92 []) (fun a w1 w2 ht h=>h) (fun W hW=>ag_21 (hE3.twin hW) hO hj hq hq2 hz) fun a5 w5 hz5 ho5=>?_
  have hE5:=hE3.old ho5
  have hoC:=hoB.trans ho5
  refine leads_cond (t:=true) (by simp [go_sem,hz5.1]) fun e6=>?_
  simp only [if_true]
  exact (ag_early22 (hoC.at e6) ((on_at w5 e6).kinds hE5.ag.kd) hz5.2).here
 | succ m ih =>
  intro k hk w ho1 hE d
  refine piece_here hok nb nd (Z:=GZP B P qn qc qa (k+1)) (fun a w1 w2 ht h=>h) (fun W hW=>ag_body (hE.twin hW) hO (by omega) hq hq2 (hfirst k (by omega) (by omega))) fun a2 w2 hz2 ho3=>?_
  obtain ⟨d2,rfl⟩:=hz2
  refine leads_inLoop fun e1=>?_
  exact ih (k+1) (by omega) _ ((ho1.trans ho3).at e1) ((hE.old ho3).twin (on_at w2 e1)) d2
theorem ag_co {w:World} {b:Bk} {ks:List Int} {ka:Option Addr} {kc:Nat} {s:Int} {vr vg vm vs vc:Value} (hR:RawAt w b vr vg vm vs vc) (hK:KindsAt w) (hU:U16sAt w ka ks) (hs0:0≤s) (hs1:s≤255) :
 Leads Tryz.prog (Leaving0 Tryz.prog fun v w'=>v=.bool true∧Old w w') (Frame.enter Tryz.prog 3 #[.agg #[vr,vg,vm,vs,vc],.slice ka ks.length kc,.int .u8 s] .normal) [] w:=by
 have hok:=progOk.code _ _ Tryz.func3 _ gpBody_eq
 simp only [codeOk,Bool.and_eq_true] at hok
 obtain ⟨k0,k1,k2,k3,k4,k5,k6,k7,k8,k9,k10,k11,_⟩:=hok
 have k1':=k1
 have k8':=k8
 have k11':=k11
 rw [gp1_eq] at k1'
 rw [gp8_eq] at k8'
 rw [gp11_eq] at k11'
 simp only [codeOk,Bool.and_eq_true] at k1' k8' k11'
 rw [agFrame gpBody_eq]
 have nb:(Go.Conc.base 3).kind=.normal:=rfl
 have nd:MarksOnly []:=fun d hd=>by cases hd
 refine piece_step k0 nb nd (Z:=GZ0 w.heap.size b s vr vg vm vs vc ka ks kc) (fun a w1 w2 ht h=>by obtain ⟨B,x,h1,h2,h3,h4⟩:=h;exact ⟨B,x,h1,h2.twin ht,h3,fun i=>(ht.frozen _).trans (h4 i)⟩) (fun W hW=>by have:=ag_0 (s:=s) (ka:=ka) (ks:=ks) (kc:=kc) (d:=fun _=>undef) (hW.raw hR) (hW.kinds hK);rwa [hW.size] at this) fun a0 w0 hz ho0=>?_
 obtain ⟨B,x0,⟨d0,rfl⟩,hE,hnB,hF⟩:=hz
 have hU:=hU.old ho0
 obtain ⟨x,hx⟩:∃ x:Bool,(x=true↔¬ (SmallB b∧bookAl b=0)):=by
  by_cases h:SmallB b∧bookAl b=0
  ·exact ⟨false,by simp only [Bool.false_eq_true,false_iff];exact fun h2=>h2 h⟩
  ·exact ⟨true,by simp only [true_iff];exact h⟩
 refine leads_seq fun d=>?_
 rw [gp1_eq]
 have hE:=hE.twin (on_at w0 d)
 have hU:=hU.twin (on_at w0 d)
 have hF:=fun i=>((on_at w0 d).frozen ⟨B,i,none⟩).trans (hF i)
 have ho0:=ho0.at d
 refine piece_step k1'.1 nb nd (Z:=GZ1 B s vr vg vm vs vc ka ks kc x) (fun a w1 w2 ht h=>h) (fun W hW=>ag_1 (hE.twin hW) hx) fun a1 w1 hz ho=>?_
 obtain ⟨d1,rfl⟩:=hz
 have hBl:=lt_of_cell hE.c0
 have hF:=fun i=>(ho.frozen2 hBl i).trans (hF i)
 have hE:=hE.old ho
 have hU:=hU.old ho
 have ho1:=ho0.trans ho
 clear ho
 cases x with
 | true =>
  refine leads_cond (t:=true) (by simp [go_sem,fgG]) fun da=>?_
  simp only [if_true]
  exact (ag_early2 (ho1.at da) ((on_at w1 da).kinds hE.kd) ⟨rfl,rfl,trivial⟩).here
 | false =>
  obtain ⟨hS,hk⟩:SmallB b∧bookAl b=0:=Classical.byContradiction fun h=>by have:=hx.2 h;cases this
  refine leads_cond (t:=false) (by simp [go_sem,fgG]) fun dd=>?_
  simp only [Bool.false_eq_true,if_false]
  refine leads_skip fun dd2=>?_
  have hE:=(hE.twin (on_at w1 dd)).twin (on_at (w1.at dd) dd2)
  have hU:=(hU.twin (on_at w1 dd)).twin (on_at (w1.at dd) dd2)
  have hF:=fun i=>((on_at (w1.at dd) dd2).frozen ⟨B,i,none⟩).trans (((on_at w1 dd).frozen ⟨B,i,none⟩).trans (hF i))
  have ho2:=(ho1.at dd).at dd2
  generalize (w1.at dd).at dd2=w2 at hE hU hF ho2
  clear ho1 ho0
  obtain ⟨cl,hcl⟩:∃ cl,cameP b ks=cl:=⟨_,rfl⟩
  have hre:Really b cl:=by rw [← hcl];exact cameP_really b ks
  have hmem:=real_past hk hre
  have hal:=bookAl_true hk hre
  obtain ⟨tb,htb⟩:∃ tb,truB b cl=tb:=⟨_,rfl⟩
  rw [htb] at hmem hal
  have hpn:pasts tb≠[]:=fun e=>by rw [e] at hmem;cases hmem
  have hop:openAl tb 0=0:=by unfold openAl;rw [if_neg (by simp [hal]),if_neg (by simp),if_neg hpn]
  obtain ⟨l,hl⟩:∃ l,missI tb=l:=⟨_,rfl⟩
  have hbo:=(bookAl_ok hal).1
  have hll:l.length≤1000000:=by
   rw [← hl]
   have h1:=parts_bd hbo
   have h2:(missI tb).length≤(partsL tb).length:=List.length_filter_le _ _
   omega
  have hple:=pasts_le hbo
  refine pieces_coN ho2.size [gp 2,gp 3,gp 4,gp 5,gp 6,gp 7] (by simp [k2,k3,k4,k5,k6,k7]) nb rfl (Z:=GZA B s tb vr vg vm vs cl l) (fun a w1 w2 ht h=>by obtain ⟨ca,cc,la,lc,vc2,h1,h2,h3⟩:=h;exact ⟨ca,cc,la,lc,vc2,h1,h2.twin ht,ht.parts h3⟩) (fun W hW=>ag_A hR hK ⟨by rw [hW.size];exact ho2.size,fun bb oo hb=>(hW.cell _).trans (ho2.cell hb)⟩ hnB (hE.twin hW) (fun i=>(hW.frozen _).trans (hF i)) hS hk (hU.twin hW) hcl htb hal hop hl hll (fun p hp hz=>by rw [← hl];exact mem_miss.2 ⟨hp,cl,hmem,hz⟩)) fun a3 w3 hz ho=>?_
  obtain ⟨ca,cc,la,lc,vc2,⟨d3,rfl⟩,hG,hL⟩:=hz
  have ho3:=ho2.ofN ho
  clear ho
  refine leads_seq fun e1=>?_
  rw [gp8_eq]
  have hG:=hG.twin (on_at w3 e1)
  have hL:=(on_at w3 e1).parts hL
  have ho3:=ho3.at e1
  generalize w3.at e1=w4 at hG hL ho3
  obtain ⟨y,hy⟩:∃ y:Bool,((l.length:Int) == 0)=y:=⟨_,rfl⟩
  refine piece_step k8'.1 nb nd (Z:=GZ8 B s cl.length cc l.length lc ca la y) (fun a w1 w2 ht h=>h) (fun W hW=>ag_8 hy) fun a5 w5 hz ho=>?_
  obtain ⟨h65,d5,rfl⟩:=hz
  have hG:=hG.old ho
  have hL:=ho.parts hL
  have ho5:=ho3.trans ho
  clear ho ho3
  cases y with
  | true =>
   refine leads_cond (t:=true) (by simp [go_sem,h65]) fun e2=>?_
   simp only [if_true]
   exact (ag_early15 (ho5.at e2) ((on_at w5 e2).kinds hG.kd) ⟨rfl,rfl,trivial⟩).here
  | false =>
   have hl0:0 < l.length:=by
    have:=beq_eq_false_iff_ne.1 hy
    omega
   refine leads_cond (t:=false) (by simp [go_sem,h65]) fun e2=>?_
   simp only [Bool.false_eq_true,if_false]
   refine leads_skip fun e3=>?_
   have hG:=(hG.twin (on_at w5 e2)).twin (on_at (w5.at e2) e3)
   have hL:=(on_at (w5.at e2) e3).parts ((on_at w5 e2).parts hL)
   have ho5:=(ho5.at e2).at e3
   generalize (w5.at e2).at e3=w6 at hG hL ho5
   have hi0:0≤s % (l.length:Int):=Int.emod_nonneg _ (by omega)
   have hi1:s % (l.length:Int) < (l.length:Int):=Int.emod_lt_of_pos _ (by omega)
   obtain ⟨iN,hiN⟩:∃ iN:Nat,s % (l.length:Int)=(iN:Int):=⟨_,(Int.toNat_of_nonneg hi0).symm⟩
   have hil:iN < l.length:=by omega
   obtain ⟨p,hp⟩:∃ p,l[iN]=p:=⟨_,rfl⟩
   have hpm:p∈missI tb:=by rw [hl,← hp];exact List.getElem_mem hil
   obtain ⟨y,hym,hyz⟩:=(mem_miss.1 hpm).2
   obtain ⟨j0,hj0,ej0⟩:=List.mem_iff_getElem.1 hym
   have hex:∃ j,∃ h:j < (pasts tb).length,copies tb (pasts tb)[j] p=0:=⟨j0,hj0,by rw [ej0];exact hyz⟩
   obtain ⟨j,hj,hjz,hfirst⟩:∃ j,∃ h:j < (pasts tb).length,copies tb (pasts tb)[j] p=0∧∀ i (h:i < (pasts tb).length),i < j→copies tb (pasts tb)[i] p≠0:=by
    obtain ⟨j,⟨h1,h2⟩,h3⟩:=least_ix (Q:=fun j=>∃ h:j < (pasts tb).length,copies tb (pasts tb)[j] p=0) hex
    exact ⟨j,h1,h2,fun i hi hlt hz=>h3 i hlt ⟨hi,hz⟩⟩
   refine pieces_co [gp 9,gp 10] (by simp [k9,k10]) nb rfl (Z:=GZQ B tb vr vg vm vs vc2 ca cl p) (fun a w1 w2 ht h=>by obtain ⟨P,qc,qa,h1,h2⟩:=h;exact ⟨P,qc,qa,h1,h2.twin ht⟩) (fun W hW=>ag_P (hG.twin hW) (hW.parts hL) hil hp hiN hll hs0 hs1 hbo (bookAl_ok hal).2) fun a7 w7 hz ho=>?_
   obtain ⟨P,qc,qa,⟨d7,rfl⟩,hQ⟩:=hz
   have ho7:=ho5.trans ho
   refine leads_seq fun e4=>?_
   rw [gp11_eq]
   have hQ:=hQ.twin (on_at w7 e4)
   have ho7:=ho7.at e4
   refine piece_step k11'.1 nb nd (Z:=GZP B P (pasts tb).length qc qa 0) (fun a w1 w2 ht h=>h) (fun W hW=>ag_18) fun a8 w8 hz ho=>?_
   obtain ⟨d8,rfl⟩:=hz
   have hQ:=hQ.old ho
   have ho8:=ho7.trans ho
   refine leads_block fun e5=>?_
   refine leads_loop fun e6=>?_
   exact ag_rounds k11'.2 hbo rfl (by omega) hj hjz hfirst j 0 (by omega) _ ((ho8.at e5).at e6) ((hQ.twin (on_at w8 e5)).twin (on_at _ e6)) d8
end Go.Proofs.YtgemjjdkjmpmlaaGreatDoor
