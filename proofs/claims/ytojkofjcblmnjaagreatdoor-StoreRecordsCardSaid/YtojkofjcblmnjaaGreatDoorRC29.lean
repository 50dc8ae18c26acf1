/- StoreRecords -/
import Derived.Test.YtojkofjcblmnjaaGreatDoorRC28
set_option maxHeartbeats 8000000
set_option maxRecDepth 100000
set_option linter.all false
namespace Go.Proofs.YtojkofjcblmnjaaGreatDoor
section
open Go.RowKit Go.Maps Sp Go.Conc
def agF (B R:Nat) (d:Nat->Value):Act:={ tmps:=#[d 0,.pointer (some ⟨B,0,none⟩),.pointer (some ⟨R,0,none⟩),d 3,d 4,d 5,d 6,d 7,d 8,d 9,d 10,d 11,d 12,d 13,d 14,d 15,d 16,d 17,d 18,d 19,d 20,d 21,d 22,d 23,d 24,d 25,d 26,d 27,d 28,d 29,d 30,d 31,d 32,d 33,d 34,d 35,d 36,d 37,d 38,d 39,d 40,d 41,d 42,d 43,d 44,d 45,d 46,d 47,d 48],defers:=[] }
def agL (B R X n k:Nat) (sa0:Option Addr) (sc0:Nat) (d e:Nat->Value):Act:={ tmps:=#[d 0,.pointer (some ⟨B,0,none⟩),.pointer (some ⟨R,0,none⟩),d 3,d 4,d 5,d 6,.int .i64 (k:Int),.pointer (some ⟨X,0,none⟩),d 9,d 10,d 11,d 12,d 13,d 14,d 15,d 16,d 17,d 18,d 19,d 20,d 21,d 22,d 23,d 24,d 25,d 26,d 27,d 28,d 29,d 30,d 31,.slice sa0 n sc0,.int .i64 (n:Int),.int .i64 (k:Int),d 35,d 36,d 37,d 38,e 39,e 40,e 41,e 42,e 43,e 44,e 45,e 46,d 47,d 48],defers:=[] }
noncomputable def agK (k:Nat):Code:=sql (sqN k (Tryz.f47.body.getD .skip))
theorem row_up {w0 w1 w2:World} {n m size:Nat} {e:TypeId} {v:Value} {xs:List Value} (h:w1.ownsRow w0.heap.size e size v m xs) (hb:Below w1.heap.size w1 w2) (hn:n<=w0.heap.size):w2.ownsRow n e size v m xs:=(ownsRow_below h hb).mono hn
theorem row_rm {w:World} {base e size n c:Nat} {a:Option Addr} {xs:List Value} (h:w.ownsRow base e size (.slice a n c) n xs):n<=c:=by
 obtain ⟨_,⟨e,h0⟩ | ⟨g,cap,cur,e,_,_,h1,_⟩⟩:=h
 ·omega
 ·cases e;exact h1
variable {A:World} {B R X:Nat} {b:Bk} {ma sa ra sa0:Option Addr} {mc sc rc sc0 n:Nat} {d:Nat->Value}
theorem agr_4 (c2:A.cell? ⟨B,2,none⟩=some (.slice ma b.ms.length mc)) (c3:A.cell? ⟨B,3,none⟩=some (.slice sa b.ss.length sc)) (c4:A.cell? ⟨B,4,none⟩=some (.slice ra b.rs.length rc)) (hz:∀ i,A.frozen? ⟨B,i,none⟩=false)
 (hM:MsgsAt A ma b.ms) {vs:List Value} (hvl:vs.length=b.ss.length) (hsv:SrcK A sa vs) (hso:∀ u∈vs,u.oneCell'=true) (hR:RecsAt A ra b.rs) (hml:b.ms.length<=1000000) (hsl:b.ss.length<=1000000) (hrl:b.rs.length<=1000000) :
 (agK 2).wp Tryz.prog (NQ fun a' w2=>(∃ d,a'=agF B R d)/\∃ m1 x1 r1 y1 s1 z1 w4,w2=((w4.setCell ⟨B,2,none⟩ (.slice m1 b.ms.length x1)).setCell ⟨B,4,none⟩ (.slice r1 b.rs.length y1)).setCell ⟨B,3,none⟩ (.slice s1 b.ss.length z1)/\Below A.heap.size A w4 /\
   w4.ownsRow A.heap.size 48 3 (.slice m1 b.ms.length x1) b.ms.length (b.ms.flatMap cellsM)/\w4.ownsRow A.heap.size 29 4 (.slice r1 b.rs.length y1) b.rs.length (b.rs.flatMap cellsR)/\w4.ownsRow A.heap.size 32 1 (.slice s1 b.ss.length z1) b.ss.length vs) (agF B R d) A:=by
 simp only [agK,sqN,sql,sqr,cnd,blk,lpc,Tryz.f47,Option.getD_some,agF];have hB0:=lt_of_cell c2;simp only at hB0;have HSM:=Hh (msgs_srcK hM);have HSR:=Hh (recs_srcK hR);have HSV:=Hh hsv;have HOM:=Hh (msgs_one b.ms);have HOR:=Hh (recs_one b.rs);have HOS:=Hh hso;have HLM:=Hh (msgs_len3 b.ms);have HLR:=Hh (recs_len4 b.rs);have HLS:=Hh (show vs.length=b.ss.length * 1 by rw [hvl,Nat.mul_one]);have HT:=Hh (fun (w':World) (h:Below A.heap.size A w')=>(⟨(h.cell (p:=⟨B,2,none⟩) hB0).trans c2,(h.cell (p:=⟨B,3,none⟩) hB0).trans c3,(h.cell (p:=⟨B,4,none⟩) hB0).trans c4⟩:w'.cell? ⟨B,2,none⟩=some (.slice ma b.ms.length mc)/\w'.cell? ⟨B,3,none⟩=some (.slice sa b.ss.length sc)/\w'.cell? ⟨B,4,none⟩=some (.slice ra b.rs.length rc)));have HZ:=Hh (fun (w':World) (h:Below A.heap.size A w') i=>(h.frozen (p:=⟨B,i,none⟩) hB0).trans (hz i));clear c2 c3 c4 hz hM hR hvl hsv hso;refine wp_region_D (S:=fun _=>True) (T:=fun w'=>w'.cell? ⟨B,2,none⟩=some (.slice ma b.ms.length mc)/\w'.cell? ⟨B,3,none⟩=some (.slice sa b.ss.length sc)/\w'.cell? ⟨B,4,none⟩=some (.slice ra b.rs.length rc)) (d:=10) (by kernel_rfl) trivial (HT.out _ (bel)) (fun _ hTd=>?_);refine wpAnyD_take (i:=0) (v:=.pointer (some ⟨B,2,none⟩)) rfl (by decide +kernel) (fun _ _ _ h=>h) (Or.inl ⟨by rfl,?_⟩) trivial hTd ?_
 ·rintro w5 ⟨_,s1,s2,s3⟩;go_simp
 refine wpAnyD_take (i:=1) (v:=.slice ma b.ms.length mc) rfl (by decide +kernel) (fun _ _ _ h=>h) (Or.inl ⟨by rfl,?_⟩) trivial hTd ?_
 ·rintro w5 ⟨_,s1,s2,s3⟩;go_simp
 refine wpAnyD_take (i:=3) (v:=.pointer (some ⟨B,4,none⟩)) rfl (by decide +kernel) (fun _ _ _ h=>h) (Or.inl ⟨by rfl,?_⟩) trivial hTd ?_
 ·rintro w5 ⟨_,s1,s2,s3⟩;go_simp
 refine wpAnyD_take (i:=4) (v:=.slice ra b.rs.length rc) rfl (by decide +kernel) (fun _ _ _ h=>h) (Or.inl ⟨by rfl,?_⟩) trivial hTd ?_
 ·rintro w5 ⟨_,s1,s2,s3⟩;go_simp
 refine wpAnyD_take (i:=6) (v:=.pointer (some ⟨B,3,none⟩)) rfl (by decide +kernel) (fun _ _ _ h=>h) (Or.inl ⟨by rfl,?_⟩) trivial hTd ?_
 ·rintro w5 ⟨_,s1,s2,s3⟩;go_simp
 refine wpAnyD_take (i:=7) (v:=.slice sa b.ss.length sc) rfl (by decide +kernel) (fun _ _ _ h=>h) (Or.inl ⟨by rfl,?_⟩) trivial hTd ?_
 ·rintro w5 ⟨_,s1,s2,s3⟩;go_simp
 refine wpAnyD_ready [2] (by decide +kernel) (by simp) ?_;refine AllReadyD.pre 2 rfl (fun K9 hK=>?_) AllReadyD.nil;go_simp;refine (cloneMsg_at HLM.out hml (HSM.out.below (bel)) HOM.out).mono ?_;rintro e w1 ⟨m1,x1,rfl,hr1,hb1⟩;have hr1:w1.ownsRow A.heap.size _ _ _ _ _:=hr1;have hb1:Below A.heap.size A w1:=bel
 try go_simp
 refine hK.out _ _ trivial (HT.out _ (bel)) (fun _ _=>?_);refine wpAnyD_ready [5,9] (by decide +kernel) (by simp) ?_;refine AllReadyD.pre 5 rfl (fun K9 hK=>?_) ?_
 ·go_simp;refine (cloneRec_at HLR.out hrl (HSR.out.below hb1) HOR.out).mono ?_;rintro e w2 ⟨r1,y1,rfl,hr2,hb2⟩;have hq1:=row_up hr1 hb2 (Nat.le_refl _);have hq2:=hr2.mono hb1.size;have hbA2:Below A.heap.size A w2:=bel
  try go_simp
  refine hK.out _ _ trivial (HT.out _ (bel)) (fun _ _=>?_);refine wpAnyD_ready [8,9] (by decide +kernel) (by simp) ?_;refine AllReadyD.pre 8 rfl (fun K9 hK=>?_) ?_
  ·go_simp;refine (cloneSes_at HLS.out hsl (HSV.out.below hbA2) HOS.out).mono ?_;rintro e w3 ⟨s1,z1,rfl,hr3,hb3⟩;have hp1:=row_up hq1 hb3 (Nat.le_refl _);have hp2:=row_up hq2 hb3 (Nat.le_refl _);have hp3:=hr3.mono hbA2.size;have hbA3:Below A.heap.size A w3:=bel;obtain ⟨u2,u3,u4⟩:=HT.out _ hbA3;have f2:=HZ.out _ hbA3 2;have f3:=HZ.out _ hbA3 3;have f4:=HZ.out _ hbA3 4
   try go_simp
   refine hK.out _ _ trivial (HT.out _ (bel)) (fun _ _=>?_);refine wpAnyD_ready [9] (by decide +kernel) (by simp) ?_;refine AllReadyD.pre 9 rfl (fun K9 hK=>?_) AllReadyD.nil;go_simp;refine hK.out _ _ trivial (HT.out _ (bel)) (fun _ _=>?_);refine wpAnyD_ready [10] (by decide +kernel) (by simp) ?_;refine AllReadyD.post 10 rfl (by rfl) (fun K9 hK=>?_) AllReadyD.nil;go_simp;refine hK.out _ _ trivial (fun _=>?_);refine wpAnyD_ready [11] (by decide +kernel) (by simp) ?_;refine AllReadyD.post 11 rfl (by rfl) (fun K9 hK=>?_) AllReadyD.nil;go_simp;refine hK.out _ _ trivial (fun _=>?_);refine wpAnyD_ready [12] (by decide +kernel) (by simp) ?_;refine AllReadyD.post 12 rfl (by rfl) (fun K9 hK=>?_) AllReadyD.nil;go_simp;refine hK.out _ _ trivial (fun _=>?_);refine wpAnyD_ready [13] (by decide +kernel) (by simp) ?_;refine AllReadyD.post 13 rfl (by rfl) (fun K9 hK=>?_) AllReadyD.nil;go_simp;refine hK.out _ _ trivial (fun _=>?_);refine wpAnyD_ready [14] (by decide +kernel) (by simp) ?_;refine AllReadyD.post 14 rfl (by rfl) (fun K9 hK=>?_) AllReadyD.nil;go_simp;refine hK.out _ _ trivial (fun _=>?_);exact wpAnyD_done (by decide +kernel) ⟨fr_of (F:=agF B R) (by kernel_rfl),m1,x1,r1,y1,s1,z1,w3,rfl,hbA3,hp1,hp2,hp3⟩ _
  refine AllReadyD.pre 9 rfl (fun K9 hK=>?_) ?_
  ·go_simp;refine hK.out _ _ trivial (HT.out _ (bel)) (fun _ _=>?_);refine wpAnyD_ready [8] (by decide +kernel) (by simp) ?_;refine AllReadyD.pre 8 rfl (fun K9 hK=>?_) AllReadyD.nil;go_simp;refine (cloneSes_at HLS.out hsl (HSV.out.below hbA2) HOS.out).mono ?_;rintro e w3 ⟨s1,z1,rfl,hr3,hb3⟩;have hp1:=row_up hq1 hb3 (Nat.le_refl _);have hp2:=row_up hq2 hb3 (Nat.le_refl _);have hp3:=hr3.mono hbA2.size;have hbA3:Below A.heap.size A w3:=bel;obtain ⟨u2,u3,u4⟩:=HT.out _ hbA3;have f2:=HZ.out _ hbA3 2;have f3:=HZ.out _ hbA3 3;have f4:=HZ.out _ hbA3 4
   try go_simp
   refine hK.out _ _ trivial (HT.out _ (bel)) (fun _ _=>?_);refine wpAnyD_ready [10] (by decide +kernel) (by simp) ?_;refine AllReadyD.post 10 rfl (by rfl) (fun K9 hK=>?_) AllReadyD.nil;go_simp;refine hK.out _ _ trivial (fun _=>?_);refine wpAnyD_ready [11] (by decide +kernel) (by simp) ?_;refine AllReadyD.post 11 rfl (by rfl) (fun K9 hK=>?_) AllReadyD.nil;go_simp;refine hK.out _ _ trivial (fun _=>?_);refine wpAnyD_ready [12] (by decide +kernel) (by simp) ?_;refine AllReadyD.post 12 rfl (by rfl) (fun K9 hK=>?_) AllReadyD.nil;go_simp;refine hK.out _ _ trivial (fun _=>?_);refine wpAnyD_ready [13] (by decide +kernel) (by simp) ?_;refine AllReadyD.post 13 rfl (by rfl) (fun K9 hK=>?_) AllReadyD.nil;go_simp;refine hK.out _ _ trivial (fun _=>?_);refine wpAnyD_ready [14] (by decide +kernel) (by simp) ?_;refine AllReadyD.post 14 rfl (by rfl) (fun K9 hK=>?_) AllReadyD.nil;go_simp;refine hK.out _ _ trivial (fun _=>?_);exact wpAnyD_done (by decide +kernel) ⟨fr_of (F:=agF B R) (by kernel_rfl),m1,x1,r1,y1,s1,z1,w3,rfl,hbA3,hp1,hp2,hp3⟩ _
  exact AllReadyD.nil
 refine AllReadyD.pre 9 rfl (fun K9 hK=>?_) ?_
 ·go_simp;refine hK.out _ _ trivial (HT.out _ (bel)) (fun _ _=>?_);refine wpAnyD_ready [5] (by decide +kernel) (by simp) ?_;refine AllReadyD.pre 5 rfl (fun K9 hK=>?_) AllReadyD.nil;go_simp;refine (cloneRec_at HLR.out hrl (HSR.out.below hb1) HOR.out).mono ?_;rintro e w2 ⟨r1,y1,rfl,hr2,hb2⟩;have hq1:=row_up hr1 hb2 (Nat.le_refl _);have hq2:=hr2.mono hb1.size;have hbA2:Below A.heap.size A w2:=bel
  try go_simp
  refine hK.out _ _ trivial (HT.out _ (bel)) (fun _ _=>?_);refine wpAnyD_ready [8] (by decide +kernel) (by simp) ?_;refine AllReadyD.pre 8 rfl (fun K9 hK=>?_) AllReadyD.nil;go_simp;refine (cloneSes_at HLS.out hsl (HSV.out.below hbA2) HOS.out).mono ?_;rintro e w3 ⟨s1,z1,rfl,hr3,hb3⟩;have hp1:=row_up hq1 hb3 (Nat.le_refl _);have hp2:=row_up hq2 hb3 (Nat.le_refl _);have hp3:=hr3.mono hbA2.size;have hbA3:Below A.heap.size A w3:=bel;obtain ⟨u2,u3,u4⟩:=HT.out _ hbA3;have f2:=HZ.out _ hbA3 2;have f3:=HZ.out _ hbA3 3;have f4:=HZ.out _ hbA3 4
  try go_simp
  refine hK.out _ _ trivial (HT.out _ (bel)) (fun _ _=>?_);refine wpAnyD_ready [10] (by decide +kernel) (by simp) ?_;refine AllReadyD.post 10 rfl (by rfl) (fun K9 hK=>?_) AllReadyD.nil;go_simp;refine hK.out _ _ trivial (fun _=>?_);refine wpAnyD_ready [11] (by decide +kernel) (by simp) ?_;refine AllReadyD.post 11 rfl (by rfl) (fun K9 hK=>?_) AllReadyD.nil;go_simp;refine hK.out _ _ trivial (fun _=>?_);refine wpAnyD_ready [12] (by decide +kernel) (by simp) ?_;refine AllReadyD.post 12 rfl (by rfl) (fun K9 hK=>?_) AllReadyD.nil;go_simp;refine hK.out _ _ trivial (fun _=>?_);refine wpAnyD_ready [13] (by decide +kernel) (by simp) ?_;refine AllReadyD.post 13 rfl (by rfl) (fun K9 hK=>?_) AllReadyD.nil;go_simp;refine hK.out _ _ trivial (fun _=>?_);refine wpAnyD_ready [14] (by decide +kernel) (by simp) ?_;refine AllReadyD.post 14 rfl (by rfl) (fun K9 hK=>?_) AllReadyD.nil;go_simp;refine hK.out _ _ trivial (fun _=>?_);exact wpAnyD_done (by decide +kernel) ⟨fr_of (F:=agF B R) (by kernel_rfl),m1,x1,r1,y1,s1,z1,w3,rfl,hbA3,hp1,hp2,hp3⟩ _
 exact AllReadyD.nil
theorem agr_8 {e:Nat->Value} {g k:Nat} {pa:Option Addr} {pc:Nat} {l:List Prt} {v:Value} (c3:A.cell? ⟨B,3,none⟩=some (.slice (some ⟨g,0,none⟩) n sc)) (cx:A.cell? ⟨X,0,none⟩=some (.slice pa l.length pc)) (ck:A.cell? ⟨g,k,none⟩=some v) (hz:A.frozen? ⟨g,k,none⟩=false) (hk:k < n) (hn:n<=1000000) (hP:PartsAt A pa l) (hl:l.length<=1000000) :
 (sqr (blk (sql (sqr (sqr (lpc (blk (sqr (agK 3))))))))).wp Tryz.prog (NQ fun a' w2=>(∃ e,a'=agL B R X n k sa0 sc0 d e)/\∃ p1 x1 w4,w2=w4.setCell ⟨g,k,none⟩ (.slice p1 l.length x1)/\Below A.heap.size A w4/\PartsAt w4 p1 l/\l.length<=x1/\∀ ad,p1=some ad->A.heap.size<=ad.block) (agL B R X n k sa0 sc0 d e) A:=by
 simp only [agK,sqN,sql,sqr,cnd,blk,lpc,Tryz.f47,Option.getD_some,agL];have hB0:=lt_of_cell c3;have hX0:=lt_of_cell cx;have hg0:=lt_of_cell ck;simp only at hB0 hX0 hg0;have HSP:=Hh (parts_srcK hP);have HOP:=Hh (parts_one l);have HLP:=Hh (flat2_length l);have hk1:(k:Int) < (n:Int):=by omega
 have HT:=Hh (fun (w':World) (h:Below A.heap.size A w')=>(⟨(h.cell (p:=⟨B,3,none⟩) hB0).trans c3,(h.cell (p:=⟨X,0,none⟩) hX0).trans cx⟩:w'.cell? ⟨B,3,none⟩=some (.slice (some ⟨g,0,none⟩) n sc)/\w'.cell? ⟨X,0,none⟩=some (.slice pa l.length pc)));have HG:=Hh (fun (w':World) (h:Below A.heap.size A w')=>(h.cell (p:=⟨g,k,none⟩) hg0).trans ck);have HZ:=Hh (fun (w':World) (h:Below A.heap.size A w')=>(h.frozen (p:=⟨g,k,none⟩) hg0).trans hz);clear c3 cx ck hz hP;refine wp_region_D (S:=fun _=>True) (T:=fun w'=>w'.cell? ⟨B,3,none⟩=some (.slice (some ⟨g,0,none⟩) n sc)/\w'.cell? ⟨X,0,none⟩=some (.slice pa l.length pc)) (d:=8) (by kernel_rfl) trivial (HT.out _ (bel)) (fun _ hTd=>?_);refine wpAnyD_take (i:=0) (v:=.pointer (some ⟨B,3,none⟩)) rfl (by decide +kernel) (fun _ _ _ h=>h) (Or.inl ⟨by rfl,?_⟩) trivial hTd ?_
 ·rintro w5 ⟨_,s1,s2⟩;go_simp
 refine wpAnyD_take (i:=1) (v:=.slice (some ⟨g,0,none⟩) n sc) rfl (by decide +kernel) (fun _ _ _ h=>h) (Or.inl ⟨by rfl,?_⟩) trivial hTd ?_
 ·rintro w5 ⟨_,s1,s2⟩;go_simp
 refine wpAnyD_take (i:=2) (v:=.int .i64 (k:Int)) rfl (by decide +kernel) (fun _ _ _ h=>h) (Or.inl ⟨by rfl,?_⟩) trivial hTd ?_
 ·rintro w5 ⟨_,s1,s2⟩;go_simp
 refine wpAnyD_take (i:=3) (v:=.pointer (some ⟨X,0,none⟩)) rfl (by decide +kernel) (fun _ _ _ h=>h) (Or.inl ⟨by rfl,?_⟩) trivial hTd ?_
 ·rintro w5 ⟨_,s1,s2⟩;go_simp
 refine wpAnyD_take (i:=4) (v:=.slice pa l.length pc) rfl (by decide +kernel) (fun _ _ _ h=>h) (Or.inl ⟨by rfl,?_⟩) trivial hTd ?_
 ·rintro w5 ⟨_,s1,s2⟩;go_simp
 refine wpAnyD_ready [5] (by decide +kernel) (by simp) ?_;refine AllReadyD.pre 5 rfl (fun K9 hK=>?_) AllReadyD.nil;go_simp;refine (clonePrt_at HLP.out hl (HSP.out.below (bel)) HOP.out).mono ?_;rintro e w1 ⟨p1,x1,rfl,hr1,hb1⟩;have hb1:Below A.heap.size A w1:=bel;have hp1:=Hh (parts_of_row hr1);have hx1:l.length<=x1:=row_rm hr1;have hn1:∀ ad,p1=some ad->A.heap.size<=ad.block:=fun ad e=>(ownBlock_row hr1 ad.block (by rw [e];rfl)).1;have u1:=HG.out _ hb1;have f1:=HZ.out _ hb1
 try go_simp
 refine hK.out _ _ trivial (HT.out _ (bel)) (fun _ _=>?_);refine wpAnyD_ready [6] (by decide +kernel) (by simp) ?_;refine AllReadyD.pre 6 rfl (fun K9 hK=>?_) AllReadyD.nil;go_simp;refine hK.out _ _ trivial (HT.out _ (bel)) (fun _ _=>?_);refine wpAnyD_ready [7] (by decide +kernel) (by simp) ?_;refine AllReadyD.pre 7 rfl (fun K9 hK=>?_) AllReadyD.nil;go_simp;refine hK.out _ _ trivial (HT.out _ (bel)) (fun _ _=>?_);refine wpAnyD_ready [8] (by decide +kernel) (by simp) ?_;refine AllReadyD.post 8 rfl (by rfl) (fun K9 hK=>?_) AllReadyD.nil;go_simp;refine hK.out _ _ trivial (fun _=>?_);exact wpAnyD_done (by decide +kernel) ⟨fr_of (F:=agL B R X n k sa0 sc0 d) (by kernel_rfl),p1,x1,w1,by simp,hb1,hp1.out,hx1,hn1⟩ _
section
variable {w w3 w6:World} {A B C:Array Value} {tA tB tC:TypeId} {P:Nat} {v0 v1 v2 v3 v4:Value}
def BoxC (w:World) (P:Nat) (A:Array Value):Prop:=∀ k u,A[k]? = some u->w.cell? ⟨P,k,none⟩=some u
def BoxF (w:World) (P:Nat):Prop:=∀ k,w.frozen? ⟨P,k,none⟩=false
theorem box_two (h:Below ((w.alloc (.cells A tA)).alloc (.cells C tC)).heap.size ((w.alloc (.cells A tA)).alloc (.cells C tC)) w3) :
 BoxC w3 w.heap.size A/\BoxF w3 w.heap.size/\BoxC w3 (w.heap.size+1) C/\BoxF w3 (w.heap.size+1)/\w.heap.size+1 < w3.heap.size:=by
 refine ⟨fun k u hk=>(h.cell (p:=⟨w.heap.size,k,none⟩) (by first | (simp;done) | (simp;omega))).trans ?_,fun k=>(h.frozen (p:=⟨w.heap.size,k,none⟩) (by first | (simp;done) | (simp;omega))).trans ?_,fun k u hk=>(h.cell (p:=⟨w.heap.size+1,k,none⟩) (by simp)).trans ?_,fun k=>(h.frozen (p:=⟨w.heap.size+1,k,none⟩) (by simp)).trans ?_,by have:=h.size;simp at this;omega⟩
 ·rw [World.cell?_alloc_past _ _ _ (by simp),World.cell?_alloc_at _ _ _ _ rfl];exact hk
 ·rw [World.frozen?_alloc_past _ _ _ (by simp),World.frozen?_alloc_at _ _ _ _ rfl]
 ·rw [World.cell?_alloc_at _ _ _ _ (by simp)];exact hk
 ·rw [World.frozen?_alloc_at _ _ _ _ (by simp)]
theorem box_three (h:Below (((w.alloc (.cells A tA)).alloc (.cells B tB)).alloc (.cells C tC)).heap.size (((w.alloc (.cells A tA)).alloc (.cells B tB)).alloc (.cells C tC)) w3) :
 BoxC w3 w.heap.size A/\BoxF w3 w.heap.size/\BoxC w3 (w.heap.size+1) B/\BoxC w3 (w.heap.size+2) C/\BoxF w3 (w.heap.size+2)/\w.heap.size+2 < w3.heap.size:=by
 refine ⟨fun k u hk=>(h.cell (p:=⟨w.heap.size,k,none⟩) (by first | (simp;done) | (simp;omega))).trans ?_,fun k=>(h.frozen (p:=⟨w.heap.size,k,none⟩) (by first | (simp;done) | (simp;omega))).trans ?_,fun k u hk=>(h.cell (p:=⟨w.heap.size+1,k,none⟩) (by first | (simp;done) | (simp;omega))).trans ?_,fun k u hk=>(h.cell (p:=⟨w.heap.size+2,k,none⟩) (by simp)).trans ?_,fun k=>(h.frozen (p:=⟨w.heap.size+2,k,none⟩) (by simp)).trans ?_,by have:=h.size;simp at this;omega⟩
 ·rw [World.cell?_alloc_past _ _ _ (by first | (simp;done) | (simp;omega)),World.cell?_alloc_past _ _ _ (by simp),World.cell?_alloc_at _ _ _ _ rfl];exact hk
 ·rw [World.frozen?_alloc_past _ _ _ (by first | (simp;done) | (simp;omega)),World.frozen?_alloc_past _ _ _ (by simp),World.frozen?_alloc_at _ _ _ _ rfl]
 ·rw [World.cell?_alloc_past _ _ _ (by simp),World.cell?_alloc_at _ _ _ _ (by simp)];exact hk
 ·rw [World.cell?_alloc_at _ _ _ _ (by simp)];exact hk
 ·rw [World.frozen?_alloc_at _ _ _ _ (by simp)]
theorem BoxC.below (h:BoxC w P A) (hb:Below w.heap.size w w3) (hP:P < w.heap.size):BoxC w3 P A:=fun k u hk=>(hb.cell (p:=⟨P,k,none⟩) hP).trans (h k u hk)
theorem BoxF.below (h:BoxF w P) (hb:Below w.heap.size w w3) (hP:P < w.heap.size):BoxF w3 P:=fun k=>(hb.frozen (p:=⟨P,k,none⟩) hP).trans (h k)
theorem BoxC.ks {q:Nat->Prop} (h:BoxC w P A) (hb:KS q w w3) (hq:q P) (hP:P < w.heap.size):BoxC w3 P A:=fun k u hk=>(hb.cell (x:=⟨P,k,none⟩) hP hq).trans (h k u hk)
theorem BoxF.ks {q:Nat->Prop} (h:BoxF w P) (hb:KS q w w3) (hq:q P) (hP:P < w.heap.size):BoxF w3 P:=fun k=>(hb.frozen (x:=⟨P,k,none⟩) hP hq).trans (h k)
theorem BoxC.five (h:BoxC w P #[v0,v1,v2,v3,v4]):w.cell? ⟨P,0,none⟩=some v0/\w.cell? ⟨P,1,none⟩=some v1/\w.cell? ⟨P,2,none⟩=some v2/\w.cell? ⟨P,3,none⟩=some v3/\w.cell? ⟨P,4,none⟩=some v4:=⟨h 0 _ rfl,h 1 _ rfl,h 2 _ rfl,h 3 _ rfl,h 4 _ rfl⟩
theorem BoxF.five (h:BoxF w P):w.frozen? ⟨P,0,none⟩=false/\w.frozen? ⟨P,1,none⟩=false/\w.frozen? ⟨P,2,none⟩=false/\w.frozen? ⟨P,3,none⟩=false/\w.frozen? ⟨P,4,none⟩=false:=⟨h 0,h 1,h 2,h 3,h 4⟩
theorem BoxC.put4 (h:BoxC w P #[v0,v1,v2,v3,v4]) (v:Value):BoxC (w.setCell ⟨P,4,none⟩ v) P #[v0,v1,v2,v3,v]:=fun k u hk=>by
 by_cases e:k=4
 ·subst e;cases hk;exact World.cell?_setCell_same' _ _ _ (by rw [h 4 _ rfl];rfl)
 ·rw [World.cell?_setCell_other (h:=fun e2=>e (by injection e2 with _ e3 _;exact e3.symm))]
  match k,hk,e with
  | 0,hk,_=>exact h 0 _ hk
  | 1,hk,_=>exact h 1 _ hk
  | 2,hk,_=>exact h 2 _ hk
  | 3,hk,_=>exact h 3 _ hk
  | 4,_,e=>exact absurd rfl e
  | k+5,hk,_=>cases hk
theorem BoxC.put3 (h:BoxC w P #[v0,v1,v2,v3,v4]) (v:Value):BoxC (w.setCell ⟨P,3,none⟩ v) P #[v0,v1,v2,v,v4]:=fun k u hk=>by
 by_cases e:k=3
 ·subst e;cases hk;exact World.cell?_setCell_same' _ _ _ (by rw [h 3 _ rfl];rfl)
 ·rw [World.cell?_setCell_other (h:=fun e2=>e (by injection e2 with _ e3 _;exact e3.symm))]
  match k,hk,e with
  | 0,hk,_=>exact h 0 _ hk
  | 1,hk,_=>exact h 1 _ hk
  | 2,hk,_=>exact h 2 _ hk
  | 4,hk,_=>exact h 4 _ hk
  | 3,_,e=>exact absurd rfl e
  | k+5,hk,_=>cases hk
theorem put_five {z0 z1 z2 z3 z4:Value} (c0:w.cell? ⟨P,0,none⟩=some z0) (c1:w.cell? ⟨P,1,none⟩=some z1) (c2:w.cell? ⟨P,2,none⟩=some z2) (c3:w.cell? ⟨P,3,none⟩=some z3) (c4:w.cell? ⟨P,4,none⟩=some z4) (hP:P < w.heap.size) (v0 v1 v2 v3 v4:Value) :
 ∃ W9,W9=((((w.setCell ⟨P,0,none⟩ v0).setCell ⟨P,1,none⟩ v1).setCell ⟨P,2,none⟩ v2).setCell ⟨P,3,none⟩ v3).setCell ⟨P,4,none⟩ v4/\W9.cell? ⟨P,0,none⟩=some v0/\W9.cell? ⟨P,1,none⟩=some v1/\W9.cell? ⟨P,2,none⟩=some v2/\W9.cell? ⟨P,3,none⟩=some v3/\W9.cell? ⟨P,4,none⟩=some v4/\KS (fun k=>k≠P) w W9:=by
 obtain ⟨d0,d1,d2,d3,d4,_⟩:=Five.put (r:=P) (v0:=v0) (v1:=v1) (v2:=v2) (v3:=v3) (v4:=v4) (w:=w) (by rw [c0];rfl) (by rw [c1];rfl) (by rw [c2];rfl) (by rw [c3];rfl) (by rw [c4];rfl) hP;exact ⟨_,rfl,d0,d1,d2,d3,d4,((((KS.setCell (by simp) _ _).trans (KS.setCell (by simp) _ _)).trans (KS.setCell (by simp) _ _)).trans (KS.setCell (by simp) _ _)).trans (KS.setCell (by simp) _ _)⟩
end
def noBook:Bk:=⟨0,0,[],[],[]⟩
theorem noBook_at (w:World):BookAt w noBook (.int .i64 0) (.int .i64 0) (.slice none 0 0) (.slice none 0 0) (.slice none 0 0) :=
 ⟨rfl,rfl,⟨none,0,rfl,fun i h=>absurd h (Nat.not_lt_zero _),by simp [noBook]⟩,⟨none,0,rfl,fun i h=>absurd h (Nat.not_lt_zero _),by simp [noBook]⟩,none,0,rfl,fun i h=>absurd h (Nat.not_lt_zero _),by simp [noBook]⟩
def BookRet (w:World) (b:Bk) (t:Int) (e:Ending) (w':World):Prop:=∃ ur ug um us uc,e=.returned (.tuple #[.agg #[ur,ug,um,us,uc],.int .i64 t])/\(∀ W,KS (fun k=>w.heap.size<=k) w' W->BookAt W b ur ug um us uc)/\Below w.heap.size w w'
section
variable {b:Bk} {vr vg vm vs vc:Value} {w:World}
theorem agr_4c {A:World} {B R:Nat} {ma sa ra:Option Addr} {mc sc rc:Nat} {c:Code} {a:Act} (hc:c=agK 2) (ha:a=agF B R fun i=>a.tmps.getD i undef)
 (c2:A.cell? ⟨B,2,none⟩=some (.slice ma b.ms.length mc)) (c3:A.cell? ⟨B,3,none⟩=some (.slice sa b.ss.length sc)) (c4:A.cell? ⟨B,4,none⟩=some (.slice ra b.rs.length rc)) (hz:∀ i,A.frozen? ⟨B,i,none⟩=false)
 (hM:MsgsAt A ma b.ms) {vs:List Value} (hvl:vs.length=b.ss.length) (hsv:SrcK A sa vs) (hso:∀ u∈vs,u.oneCell'=true) (hR:RecsAt A ra b.rs) (hml:b.ms.length<=1000000) (hsl:b.ss.length<=1000000) (hrl:b.rs.length<=1000000) :
 c.wp Tryz.prog (NQ fun a' w2=>(∃ d,a'=agF B R d)/\∃ m1 x1 r1 y1 s1 z1 w4,w2=((w4.setCell ⟨B,2,none⟩ (.slice m1 b.ms.length x1)).setCell ⟨B,4,none⟩ (.slice r1 b.rs.length y1)).setCell ⟨B,3,none⟩ (.slice s1 b.ss.length z1)/\Below A.heap.size A w4 /\
  w4.ownsRow A.heap.size 48 3 (.slice m1 b.ms.length x1) b.ms.length (b.ms.flatMap cellsM)/\w4.ownsRow A.heap.size 29 4 (.slice r1 b.rs.length y1) b.rs.length (b.rs.flatMap cellsR)/\w4.ownsRow A.heap.size 32 1 (.slice s1 b.ss.length z1) b.ss.length vs) a A:=by
 rw [hc,ha];exact agr_4 c2 c3 c4 hz hM hvl hsv hso hR hml hsl hrl
theorem agr_8c {A:World} {B R X n k g:Nat} {sa0:Option Addr} {sc0 sc:Nat} {pa:Option Addr} {pc:Nat} {l:List Prt} {v:Value} {c:Code} {a:Act} (hc:c=sqr (blk (sql (sqr (sqr (lpc (blk (sqr (agK 3))))))))) (ha:a=agL B R X n k sa0 sc0 (fun i=>a.tmps.getD i undef) fun i=>a.tmps.getD i undef)
 (c3:A.cell? ⟨B,3,none⟩=some (.slice (some ⟨g,0,none⟩) n sc)) (cx:A.cell? ⟨X,0,none⟩=some (.slice pa l.length pc)) (ck:A.cell? ⟨g,k,none⟩=some v) (hz:A.frozen? ⟨g,k,none⟩=false) (hk:k < n) (hn:n<=1000000) (hP:PartsAt A pa l) (hl:l.length<=1000000) :
 c.wp Tryz.prog (NQ fun a' w2=>(∃ e,a'=agL B R X n k sa0 sc0 (fun i=>a.tmps.getD i undef) e)/\∃ p1 x1 w4,w2=w4.setCell ⟨g,k,none⟩ (.slice p1 l.length x1)/\Below A.heap.size A w4/\PartsAt w4 p1 l/\l.length<=x1/\∀ ad,p1=some ad->A.heap.size<=ad.block) a A:=by
 generalize (fun i=>a.tmps.getD i undef)=d at ha ⊢;rw [hc,ha];exact agr_8 c3 cx ck hz hk hn hP hl
theorem sesV_ki {w w':World} {vs:List Value} {l:List (List Prt)} (h:SesV w vs l) (hk:KI w w'):SesV w' vs l:=⟨h.1,fun i v s h1 h2=>by
 obtain ⟨pa,pc,e,h3,h4,h5⟩:=h.2 i v s h1 h2
 exact ⟨pa,pc,e,h3,h4,hk.parts h5⟩⟩
theorem sesV_set {w:World} {vs:List Value} {l:List (List Prt)} (h:SesV w vs l) {k:Nat} {s:List Prt} (hk:l[k]? = some s) {pa:Option Addr} {pc:Nat} (h1:s.length<=pc) (h2:s.length<=1000000) (h3:PartsAt w pa s):SesV w (vs.set k (.slice pa s.length pc)) l:=⟨by rw [List.length_set];exact h.1,fun i v t hv ht=>by
 by_cases hi:k=i
 ·subst hi
  rw [hk] at ht
  cases ht
  rw [List.getElem?_set_self (by have:=(List.getElem?_eq_some_iff.1 hv).1;simpa using this)] at hv
  cases hv
  exact ⟨pa,pc,rfl,h1,h2,h3⟩
 ·rw [List.getElem?_set_ne hi] at hv
  exact h.2 i v t hv ht⟩
def NewTo (n k:Nat) (us:List Value):Prop:=∀ i,i < k->∀ (ad:Addr) (m c:Nat),us[i]? = some (.slice (some ad) m c)->n<=ad.block
theorem newTo_set {n k m c:Nat} {us:List Value} (h:NewTo n k us) {pa:Option Addr} (hp:∀ ad,pa=some ad->n<=ad.block):NewTo n (k+1) (us.set k (.slice pa m c)):=fun i hi ad m' c' e=>by
 by_cases hk:k=i
 ·subst hk;by_cases hl:k < us.length
  ·rw [List.getElem?_set_self hl] at e;injection e with e;injection e with e1 _ _;exact hp ad e1
  ·rw [List.getElem?_eq_none (by simp;omega)] at e;cases e
 ·rw [List.getElem?_set_ne hk] at e;exact h i (by omega) ad m' c' e
theorem sess_ks {w w':World} {base e n c:Nat} {a:Option Addr} {us:List Value} {l:List (List Prt)} {p:Nat->Prop} {q:Nat} (h:w'.ownsRow base e 1 (.slice a n c) n us) (hv:SesV w us l) (hn:NewTo q l.length us) (hk:KS p w w') (hp:∀ k,q<=k->p k):SessAt w' a l:=fun i hi=>by
 have hul:i < us.length:=by rw [hv.1];exact hi
 obtain ⟨g,rfl,_,h2,h3⟩:=row_cell h i hul;obtain ⟨pa,pc,e1,h4,h5,h6⟩:=hv.2 i us[i] l[i] (List.getElem?_eq_getElem hul) (List.getElem?_eq_getElem hi);refine ⟨g,0,rfl,h2,pa,pc,by rw [Nat.zero_add,h3,List.getElem?_eq_getElem hul,e1],h4,h5,fun j hj=>?_⟩;obtain ⟨b,o,rfl,hb,p0,p1⟩:=h6 j hj;have hne:p b:=hp b (hn i hi ⟨b,o,none⟩ _ _ (by rw [List.getElem?_eq_getElem hul,e1]));exact ⟨b,o,rfl,Nat.lt_of_lt_of_le hb hk.size,(hk.cell (x:=⟨b,o+j * 2,none⟩) hb hne).trans p0,(hk.cell (x:=⟨b,o+j * 2+1,none⟩) hb hne).trans p1⟩
theorem three_put {w:World} {B:Nat} {u0 u1 u2 u3 u4 v2 v3 v4:Value} (h0:w.cell? ⟨B,0,none⟩=some u0) (h1:w.cell? ⟨B,1,none⟩=some u1) (h2:w.cell? ⟨B,2,none⟩=some u2) (h3:w.cell? ⟨B,3,none⟩=some u3) (h4:w.cell? ⟨B,4,none⟩=some u4) {W:World} (hW:W=((w.setCell ⟨B,2,none⟩ v2).setCell ⟨B,4,none⟩ v4).setCell ⟨B,3,none⟩ v3) :
 W.cell? ⟨B,0,none⟩=some u0/\W.cell? ⟨B,1,none⟩=some u1/\W.cell? ⟨B,2,none⟩=some v2/\W.cell? ⟨B,3,none⟩=some v3/\W.cell? ⟨B,4,none⟩=some v4/\KS (fun k=>k≠B) w W:=by
 subst hW;have n:∀ {i j:Nat},i≠j->(⟨B,i,none⟩:Addr)≠⟨B,j,none⟩:=fun hij e=>hij (by injection e);refine ⟨?_,?_,?_,?_,?_,((KS.setCell (by simp) _ _).trans (KS.setCell (by simp) _ _)).trans (KS.setCell (by simp) _ _)⟩
 ·rw [World.cell?_setCell_other (h:=n (by decide)),World.cell?_setCell_other (h:=n (by decide)),World.cell?_setCell_other (h:=n (by decide))];exact h0
 ·rw [World.cell?_setCell_other (h:=n (by decide)),World.cell?_setCell_other (h:=n (by decide)),World.cell?_setCell_other (h:=n (by decide))];exact h1
 ·rw [World.cell?_setCell_other (h:=n (by decide)),World.cell?_setCell_other (h:=n (by decide))];exact World.cell?_setCell_same' _ _ _ (by rw [h2];rfl)
 ·refine World.cell?_setCell_same' _ _ _ ?_;rw [World.cell?_setCell_other (h:=n (by decide)),World.cell?_setCell_other (h:=n (by decide)),h3];rfl
 ·rw [World.cell?_setCell_other (h:=n (by decide))];refine World.cell?_setCell_same' _ _ _ ?_;rw [World.cell?_setCell_other (h:=n (by decide)),h4];rfl
theorem BookRet.no {t:Int} {e:Ending} {w':World} (h:e=.returned (.tuple #[.agg #[.int .i64 0,.int .i64 0,.slice none 0 0,.slice none 0 0,.slice none 0 0],.int .i64 t])/\Below w.heap.size w w'):BookRet w noBook t e w':=⟨_,_,_,_,_,h.1,fun W _=>noBook_at W,h.2⟩
theorem agreed_no (hB:BookAt w b vr vg vm vs vc) (hN:∀ m∈b.ms,m.name.size<=1000000) (hK:KindsAt w) {t:Int} (ht:openAl b 0=t) (h0:t≠0) :
 Calls Tryz.prog 47 #[.agg #[vr,vg,vm,vs,vc]] w fun e w'=>e=.returned (.tuple #[.agg #[.int .i64 0,.int .i64 0,.slice none 0 0,.slice none 0 0,.slice none 0 0],.int .i64 t])/\Below w.heap.size w w':=by
 have HB:=Hh hB;have HN:=Hh hN;have HK:=Hh hK;have HT:=Hh ht;have HH0:=Hh h0;have hz3:(t != 0)=true:=by simpa using h0
 obtain ⟨rfl,rfl,⟨ma,mc,rfl,_,_⟩,⟨sa,sc,rfl,_,_⟩,ra,rc,rfl,_,_⟩:=id hB;clear hB hN hK ht
 go_enter Tryz.func47,Tryz.ntmps47
 go_wp2_with (go_at_call 41;(with_reducible refine (open_nothing_no (HB.out.below (bel)) HN.out (HK.out.below (bel)) (al:=0) (fun hk W hW=>nothing_any _ _ _ _ _ _) HT.out HH0.out).mono ?_);rintro e w3 ⟨rfl,hb3⟩;obtain ⟨-,-,zy,zz,hs1⟩:=box_two hb3;obtain ⟨zc0,zc1,zc2,zc3,zc4⟩:=zy.five;obtain ⟨zf0,zf1,zf2,zf3,zf4⟩:=zz.five;clear zy zz);exact bodyPost_ret (v:=.tuple #[.agg #[.int .i64 0,.int .i64 0,.slice none 0 0,.slice none 0 0,.slice none 0 0],.int .i64 t]) (by simp [results,Tryz.results47,go_sem, *]) rfl ⟨rfl,bel⟩
theorem agreed_ok (hB:BookAt w b vr vg vm vs vc) (hN:∀ m∈b.ms,m.name.size<=1000000) (hK:KindsAt w) (ht:openAl b 0=0) :
 Calls Tryz.prog 47 #[.agg #[vr,vg,vm,vs,vc]] w (BookRet w b 0):=by
 have HB:=Hh hB;have HN:=Hh hN;have HK:=Hh hK;obtain ⟨hk,hpt,hps⟩:=openAl_ok ht;have HBA:=Hh hk;have HPS:=Hh hps;obtain ⟨rfl,rfl,⟨ma,mc,rfl,hM,hml⟩,⟨sa,sc,rfl,hS,hsl⟩,ra,rc,rfl,hR,hrl⟩:=id hB;have HM:=Hh hM;obtain ⟨vs,hvs,hsv,hso⟩:=sess_src hS;have HVL:=Hh hvs.1;have HVS:=Hh hvs;have HSV:=Hh hsv;have HSO:=Hh hso;have HR:=Hh hR;clear hB hN hK ht hk hpt hps hM hS hR hvs hsv hso
 go_enter Tryz.func47,Tryz.ntmps47
 go_wp2_with (go_at_call 41;(with_reducible refine (open_nothing_ok (HB.out.below (bel)) HN.out (HK.out.below (bel)) (al:=0) (fun hk W hW=>nothing_any _ _ _ _ _ _) HBA.out rfl HPS.out).mono ?_);rintro e w3 ⟨la,rfl,hrow,hb3⟩;obtain ⟨la,lc,rfl⟩:=ownsRow_slice hrow;clear hrow;obtain ⟨yy,yz,zy,zz,hs1⟩:=box_two hb3;obtain ⟨zc0,zc1,zc2,zc3,zc4⟩:=zy.five;obtain ⟨zf0,zf1,zf2,zf3,zf4⟩:=zz.five;have ZZ:=Hh (And.intro zy zz);clear zy zz;have HY:=Hh (And.intro yy yz);clear yy yz;have hs0:w.heap.size < w3.heap.size:=(by omega));refine Code.wp_mono ?_ (agr_4c (B:=w.heap.size) (R:=w.heap.size+1) (b:=b) (by kernel_rfl) (by kernel_rfl) ((World.cell?_alloc_past _ _ _ hs0).trans (HY.out.1 2 _ rfl)) ((World.cell?_alloc_past _ _ _ hs0).trans (HY.out.1 3 _ rfl)) ((World.cell?_alloc_past _ _ _ hs0).trans (HY.out.1 4 _ rfl)) (fun i=>(World.frozen?_alloc_past _ _ _ hs0).trans (HY.out.2 i)) (HM.out.below (bel)) HVL.out (HSV.out.below (bel)) HSO.out (HR.out.below (bel)) hml hsl hrl);intro e a' w2 h;cases e <;> try exact h.elim
 obtain ⟨⟨d,rfl⟩,m1,x1,r1,y1,s1,z1,w4,rfl,hb4,hp1,hp2,hp3⟩:=h;obtain ⟨A,hA⟩:∃ A,A=w3.alloc (.cells #[.int .i64 b.room,.int .i64 b.gap,.slice ma b.ms.length mc,.slice sa b.ss.length sc,.slice ra b.rs.length rc] 81):=⟨_,rfl⟩;rw [<- hA] at hb4 hp1 hp2 hp3;have hbA:Below w.heap.size w A:=by rw [hA];(exact bel)
 have hAs:A.heap.size=w3.heap.size+1:=by rw [hA];simp
 have hA0:w.heap.size < A.heap.size:=by omega
 have ya:∀ k u,(#[.int .i64 b.room,.int .i64 b.gap,.slice ma b.ms.length mc,.slice sa b.ss.length sc,.slice ra b.rs.length rc]:Array Value)[k]? = some u->w4.cell? ⟨w.heap.size,k,none⟩=some u:=fun k u hk=>(hb4.cell (p:=⟨w.heap.size,k,none⟩) hA0).trans (by rw [hA,World.cell?_alloc_past _ _ _ hs0];exact HY.out.1 k u hk);have za:∀ k u,(#[.int .i64 0,.int .i64 0,.slice none 0 0,.slice none 0 0,.slice none 0 0]:Array Value)[k]? = some u->w4.cell? ⟨w.heap.size+1,k,none⟩=some u:=fun k u hk=>(hb4.cell (p:=⟨w.heap.size+1,k,none⟩) (by show w.heap.size+1 < A.heap.size;omega)).trans (by rw [hA,World.cell?_alloc_past _ _ _ hs1];exact ZZ.out.1 k u hk);have zf:∀ k,w4.frozen? ⟨w.heap.size+1,k,none⟩=false:=fun k=>(hb4.frozen (p:=⟨w.heap.size+1,k,none⟩) (by show w.heap.size+1 < A.heap.size;omega)).trans (by rw [hA,World.frozen?_alloc_past _ _ _ hs1];exact ZZ.out.2 k);clear zc0 zc1 zc2 zc3 zc4 zf0 zf1 zf2 zf3 zf4 HY ZZ hA;obtain ⟨W5,hW5⟩:∃ W5,W5=((w4.setCell ⟨w.heap.size,2,none⟩ (.slice m1 b.ms.length x1)).setCell ⟨w.heap.size,4,none⟩ (.slice r1 b.rs.length y1)).setCell ⟨w.heap.size,3,none⟩ (.slice s1 b.ss.length z1):=⟨_,rfl⟩;obtain ⟨q0,q1,q2,q3,q4,hk5⟩:=three_put (ya 0 _ rfl) (ya 1 _ rfl) (ya 2 _ rfl) (ya 3 _ rfl) (ya 4 _ rfl) hW5;have hki:KI A W5:=by
  have n:∀ {i j:Nat},i≠j->(⟨w.heap.size,i,none⟩:Addr)≠⟨w.heap.size,j,none⟩:=fun hij e=>hij (by injection e);rw [hW5];refine (((KI.below hb4).trans (KI.set (ya 2 _ rfl) _)).trans (KI.set (b:=ra) (n:=b.rs.length) (c:=rc) ?_ _)).trans (KI.set (b:=sa) (n:=b.ss.length) (c:=sc) ?_ _)
  ·rw [World.cell?_setCell_other (h:=n (by decide))];exact ya 4 _ rfl
  ·rw [World.cell?_setCell_other (h:=n (by decide)),World.cell?_setCell_other (h:=n (by decide))];exact ya 3 _ rfl
 rw [<- hW5];have hb5:Below w.heap.size w W5:=hbA.trans ((hb4.mono hbA.size).trans (hk5.toBelow (n:=w.heap.size) (Nat.le_trans hbA.size hb4.size) (fun k hk=>by show k≠_;omega)));have hs5:A.heap.size<=W5.heap.size:=Nat.le_trans hb4.size hk5.size;have zr:∀ k u,(#[.int .i64 0,.int .i64 0,.slice none 0 0,.slice none 0 0,.slice none 0 0]:Array Value)[k]? = some u->W5.cell? ⟨w.heap.size+1,k,none⟩=some u:=fun k u hk=>(hk5.cell (x:=⟨w.heap.size+1,k,none⟩) (lt_of_cell (za k u hk)) (by show _≠_;simp)).trans (za k u hk);have zq:∀ k,W5.frozen? ⟨w.heap.size+1,k,none⟩=false:=fun k=>(hk5.frozen (x:=⟨w.heap.size+1,k,none⟩) (by have:=lt_of_cell (za 0 _ rfl);exact this) (by show _≠_;simp)).trans (zf k);have r1':=Hh (ownsRow_ks hp1 hk5 (fun k hk=>by show k≠_;omega));have r2':=Hh (ownsRow_ks hp2 hk5 (fun k hk=>by show k≠_;omega));have r3':=Hh (ownsRow_ks hp3 hk5 (fun k hk=>by show k≠_;omega));have hv5:=Hh (sesV_ki HVS.out ((KI.below hbA).trans hki));have HZR:=Hh zr;have HZQ:=Hh zq;have HB5:=Hh hb5;clear hW5 hki hp1 hp2 hp3 zr zq za zf ya hb4 hb5 hk5 hbA HB HN HK HBA HPS HM HVS HVL HSV HSO HR hb3;have hR5:w.heap.size+1 < W5.heap.size:=by omega
 have hB5:w.heap.size < W5.heap.size:=by omega
 simp only [agF];have Q:=Hh (show W5.cell? ⟨w.heap.size,0,none⟩=some (.int .i64 b.room)/\W5.cell? ⟨w.heap.size,1,none⟩=some (.int .i64 b.gap)/\W5.cell? ⟨w.heap.size,2,none⟩=some (.slice m1 b.ms.length x1)/\W5.cell? ⟨w.heap.size,4,none⟩=some (.slice r1 b.rs.length y1) from ⟨q0,q1,q2,q4⟩);clear q0 q1 q2 q4;go_wp2;go_loopw [34] (fun i wr=>∃ (k:Nat) (us:List Value),k<=b.ss.length/\i=.int .i64 k/\wr.ownsRow A.heap.size 32 1 (.slice s1 b.ss.length z1) b.ss.length us/\SesV wr us b.ss/\NewTo A.heap.size k us/\KS (fun i=>i < W5.heap.size/\(Value.slice s1 b.ss.length z1).ownBlock≠some i) W5 wr) (fun i _=>b.ss.length - (intOf i).toNat)
 case atStart=>exact ⟨0,vs,Nat.zero_le _,rfl,r3'.out,hv5.out,fun i hi=>absurd hi (Nat.not_lt_zero _),KS.refl _ _⟩
 case round =>
  obtain ⟨k,us,hk,rfl,hrow,hsv,hnr9,hW⟩:=hrel;have hWs:=hW.size;have HSV:=Hh hsv;have HROW:=Hh hrow;have HW:=Hh hW;have HNR:=Hh hnr9;clear hnr9;by_cases hlt:k < b.ss.length
  ·have hul:k < us.length:=by rw [hsv.1];exact hlt
   obtain ⟨pa,pc,hue,hpc,hpl,hPP⟩:=hsv.2 k us[k] b.ss[k] (List.getElem?_eq_getElem hul) (List.getElem?_eq_getElem hlt);have HP:=Hh hPP;have HGK:=Hh (List.getElem?_eq_getElem hlt);have hlk:=row_cell hrow k hul;rw [List.getElem?_eq_getElem hul,hue] at hlk;generalize b.ss[k]=ps at hpc hpl HP HGK hlk;obtain ⟨g,hsg,hg1,hg2,hgk⟩:=hlk;obtain rfl:=hsg;have hgz:wr.frozen? ⟨g,k,none⟩=false:=hrow.frozenAt k;have qc:wr.cell? ⟨w.heap.size,3,none⟩=some (.slice (some ⟨g,0,none⟩) b.ss.length z1):=(hW.cell (x:=⟨w.heap.size,3,none⟩) hB5 ⟨hB5,by simp [Value.ownBlock];omega⟩).trans q3;have hBr:w.heap.size < wr.heap.size:=by omega
   have hkl:(k:Int) < (b.ss.length:Int):=by omega
   clear hsv hrow hW hPP hue;go_wp2;refine Code.wp_mono ?_ (agr_8c (B:=w.heap.size) (R:=w.heap.size+1) (X:=wr.heap.size) (n:=b.ss.length) (k:=k) (g:=g) (sa0:=some ⟨g,0,none⟩) (sc0:=z1) (sc:=z1) (by kernel_rfl) (by kernel_rfl) ((World.cell?_alloc_past _ _ _ hBr).trans qc) (by rw [World.cell?_alloc_at _ _ _ _ rfl];rfl) ((World.cell?_alloc_past _ _ _ hg2).trans hgk) ((World.frozen?_alloc_past _ _ _ hg2).trans hgz) hlt hsl (HP.out.below (bal _ _)) hpl);intro e a' w2 h;cases e <;> try exact h.elim
   obtain ⟨⟨d2,rfl⟩,p1,xp,w6,rfl,hb6,hp6,hx6,hn6⟩:=h;simp only [agL,Array.getD_eq_getD_getElem?,List.getElem?_toArray,List.getElem?_cons_succ,List.getElem?_cons_zero,Option.getD_some];have hbr6:Below wr.heap.size wr w6:=(bal wr _).trans (hb6.mono (by simp));have hgk6:=(hbr6.cell (p:=⟨g,k,none⟩) hg2).trans hgk;have hrow6:=ownsRow_put (ownsRow_below HROW.out hbr6) (k:=k) (.slice p1 ps.length xp);have hks6:KS (fun i=>i < W5.heap.size/\(Value.slice (some ⟨g,0,none⟩) b.ss.length z1).ownBlock≠some i) W5 (w6.setCell ⟨g,k,none⟩ (.slice p1 ps.length xp)):=HW.out.trans ((KS.all hbr6 _).trans (KS.setCell (by simp [Value.ownBlock]) _ _));have hsv6:=sesV_set (sesV_ki HSV.out ((KI.below hbr6).trans (KI.set hgk6 (.slice p1 ps.length xp)))) HGK.out hx6 hpl ((KI.set hgk6 (.slice p1 ps.length xp)).parts hp6);have hnr6:NewTo A.heap.size (k+1) (us.set k (.slice p1 ps.length xp)):=newTo_set HNR.out (fun ad e=>by have h:=hn6 ad e;simp at h;omega);have H9:=Hh (And.intro hrow6 (And.intro hsv6 (And.intro hnr6 hks6)));clear hbr6 hgk6 hrow6 hks6 hsv6 hnr6 hb6 hp6 hx6 hn6 hgk hgz qc;go_wp2;go_roundw
   case rel=>exact ⟨k+1,_,by omega,by go_num,H9.out.1,H9.out.2.1,H9.out.2.2.1,H9.out.2.2.2⟩
   case measure=>simp [intOf];omega
  ·obtain rfl:k=b.ss.length:=by omega
   have hne:∀ i,i < A.heap.size->(Value.slice s1 b.ss.length z1).ownBlock≠some i:=fun i hi e=>by have:=(ownBlock_row HROW.out i e).1;omega
   have gc:∀ i k,i < A.heap.size->wr.cell? ⟨i,k,none⟩=W5.cell? ⟨i,k,none⟩:=fun i k hi=>HW.out.cell (x:=⟨i,k,none⟩) (by show i < _;omega) ⟨by show i < _;omega,hne i hi⟩;have gf:∀ i k,i < A.heap.size->wr.frozen? ⟨i,k,none⟩=W5.frozen? ⟨i,k,none⟩:=fun i k hi=>HW.out.frozen (x:=⟨i,k,none⟩) (by show i < _;omega) ⟨by show i < _;omega,hne i hi⟩;have hA1:w.heap.size+1 < A.heap.size:=by omega
   have c0:=(gc _ 0 hA0).trans Q.out.1;have c1:=(gc _ 1 hA0).trans Q.out.2.1;have c2:=(gc _ 2 hA0).trans Q.out.2.2.1;have c3:=(gc _ 3 hA0).trans q3;have c4:=(gc _ 4 hA0).trans Q.out.2.2.2;have d0:=(gc _ 0 hA1).trans (HZR.out 0 _ rfl);have d1:=(gc _ 1 hA1).trans (HZR.out 1 _ rfl);have d2:=(gc _ 2 hA1).trans (HZR.out 2 _ rfl);have d3:=(gc _ 3 hA1).trans (HZR.out 3 _ rfl);have d4:=(gc _ 4 hA1).trans (HZR.out 4 _ rfl);have f0:=(gf _ 0 hA1).trans (HZQ.out 0);have f1:=(gf _ 1 hA1).trans (HZQ.out 1);have f2:=(gf _ 2 hA1).trans (HZQ.out 2);have f3:=(gf _ 3 hA1).trans (HZQ.out 3);have f4:=(gf _ 4 hA1).trans (HZQ.out 4);have R1:=Hh (row_keep' r1'.out HW.out (fun g hg=>⟨(ownBlock_row r1'.out g hg).2,rows_apart' r1'.out r3'.out (by decide) g hg⟩));have R2:=Hh (row_keep' r2'.out HW.out (fun g hg=>⟨(ownBlock_row r2'.out g hg).2,rows_apart' r2'.out r3'.out (by decide) g hg⟩));have HBW:=Hh (HB5.out.trans (HW.out.toBelow (n:=w.heap.size) (by omega) (fun i hi=>⟨by omega,hne i (by omega)⟩)));have hBr:w.heap.size < wr.heap.size:=by omega
   have hRr:w.heap.size+1 < wr.heap.size:=by omega
   clear gc gf hne hrow hsv hW;go_wp2;have five:=Five.put (r:=w.heap.size+1) (v0:=.int .i64 b.room) (v1:=.int .i64 b.gap) (v2:=.slice m1 b.ms.length x1) (v3:=.slice s1 b.ss.length z1) (v4:=.slice r1 b.rs.length y1) (w:=wr) (by rw [d0];rfl) (by rw [d1];rfl) (by rw [d2];rfl) (by rw [d3];rfl) (by rw [d4];rfl) hRr;obtain ⟨W9,hW9⟩:∃ W9,W9=((((wr.setCell ⟨w.heap.size+1,0,none⟩ (.int .i64 b.room)).setCell ⟨w.heap.size+1,1,none⟩ (.int .i64 b.gap)).setCell ⟨w.heap.size+1,2,none⟩ (.slice m1 b.ms.length x1)).setCell ⟨w.heap.size+1,3,none⟩ (.slice s1 b.ss.length z1)).setCell ⟨w.heap.size+1,4,none⟩ (.slice r1 b.rs.length y1):=⟨_,rfl⟩;have k9:KS (fun k=>k≠w.heap.size+1) wr W9:=by
    rw [hW9];exact ((((KS.setCell (by simp) _ _).trans (KS.setCell (by simp) _ _)).trans (KS.setCell (by simp) _ _)).trans (KS.setCell (by simp) _ _)).trans (KS.setCell (by simp) _ _)
   rw [<- hW9] at five ⊢;clear hW9 c0 c1 c2 c3 c4 d0 d1 d2 d3 d4 f0 f1 f2 f3 f4;obtain ⟨c0,c1,c2,c3,c4,_⟩:=five;have hall:∀ W,KS (fun k=>w.heap.size<=k) W9 W->BookAt W b (.int .i64 b.room) (.int .i64 b.gap) (.slice m1 b.ms.length x1) (.slice s1 b.ss.length z1) (.slice r1 b.rs.length y1):=fun W hkW=>by
    have kW:KS (fun k=>A.heap.size<=k) wr W:=(k9.mono fun k _ h=>by show k≠_;have:A.heap.size<=k:=h;omega).trans (hkW.mono fun k _ h=>by show _<=k;have:A.heap.size<=k:=h;omega);exact ⟨rfl,rfl,⟨m1,x1,rfl,msgs_of_row (ownsRow_ks R1.out kW (fun k hk=>hk)),hml⟩,⟨s1,z1,rfl,sess_ks (ownsRow_ks HROW.out kW (fun k hk=>hk)) HSV.out HNR.out kW (fun k hk=>hk),hsl⟩,r1,y1,rfl,recs_of_row (ownsRow_ks R2.out kW (fun k hk=>hk)),hrl⟩
   have hbw:=HBW.out.trans (k9.toBelow (n:=w.heap.size) (by omega) (fun k hk=>by show k≠_;omega));exact bodyPost_ret (v:=.tuple #[.agg #[.int .i64 b.room,.int .i64 b.gap,.slice m1 b.ms.length x1,.slice s1 b.ss.length z1,.slice r1 b.rs.length y1],.int .i64 0]) (by simp [results,Tryz.results47,go_sem,c0,c1,c2,c3,c4]) rfl ⟨_,_,_,_,_,rfl,hall,hbw⟩
theorem agreed_at (hB:BookAt w b vr vg vm vs vc) (hN:∀ m∈b.ms,m.name.size<=1000000) (hK:KindsAt w) {t:Int} (ht:openAl b 0=t) {mb:Bk} (hmb:(if t=0 then b else noBook)=mb) :
 Calls Tryz.prog 47 #[.agg #[vr,vg,vm,vs,vc]] w (BookRet w mb t):=by
 subst hmb;by_cases h0:t=0
 ·subst h0;rw [if_pos rfl];exact agreed_ok hB hN hK ht
 ·rw [if_neg h0];exact (agreed_no hB hN hK ht h0).mono fun _ _ h=>BookRet.no h
end
variable {A:World} {B R X:Nat} {d:Nat->Value}
def ntF (B X R:Nat) (d:Nat->Value):Act:={ tmps:=#[d 0,d 1,.pointer (some ⟨B,0,none⟩),.pointer (some ⟨X,0,none⟩),.pointer (some ⟨R,0,none⟩),d 5,d 6,d 7,d 8,d 9,d 10,d 11,d 12,d 13,d 14,d 15,d 16,d 17,d 18,d 19,d 20,d 21,d 22,d 23],defers:=[] }
noncomputable def ntK (k:Nat):Code:=sql (sqN k (Tryz.f11.body.getD .skip))
theorem note_4 {n c:Nat} {a:Option Addr} {news:List Value} {r:Rec} (cb:A.cell? ⟨B,4,none⟩=some (.slice a n c)) (hz:A.frozen? ⟨B,4,none⟩=false) (x0:A.cell? ⟨X,0,none⟩=some (.int .i64 r.k)) (x1:A.cell? ⟨X,1,none⟩=some (.int .i64 r.a)) (x2:A.cell? ⟨X,2,none⟩=some (.int .i64 r.b)) (x3:A.cell? ⟨X,3,none⟩=some (.int .i64 r.m)) (hl:news.length=n * 4) (hn:n<=1000) (hs:SrcK A a news) (h1:∀ u∈news,u.oneCell'=true) :
 (ntK 2).wp Tryz.prog (NQ fun a' w2=>(∃ d,a'=ntF B X R d)/\∃ r1 y1 w4,w2=w4.setCell ⟨B,4,none⟩ (.slice r1 (n+1) y1)/\Below A.heap.size A w4/\w4.ownsRow A.heap.size 29 4 (.slice r1 (n+1) y1) (n+1) (news ++ [.int .i64 r.k,.int .i64 r.a,.int .i64 r.b,.int .i64 r.m])) (ntF B X R d) A:=by
 simp only [ntK,sqN,sql,sqr,cnd,blk,lpc,Tryz.f11,Option.getD_some,ntF];have hB0:=lt_of_cell cb;have hX0:=lt_of_cell x0;simp only at hB0 hX0;have HS:=Hh hs;have H1:=Hh h1;have HL:=Hh hl;have HT:=Hh (fun (w':World) (h:Below A.heap.size A w')=>(⟨(h.cell (p:=⟨B,4,none⟩) hB0).trans cb,(h.cell (p:=⟨X,0,none⟩) hX0).trans x0,(h.cell (p:=⟨X,1,none⟩) hX0).trans x1,(h.cell (p:=⟨X,2,none⟩) hX0).trans x2,(h.cell (p:=⟨X,3,none⟩) hX0).trans x3⟩:w'.cell? ⟨B,4,none⟩=some (.slice a n c)/\w'.cell? ⟨X,0,none⟩=some (.int .i64 r.k)/\w'.cell? ⟨X,1,none⟩=some (.int .i64 r.a)/\w'.cell? ⟨X,2,none⟩=some (.int .i64 r.b)/\w'.cell? ⟨X,3,none⟩=some (.int .i64 r.m)));have HZ:=Hh (fun (w':World) (h:Below A.heap.size A w')=>(h.frozen (p:=⟨B,4,none⟩) hB0).trans hz);clear cb hz hs h1 hl x0 x1 x2 x3;refine wp_region_D (S:=fun _=>True) (T:=fun w'=>w'.cell? ⟨B,4,none⟩=some (.slice a n c)/\w'.cell? ⟨X,0,none⟩=some (.int .i64 r.k)/\w'.cell? ⟨X,1,none⟩=some (.int .i64 r.a)/\w'.cell? ⟨X,2,none⟩=some (.int .i64 r.b)/\w'.cell? ⟨X,3,none⟩=some (.int .i64 r.m)) (d:=7) (by kernel_rfl) trivial (HT.out _ (bel)) (fun _ hTd=>?_);refine wpAnyD_take (i:=0) (v:=.pointer (some ⟨B,4,none⟩)) rfl (by decide +kernel) (fun _ _ _ h=>h) (Or.inl ⟨by rfl,?_⟩) trivial hTd ?_
 ·rintro w5 ⟨_,s1,s2,s3,s4,s5⟩;go_simp
 refine wpAnyD_take (i:=1) (v:=.slice a n c) rfl (by decide +kernel) (fun _ _ _ h=>h) (Or.inl ⟨by rfl,?_⟩) trivial hTd ?_
 ·rintro w5 ⟨_,s1,s2,s3,s4,s5⟩;go_simp
 refine wpAnyD_take (i:=3) (v:=.agg #[.int .i64 r.k,.int .i64 r.a,.int .i64 r.b,.int .i64 r.m]) rfl (by decide +kernel) (fun _ _ _ h=>h) (Or.inl ⟨by rfl,?_⟩) trivial hTd ?_
 ·rintro w5 ⟨_,s1,s2,s3,s4,s5⟩;go_simp
 refine wpAnyD_ready [2,4] (by decide +kernel) (by simp) ?_;refine AllReadyD.pre 2 rfl (fun K9 hK=>?_) ?_
 ·go_simp;refine (cloneRec_at HL.out (by omega) (HS.out.below (bel)) H1.out).mono ?_;rintro e w1 ⟨r1,y1,rfl,hr1,hb1⟩;have hr1:w1.ownsRow A.heap.size _ _ _ _ _:=hr1;have hbA1:Below A.heap.size A w1:=bel
  try go_simp
  refine hK.out _ _ trivial (HT.out _ (bel)) (fun _ _=>?_);refine wpAnyD_ready [4] (by decide +kernel) (by simp) ?_;refine AllReadyD.pre 4 rfl (fun K9 hK=>?_) AllReadyD.nil;go_simp;refine hK.out _ _ trivial (HT.out _ (bel)) (fun _ _=>?_);refine wpAnyD_ready [5] (by decide +kernel) (by simp) ?_;refine AllReadyD.pre 5 rfl (fun K9 hK=>?_) AllReadyD.nil;refine step_copy A rfl _ _ 24 rfl 29 Tryz.underlying24 recInfo rfl (by decide) (by decide) (.slice r1 n y1) n news rfl (some ⟨w1.heap.size,0,none⟩) 1 1 [.int .i64 r.k,.int .i64 r.a,.int .i64 r.b,.int .i64 r.m] rfl rfl (by simp [Value.oneCell']) (n+1) rfl (by omega) (bel) (hr1.alloc _) (srcK_new w1 [.int .i64 r.k,.int .i64 r.a,.int .i64 r.b,.int .i64 r.m] 29 rfl) (fun a2 c2 w2 hown2 hks2 hbw2=>?_);refine hK.out _ _ trivial (HT.out _ hbw2) (fun _ _=>?_);refine wpAnyD_ready [6] (by decide +kernel) (by simp) ?_;refine AllReadyD.pre 6 rfl (fun K9 hK=>?_) AllReadyD.nil;go_simp;have q1:=(HT.out _ hbw2).1;have q2:=HZ.out _ hbw2;refine hK.out _ _ trivial (HT.out _ hbw2) (fun _ _=>?_);refine wpAnyD_ready [7] (by decide +kernel) (by simp) ?_;refine AllReadyD.post 7 rfl (by rfl) (fun K9 hK=>?_) AllReadyD.nil;go_simp;refine hK.out _ _ trivial (fun _=>?_);exact wpAnyD_done (by decide +kernel) ⟨fr_of (F:=ntF B X R) (by kernel_rfl),a2,c2,w2,rfl,hbw2,hown2⟩ _
 refine AllReadyD.pre 4 rfl (fun K9 hK=>?_) ?_
 ·go_simp;refine hK.out _ _ trivial (HT.out _ (bel)) (fun _ _=>?_);refine wpAnyD_ready [2] (by decide +kernel) (by simp) ?_;refine AllReadyD.pre 2 rfl (fun K9 hK=>?_) AllReadyD.nil;go_simp;refine (cloneRec_at HL.out (by omega) (HS.out.below (bel)) H1.out).mono ?_;rintro e w1 ⟨r1,y1,rfl,hr1,hb1⟩;have hr1:=hr1.mono (show A.heap.size<=_ by simp);have hsx:=(srcK_new A.drew [.int .i64 r.k,.int .i64 r.a,.int .i64 r.b,.int .i64 r.m] 29 (n:=A.heap.size) rfl).below hb1;have hbA1:Below A.heap.size A w1:=bel
  try go_simp
  refine hK.out _ _ trivial (HT.out _ (bel)) (fun _ _=>?_);refine wpAnyD_ready [5] (by decide +kernel) (by simp) ?_;refine AllReadyD.pre 5 rfl (fun K9 hK=>?_) AllReadyD.nil;refine step_copy A rfl _ _ 24 rfl 29 Tryz.underlying24 recInfo rfl (by decide) (by decide) (.slice r1 n y1) n news rfl (some ⟨A.heap.size,0,none⟩) 1 1 [.int .i64 r.k,.int .i64 r.a,.int .i64 r.b,.int .i64 r.m] rfl rfl (by simp [Value.oneCell']) (n+1) rfl (by omega) (bel) hr1 hsx (fun a2 c2 w2 hown2 hks2 hbw2=>?_);refine hK.out _ _ trivial (HT.out _ hbw2) (fun _ _=>?_);refine wpAnyD_ready [6] (by decide +kernel) (by simp) ?_;refine AllReadyD.pre 6 rfl (fun K9 hK=>?_) AllReadyD.nil;go_simp;have q1:=(HT.out _ hbw2).1;have q2:=HZ.out _ hbw2;refine hK.out _ _ trivial (HT.out _ hbw2) (fun _ _=>?_);refine wpAnyD_ready [7] (by decide +kernel) (by simp) ?_;refine AllReadyD.post 7 rfl (by rfl) (fun K9 hK=>?_) AllReadyD.nil;go_simp;refine hK.out _ _ trivial (fun _=>?_);exact wpAnyD_done (by decide +kernel) ⟨fr_of (F:=ntF B X R) (by kernel_rfl),a2,c2,w2,rfl,hbw2,hown2⟩ _
 exact AllReadyD.nil
def ccF (B X R:Nat) (d:Nat->Value):Act:={ tmps:=#[d 0,d 1,.pointer (some ⟨B,0,none⟩),.pointer (some ⟨X,0,none⟩),.pointer (some ⟨R,0,none⟩),d 5,d 6,d 7,d 8,d 9,d 10,d 11,d 12,d 13,d 14,d 15,d 16,d 17,d 18,d 19,d 20,d 21,d 22,d 23],defers:=[] }
noncomputable def ccK (k:Nat):Code:=sql (sqN k (Tryz.f14.body.getD .skip))
theorem conn_4 {n c:Nat} {a:Option Addr} {news:List Value} {xa:Option Addr} {m xc:Nat} (cb:A.cell? ⟨B,3,none⟩=some (.slice a n c)) (hz:A.frozen? ⟨B,3,none⟩=false) (x0:A.cell? ⟨X,0,none⟩=some (.slice xa m xc)) (hl:news.length=n * 1) (hn:n<=1000) (hs:SrcK A a news) (h1:∀ u∈news,u.oneCell'=true) :
 (ccK 2).wp Tryz.prog (NQ fun a' w2=>(∃ d,a'=ccF B X R d)/\∃ r1 y1 w4,w2=w4.setCell ⟨B,3,none⟩ (.slice r1 (n+1) y1)/\Below A.heap.size A w4/\w4.ownsRow A.heap.size 32 1 (.slice r1 (n+1) y1) (n+1) (news ++ [.slice xa m xc])) (ccF B X R d) A:=by
 simp only [ccK,sqN,sql,sqr,cnd,blk,lpc,Tryz.f14,Option.getD_some,ccF];have hB0:=lt_of_cell cb;have hX0:=lt_of_cell x0;simp only at hB0 hX0;have HS:=Hh hs;have H1:=Hh h1;have HL:=Hh hl;have HT:=Hh (fun (w':World) (h:Below A.heap.size A w')=>(⟨(h.cell (p:=⟨B,3,none⟩) hB0).trans cb,(h.cell (p:=⟨X,0,none⟩) hX0).trans x0⟩:w'.cell? ⟨B,3,none⟩=some (.slice a n c)/\w'.cell? ⟨X,0,none⟩=some (.slice xa m xc)));have HZ:=Hh (fun (w':World) (h:Below A.heap.size A w')=>(h.frozen (p:=⟨B,3,none⟩) hB0).trans hz);clear cb hz hs h1 hl x0;refine wp_region_D (S:=fun _=>True) (T:=fun w'=>w'.cell? ⟨B,3,none⟩=some (.slice a n c)/\w'.cell? ⟨X,0,none⟩=some (.slice xa m xc)) (d:=7) (by kernel_rfl) trivial (HT.out _ (bel)) (fun _ hTd=>?_);refine wpAnyD_take (i:=0) (v:=.pointer (some ⟨B,3,none⟩)) rfl (by decide +kernel) (fun _ _ _ h=>h) (Or.inl ⟨by rfl,?_⟩) trivial hTd ?_
 ·rintro w5 ⟨_,s1,s2⟩;go_simp
 refine wpAnyD_take (i:=1) (v:=.slice a n c) rfl (by decide +kernel) (fun _ _ _ h=>h) (Or.inl ⟨by rfl,?_⟩) trivial hTd ?_
 ·rintro w5 ⟨_,s1,s2⟩;go_simp
 refine wpAnyD_take (i:=3) (v:=.agg #[.slice xa m xc]) rfl (by decide +kernel) (fun _ _ _ h=>h) (Or.inl ⟨by rfl,?_⟩) trivial hTd ?_
 ·rintro w5 ⟨_,s1,s2⟩;go_simp
 refine wpAnyD_ready [2,4] (by decide +kernel) (by simp) ?_;refine AllReadyD.pre 2 rfl (fun K9 hK=>?_) ?_
 ·go_simp;refine (cloneSes_at HL.out (by omega) (HS.out.below (bel)) H1.out).mono ?_;rintro e w1 ⟨r1,y1,rfl,hr1,hb1⟩;have hr1:w1.ownsRow A.heap.size _ _ _ _ _:=hr1;have hbA1:Below A.heap.size A w1:=bel
  try go_simp
  refine hK.out _ _ trivial (HT.out _ (bel)) (fun _ _=>?_);refine wpAnyD_ready [4] (by decide +kernel) (by simp) ?_;refine AllReadyD.pre 4 rfl (fun K9 hK=>?_) AllReadyD.nil;go_simp;refine hK.out _ _ trivial (HT.out _ (bel)) (fun _ _=>?_);refine wpAnyD_ready [5] (by decide +kernel) (by simp) ?_;refine AllReadyD.pre 5 rfl (fun K9 hK=>?_) AllReadyD.nil;refine step_copy A rfl _ _ 23 rfl 32 Tryz.underlying23 sesInfo1 rfl (by decide) (by decide) (.slice r1 n y1) n news rfl (some ⟨w1.heap.size,0,none⟩) 1 1 [.slice xa m xc] rfl rfl (by simp [Value.oneCell']) (n+1) rfl (by omega) (bel) (hr1.alloc _) (srcK_new w1 [.slice xa m xc] 32 rfl) (fun a2 c2 w2 hown2 hks2 hbw2=>?_);refine hK.out _ _ trivial (HT.out _ hbw2) (fun _ _=>?_);refine wpAnyD_ready [6] (by decide +kernel) (by simp) ?_;refine AllReadyD.pre 6 rfl (fun K9 hK=>?_) AllReadyD.nil;go_simp;have q1:=(HT.out _ hbw2).1;have q2:=HZ.out _ hbw2;refine hK.out _ _ trivial (HT.out _ hbw2) (fun _ _=>?_);refine wpAnyD_ready [7] (by decide +kernel) (by simp) ?_;refine AllReadyD.post 7 rfl (by rfl) (fun K9 hK=>?_) AllReadyD.nil;go_simp;refine hK.out _ _ trivial (fun _=>?_);exact wpAnyD_done (by decide +kernel) ⟨fr_of (F:=ccF B X R) (by kernel_rfl),a2,c2,w2,rfl,hbw2,hown2⟩ _
 refine AllReadyD.pre 4 rfl (fun K9 hK=>?_) ?_
 ·go_simp;refine hK.out _ _ trivial (HT.out _ (bel)) (fun _ _=>?_);refine wpAnyD_ready [2] (by decide +kernel) (by simp) ?_;refine AllReadyD.pre 2 rfl (fun K9 hK=>?_) AllReadyD.nil;go_simp;refine (cloneSes_at HL.out (by omega) (HS.out.below (bel)) H1.out).mono ?_;rintro e w1 ⟨r1,y1,rfl,hr1,hb1⟩;have hr1:=hr1.mono (show A.heap.size<=_ by simp);have hsx:=(srcK_new A.drew [.slice xa m xc] 32 (n:=A.heap.size) rfl).below hb1;have hbA1:Below A.heap.size A w1:=bel
  try go_simp
  refine hK.out _ _ trivial (HT.out _ (bel)) (fun _ _=>?_);refine wpAnyD_ready [5] (by decide +kernel) (by simp) ?_;refine AllReadyD.pre 5 rfl (fun K9 hK=>?_) AllReadyD.nil;refine step_copy A rfl _ _ 23 rfl 32 Tryz.underlying23 sesInfo1 rfl (by decide) (by decide) (.slice r1 n y1) n news rfl (some ⟨A.heap.size,0,none⟩) 1 1 [.slice xa m xc] rfl rfl (by simp [Value.oneCell']) (n+1) rfl (by omega) (bel) hr1 hsx (fun a2 c2 w2 hown2 hks2 hbw2=>?_);refine hK.out _ _ trivial (HT.out _ hbw2) (fun _ _=>?_);refine wpAnyD_ready [6] (by decide +kernel) (by simp) ?_;refine AllReadyD.pre 6 rfl (fun K9 hK=>?_) AllReadyD.nil;go_simp;have q1:=(HT.out _ hbw2).1;have q2:=HZ.out _ hbw2;refine hK.out _ _ trivial (HT.out _ hbw2) (fun _ _=>?_);refine wpAnyD_ready [7] (by decide +kernel) (by simp) ?_;refine AllReadyD.post 7 rfl (by rfl) (fun K9 hK=>?_) AllReadyD.nil;go_simp;refine hK.out _ _ trivial (fun _=>?_);exact wpAnyD_done (by decide +kernel) ⟨fr_of (F:=ccF B X R) (by kernel_rfl),a2,c2,w2,rfl,hbw2,hown2⟩ _
 exact AllReadyD.nil
end
end Go.Proofs.YtojkofjcblmnjaaGreatDoor
