/- Leads to StoreConnects of chapter 6: CX3 CX4 CX5. -/
import Derived.Test.YtfggbepickdokaaGreatDoorCX02
set_option maxHeartbeats 16000000
set_option maxRecDepth 100000
set_option linter.all false
namespace Go.Proofs.YtfggbepickdokaaGreatDoor
open Go.RowKit Go.Maps Sp Mt Go.Conc
variable {B X O P m xc sc:Nat} {b:Bk} {x:List Prt} {t n:Int} {vr vg vm vs vc ur ug um us uc us1 y0:Value} {w w0:World} {xa sa:Option Addr} {u v:List Prt} {d:Nat→Value}
theorem cx_4 {A:World} {n c m:Nat} {a:Option Addr} {news:List Value} (cb:A.cell? ⟨B,3,none⟩=some (.slice a n c)) (x0:A.cell? ⟨X,0,none⟩=some (.slice xa m xc)) (co:A.cell? ⟨O,3,none⟩=some y0) (hz:A.frozen? ⟨O,3,none⟩=false) (hl:news.length=n * 1) (hn:n≤1000) (hs:SrcK A a news) (h1:∀ u∈news,u.oneCell'=true) :
 (cx 4).wp Tryz.prog (NQ fun a' w2=>(∃ d,a'=cO B X O d)∧∃ r1 z1 w4,w2=w4.setCell ⟨O,3,none⟩ (.slice r1 (n+1) z1)∧Below A.heap.size A w4∧w4.ownsRow A.heap.size 40 1 (.slice r1 (n+1) z1) (n+1) (news ++ [.slice xa m xc])) (cO B X O d) A:=by
 simp only [cx,sqN,sql,sqr,cnd,blk,lpc,Tryz.f5,Option.getD_some,cO]
 have hB0:=lt_of_cell cb
 have hX0:=lt_of_cell x0
 have hO0:=lt_of_cell co
 simp only at hB0 hX0 hO0
 have HS:=Hh hs
 have H1:=Hh h1
 have HL:=Hh hl
 have HT:=Hh (fun (w':World) (h:Below A.heap.size A w')=>(⟨(h.cell (p:=⟨B,3,none⟩) hB0).trans cb,(h.cell (p:=⟨X,0,none⟩) hX0).trans x0⟩:w'.cell? ⟨B,3,none⟩=some (.slice a n c)∧w'.cell? ⟨X,0,none⟩=some (.slice xa m xc)))
 have HQ:=Hh (fun (w':World) (h:Below A.heap.size A w')=>(h.cell (p:=⟨O,3,none⟩) hO0).trans co)
 have HZ:=Hh (fun (w':World) (h:Below A.heap.size A w')=>(h.frozen (p:=⟨O,3,none⟩) hO0).trans hz)
 clear cb x0 co hz hs h1 hl
 refine wp_region_D (S:=fun _=>True) (T:=fun w'=>w'.cell? ⟨B,3,none⟩=some (.slice a n c)∧w'.cell? ⟨X,0,none⟩=some (.slice xa m xc)) (d:=8) (by kernel_rfl) trivial (HT.out _ (bel)) (fun _ hTd=>?_)
 refine wpAnyD_take (i:=1) (v:=.pointer (some ⟨B,3,none⟩)) rfl (by decide +kernel) (fun _ _ _ h=>h) (Or.inl ⟨by rfl,?_⟩) trivial hTd ?_
 ·rintro w5 ⟨_,s1,s2⟩;go_simp
 simp only [Act.put,List.setIfInBounds_toArray,List.set_cons_zero,List.set_cons_succ]
 refine wpAnyD_take (i:=2) (v:=.slice a n c) rfl (by decide +kernel) (fun _ _ _ h=>h) (Or.inl ⟨by rfl,?_⟩) trivial hTd ?_
 ·rintro w5 ⟨_,s1,s2⟩;go_simp
 simp only [Act.put,List.setIfInBounds_toArray,List.set_cons_zero,List.set_cons_succ]
 refine wpAnyD_take (i:=4) (v:=.agg #[.slice xa m xc]) rfl (by decide +kernel) (fun _ _ _ h=>h) (Or.inl ⟨by rfl,?_⟩) trivial hTd ?_
 ·rintro w5 ⟨_,s1,s2⟩;go_simp
 simp only [Act.put,List.setIfInBounds_toArray,List.set_cons_zero,List.set_cons_succ]
 refine wpAnyD_ready [0,5] (by decide +kernel) (by simp) ?_
 refine AllReadyD.pre 0 rfl (fun K9 hK=>?_) ?_
 ·go_simp
  refine hK.out _ _ trivial (HT.out _ (bel)) (fun _ _=>?_)
  try simp only [Act.put,List.setIfInBounds_toArray,List.set_cons_zero,List.set_cons_succ]
  refine wpAnyD_ready [3,5] (by decide +kernel) (by simp) ?_
  refine AllReadyD.pre 3 rfl (fun K9 hK=>?_) ?_
  ·refine step_copy A rfl _ _ 23 rfl 40 Tryz.underlying23 sesInfo1 rfl (by decide) (by decide) (.slice (some ⟨A.heap.size,0,none⟩) 0 0) 0 [] rfl a n c news rfl HL.out H1.out n (Nat.zero_add n) (by omega) (bel) (own_litK rfl (Nat.le_refl _)) (HS.out.below (bel)) (fun a2 c2 w2 hown2 hks2 hbw2=>?_)
   refine hK.out _ _ trivial (HT.out _ hbw2) (fun _ _=>?_)
   try simp only [Act.put,List.setIfInBounds_toArray,List.set_cons_zero,List.set_cons_succ]
   refine wpAnyD_ready [5] (by decide +kernel) (by simp) ?_
   refine AllReadyD.pre 5 rfl (fun K9 hK=>?_) AllReadyD.nil
   go_simp
   refine hK.out _ _ trivial (HT.out _ (bel)) (fun _ _=>?_)
   try simp only [Act.put,List.setIfInBounds_toArray,List.set_cons_zero,List.set_cons_succ]
   refine wpAnyD_ready [6] (by decide +kernel) (by simp) ?_
   refine AllReadyD.pre 6 rfl (fun K9 hK=>?_) AllReadyD.nil
   refine step_copy A rfl _ _ 23 rfl 40 Tryz.underlying23 sesInfo1 rfl (by decide) (by decide) (.slice a2 n c2) n ([] ++ news) rfl (some ⟨w2.heap.size,0,none⟩) 1 1 [.slice xa m xc] rfl rfl (by simp [Value.oneCell']) (n+1) rfl (by omega) (bel) (hown2.alloc _) (srcK_new w2 [.slice xa m xc] 40 rfl) (fun a4 c4 w4 hown4 hks4 hbw4=>?_)
   refine hK.out _ _ trivial (HT.out _ hbw4) (fun _ _=>?_)
   try simp only [Act.put,List.setIfInBounds_toArray,List.set_cons_zero,List.set_cons_succ]
   refine wpAnyD_ready [7] (by decide +kernel) (by simp) ?_
   refine AllReadyD.pre 7 rfl (fun K9 hK=>?_) AllReadyD.nil
   go_simp
   have q1:=HQ.out _ hbw4
   have q2:=HZ.out _ hbw4
   refine hK.out _ _ trivial (HT.out _ hbw4) (fun _ _=>?_)
   try simp only [Act.put,List.setIfInBounds_toArray,List.set_cons_zero,List.set_cons_succ]
   refine wpAnyD_ready [8] (by decide +kernel) (by simp) ?_
   refine AllReadyD.post 8 rfl (by rfl) (fun K9 hK=>?_) AllReadyD.nil
   go_simp
   refine hK.out _ _ trivial (fun _=>?_)
   try simp only [Act.put,List.setIfInBounds_toArray,List.set_cons_zero,List.set_cons_succ]
   exact wpAnyD_done (by decide +kernel) ⟨fr_of (F:=cO B X O) (by kernel_rfl),a4,c4,w4,rfl,hbw4,hown4⟩ _
  refine AllReadyD.pre 5 rfl (fun K9 hK=>?_) ?_
  ·go_simp
   refine hK.out _ _ trivial (HT.out _ (bel)) (fun _ _=>?_)
   try simp only [Act.put,List.setIfInBounds_toArray,List.set_cons_zero,List.set_cons_succ]
   refine wpAnyD_ready [3] (by decide +kernel) (by simp) ?_
   refine AllReadyD.pre 3 rfl (fun K9 hK=>?_) AllReadyD.nil
   refine step_copy A rfl _ _ 23 rfl 40 Tryz.underlying23 sesInfo1 rfl (by decide) (by decide) (.slice (some ⟨A.heap.size,0,none⟩) 0 0) 0 [] rfl a n c news rfl HL.out H1.out n (Nat.zero_add n) (by omega) (bel) ((own_litK (w:=A.drew) rfl (Nat.le_refl _)).alloc _) (HS.out.below (bel)) (fun a2 c2 w2 hown2 hks2 hbw2=>?_)
   refine hK.out _ _ trivial (HT.out _ hbw2) (fun _ _=>?_)
   try simp only [Act.put,List.setIfInBounds_toArray,List.set_cons_zero,List.set_cons_succ]
   refine wpAnyD_ready [6] (by decide +kernel) (by simp) ?_
   refine AllReadyD.pre 6 rfl (fun K9 hK=>?_) AllReadyD.nil
   refine step_copy A rfl _ _ 23 rfl 40 Tryz.underlying23 sesInfo1 rfl (by decide) (by decide) (.slice a2 n c2) n ([] ++ news) rfl (some ⟨A.heap.size+1,0,none⟩) 1 1 [.slice xa m xc] rfl rfl (by simp [Value.oneCell']) (n+1) rfl (by omega) (bel) hown2 ((srcK_new (A.drew.alloc (.cells #[] 40)) [.slice xa m xc] 40 (n:=A.heap.size+1) (by simp)).ks hks2 (fun ad e=>by cases e;simp [Value.ownBlock])) (fun a4 c4 w4 hown4 hks4 hbw4=>?_)
   refine hK.out _ _ trivial (HT.out _ hbw4) (fun _ _=>?_)
   try simp only [Act.put,List.setIfInBounds_toArray,List.set_cons_zero,List.set_cons_succ]
   refine wpAnyD_ready [7] (by decide +kernel) (by simp) ?_
   refine AllReadyD.pre 7 rfl (fun K9 hK=>?_) AllReadyD.nil
   go_simp
   have q1:=HQ.out _ hbw4
   have q2:=HZ.out _ hbw4
   refine hK.out _ _ trivial (HT.out _ hbw4) (fun _ _=>?_)
   try simp only [Act.put,List.setIfInBounds_toArray,List.set_cons_zero,List.set_cons_succ]
   refine wpAnyD_ready [8] (by decide +kernel) (by simp) ?_
   refine AllReadyD.post 8 rfl (by rfl) (fun K9 hK=>?_) AllReadyD.nil
   go_simp
   refine hK.out _ _ trivial (fun _=>?_)
   try simp only [Act.put,List.setIfInBounds_toArray,List.set_cons_zero,List.set_cons_succ]
   exact wpAnyD_done (by decide +kernel) ⟨fr_of (F:=cO B X O) (by kernel_rfl),a4,c4,w4,rfl,hbw4,hown4⟩ _
  exact AllReadyD.nil
 refine AllReadyD.pre 5 rfl (fun K9 hK=>?_) ?_
 ·go_simp
  refine hK.out _ _ trivial (HT.out _ (bel)) (fun _ _=>?_)
  try simp only [Act.put,List.setIfInBounds_toArray,List.set_cons_zero,List.set_cons_succ]
  refine wpAnyD_ready [0] (by decide +kernel) (by simp) ?_
  refine AllReadyD.pre 0 rfl (fun K9 hK=>?_) AllReadyD.nil
  go_simp
  refine hK.out _ _ trivial (HT.out _ (bel)) (fun _ _=>?_)
  try simp only [Act.put,List.setIfInBounds_toArray,List.set_cons_zero,List.set_cons_succ]
  refine wpAnyD_ready [3] (by decide +kernel) (by simp) ?_
  refine AllReadyD.pre 3 rfl (fun K9 hK=>?_) AllReadyD.nil
  refine step_copy A rfl _ _ 23 rfl 40 Tryz.underlying23 sesInfo1 rfl (by decide) (by decide) (.slice (some ⟨A.heap.size+1,0,none⟩) 0 0) 0 [] rfl a n c news rfl HL.out H1.out n (Nat.zero_add n) (by omega) (bel) (own_litK (by simp) (by omega)) (HS.out.below (bel)) (fun a2 c2 w2 hown2 hks2 hbw2=>?_)
  refine hK.out _ _ trivial (HT.out _ hbw2) (fun _ _=>?_)
  try simp only [Act.put,List.setIfInBounds_toArray,List.set_cons_zero,List.set_cons_succ]
  refine wpAnyD_ready [6] (by decide +kernel) (by simp) ?_
  refine AllReadyD.pre 6 rfl (fun K9 hK=>?_) AllReadyD.nil
  refine step_copy A rfl _ _ 23 rfl 40 Tryz.underlying23 sesInfo1 rfl (by decide) (by decide) (.slice a2 n c2) n ([] ++ news) rfl (some ⟨A.heap.size,0,none⟩) 1 1 [.slice xa m xc] rfl rfl (by simp [Value.oneCell']) (n+1) rfl (by omega) (bel) hown2 (((srcK_new A.drew [.slice xa m xc] 40 (n:=A.heap.size) rfl).ks (KS.alloc (fun _=>True) _ (.cells #[] 40)) (fun ad e=>trivial)).ks hks2 (fun ad e=>by cases e;simp [Value.ownBlock])) (fun a4 c4 w4 hown4 hks4 hbw4=>?_)
  refine hK.out _ _ trivial (HT.out _ hbw4) (fun _ _=>?_)
  try simp only [Act.put,List.setIfInBounds_toArray,List.set_cons_zero,List.set_cons_succ]
  refine wpAnyD_ready [7] (by decide +kernel) (by simp) ?_
  refine AllReadyD.pre 7 rfl (fun K9 hK=>?_) AllReadyD.nil
  go_simp
  have q1:=HQ.out _ hbw4
  have q2:=HZ.out _ hbw4
  refine hK.out _ _ trivial (HT.out _ hbw4) (fun _ _=>?_)
  try simp only [Act.put,List.setIfInBounds_toArray,List.set_cons_zero,List.set_cons_succ]
  refine wpAnyD_ready [8] (by decide +kernel) (by simp) ?_
  refine AllReadyD.post 8 rfl (by rfl) (fun K9 hK=>?_) AllReadyD.nil
  go_simp
  refine hK.out _ _ trivial (fun _=>?_)
  try simp only [Act.put,List.setIfInBounds_toArray,List.set_cons_zero,List.set_cons_succ]
  exact wpAnyD_done (by decide +kernel) ⟨fr_of (F:=cO B X O) (by kernel_rfl),a4,c4,w4,rfl,hbw4,hown4⟩ _
 exact AllReadyD.nil
def CXA (B X:Nat) (b:Bk) (x:List Prt) (xa:Option Addr) (xc:Nat) (vr vg vm vs vc:Value) (t:Int) (mb:Bk) (a':Act) (w2:World):Prop:=∃ O P us1 ur ug um us uc,(∃ d,a'=cA B X O P t d)∧BxSt w2 B b vr vg vm vs vc∧SxSt w2 X x xa xc∧BxSt w2 O (moreS b x) vr vg vm us1 vc∧BxSt w2 P mb ur ug um us uc
theorem cx_A (hE:BxSt w B b vr vg vm vs vc) (hX:SxSt w X x xa xc) (hS:SmallB b) (hxl:x.length≤20) (ht:connectAl b x=t) {mb:Bk} (hmb:(if t=0 then moreS b x else noBook)=mb) :
 wps Tryz.prog [cx 3,cx 4,cx 5] (fun a' w2=>CXA B X b x xa xc vr vg vm vs vc t mb a' w2∧Old w w2) (cF B X d) w:=by
 unfold cF
 have hss20:b.ss.length≤20:=hS.2.1
 have HNM:=Hh hS.names
 have HTT:=Hh ht
 have HMB:=Hh hmb
 have EE:=Hh hE
 have SX:=Hh hX
 have E0:=Hh hE
 have S0:=Hh hX
 clear hS ht hE hX hmb
 obtain ⟨rfl,rfl,⟨ma,mc,rfl,_⟩,⟨sa,sc,rfl,_,hsl⟩,ra,rc,rfl,_,hrl⟩:=id EE.out.bk
 refine wps_nq ?_
 obtain ⟨c9,hcc⟩:∃ c,cx 3=c:=⟨_,rfl⟩
 rw [hcc]
 simp only [cx,sqN,sql,sqr,cnd,blk,lpc,Tryz.f5,Option.getD_some] at hcc
 subst hcc
 obtain ⟨c0,c1,c2,c3,c4,_,_⟩:=id EE.out
 have HB:=Hh EE.out.bk
 have HK:=Hh EE.out.kd
 have hB0:=lt_of_cell c0
 simp only at hB0
 go_wp2
 have hbz:Below w.heap.size w (w.alloc (.cells #[.int .i64 b.room,.int .i64 b.gap,.slice ma b.ms.length mc,.slice sa b.ss.length sc,.slice ra b.rs.length rc] 26)):=bel
 have zz:∀ k u,(#[.int .i64 b.room,.int .i64 b.gap,.slice ma b.ms.length mc,.slice sa b.ss.length sc,.slice ra b.rs.length rc]:Array Value)[k]? = some u→(w.alloc (.cells #[.int .i64 b.room,.int .i64 b.gap,.slice ma b.ms.length mc,.slice sa b.ss.length sc,.slice ra b.rs.length rc] 26)).cell? ⟨w.heap.size,k,none⟩=some u:=fun k u hk=>by rw [World.cell?_alloc_at _ _ _ _ rfl];exact hk
 have zf:∀ k,(w.alloc (.cells #[.int .i64 b.room,.int .i64 b.gap,.slice ma b.ms.length mc,.slice sa b.ss.length sc,.slice ra b.rs.length rc] 26)).frozen? ⟨w.heap.size,k,none⟩=false:=fun k=>by rw [World.frozen?_alloc_at _ _ _ _ rfl]
 refine ⟨rfl,fun X1 t1=>?_⟩
 have o1:=Old.twin0 (Old.ofBelow hbz) t1
 have OO1:=Hh o1
 replace EE:=Hh (EE.out.old o1)
 replace SX:=Hh (SX.out.old o1)
 have ZZ:=Hh (fun k u hk=>(t1.cell _).trans (zz k u hk))
 have ZF:=Hh (fun k=>(t1.frozen _).trans (zf k))
 have hO:w.heap.size < X1.heap.size:=by have:=t1.size;simp at this;omega
 clear c0 c1 c2 c3 c4 HB HK hB0 hbz zz zf t1 o1
 obtain ⟨O,hOe⟩:∃ O,w.heap.size=O:=⟨_,rfl⟩
 rw [hOe] at ZZ ZF hO ⊢
 obtain ⟨_,_,_,⟨sa',sc',hse,hSS,_⟩,_⟩:=id EE.out.bk
 cases hse
 obtain ⟨vals,hvs,hsv,hso⟩:=sess_src hSS
 refine wps_nq (Code.wp_mono (fun e a' w1 h=>?_) (wp_fr (F:=cO B X O) (by kernel_rfl) fun d=>cx_4 EE.out.c3 SX.out.c (ZZ.out 3 _ rfl) (ZF.out 3) (by rw [hvs.1,Nat.mul_one]) (by omega) hsv hso))
 cases e <;> try exact h.elim
 obtain ⟨⟨d1,rfl⟩,r1,z1,w4,rfl,hb4,hrow4⟩:=h
 refine ⟨rfl,fun X2 t2=>?_⟩
 have q4:=(hb4.cell (p:=⟨O,3,none⟩) hO).trans (ZZ.out 3 _ rfl)
 have hks:KS (fun k=>k≠O) w4 (w4.setCell ⟨O,3,none⟩ (.slice r1 (b.ss.length+1) z1)):=KS.setCell (by simp) _ _
 have o4:Old X1 w4:=Old.ofBelow hb4
 have o2:Old w X2:=((OO1.out.trans o4).ks (by omega) (hks.mono fun k _ h=>h.2)).twin0 t2
 have hrow2:=row_twin (ownsRow_ks hrow4 hks (fun k hk=>by show k≠O;omega)) t2
 have hki:KI X1 (w4.setCell ⟨O,3,none⟩ (.slice r1 (b.ss.length+1) z1)):=(KI.below hb4).trans (KI.set q4 _)
 have hm2:SessAt X2 r1 (b.ss ++ [x]):=by
  have:=t2.sess (sess_row (ownsRow_ks hrow4 hks (fun k hk=>by show k≠O;omega)) (hvs.snoc SX.out.le (by omega) SX.out.at_) hki)
  exact this
 have oc:∀ k,k≠3→X2.cell? ⟨O,k,none⟩=X1.cell? ⟨O,k,none⟩:=fun k hk=>by
  rw [t2.cell,World.cell?_setCell_other (h:=fun e=>by injection e with _ e _;exact hk e.symm)]
  exact hb4.cell (p:=⟨O,k,none⟩) hO
 have c3':X2.cell? ⟨O,3,none⟩=some (.slice r1 (b.ss.length+1) z1):=(t2.cell _).trans (World.cell?_setCell_same' _ _ _ (by rw [q4];rfl))
 have E2:=Hh (E0.out.old o2)
 have S2:=Hh (S0.out.old o2)
 have M2:BxSt X2 O (moreS b x) (.int .i64 b.room) (.int .i64 b.gap) (.slice ma b.ms.length mc) (.slice r1 (b.ss.length+1) z1) (.slice ra b.rs.length rc):=by
  obtain ⟨h1,h2,h3,_,h5⟩:=E2.out.bk
  exact ⟨(oc 0 (by decide)).trans (ZZ.out 0 _ rfl),(oc 1 (by decide)).trans (ZZ.out 1 _ rfl),(oc 2 (by decide)).trans (ZZ.out 2 _ rfl),c3',(oc 4 (by decide)).trans (ZZ.out 4 _ rfl),⟨h1,h2,h3,⟨r1,z1,by simp [moreS],hm2,by simp [moreS];omega⟩,h5⟩,E2.out.kd⟩
 have MM:=Hh M2
 have OO2:=Hh o2
 clear M2 oc c3' hm2 hki hrow2 o2 o4 hks q4 hb4 hrow4 t2 hvs hsv hso hSS E0 S0 EE SX ZZ ZF OO1
 unfold cO
 refine wps_nq ?_
 obtain ⟨c9,hcc⟩:∃ c,cx 5=c:=⟨_,rfl⟩
 rw [hcc]
 simp only [cx,sqN,sql,sqr,cnd,blk,lpc,Tryz.f5,Option.getD_some] at hcc
 subst hcc
 obtain ⟨c0,c1,c2,c3,c4,_,_⟩:=id E2.out
 have HB:=Hh E2.out.bk
 have HK:=Hh E2.out.kd
 have hB0:=lt_of_cell c0
 simp only at hB0
 have cX:=S2.out.c
 have hX0:=lt_of_cell cX
 simp only at hX0
 go_wp2_with (go_at_call 32;(with_reducible refine (connect_at HB.out HNM.out HK.out S2.out.at_ (by omega) S2.out.le HTT.out HMB.out).mono ?_);rintro e w1 ⟨ur,ug,um,us,uc,rfl,hall,hb1⟩;have hbk:=hall _ (KS.refl _ _);clear hall;obtain ⟨rfl,rfl,⟨ea,ec,rfl,_⟩,⟨ga,gc,rfl,_⟩,ia,ic,rfl,_⟩:=id hbk)
 have hbp:Below w1.heap.size w1 (w1.alloc (.cells #[(.int .i64 mb.room),(.int .i64 mb.gap),(.slice ea mb.ms.length ec),(.slice ga mb.ss.length gc),(.slice ia mb.rs.length ic)] 26)):=bel
 have pp:∀ k u,(#[(.int .i64 mb.room),(.int .i64 mb.gap),(.slice ea mb.ms.length ec),(.slice ga mb.ss.length gc),(.slice ia mb.rs.length ic)]:Array Value)[k]? = some u→(w1.alloc (.cells #[(.int .i64 mb.room),(.int .i64 mb.gap),(.slice ea mb.ms.length ec),(.slice ga mb.ss.length gc),(.slice ia mb.rs.length ic)] 26)).cell? ⟨w1.heap.size,k,none⟩=some u:=fun k u hk=>by rw [World.cell?_alloc_at _ _ _ _ rfl];exact hk
 refine ⟨rfl,fun X3 t3=>?_⟩
 have o3:=(Old.ofBelow (Below.next hb1 hbp)).twin0 t3
 exact ⟨⟨O,w1.heap.size,_,_,_,_,_,_,fr_of (by kernel_rfl),E2.out.old o3,S2.out.old o3,MM.out.old o3,⟨(t3.cell _).trans (pp 0 _ rfl),(t3.cell _).trans (pp 1 _ rfl),(t3.cell _).trans (pp 2 _ rfl),(t3.cell _).trans (pp 3 _ rfl),(t3.cell _).trans (pp 4 _ rfl),t3.book (hbk.below hbp),(E2.out.old o3).kd⟩⟩,OO2.out.trans o3⟩
variable {B X O P m xc sc:Nat} {b:Bk} {x:List Prt} {t n:Int} {vr vg vm vs vc ur ug um us uc us1 y0:Value} {w w0:World} {xa sa:Option Addr} {u v:List Prt} {d:Nat→Value}
def cC (B X O P:Nat) (t u:Int) (d:Nat→Value):Act:={ tmps:=#[d 0,d 1,.pointer (some ⟨B,0,none⟩),.pointer (some ⟨X,0,none⟩),d 4,d 5,.pointer (some ⟨O,0,none⟩),.pointer (some ⟨P,0,none⟩),.int .i64 t,.int .i64 u,d 10,d 11,d 12,d 13,d 14,d 15,d 16,d 17,d 18,d 19,d 20,d 21,d 22,d 23,d 24,d 25,d 26,d 27,d 28,d 29,d 30,d 31,d 32,d 33,d 34,d 35,d 36,d 37,d 38,d 39,d 40,d 41,d 42,d 43,d 44,d 45,d 46,d 47,d 48,d 49,d 50,d 51,d 52,d 53,d 54,d 55,d 56,d 57,d 58,d 59,d 60,d 61,d 62,d 63,d 64,d 65,d 66,d 67,d 68,d 69,d 70,d 71,d 72,d 73,d 74,d 75,d 76,d 77,d 78,d 79,d 80,d 81,d 82,d 83,d 84,d 85,d 86,d 87,d 88,d 89,d 90,d 91,d 92,d 93,d 94,d 95,d 96,d 97,d 98,d 99,d 100,d 101,d 102,d 103,d 104,d 105,d 106,d 107,d 108,d 109,d 110,d 111,d 112,d 113,d 114,d 115,d 116,d 117,d 118,d 119,d 120,d 121,d 122,d 123,d 124,d 125,d 126,d 127,d 128,d 129,d 130,d 131,d 132,d 133,d 134,d 135,d 136,d 137,d 138,d 139,d 140,d 141,d 142,d 143,d 144,d 145,d 146,d 147,d 148,d 149,d 150],defers:=[] }
def cN (B X O P:Nat) (t n:Int) (d:Nat→Value):Act:={ tmps:=#[d 0,d 1,.pointer (some ⟨B,0,none⟩),.pointer (some ⟨X,0,none⟩),d 4,d 5,.pointer (some ⟨O,0,none⟩),.pointer (some ⟨P,0,none⟩),.int .i64 t,d 9,.int .i64 n,.int .i64 0,d 12,d 13,d 14,d 15,d 16,d 17,d 18,d 19,d 20,d 21,d 22,d 23,d 24,d 25,d 26,d 27,d 28,d 29,d 30,d 31,d 32,d 33,d 34,d 35,d 36,d 37,d 38,d 39,d 40,d 41,d 42,d 43,d 44,d 45,d 46,d 47,d 48,d 49,d 50,d 51,d 52,d 53,d 54,d 55,d 56,d 57,d 58,d 59,d 60,d 61,d 62,d 63,d 64,d 65,d 66,d 67,d 68,d 69,d 70,d 71,d 72,d 73,d 74,d 75,d 76,d 77,d 78,d 79,d 80,d 81,d 82,d 83,d 84,d 85,d 86,d 87,d 88,d 89,d 90,d 91,d 92,d 93,d 94,d 95,d 96,d 97,d 98,d 99,d 100,d 101,d 102,d 103,d 104,d 105,d 106,d 107,d 108,d 109,d 110,d 111,d 112,d 113,d 114,d 115,d 116,d 117,d 118,d 119,d 120,d 121,d 122,d 123,d 124,d 125,d 126,d 127,d 128,d 129,d 130,d 131,d 132,d 133,d 134,d 135,d 136,d 137,d 138,d 139,d 140,d 141,d 142,d 143,d 144,d 145,d 146,d 147,d 148,d 149,d 150],defers:=[] }
def cE (X:Nat) (n m:Int) (qa:Option Addr) (qn qc:Nat) (pa:Option Addr) (pn pc:Nat) (d:Nat→Value):Act:={ tmps:=#[d 0,d 1,d 2,.pointer (some ⟨X,0,none⟩),d 4,d 5,d 6,d 7,d 8,d 9,.int .i64 n,.int .i64 0,.int .i64 m,.slice qa qn qc,.int .i64 0,.slice pa pn pc,.int .i64 0,d 17,d 18,d 19,d 20,d 21,d 22,d 23,d 24,d 25,d 26,d 27,d 28,d 29,d 30,d 31,d 32,d 33,d 34,d 35,d 36,d 37,d 38,d 39,d 40,d 41,d 42,d 43,d 44,d 45,d 46,d 47,d 48,d 49,d 50,d 51,d 52,d 53,d 54,d 55,d 56,d 57,d 58,d 59,d 60,d 61,d 62,d 63,d 64,d 65,d 66,d 67,d 68,d 69,d 70,d 71,d 72,d 73,d 74,d 75,d 76,d 77,d 78,d 79,d 80,d 81,d 82,d 83,d 84,d 85,d 86,d 87,d 88,d 89,d 90,d 91,d 92,d 93,d 94,d 95,d 96,d 97,d 98,d 99,d 100,d 101,d 102,d 103,d 104,d 105,d 106,d 107,d 108,d 109,d 110,d 111,d 112,d 113,d 114,d 115,d 116,d 117,d 118,d 119,d 120,d 121,d 122,d 123,d 124,d 125,d 126,d 127,d 128,d 129,d 130,d 131,d 132,d 133,d 134,d 135,d 136,d 137,d 138,d 139,d 140,d 141,d 142,d 143,d 144,d 145,d 146,d 147,d 148,d 149,d 150],defers:=[] }
def CX6 (B X O P:Nat) (t u:Int) (y:Bool) (a':Act) (w2:World):Prop:=a'.tmps[69]? = some (.bool y)∧∃ d,a'=cC B X O P t u d
theorem cx_6 {y:Bool} {u:Int} {b':Bk} (hM:BxSt w O b' ur ug um us uc) (hN:∀ m∈b'.ms,m.name.size≤1000000) (hu:bookAl b'=u) (hy:(u != 0)=y) :
 wps Tryz.prog [sql (cx 6),sql (sqr (cx 6))] (fun a' w2=>CX6 B X O P t u y a' w2∧Old w w2) (cA B X O P t d) w:=by
 unfold cA
 have MM:=Hh hM
 have HNM:=Hh hN
 have HU:=Hh hu
 clear hM hN hu
 refine wps_nq ?_
 obtain ⟨c9,hcc⟩:∃ c,sql (cx 6)=c:=⟨_,rfl⟩
 rw [hcc]
 simp only [cx,sqN,sql,sqr,cnd,blk,lpc,Tryz.f5,Option.getD_some] at hcc
 subst hcc
 obtain ⟨c0,c1,c2,c3,c4,_,_⟩:=id MM.out
 have HB:=Hh MM.out.bk
 have HK:=Hh MM.out.kd
 have hB0:=lt_of_cell c0
 simp only at hB0
 go_wp2_with (go_at_call 23;(with_reducible refine (rCheckBook_at HB.out HNM.out HU.out).mono ?_);rintro e w1 ⟨rfl,hb1⟩)
 refine ⟨rfl,fun X1 t1=>?_⟩
 have o1:=(Old.ofBelow hb1).twin0 t1
 have OO1:=Hh o1
 clear c0 c1 c2 c3 c4 HB HK hB0 t1 o1 hb1
 refine wps_nq ?_
 obtain ⟨c9,hcc⟩:∃ c,sql (sqr (cx 6))=c:=⟨_,rfl⟩
 rw [hcc]
 simp only [cx,sqN,sql,sqr,cnd,blk,lpc,Tryz.f5,Option.getD_some] at hcc
 subst hcc
 cases y with
 | true =>
  go_wp2
  refine ⟨rfl,fun X2 t2=>?_⟩
  exact ⟨⟨rfl,fr_of (by kernel_rfl)⟩,OO1.out.trans ((Old.refl _).twin0 t2)⟩
 | false =>
  go_wp2
  refine ⟨rfl,fun X2 t2=>?_⟩
  exact ⟨⟨rfl,fr_of (by kernel_rfl)⟩,OO1.out.trans ((Old.refl _).twin0 t2)⟩
def CXN (B X O P:Nat) (t n:Int) (a':Act) (w2:World):Prop:=∃ d,a'=cN B X O P t n d
theorem cx_7 (hE:BxSt w B b vr vg vm vs vc) (hS:SmallB b) (hk:bookAl b=0) (hn:histN b=n) :
 wps Tryz.prog [cx 7,cx 8] (fun a' w2=>CXN B X O P t n a' w2∧Old w w2) (cC B X O P t 0 d) w:=by
 unfold cC
 have EE:=Hh hE
 have HNM:=Hh hS.names
 have HN:=Hh hn
 have HKA:=Hh hk
 clear hS hk hn hE
 refine wps_nq ?_
 obtain ⟨c9,hcc⟩:∃ c,cx 7=c:=⟨_,rfl⟩
 rw [hcc]
 simp only [cx,sqN,sql,sqr,cnd,blk,lpc,Tryz.f5,Option.getD_some] at hcc
 subst hcc
 obtain ⟨c0,c1,c2,c3,c4,_,_⟩:=id EE.out
 have HB:=Hh EE.out.bk
 have HK:=Hh EE.out.kd
 have hB0:=lt_of_cell c0
 simp only at hB0
 go_wp2_with (go_at_call 25;(with_reducible refine (histories2_at HB.out HNM.out HK.out HN.out HKA.out).mono ?_);rintro e w1 ⟨rfl,hb1⟩)
 refine ⟨rfl,fun X1 t1=>?_⟩
 have o1:=(Old.ofBelow hb1).twin0 t1
 have OO1:=Hh o1
 clear c0 c1 c2 c3 c4 HB HK hB0 t1 o1 hb1
 refine wps_nq ?_
 obtain ⟨c9,hcc⟩:∃ c,cx 8=c:=⟨_,rfl⟩
 rw [hcc]
 simp only [cx,sqN,sql,sqr,cnd,blk,lpc,Tryz.f5,Option.getD_some] at hcc
 subst hcc
 go_wp2
 refine ⟨rfl,fun X2 t2=>?_⟩
 exact ⟨fr_of (by kernel_rfl),OO1.out.trans ((Old.refl _).twin0 t2)⟩
def CX9 (B X O P:Nat) (t n:Int) (y:Bool) (a':Act) (w2:World):Prop:=a'.tmps[89]? = some (.bool y)∧∃ d,a'=cN B X O P t n d
theorem cx_9 {y:Bool} (hy:(n == 0)=y):(sql (cx 9)).wp Tryz.prog (PZ w (CX9 B X O P t n y)) (cN B X O P t n d) w:=by
 simp only [cx,sqN,sql,sqr,cnd,blk,lpc,Tryz.f5,Option.getD_some,cN]
 cases y with
 | true =>
  go_wp2
  exact ⟨rfl,⟨rfl,fr_of (by kernel_rfl)⟩,bel⟩
 | false =>
  go_wp2
  exact ⟨rfl,⟨rfl,fr_of (by kernel_rfl)⟩,bel⟩
def CXE (X:Nat) (n m:Int) (x:List Prt) (xa:Option Addr) (xc:Nat) (u v:List Prt) (a':Act) (w2:World):Prop:=∃ qa qc pa pc,(∃ d,a'=cE X n m qa u.length qc pa v.length pc d)∧SxSt w2 X x xa xc∧KindsAt w2∧PartsAt w2 qa u∧PartsAt w2 pa v
theorem cx_B {m:Int} {b':Bk} {vr2 vg2 vm2 vs2 vc2:Value} (hE:BxSt w B b vr vg vm vs vc) (hX:SxSt w X x xa xc) (hO:BxSt w O b' vr2 vg2 vm2 vs2 vc2) (hP:BxSt w P b' ur ug um us uc) (hN:∀ m∈b.ms,m.name.size≤1000000) (hN':∀ m∈b'.ms,m.name.size≤1000000) (hk':bookAl b'=0) (ho:openAl b 0=0) (ho':openAl b' 0=0) (hm:histN b'=m) (hu:missI b=u) (hv:missI b'=v) :
 wps Tryz.prog [cx 10,cx 11,cx 12,cx 13] (fun a' w2=>CXE X n m x xa xc u v a' w2∧Old w w2) (cN B X O P 0 n d) w:=by
 unfold cN
 have EE:=Hh hE
 have SX:=Hh hX
 have MO:=Hh hO
 have MP:=Hh hP
 have HNM:=Hh hN
 have HNP:=Hh hN'
 have HKP:=Hh hk'
 have HOB:=Hh ho
 have HOP:=Hh ho'
 have HMM:=Hh hm
 have HU:=Hh hu
 have HV:=Hh hv
 have OO0:=Hh (Old.refl w)
 clear hE hX hO hP hN hN' hk' ho ho' hm hu hv
 refine wps_nq ?_
 obtain ⟨c9,hcc⟩:∃ c,cx 10=c:=⟨_,rfl⟩
 rw [hcc]
 simp only [cx,sqN,sql,sqr,cnd,blk,lpc,Tryz.f5,Option.getD_some] at hcc
 subst hcc
 obtain ⟨c0,c1,c2,c3,c4,_,_⟩:=id MO.out
 have HB:=Hh MO.out.bk
 have HK:=Hh MO.out.kd
 have hB0:=lt_of_cell c0
 simp only at hB0
 obtain ⟨c0',c1',c2',c3',c4',_,_⟩:=id MP.out
 have HB':=Hh MP.out.bk
 have HK':=Hh MP.out.kd
 have hB0':=lt_of_cell c0'
 simp only at hB0'
 go_wp2_with (go_at_call 24;(with_reducible refine (same_at HB'.out HB.out).mono ?_);rintro e w1 ⟨rfl,hb1⟩)
 refine ⟨rfl,fun X1 t1=>?_⟩
 have o1:=Old.twin0 (Old.ofBelow hb1) t1
 have OO1:=Hh (OO0.out.trans o1)
 replace EE:=Hh (EE.out.old o1)
 replace SX:=Hh (SX.out.old o1)
 replace MO:=Hh (MO.out.old o1)
 replace MP:=Hh (MP.out.old o1)
 clear t1 o1 hb1 OO0 c0 c1 c2 c3 c4 HB HK hB0 c0' c1' c2' c3' c4' HB' HK' hB0'
 refine wps_nq ?_
 obtain ⟨c9,hcc⟩:∃ c,cx 11=c:=⟨_,rfl⟩
 rw [hcc]
 simp only [cx,sqN,sql,sqr,cnd,blk,lpc,Tryz.f5,Option.getD_some] at hcc
 subst hcc
 obtain ⟨c0,c1,c2,c3,c4,_,_⟩:=id MP.out
 have HB:=Hh MP.out.bk
 have HK:=Hh MP.out.kd
 have hB0:=lt_of_cell c0
 simp only at hB0
 go_wp2_with (go_at_call 25;(with_reducible refine (histories2_at HB.out HNP.out HK.out HMM.out HKP.out).mono ?_);rintro e w1 ⟨rfl,hb1⟩)
 refine ⟨rfl,fun X2 t1=>?_⟩
 have o1:=Old.twin0 (Old.ofBelow hb1) t1
 have OO2:=Hh (OO1.out.trans o1)
 replace EE:=Hh (EE.out.old o1)
 replace SX:=Hh (SX.out.old o1)
 replace MO:=Hh (MO.out.old o1)
 replace MP:=Hh (MP.out.old o1)
 clear t1 o1 hb1 OO1 c0 c1 c2 c3 c4 HB HK hB0
 refine wps_nq ?_
 obtain ⟨c9,hcc⟩:∃ c,cx 12=c:=⟨_,rfl⟩
 rw [hcc]
 simp only [cx,sqN,sql,sqr,cnd,blk,lpc,Tryz.f5,Option.getD_some] at hcc
 subst hcc
 obtain ⟨c0,c1,c2,c3,c4,_,_⟩:=id EE.out
 have HB:=Hh EE.out.bk
 have HK:=Hh EE.out.kd
 have hB0:=lt_of_cell c0
 simp only at hB0
 go_wp2_with (go_at_call 28;(with_reducible refine (missingApi_ok HB.out HNM.out HK.out HOB.out).mono ?_);rintro e w1 ⟨qa,qc,rfl,hx1,hb1⟩)
 rw [HU.out] at hx1 ⊢
 refine ⟨rfl,fun X3 t1=>?_⟩
 have o1:=Old.twin0 (Old.ofBelow hb1) t1
 have OO3:=Hh (OO2.out.trans o1)
 replace EE:=Hh (EE.out.old o1)
 replace SX:=Hh (SX.out.old o1)
 replace MO:=Hh (MO.out.old o1)
 replace MP:=Hh (MP.out.old o1)
 have QP:=Hh (t1.parts hx1)
 clear t1 o1 hb1 OO2 c0 c1 c2 c3 c4 HB HK hB0 hx1
 refine wps_nq ?_
 obtain ⟨c9,hcc⟩:∃ c,cx 13=c:=⟨_,rfl⟩
 rw [hcc]
 simp only [cx,sqN,sql,sqr,cnd,blk,lpc,Tryz.f5,Option.getD_some] at hcc
 subst hcc
 obtain ⟨c0,c1,c2,c3,c4,_,_⟩:=id MP.out
 have HB:=Hh MP.out.bk
 have HK:=Hh MP.out.kd
 have hB0:=lt_of_cell c0
 simp only at hB0
 go_wp2_with (go_at_call 28;(with_reducible refine (missingApi_ok HB.out HNP.out HK.out HOP.out).mono ?_);rintro e w1 ⟨pa,pc,rfl,hx1,hb1⟩)
 rw [HV.out] at hx1 ⊢
 refine ⟨rfl,fun X4 t1=>?_⟩
 have o1:=Old.twin0 (Old.ofBelow hb1) t1
 have OO4:=Hh (OO3.out.trans o1)
 replace EE:=Hh (EE.out.old o1)
 replace SX:=Hh (SX.out.old o1)
 replace MO:=Hh (MO.out.old o1)
 replace MP:=Hh (MP.out.old o1)
 replace QP:=Hh (o1.parts QP.out)
 have PP:=Hh (t1.parts hx1)
 clear t1 o1 hb1 OO3 c0 c1 c2 c3 c4 HB HK hB0 hx1
 exact ⟨⟨qa,qc,pa,pc,fr_of (by kernel_rfl),SX.out,EE.out.kd,QP.out,PP.out⟩,OO4.out⟩
variable {B X O P m xc sc:Nat} {b:Bk} {x:List Prt} {t n:Int} {vr vg vm vs vc ur ug um us uc us1 y0:Value} {w w0:World} {xa sa:Option Addr} {u v:List Prt} {d:Nat→Value}
theorem cx_leaves {a:Act} {k:List Item} (g6:a.tmps[4]? = some (.bool true)) (df:a.defers=[]) (h:Old w0 w) :
 Leaving0 Tryz.prog (fun v w'=>v=.bool true∧Old w0 w') { (Go.Conc.base 5).at a k with mode:=.returning } [] w:=by
 refine ⟨rfl,rfl,rfl,df,by kernel_rfl,.bool true,_,Tryz.func5,fun d=>⟨⟨rfl,h.at d⟩,#[],?_,by simp⟩⟩
 rw [Sem.runT_eq]
 refine Prod.ext ?_ ?_ <;> simp [results,Tryz.results5,go_sem,Frame.at,Go.Conc.base,g6]
theorem cxFrame {c:Code} {x0 x1:Value} (hc:Tryz.f5.body=some c):Frame.enter Tryz.prog 5 #[x0,x1] .normal=(Go.Conc.base 5).at (cI x0 x1 fun _=>undef) [.code c]:=by
 rw [Go.Conc.enter_at #[x0,x1] Tryz.func5 hc]
 simp only [Tryz.ntmps5,cI,List.size_toArray,List.length_cons,List.length_nil,Nat.reduceAdd,Nat.reduceSub,Array.replicate_succ,Array.replicate_zero,List.push_toArray,List.append_toArray,List.nil_append,List.cons_append]
theorem cx_early2 (hold:Old w0 w) (hK:KindsAt w)  {a:Act} (q:Kn a 151 []) {kk:List Item} :
 LeadsA Tryz.prog (Leaving0 Tryz.prog fun v w'=>v=.bool true∧Old w0 w') ((Go.Conc.base 5).at a (.code (cnd (sqr (cx 1)))::kk)) [] w:=by
 have nb:(Go.Conc.base 5).kind=.normal:=rfl
 simp only [cx,sqN,sql,sqr,cnd,blk,lpc,Tryz.f5,Option.getD_some]
 refine all_seq ?_
 refine all_region ?_
 simp only [List.size_toArray,List.length_cons,List.length_nil,Nat.reduceAdd,Nat.zero_add,List.range,List.range.loop]
 refine sc 8 #[] nb rfl rfl rfl (fun w'=>by simp [go_sem];exact ev_call Tryz.func8 (by kernel_rfl) (by kernel_rfl)) q (by decide) rfl (v:=.bool true) (fun c w' t=>stored_lead3 hK t _ _) fun _ _ ho q=>?_
 replace hK:=ho.kinds hK
 replace hold:=hold.trans ho
 clear ho
 refine st (.bool true) nb rfl rfl rfl (fun _=>by simp [go_sem,q.g 26 rfl]) q (by decide) rfl fun _ q=>?_
 refine all_end ?_
 refine all_ret ?_
 intro w' t
 exact .done (cx_leaves (q.g 4 rfl) q.df (hold.twin0 t))
theorem cx_early7 (hold:Old w0 w) (hK:KindsAt w)  {a:Act} (q:Kn a 151 []) {kk:List Item} :
 LeadsA Tryz.prog (Leaving0 Tryz.prog fun v w'=>v=.bool true∧Old w0 w') ((Go.Conc.base 5).at a (.code (cnd (sqr (blk (sql (sqr cxB)))))::kk)) [] w:=by
 have nb:(Go.Conc.base 5).kind=.normal:=rfl
 simp only [cxB,cx,sqN,sql,sqr,cnd,blk,lpc,Tryz.f5,Option.getD_some]
 refine all_seq ?_
 refine all_region ?_
 simp only [List.size_toArray,List.length_cons,List.length_nil,Nat.reduceAdd,Nat.zero_add,List.range,List.range.loop]
 refine sc 8 #[] nb rfl rfl rfl (fun w'=>by simp [go_sem];exact ev_call Tryz.func8 (by kernel_rfl) (by kernel_rfl)) q (by decide) rfl (v:=.bool true) (fun c w' t=>stored_lead3 hK t _ _) fun _ _ ho q=>?_
 replace hK:=ho.kinds hK
 replace hold:=hold.trans ho
 clear ho
 refine st (.bool true) nb rfl rfl rfl (fun _=>by simp [go_sem,q.g 50 rfl]) q (by decide) rfl fun _ q=>?_
 refine all_end ?_
 refine all_ret ?_
 intro w' t
 exact .done (cx_leaves (q.g 4 rfl) q.df (hold.twin0 t))
theorem cx_early13 (hold:Old w0 w) (hK:KindsAt w) (hP:BxSt w P noBook ur ug um us uc) (hpl:P < w.heap.size) {a:Act} (q:Kn a 151 [(7,.pointer (some ⟨P,0,none⟩)),(8,.int .i64 t),(9,.int .i64 t)]) {kk:List Item} :
 LeadsA Tryz.prog (Leaving0 Tryz.prog fun v w'=>v=.bool true∧Old w0 w') ((Go.Conc.base 5).at a (.code (cnd (sqr (sqr (cx 6))))::kk)) [] w:=by
 have nb:(Go.Conc.base 5).kind=.normal:=rfl
 simp only [cx,sqN,sql,sqr,cnd,blk,lpc,Tryz.f5,Option.getD_some]
 refine all_seq ?_
 refine all_region ?_
 simp only [List.size_toArray,List.length_cons,List.length_nil,Nat.reduceAdd,Nat.zero_add,List.range,List.range.loop]
 refine st (.int .i64 t) nb rfl rfl rfl (fun _=>by simp [go_sem,q.g 8 rfl]) q (by decide) rfl fun _ q=>?_
 refine st (.int .i64 t) nb rfl rfl rfl (fun _=>by simp [go_sem,q.g 9 rfl]) q (by decide) rfl fun _ q=>?_
 refine st (.bool true) nb rfl rfl rfl (fun _=>by simp [go_sem,q.g 70 rfl,q.g 71 rfl]) q (by decide) rfl fun _ q=>?_
 refine st (.bool true) nb rfl rfl rfl (fun _=>by simp [go_sem,q.g 72 rfl]) q (by decide) rfl fun _ q=>?_
 refine sr (.agg #[ur,ug,um,us,uc]) nb rfl rfl (wanted_g rfl rfl rfl (q.g 73 rfl)) (fun w' t=>by simp [go_sem,q.g 7 rfl,show w'.cell? ⟨P,0,none⟩=some (ur) from (t.cell _).trans hP.c0,show w'.cell? ⟨P,1,none⟩=some (ug) from (t.cell _).trans hP.c1,show w'.cell? ⟨P,2,none⟩=some (um) from (t.cell _).trans hP.c2,show w'.cell? ⟨P,3,none⟩=some (us) from (t.cell _).trans hP.c3,show w'.cell? ⟨P,4,none⟩=some (uc) from (t.cell _).trans hP.c4]) (fun w' t=>by simp [go_sem,q.g 7 rfl,EvOk,show w'.cell? ⟨P,0,none⟩=some (ur) from (t.cell _).trans hP.c0,show w'.cell? ⟨P,1,none⟩=some (ug) from (t.cell _).trans hP.c1,show w'.cell? ⟨P,2,none⟩=some (um) from (t.cell _).trans hP.c2,show w'.cell? ⟨P,3,none⟩=some (us) from (t.cell _).trans hP.c3,show w'.cell? ⟨P,4,none⟩=some (uc) from (t.cell _).trans hP.c4,show P < w'.heap.size from by rw [t.size];exact hpl]) q (by decide) rfl fun _ q=>?_
 refine st (.agg #[.int .i64 0,.int .i64 0,.slice none 0 0,.slice none 0 0,.slice none 0 0]) nb rfl rfl (wanted_g rfl rfl rfl (q.g 73 rfl)) (fun _=>by simp [go_sem]) q (by decide) rfl fun _ q=>?_
 refine sc 24 #[.agg #[ur,ug,um,us,uc],.agg #[.int .i64 0,.int .i64 0,.slice none 0 0,.slice none 0 0,.slice none 0 0]] nb rfl rfl (wanted_g rfl rfl rfl (q.g 73 rfl)) (fun w'=>by simp [go_sem,q.g 74 rfl,q.g 75 rfl];exact ev_call Tryz.func24 (by kernel_rfl) (by kernel_rfl)) q (by decide) rfl (v:=.bool true) (fun c w' t=>lone_call (v:=.bool true) t fun W hW=>(same_at (hW.book hP.bk) (noBook_at W)).mono (by rintro e w2 ⟨rfl,hb⟩;exact ⟨rfl,hb⟩)) fun _ _ ho q=>?_
 replace hK:=ho.kinds hK
 replace hold:=hold.trans ho
 clear ho
 refine st (.bool true) nb rfl rfl rfl (fun _=>by simp [go_sem,q.g 73 rfl,q.g 76 rfl]) q (by decide) rfl fun _ q=>?_
 refine st (.bool true) nb rfl rfl rfl (fun _=>by simp [go_sem,q.g 77 rfl]) q (by decide) rfl fun _ q=>?_
 refine sc 8 #[] nb rfl rfl (wanted_g rfl rfl rfl (q.g 78 rfl)) (fun w'=>by simp [go_sem];exact ev_call Tryz.func8 (by kernel_rfl) (by kernel_rfl)) q (by decide) rfl (v:=.bool true) (fun c w' t=>stored_lead3 hK t _ _) fun _ _ ho q=>?_
 replace hK:=ho.kinds hK
 replace hold:=hold.trans ho
 clear ho
 refine st (.bool true) nb rfl rfl rfl (fun _=>by simp [go_sem,q.g 78 rfl,q.g 79 rfl]) q (by decide) rfl fun _ q=>?_
 refine st (.bool true) nb rfl rfl rfl (fun _=>by simp [go_sem,q.g 80 rfl]) q (by decide) rfl fun _ q=>?_
 refine all_end ?_
 refine all_ret ?_
 intro w' t
 exact .done (cx_leaves (q.g 4 rfl) q.df (hold.twin0 t))
theorem cx_early18 (hold:Old w0 w) (hK:KindsAt w) (hP:BxSt w P noBook ur ug um us uc) (hpl:P < w.heap.size) {a:Act} (q:Kn a 151 [(7,.pointer (some ⟨P,0,none⟩)),(8,.int .i64 10)]) {kk:List Item} :
 LeadsA Tryz.prog (Leaving0 Tryz.prog fun v w'=>v=.bool true∧Old w0 w') ((Go.Conc.base 5).at a (.code (cnd (sqr (cx 9)))::kk)) [] w:=by
 have nb:(Go.Conc.base 5).kind=.normal:=rfl
 simp only [cx,sqN,sql,sqr,cnd,blk,lpc,Tryz.f5,Option.getD_some]
 refine all_seq ?_
 refine all_region ?_
 simp only [List.size_toArray,List.length_cons,List.length_nil,Nat.reduceAdd,Nat.zero_add,List.range,List.range.loop]
 refine st (.int .i64 10) nb rfl rfl rfl (fun _=>by simp [go_sem,q.g 8 rfl]) q (by decide) rfl fun _ q=>?_
 refine st (.bool true) nb rfl rfl rfl (fun _=>by simp [go_sem,q.g 90 rfl]) q (by decide) rfl fun _ q=>?_
 refine st (.bool true) nb rfl rfl rfl (fun _=>by simp [go_sem,q.g 91 rfl]) q (by decide) rfl fun _ q=>?_
 refine sr (.agg #[ur,ug,um,us,uc]) nb rfl rfl (wanted_g rfl rfl rfl (q.g 92 rfl)) (fun w' t=>by simp [go_sem,q.g 7 rfl,show w'.cell? ⟨P,0,none⟩=some (ur) from (t.cell _).trans hP.c0,show w'.cell? ⟨P,1,none⟩=some (ug) from (t.cell _).trans hP.c1,show w'.cell? ⟨P,2,none⟩=some (um) from (t.cell _).trans hP.c2,show w'.cell? ⟨P,3,none⟩=some (us) from (t.cell _).trans hP.c3,show w'.cell? ⟨P,4,none⟩=some (uc) from (t.cell _).trans hP.c4]) (fun w' t=>by simp [go_sem,q.g 7 rfl,EvOk,show w'.cell? ⟨P,0,none⟩=some (ur) from (t.cell _).trans hP.c0,show w'.cell? ⟨P,1,none⟩=some (ug) from (t.cell _).trans hP.c1,show w'.cell? ⟨P,2,none⟩=some (um) from (t.cell _).trans hP.c2,show w'.cell? ⟨P,3,none⟩=some (us) from (t.cell _).trans hP.c3,show w'.cell? ⟨P,4,none⟩=some (uc) from (t.cell _).trans hP.c4,show P < w'.heap.size from by rw [t.size];exact hpl]) q (by decide) rfl fun _ q=>?_
 refine st (.agg #[.int .i64 0,.int .i64 0,.slice none 0 0,.slice none 0 0,.slice none 0 0]) nb rfl rfl (wanted_g rfl rfl rfl (q.g 92 rfl)) (fun _=>by simp [go_sem]) q (by decide) rfl fun _ q=>?_
 refine sc 24 #[.agg #[ur,ug,um,us,uc],.agg #[.int .i64 0,.int .i64 0,.slice none 0 0,.slice none 0 0,.slice none 0 0]] nb rfl rfl (wanted_g rfl rfl rfl (q.g 92 rfl)) (fun w'=>by simp [go_sem,q.g 93 rfl,q.g 94 rfl];exact ev_call Tryz.func24 (by kernel_rfl) (by kernel_rfl)) q (by decide) rfl (v:=.bool true) (fun c w' t=>lone_call (v:=.bool true) t fun W hW=>(same_at (hW.book hP.bk) (noBook_at W)).mono (by rintro e w2 ⟨rfl,hb⟩;exact ⟨rfl,hb⟩)) fun _ _ ho q=>?_
 replace hK:=ho.kinds hK
 replace hold:=hold.trans ho
 clear ho
 refine st (.bool true) nb rfl rfl rfl (fun _=>by simp [go_sem,q.g 92 rfl,q.g 95 rfl]) q (by decide) rfl fun _ q=>?_
 refine st (.bool true) nb rfl rfl rfl (fun _=>by simp [go_sem,q.g 96 rfl]) q (by decide) rfl fun _ q=>?_
 refine sc 8 #[] nb rfl rfl (wanted_g rfl rfl rfl (q.g 97 rfl)) (fun w'=>by simp [go_sem];exact ev_call Tryz.func8 (by kernel_rfl) (by kernel_rfl)) q (by decide) rfl (v:=.bool true) (fun c w' t=>stored_lead3 hK t _ _) fun _ _ ho q=>?_
 replace hK:=ho.kinds hK
 replace hold:=hold.trans ho
 clear ho
 refine st (.bool true) nb rfl rfl rfl (fun _=>by simp [go_sem,q.g 97 rfl,q.g 98 rfl]) q (by decide) rfl fun _ q=>?_
 refine st (.bool true) nb rfl rfl rfl (fun _=>by simp [go_sem,q.g 99 rfl]) q (by decide) rfl fun _ q=>?_
 refine all_end ?_
 refine all_ret ?_
 intro w' t
 exact .done (cx_leaves (q.g 4 rfl) q.df (hold.twin0 t))
theorem cx_last (hold:Old w0 w) (hK:KindsAt w) {m:Int} {qa pa:Option Addr} {qc pc:Nat} (hX:SxSt w X x xa xc) (hxl:X < w.heap.size) (hw1:IntKind.i64.wrap ((x.length:Int)+1)=(x.length:Int)+1) (hw2:IntKind.i64.wrap (n * ((x.length:Int)+1))=m) (hq:PartsAt w qa u) (hp:PartsAt w pa u) (hl:u.length≤1000000) {a:Act} (q:Kn a 151 [(3,.pointer (some ⟨X,0,none⟩)),(10,.int .i64 n),(11,.int .i64 0),(12,.int .i64 m),(13,.slice qa u.length qc),(14,.int .i64 0),(15,.slice pa u.length pc),(16,.int .i64 0)]) :
 LeadsA Tryz.prog (Leaving0 Tryz.prog fun v w'=>v=.bool true∧Old w0 w') ((Go.Conc.base 5).at a [.code (.seq (cx 14) .ret)]) [] w:=by
 have nb:(Go.Conc.base 5).kind=.normal:=rfl
 simp only [cx,sqN,sql,sqr,cnd,blk,lpc,Tryz.f5,Option.getD_some]
 refine all_seq ?_
 refine all_region ?_
 simp only [List.size_toArray,List.length_cons,List.length_nil,Nat.reduceAdd,Nat.zero_add,List.range,List.range.loop]
 refine st (.int .i64 0) nb rfl rfl rfl (fun _=>by simp [go_sem,q.g 11 rfl]) q (by decide) rfl fun _ q=>?_
 refine st (.bool true) nb rfl rfl rfl (fun _=>by simp [go_sem,q.g 123 rfl]) q (by decide) rfl fun _ q=>?_
 refine st (.bool true) nb rfl rfl rfl (fun _=>by simp [go_sem,q.g 124 rfl]) q (by decide) rfl fun _ q=>?_
 refine st (.int .i64 0) nb rfl rfl (wanted_g rfl rfl rfl (q.g 125 rfl)) (fun _=>by simp [go_sem,q.g 14 rfl]) q (by decide) rfl fun _ q=>?_
 refine st (.bool true) nb rfl rfl (wanted_g rfl rfl rfl (q.g 125 rfl)) (fun _=>by simp [go_sem,q.g 126 rfl]) q (by decide) rfl fun _ q=>?_
 refine st (.bool true) nb rfl rfl rfl (fun _=>by simp [go_sem,q.g 125 rfl,q.g 127 rfl]) q (by decide) rfl fun _ q=>?_
 refine st (.bool true) nb rfl rfl rfl (fun _=>by simp [go_sem,q.g 128 rfl]) q (by decide) rfl fun _ q=>?_
 refine st (.int .i64 0) nb rfl rfl (wanted_g rfl rfl rfl (q.g 129 rfl)) (fun _=>by simp [go_sem,q.g 16 rfl]) q (by decide) rfl fun _ q=>?_
 refine st (.bool true) nb rfl rfl (wanted_g rfl rfl rfl (q.g 129 rfl)) (fun _=>by simp [go_sem,q.g 130 rfl]) q (by decide) rfl fun _ q=>?_
 refine st (.bool true) nb rfl rfl rfl (fun _=>by simp [go_sem,q.g 129 rfl,q.g 131 rfl]) q (by decide) rfl fun _ q=>?_
 refine st (.bool true) nb rfl rfl rfl (fun _=>by simp [go_sem,q.g 132 rfl]) q (by decide) rfl fun _ q=>?_
 refine st (.int .i64 m) nb rfl rfl (wanted_g rfl rfl rfl (q.g 133 rfl)) (fun _=>by simp [go_sem,q.g 12 rfl]) q (by decide) rfl fun _ q=>?_
 refine st (.int .i64 n) nb rfl rfl (wanted_g rfl rfl rfl (q.g 133 rfl)) (fun _=>by simp [go_sem,q.g 10 rfl]) q (by decide) rfl fun _ q=>?_
 refine st (.pointer (some ⟨X,0,none⟩)) nb rfl rfl (wanted_g rfl rfl rfl (q.g 133 rfl)) (fun _=>by simp [go_sem,q.g 3 rfl]) q (by decide) rfl fun _ q=>?_
 refine sr (.slice xa x.length xc) nb rfl rfl (wanted_g rfl rfl rfl (q.g 133 rfl)) (fun w' t=>by simp [go_sem,q.g 136 rfl,show w'.cell? ⟨X,0,none⟩=some (.slice xa x.length xc) from (t.cell _).trans hX.c]) (fun w' t=>by simp [go_sem,q.g 136 rfl,EvOk,show w'.cell? ⟨X,0,none⟩=some (.slice xa x.length xc) from (t.cell _).trans hX.c,show X < w'.heap.size from by rw [t.size];exact hxl]) q (by decide) rfl fun _ q=>?_
 refine st (.int .i64 (x.length:Int)) nb rfl rfl (wanted_g rfl rfl rfl (q.g 133 rfl)) (fun _=>by simp [go_sem,q.g 137 rfl]) q (by decide) rfl fun _ q=>?_
 refine st (.int .i64 ((x.length:Int)+1)) nb rfl rfl (wanted_g rfl rfl rfl (q.g 133 rfl)) (fun _=>by simp [go_sem,q.g 138 rfl,hw1]) q (by decide) rfl fun _ q=>?_
 refine st (.int .i64 m) nb rfl rfl (wanted_g rfl rfl rfl (q.g 133 rfl)) (fun _=>by simp [go_sem,q.g 135 rfl,q.g 139 rfl,hw2]) q (by decide) rfl fun _ q=>?_
 refine st (.bool true) nb rfl rfl (wanted_g rfl rfl rfl (q.g 133 rfl)) (fun _=>by simp [go_sem,q.g 134 rfl,q.g 140 rfl]) q (by decide) rfl fun _ q=>?_
 refine st (.bool true) nb rfl rfl rfl (fun _=>by simp [go_sem,q.g 133 rfl,q.g 141 rfl]) q (by decide) rfl fun _ q=>?_
 refine st (.bool true) nb rfl rfl rfl (fun _=>by simp [go_sem,q.g 142 rfl]) q (by decide) rfl fun _ q=>?_
 refine st (.slice qa u.length qc) nb rfl rfl (wanted_g rfl rfl rfl (q.g 143 rfl)) (fun _=>by simp [go_sem,q.g 13 rfl]) q (by decide) rfl fun _ q=>?_
 refine st (.slice pa u.length pc) nb rfl rfl (wanted_g rfl rfl rfl (q.g 143 rfl)) (fun _=>by simp [go_sem,q.g 15 rfl]) q (by decide) rfl fun _ q=>?_
 refine sc 33 #[.slice qa u.length qc,.slice pa u.length pc] nb rfl rfl (wanted_g rfl rfl rfl (q.g 143 rfl)) (fun w'=>by simp [go_sem,q.g 144 rfl,q.g 145 rfl];exact ev_call Tryz.func33 (by kernel_rfl) (by kernel_rfl)) q (by decide) rfl (v:=.bool true) (fun c w' t=>lone_call (v:=.bool true) t fun W hW=>(sameParts_at (hW.parts hq) (hW.parts hp) rfl rfl hl hl (t:=true) (by simp)).mono (by rintro e w2 ⟨rfl,hb⟩;exact ⟨rfl,hb⟩)) fun _ _ ho q=>?_
 replace hK:=ho.kinds hK
 replace hq:=ho.parts hq
 replace hp:=ho.parts hp
 replace hold:=hold.trans ho
 clear ho
 refine st (.bool true) nb rfl rfl rfl (fun _=>by simp [go_sem,q.g 143 rfl,q.g 146 rfl]) q (by decide) rfl fun _ q=>?_
 refine st (.bool true) nb rfl rfl rfl (fun _=>by simp [go_sem,q.g 147 rfl]) q (by decide) rfl fun _ q=>?_
 refine sc 8 #[] nb rfl rfl (wanted_g rfl rfl rfl (q.g 148 rfl)) (fun w'=>by simp [go_sem];exact ev_call Tryz.func8 (by kernel_rfl) (by kernel_rfl)) q (by decide) rfl (v:=.bool true) (fun c w' t=>stored_lead3 hK t _ _) fun _ _ ho q=>?_
 replace hK:=ho.kinds hK
 replace hq:=ho.parts hq
 replace hp:=ho.parts hp
 replace hold:=hold.trans ho
 clear ho
 refine st (.bool true) nb rfl rfl rfl (fun _=>by simp [go_sem,q.g 148 rfl,q.g 149 rfl]) q (by decide) rfl fun _ q=>?_
 refine st (.bool true) nb rfl rfl rfl (fun _=>by simp [go_sem,q.g 150 rfl]) q (by decide) rfl fun _ q=>?_
 refine all_end ?_
 refine all_ret ?_
 intro w' t
 exact .done (cx_leaves (q.g 4 rfl) q.df (hold.twin0 t))
end Go.Proofs.YtfggbepickdokaaGreatDoor
