/- Leads to StoreNoted of chapter 6: NO2 NO3 NO4. -/
import Derived.Test.YtfggbepickdokaaGreatDoorNO02
set_option maxHeartbeats 32000000
set_option maxRecDepth 100000
set_option linter.all false
namespace Go.Proofs.YtfggbepickdokaaGreatDoor
open Go.RowKit Go.Maps Sp Mt Go.Conc
variable {B X O P mc sc iN kN:Nat} {b:Bk} {r:Rec} {s s2 t n m u:Int} {vr vg vm vs vc ur ug um us uc y0:Value} {w w0:World} {d:Nat→Value}
theorem no_3 {A:World} {n c:Nat} {a:Option Addr} {news:List Value} (cb:A.cell? ⟨B,4,none⟩=some (.slice a n c)) (x0:A.cell? ⟨X,0,none⟩=some (.int .i64 r.k)) (x1:A.cell? ⟨X,1,none⟩=some (.int .i64 r.a)) (x2:A.cell? ⟨X,2,none⟩=some (.int .i64 r.b)) (x3:A.cell? ⟨X,3,none⟩=some (.int .i64 r.m)) (co:A.cell? ⟨O,4,none⟩=some y0) (hz:A.frozen? ⟨O,4,none⟩=false) (hl:news.length=n * 4) (hn:n≤1000) (hs:SrcK A a news) (h1:∀ u∈news,u.oneCell'=true) :
 (no 3).wp Tryz.prog (NQ fun a' w2=>(∃ d,a'=nO B X O s s2 d)∧∃ r1 z1 w4,w2=w4.setCell ⟨O,4,none⟩ (.slice r1 (n+1) z1)∧Below A.heap.size A w4∧w4.ownsRow A.heap.size 49 4 (.slice r1 (n+1) z1) (n+1) (news ++ [.int .i64 r.k,.int .i64 r.a,.int .i64 r.b,.int .i64 r.m])) (nO B X O s s2 d) A:=by
 simp only [no,sqN,sql,sqr,cnd,blk,lpc,Tryz.f4,Option.getD_some,nO]
 have hB0:=lt_of_cell cb
 have hX0:=lt_of_cell x0
 have hO0:=lt_of_cell co
 simp only at hB0 hX0 hO0
 have HS:=Hh hs
 have H1:=Hh h1
 have HL:=Hh hl
 have HT:=Hh (fun (w':World) (h:Below A.heap.size A w')=>(⟨(h.cell (p:=⟨B,4,none⟩) hB0).trans cb,(h.cell (p:=⟨X,0,none⟩) hX0).trans x0,(h.cell (p:=⟨X,1,none⟩) hX0).trans x1,(h.cell (p:=⟨X,2,none⟩) hX0).trans x2,(h.cell (p:=⟨X,3,none⟩) hX0).trans x3⟩:w'.cell? ⟨B,4,none⟩=some (.slice a n c)∧w'.cell? ⟨X,0,none⟩=some (.int .i64 r.k)∧w'.cell? ⟨X,1,none⟩=some (.int .i64 r.a)∧w'.cell? ⟨X,2,none⟩=some (.int .i64 r.b)∧w'.cell? ⟨X,3,none⟩=some (.int .i64 r.m)))
 have HQ:=Hh (fun (w':World) (h:Below A.heap.size A w')=>(h.cell (p:=⟨O,4,none⟩) hO0).trans co)
 have HZ:=Hh (fun (w':World) (h:Below A.heap.size A w')=>(h.frozen (p:=⟨O,4,none⟩) hO0).trans hz)
 clear cb x0 x1 x2 x3 co hz hs h1 hl
 refine wp_region_D (S:=fun _=>True) (T:=fun w'=>w'.cell? ⟨B,4,none⟩=some (.slice a n c)∧w'.cell? ⟨X,0,none⟩=some (.int .i64 r.k)∧w'.cell? ⟨X,1,none⟩=some (.int .i64 r.a)∧w'.cell? ⟨X,2,none⟩=some (.int .i64 r.b)∧w'.cell? ⟨X,3,none⟩=some (.int .i64 r.m)) (d:=8) (by kernel_rfl) trivial (HT.out _ (bel)) (fun _ hTd=>?_)
 refine wpAnyD_take (i:=1) (v:=.pointer (some ⟨B,4,none⟩)) rfl (by decide +kernel) (fun _ _ _ h=>h) (Or.inl ⟨by rfl,?_⟩) trivial hTd ?_
 ·rintro w5 ⟨_,s1,s2,s3,s4,s5⟩;go_simp
 simp only [Act.put,List.setIfInBounds_toArray,List.set_cons_zero,List.set_cons_succ]
 refine wpAnyD_take (i:=2) (v:=.slice a n c) rfl (by decide +kernel) (fun _ _ _ h=>h) (Or.inl ⟨by rfl,?_⟩) trivial hTd ?_
 ·rintro w5 ⟨_,s1,s2,s3,s4,s5⟩;go_simp
 simp only [Act.put,List.setIfInBounds_toArray,List.set_cons_zero,List.set_cons_succ]
 refine wpAnyD_take (i:=4) (v:=.agg #[.int .i64 r.k,.int .i64 r.a,.int .i64 r.b,.int .i64 r.m]) rfl (by decide +kernel) (fun _ _ _ h=>h) (Or.inl ⟨by rfl,?_⟩) trivial hTd ?_
 ·rintro w5 ⟨_,s1,s2,s3,s4,s5⟩;go_simp
 simp only [Act.put,List.setIfInBounds_toArray,List.set_cons_zero,List.set_cons_succ]
 refine wpAnyD_ready [0,5] (by decide +kernel) (by simp) ?_
 refine AllReadyD.pre 0 rfl (fun K9 hK=>?_) ?_
 ·go_simp
  refine hK.out _ _ trivial (HT.out _ (bel)) (fun _ _=>?_)
  try simp only [Act.put,List.setIfInBounds_toArray,List.set_cons_zero,List.set_cons_succ]
  refine wpAnyD_ready [3,5] (by decide +kernel) (by simp) ?_
  refine AllReadyD.pre 3 rfl (fun K9 hK=>?_) ?_
  ·refine step_copy A rfl _ _ 24 rfl 49 Tryz.underlying24 recInfo rfl (by decide) (by decide) (.slice (some ⟨A.heap.size,0,none⟩) 0 0) 0 [] rfl a n c news rfl HL.out H1.out n (Nat.zero_add n) (by omega) (bel) (own_litK rfl (Nat.le_refl _)) (HS.out.below (bel)) (fun a2 c2 w2 hown2 hks2 hbw2=>?_)
   refine hK.out _ _ trivial (HT.out _ hbw2) (fun _ _=>?_)
   try simp only [Act.put,List.setIfInBounds_toArray,List.set_cons_zero,List.set_cons_succ]
   refine wpAnyD_ready [5] (by decide +kernel) (by simp) ?_
   refine AllReadyD.pre 5 rfl (fun K9 hK=>?_) AllReadyD.nil
   go_simp
   refine hK.out _ _ trivial (HT.out _ (bel)) (fun _ _=>?_)
   try simp only [Act.put,List.setIfInBounds_toArray,List.set_cons_zero,List.set_cons_succ]
   refine wpAnyD_ready [6] (by decide +kernel) (by simp) ?_
   refine AllReadyD.pre 6 rfl (fun K9 hK=>?_) AllReadyD.nil
   refine step_copy A rfl _ _ 24 rfl 49 Tryz.underlying24 recInfo rfl (by decide) (by decide) (.slice a2 n c2) n ([] ++ news) rfl (some ⟨w2.heap.size,0,none⟩) 1 1 [.int .i64 r.k,.int .i64 r.a,.int .i64 r.b,.int .i64 r.m] rfl rfl (by simp [Value.oneCell']) (n+1) rfl (by omega) (bel) (hown2.alloc _) (srcK_new w2 [.int .i64 r.k,.int .i64 r.a,.int .i64 r.b,.int .i64 r.m] 49 rfl) (fun a4 c4 w4 hown4 hks4 hbw4=>?_)
   refine hK.out _ _ trivial (HT.out _ hbw4) (fun _ _=>?_)
   try simp only [Act.put,List.setIfInBounds_toArray,List.set_cons_zero,List.set_cons_succ]
   refine wpAnyD_ready [7] (by decide +kernel) (by simp) ?_
   refine AllReadyD.pre 7 rfl (fun K9 hK=>?_) AllReadyD.nil
   go_simp
   have q1:=HQ.out _ hbw4
   have q2:=HZ.out _ hbw4
   refine hK.out _ _ trivial (HT.out _ hbw4) (fun _ _=>?_)
   try simp only [Act.put,List.setIfInBounds_toArray,List.set_cons_zero,List.set_cons_succ]
   refine wpAnyD_ready [8] (by decide +kernel) (by simp) ?_
   refine AllReadyD.post 8 rfl (by rfl) (fun K9 hK=>?_) AllReadyD.nil
   go_simp
   refine hK.out _ _ trivial (fun _=>?_)
   try simp only [Act.put,List.setIfInBounds_toArray,List.set_cons_zero,List.set_cons_succ]
   exact wpAnyD_done (by decide +kernel) ⟨fr_of (F:=nO B X O s s2) (by kernel_rfl),a4,c4,w4,rfl,hbw4,hown4⟩ _
  refine AllReadyD.pre 5 rfl (fun K9 hK=>?_) ?_
  ·go_simp
   refine hK.out _ _ trivial (HT.out _ (bel)) (fun _ _=>?_)
   try simp only [Act.put,List.setIfInBounds_toArray,List.set_cons_zero,List.set_cons_succ]
   refine wpAnyD_ready [3] (by decide +kernel) (by simp) ?_
   refine AllReadyD.pre 3 rfl (fun K9 hK=>?_) AllReadyD.nil
   refine step_copy A rfl _ _ 24 rfl 49 Tryz.underlying24 recInfo rfl (by decide) (by decide) (.slice (some ⟨A.heap.size,0,none⟩) 0 0) 0 [] rfl a n c news rfl HL.out H1.out n (Nat.zero_add n) (by omega) (bel) ((own_litK (w:=A.drew) rfl (Nat.le_refl _)).alloc _) (HS.out.below (bel)) (fun a2 c2 w2 hown2 hks2 hbw2=>?_)
   refine hK.out _ _ trivial (HT.out _ hbw2) (fun _ _=>?_)
   try simp only [Act.put,List.setIfInBounds_toArray,List.set_cons_zero,List.set_cons_succ]
   refine wpAnyD_ready [6] (by decide +kernel) (by simp) ?_
   refine AllReadyD.pre 6 rfl (fun K9 hK=>?_) AllReadyD.nil
   refine step_copy A rfl _ _ 24 rfl 49 Tryz.underlying24 recInfo rfl (by decide) (by decide) (.slice a2 n c2) n ([] ++ news) rfl (some ⟨A.heap.size+1,0,none⟩) 1 1 [.int .i64 r.k,.int .i64 r.a,.int .i64 r.b,.int .i64 r.m] rfl rfl (by simp [Value.oneCell']) (n+1) rfl (by omega) (bel) hown2 ((srcK_new (A.drew.alloc (.cells #[] 49)) [.int .i64 r.k,.int .i64 r.a,.int .i64 r.b,.int .i64 r.m] 49 (n:=A.heap.size+1) (by simp)).ks hks2 (fun ad e=>by cases e;simp [Value.ownBlock])) (fun a4 c4 w4 hown4 hks4 hbw4=>?_)
   refine hK.out _ _ trivial (HT.out _ hbw4) (fun _ _=>?_)
   try simp only [Act.put,List.setIfInBounds_toArray,List.set_cons_zero,List.set_cons_succ]
   refine wpAnyD_ready [7] (by decide +kernel) (by simp) ?_
   refine AllReadyD.pre 7 rfl (fun K9 hK=>?_) AllReadyD.nil
   go_simp
   have q1:=HQ.out _ hbw4
   have q2:=HZ.out _ hbw4
   refine hK.out _ _ trivial (HT.out _ hbw4) (fun _ _=>?_)
   try simp only [Act.put,List.setIfInBounds_toArray,List.set_cons_zero,List.set_cons_succ]
   refine wpAnyD_ready [8] (by decide +kernel) (by simp) ?_
   refine AllReadyD.post 8 rfl (by rfl) (fun K9 hK=>?_) AllReadyD.nil
   go_simp
   refine hK.out _ _ trivial (fun _=>?_)
   try simp only [Act.put,List.setIfInBounds_toArray,List.set_cons_zero,List.set_cons_succ]
   exact wpAnyD_done (by decide +kernel) ⟨fr_of (F:=nO B X O s s2) (by kernel_rfl),a4,c4,w4,rfl,hbw4,hown4⟩ _
  exact AllReadyD.nil
 refine AllReadyD.pre 5 rfl (fun K9 hK=>?_) ?_
 ·go_simp
  refine hK.out _ _ trivial (HT.out _ (bel)) (fun _ _=>?_)
  try simp only [Act.put,List.setIfInBounds_toArray,List.set_cons_zero,List.set_cons_succ]
  refine wpAnyD_ready [0] (by decide +kernel) (by simp) ?_
  refine AllReadyD.pre 0 rfl (fun K9 hK=>?_) AllReadyD.nil
  go_simp
  refine hK.out _ _ trivial (HT.out _ (bel)) (fun _ _=>?_)
  try simp only [Act.put,List.setIfInBounds_toArray,List.set_cons_zero,List.set_cons_succ]
  refine wpAnyD_ready [3] (by decide +kernel) (by simp) ?_
  refine AllReadyD.pre 3 rfl (fun K9 hK=>?_) AllReadyD.nil
  refine step_copy A rfl _ _ 24 rfl 49 Tryz.underlying24 recInfo rfl (by decide) (by decide) (.slice (some ⟨A.heap.size+1,0,none⟩) 0 0) 0 [] rfl a n c news rfl HL.out H1.out n (Nat.zero_add n) (by omega) (bel) (own_litK (by simp) (by omega)) (HS.out.below (bel)) (fun a2 c2 w2 hown2 hks2 hbw2=>?_)
  refine hK.out _ _ trivial (HT.out _ hbw2) (fun _ _=>?_)
  try simp only [Act.put,List.setIfInBounds_toArray,List.set_cons_zero,List.set_cons_succ]
  refine wpAnyD_ready [6] (by decide +kernel) (by simp) ?_
  refine AllReadyD.pre 6 rfl (fun K9 hK=>?_) AllReadyD.nil
  refine step_copy A rfl _ _ 24 rfl 49 Tryz.underlying24 recInfo rfl (by decide) (by decide) (.slice a2 n c2) n ([] ++ news) rfl (some ⟨A.heap.size,0,none⟩) 1 1 [.int .i64 r.k,.int .i64 r.a,.int .i64 r.b,.int .i64 r.m] rfl rfl (by simp [Value.oneCell']) (n+1) rfl (by omega) (bel) hown2 (((srcK_new A.drew [.int .i64 r.k,.int .i64 r.a,.int .i64 r.b,.int .i64 r.m] 49 (n:=A.heap.size) rfl).ks (KS.alloc (fun _=>True) _ (.cells #[] 49)) (fun ad e=>trivial)).ks hks2 (fun ad e=>by cases e;simp [Value.ownBlock])) (fun a4 c4 w4 hown4 hks4 hbw4=>?_)
  refine hK.out _ _ trivial (HT.out _ hbw4) (fun _ _=>?_)
  try simp only [Act.put,List.setIfInBounds_toArray,List.set_cons_zero,List.set_cons_succ]
  refine wpAnyD_ready [7] (by decide +kernel) (by simp) ?_
  refine AllReadyD.pre 7 rfl (fun K9 hK=>?_) AllReadyD.nil
  go_simp
  have q1:=HQ.out _ hbw4
  have q2:=HZ.out _ hbw4
  refine hK.out _ _ trivial (HT.out _ hbw4) (fun _ _=>?_)
  try simp only [Act.put,List.setIfInBounds_toArray,List.set_cons_zero,List.set_cons_succ]
  refine wpAnyD_ready [8] (by decide +kernel) (by simp) ?_
  refine AllReadyD.post 8 rfl (by rfl) (fun K9 hK=>?_) AllReadyD.nil
  go_simp
  refine hK.out _ _ trivial (fun _=>?_)
  try simp only [Act.put,List.setIfInBounds_toArray,List.set_cons_zero,List.set_cons_succ]
  exact wpAnyD_done (by decide +kernel) ⟨fr_of (F:=nO B X O s s2) (by kernel_rfl),a4,c4,w4,rfl,hbw4,hown4⟩ _
 exact AllReadyD.nil
def NZA (B X:Nat) (s s2:Int) (b:Bk) (r:Rec) (vr vg vm vs vc:Value) (t:Int) (mb:Bk) (a':Act) (w2:World):Prop:=∃ O P uc1 ur ug um us uc,(∃ d,a'=nA B X O P s s2 t d)∧BxSt w2 B b vr vg vm vs vc∧BxSt w2 O (moreR b r) vr vg vm vs uc1∧BxSt w2 P mb ur ug um us uc
theorem no_A (hE:BxSt w B b vr vg vm vs vc) (hX:RxSt w X r) (hS:SmallB b) (ht:noteAl b r=t) {mb:Bk} (hmb:(if t=0 then moreR b r else noBook)=mb) :
 wps Tryz.prog [no 2,no 3,no 4] (fun a' w2=>NZA B X s s2 b r vr vg vm vs vc t mb a' w2∧Old w w2) (nF B X s s2 d) w:=by
 unfold nF
 have hrs20:b.rs.length≤20:=hS.2.2.1
 have HNM:=Hh hS.names
 have HTT:=Hh ht
 have HMB:=Hh hmb
 have EE:=Hh hE
 have SX:=Hh hX
 have E0:=Hh hE
 have S0:=Hh hX
 clear hS ht hE hX hmb
 obtain ⟨rfl,rfl,⟨ma,mc,rfl,_⟩,⟨sa,sc,rfl,_,hsl⟩,ra,rc,rfl,_,hrl⟩:=id EE.out.bk
 refine wps_nq ?_
 obtain ⟨c9,hcc⟩:∃ c,no 2=c:=⟨_,rfl⟩
 rw [hcc]
 simp only [no,sqN,sql,sqr,cnd,blk,lpc,Tryz.f4,Option.getD_some] at hcc
 subst hcc
 obtain ⟨c0,c1,c2,c3,c4,_,_⟩:=id EE.out
 have HB:=Hh EE.out.bk
 have HK:=Hh EE.out.kd
 have hB0:=lt_of_cell c0
 simp only at hB0
 go_wp2
 have hbz:Below w.heap.size w (w.alloc (.cells #[.int .i64 b.room,.int .i64 b.gap,.slice ma b.ms.length mc,.slice sa b.ss.length sc,.slice ra b.rs.length rc] 26)):=bel
 have zz:∀ k u,(#[.int .i64 b.room,.int .i64 b.gap,.slice ma b.ms.length mc,.slice sa b.ss.length sc,.slice ra b.rs.length rc]:Array Value)[k]? = some u→(w.alloc (.cells #[.int .i64 b.room,.int .i64 b.gap,.slice ma b.ms.length mc,.slice sa b.ss.length sc,.slice ra b.rs.length rc] 26)).cell? ⟨w.heap.size,k,none⟩=some u:=fun k u hk=>by rw [World.cell?_alloc_at _ _ _ _ rfl];exact hk
 have zf:∀ k,(w.alloc (.cells #[.int .i64 b.room,.int .i64 b.gap,.slice ma b.ms.length mc,.slice sa b.ss.length sc,.slice ra b.rs.length rc] 26)).frozen? ⟨w.heap.size,k,none⟩=false:=fun k=>by rw [World.frozen?_alloc_at _ _ _ _ rfl]
 refine ⟨rfl,fun X1 t1=>?_⟩
 have o1:=Old.twin0 (Old.ofBelow hbz) t1
 have OO1:=Hh o1
 replace EE:=Hh (EE.out.old o1)
 replace SX:=Hh (SX.out.old o1)
 have ZZ:=Hh (fun k u hk=>(t1.cell _).trans (zz k u hk))
 have ZF:=Hh (fun k=>(t1.frozen _).trans (zf k))
 have hO:w.heap.size < X1.heap.size:=by have:=t1.size;simp at this;omega
 clear c0 c1 c2 c3 c4 HB HK hB0 hbz zz zf t1 o1
 obtain ⟨O,hOe⟩:∃ O,w.heap.size=O:=⟨_,rfl⟩
 rw [hOe] at ZZ ZF hO ⊢
 obtain ⟨_,_,_,_,ra',rc',hre,hRR,_⟩:=id EE.out.bk
 cases hre
 refine wps_nq (Code.wp_mono (fun e a' w1 h=>?_) (wp_fr (F:=nO B X O s s2) (by kernel_rfl) fun d=>no_3 EE.out.c4 SX.out.c0 SX.out.c1 SX.out.c2 SX.out.c3 (ZZ.out 4 _ rfl) (ZF.out 4) (recs_len4 b.rs) (by omega) (recs_srcK hRR) (recs_one b.rs)))
 cases e <;> try exact h.elim
 obtain ⟨⟨d1,rfl⟩,r1,z1,w4,rfl,hb4,hrow4⟩:=h
 refine ⟨rfl,fun X2 t2=>?_⟩
 have q4:=(hb4.cell (p:=⟨O,4,none⟩) hO).trans (ZZ.out 4 _ rfl)
 have hks:KS (fun k=>k≠O) w4 (w4.setCell ⟨O,4,none⟩ (.slice r1 (b.rs.length+1) z1)):=KS.setCell (by simp) _ _
 have o4:Old X1 w4:=Old.ofBelow hb4
 have o2:Old w X2:=((OO1.out.trans o4).ks (by omega) (hks.mono fun k _ h=>h.2)).twin0 t2
 have hm2:RecsAt X2 r1 (b.rs ++ [r]):=by
  have h:=row_twin (ownsRow_ks hrow4 hks (fun k hk=>by show k≠O;omega)) t2
  have e:b.rs.flatMap cellsR ++ [.int .i64 r.k,.int .i64 r.a,.int .i64 r.b,.int .i64 r.m]=(b.rs ++ [r]).flatMap cellsR:=by rw [List.flatMap_append];rfl
  rw [e] at h
  exact recs_of_row h
 have oc:∀ k,k≠4→X2.cell? ⟨O,k,none⟩=X1.cell? ⟨O,k,none⟩:=fun k hk=>by
  rw [t2.cell,World.cell?_setCell_other (h:=fun e=>by injection e with _ e _;exact hk e.symm)]
  exact hb4.cell (p:=⟨O,k,none⟩) hO
 have c4':X2.cell? ⟨O,4,none⟩=some (.slice r1 (b.rs.length+1) z1):=(t2.cell _).trans (World.cell?_setCell_same' _ _ _ (by rw [q4];rfl))
 have E2:=Hh (E0.out.old o2)
 have S2:=Hh (S0.out.old o2)
 have M2:BxSt X2 O (moreR b r) (.int .i64 b.room) (.int .i64 b.gap) (.slice ma b.ms.length mc) (.slice sa b.ss.length sc) (.slice r1 (b.rs.length+1) z1):=by
  obtain ⟨h1,h2,h3,h4,_⟩:=E2.out.bk
  exact ⟨(oc 0 (by decide)).trans (ZZ.out 0 _ rfl),(oc 1 (by decide)).trans (ZZ.out 1 _ rfl),(oc 2 (by decide)).trans (ZZ.out 2 _ rfl),(oc 3 (by decide)).trans (ZZ.out 3 _ rfl),c4',⟨h1,h2,h3,h4,r1,z1,by simp [moreR],hm2,by simp [moreR];omega⟩,E2.out.kd⟩
 have MM:=Hh M2
 have OO2:=Hh o2
 clear M2 oc c4' hm2 o2 o4 hks q4 hb4 hrow4 t2 hRR E0 S0 EE SX ZZ ZF OO1
 unfold nO
 refine wps_nq ?_
 obtain ⟨c9,hcc⟩:∃ c,no 4=c:=⟨_,rfl⟩
 rw [hcc]
 simp only [no,sqN,sql,sqr,cnd,blk,lpc,Tryz.f4,Option.getD_some] at hcc
 subst hcc
 obtain ⟨c0,c1,c2,c3,c4,_,_⟩:=id E2.out
 have HB:=Hh E2.out.bk
 have HK:=Hh E2.out.kd
 have hB0:=lt_of_cell c0
 simp only at hB0
 obtain ⟨x0,x1,x2,x3⟩:=id S2.out
 have hX0:=lt_of_cell x0
 simp only at hX0
 go_wp2_with (go_at_call 22;(with_reducible refine (note_at HB.out HNM.out HK.out HTT.out HMB.out).mono ?_);rintro e w1 ⟨ur,ug,um,us,uc,rfl,hall,hb1⟩;have hbk:=hall _ (KS.refl _ _);clear hall;obtain ⟨rfl,rfl,⟨ea,ec,rfl,_⟩,⟨ga,gc,rfl,_⟩,ia,ic,rfl,_⟩:=id hbk)
 have hbp:Below w1.heap.size w1 (w1.alloc (.cells #[(.int .i64 mb.room),(.int .i64 mb.gap),(.slice ea mb.ms.length ec),(.slice ga mb.ss.length gc),(.slice ia mb.rs.length ic)] 26)):=bel
 have pp:∀ k u,(#[(.int .i64 mb.room),(.int .i64 mb.gap),(.slice ea mb.ms.length ec),(.slice ga mb.ss.length gc),(.slice ia mb.rs.length ic)]:Array Value)[k]? = some u→(w1.alloc (.cells #[(.int .i64 mb.room),(.int .i64 mb.gap),(.slice ea mb.ms.length ec),(.slice ga mb.ss.length gc),(.slice ia mb.rs.length ic)] 26)).cell? ⟨w1.heap.size,k,none⟩=some u:=fun k u hk=>by rw [World.cell?_alloc_at _ _ _ _ rfl];exact hk
 refine ⟨rfl,fun X3 t3=>?_⟩
 have o3:=(Old.ofBelow (Below.next hb1 hbp)).twin0 t3
 exact ⟨⟨O,w1.heap.size,_,_,_,_,_,_,fr_of (by kernel_rfl),E2.out.old o3,MM.out.old o3,⟨(t3.cell _).trans (pp 0 _ rfl),(t3.cell _).trans (pp 1 _ rfl),(t3.cell _).trans (pp 2 _ rfl),(t3.cell _).trans (pp 3 _ rfl),(t3.cell _).trans (pp 4 _ rfl),t3.book (hbk.below hbp),(E2.out.old o3).kd⟩⟩,OO2.out.trans o3⟩
variable {B X O P mc sc iN kN:Nat} {b:Bk} {r:Rec} {s s2 t n m u:Int} {vr vg vm vs vc ur ug um us uc y0:Value} {w w0:World} {d:Nat→Value}
def nC (B X O P:Nat) (s s2 t u:Int) (d:Nat→Value):Act:={ tmps:=#[d 0,d 1,.int .u8 s,.int .u8 s2,.pointer (some ⟨B,0,none⟩),.pointer (some ⟨X,0,none⟩),d 6,d 7,d 8,.pointer (some ⟨O,0,none⟩),.pointer (some ⟨P,0,none⟩),.int .i64 t,.int .i64 u,d 13,d 14,d 15,d 16,d 17,d 18,d 19,d 20,d 21,d 22,d 23,d 24,d 25,d 26,d 27,d 28,d 29,d 30,d 31,d 32,d 33,d 34,d 35,d 36,d 37,d 38,d 39,d 40,d 41,d 42,d 43,d 44,d 45,d 46,d 47,d 48,d 49,d 50,d 51,d 52,d 53,d 54,d 55,d 56,d 57,d 58,d 59,d 60,d 61,d 62,d 63,d 64,d 65,d 66,d 67,d 68,d 69,d 70,d 71,d 72,d 73,d 74,d 75,d 76,d 77,d 78,d 79,d 80,d 81,d 82,d 83,d 84,d 85,d 86,d 87,d 88,d 89,d 90,d 91,d 92,d 93,d 94,d 95,d 96,d 97,d 98,d 99,d 100,d 101,d 102,d 103,d 104,d 105,d 106,d 107,d 108,d 109,d 110,d 111,d 112,d 113,d 114,d 115,d 116,d 117,d 118,d 119,d 120,d 121,d 122,d 123,d 124,d 125,d 126,d 127,d 128,d 129,d 130,d 131,d 132,d 133,d 134,d 135,d 136,d 137,d 138,d 139,d 140,d 141,d 142,d 143,d 144,d 145,d 146,d 147,d 148,d 149,d 150,d 151,d 152,d 153,d 154,d 155,d 156,d 157,d 158,d 159,d 160,d 161,d 162,d 163,d 164,d 165,d 166,d 167,d 168,d 169,d 170,d 171,d 172,d 173,d 174,d 175,d 176,d 177,d 178,d 179,d 180,d 181,d 182,d 183,d 184,d 185,d 186,d 187,d 188,d 189,d 190,d 191,d 192,d 193,d 194,d 195,d 196,d 197,d 198,d 199,d 200,d 201,d 202,d 203,d 204,d 205,d 206,d 207,d 208,d 209,d 210,d 211,d 212,d 213,d 214,d 215,d 216,d 217,d 218,d 219,d 220,d 221,d 222,d 223,d 224,d 225,d 226,d 227,d 228,d 229,d 230,d 231,d 232,d 233,d 234,d 235,d 236,d 237],defers:=[] }
def nM (B X O P:Nat) (s s2 t m:Int) (d:Nat→Value):Act:={ tmps:=#[d 0,d 1,.int .u8 s,.int .u8 s2,.pointer (some ⟨B,0,none⟩),.pointer (some ⟨X,0,none⟩),d 6,d 7,d 8,.pointer (some ⟨O,0,none⟩),.pointer (some ⟨P,0,none⟩),.int .i64 t,d 12,.int .i64 m,d 14,d 15,d 16,d 17,d 18,d 19,d 20,d 21,d 22,d 23,d 24,d 25,d 26,d 27,d 28,d 29,d 30,d 31,d 32,d 33,d 34,d 35,d 36,d 37,d 38,d 39,d 40,d 41,d 42,d 43,d 44,d 45,d 46,d 47,d 48,d 49,d 50,d 51,d 52,d 53,d 54,d 55,d 56,d 57,d 58,d 59,d 60,d 61,d 62,d 63,d 64,d 65,d 66,d 67,d 68,d 69,d 70,d 71,d 72,d 73,d 74,d 75,d 76,d 77,d 78,d 79,d 80,d 81,d 82,d 83,d 84,d 85,d 86,d 87,d 88,d 89,d 90,d 91,d 92,d 93,d 94,d 95,d 96,d 97,d 98,d 99,d 100,d 101,d 102,d 103,d 104,d 105,d 106,d 107,d 108,d 109,d 110,d 111,d 112,d 113,d 114,d 115,d 116,d 117,d 118,d 119,d 120,d 121,d 122,d 123,d 124,d 125,d 126,d 127,d 128,d 129,d 130,d 131,d 132,d 133,d 134,d 135,d 136,d 137,d 138,d 139,d 140,d 141,d 142,d 143,d 144,d 145,d 146,d 147,d 148,d 149,d 150,d 151,d 152,d 153,d 154,d 155,d 156,d 157,d 158,d 159,d 160,d 161,d 162,d 163,d 164,d 165,d 166,d 167,d 168,d 169,d 170,d 171,d 172,d 173,d 174,d 175,d 176,d 177,d 178,d 179,d 180,d 181,d 182,d 183,d 184,d 185,d 186,d 187,d 188,d 189,d 190,d 191,d 192,d 193,d 194,d 195,d 196,d 197,d 198,d 199,d 200,d 201,d 202,d 203,d 204,d 205,d 206,d 207,d 208,d 209,d 210,d 211,d 212,d 213,d 214,d 215,d 216,d 217,d 218,d 219,d 220,d 221,d 222,d 223,d 224,d 225,d 226,d 227,d 228,d 229,d 230,d 231,d 232,d 233,d 234,d 235,d 236,d 237],defers:=[] }
def nK (B P iN kN:Nat) (d:Nat→Value):Act:={ tmps:=#[d 0,d 1,d 2,d 3,.pointer (some ⟨B,0,none⟩),d 5,d 6,d 7,d 8,d 9,.pointer (some ⟨P,0,none⟩),d 11,d 12,d 13,d 14,d 15,d 16,.int .i64 (iN:Int),.int .i64 (kN:Int),d 19,d 20,d 21,d 22,d 23,d 24,d 25,d 26,d 27,d 28,d 29,d 30,d 31,d 32,d 33,d 34,d 35,d 36,d 37,d 38,d 39,d 40,d 41,d 42,d 43,d 44,d 45,d 46,d 47,d 48,d 49,d 50,d 51,d 52,d 53,d 54,d 55,d 56,d 57,d 58,d 59,d 60,d 61,d 62,d 63,d 64,d 65,d 66,d 67,d 68,d 69,d 70,d 71,d 72,d 73,d 74,d 75,d 76,d 77,d 78,d 79,d 80,d 81,d 82,d 83,d 84,d 85,d 86,d 87,d 88,d 89,d 90,d 91,d 92,d 93,d 94,d 95,d 96,d 97,d 98,d 99,d 100,d 101,d 102,d 103,d 104,d 105,d 106,d 107,d 108,d 109,d 110,d 111,d 112,d 113,d 114,d 115,d 116,d 117,d 118,d 119,d 120,d 121,d 122,d 123,d 124,d 125,d 126,d 127,d 128,d 129,d 130,d 131,d 132,d 133,d 134,d 135,d 136,d 137,d 138,d 139,d 140,d 141,d 142,d 143,d 144,d 145,d 146,d 147,d 148,d 149,d 150,d 151,d 152,d 153,d 154,d 155,d 156,d 157,d 158,d 159,d 160,d 161,d 162,d 163,d 164,d 165,d 166,d 167,d 168,d 169,d 170,d 171,d 172,d 173,d 174,d 175,d 176,d 177,d 178,d 179,d 180,d 181,d 182,d 183,d 184,d 185,d 186,d 187,d 188,d 189,d 190,d 191,d 192,d 193,d 194,d 195,d 196,d 197,d 198,d 199,d 200,d 201,d 202,d 203,d 204,d 205,d 206,d 207,d 208,d 209,d 210,d 211,d 212,d 213,d 214,d 215,d 216,d 217,d 218,d 219,d 220,d 221,d 222,d 223,d 224,d 225,d 226,d 227,d 228,d 229,d 230,d 231,d 232,d 233,d 234,d 235,d 236,d 237],defers:=[] }
def NZ5 (B X O P:Nat) (s s2 t u:Int) (y:Bool) (a':Act) (w2:World):Prop:=a'.tmps[64]? = some (.bool y)∧∃ d,a'=nC B X O P s s2 t u d
theorem no_5 {y:Bool} {b':Bk} (hM:BxSt w O b' ur ug um us uc) (hN:∀ m∈b'.ms,m.name.size≤1000000) (hu:bookAl b'=u) (hy:(u != 0)=y) :
 wps Tryz.prog [sql (no 5),sql (sqr (no 5))] (fun a' w2=>NZ5 B X O P s s2 t u y a' w2∧Old w w2) (nA B X O P s s2 t d) w:=by
 unfold nA
 have MM:=Hh hM
 have HNM:=Hh hN
 have HU:=Hh hu
 clear hM hN hu
 refine wps_nq ?_
 obtain ⟨c9,hcc⟩:∃ c,sql (no 5)=c:=⟨_,rfl⟩
 rw [hcc]
 simp only [no,sqN,sql,sqr,cnd,blk,lpc,Tryz.f4,Option.getD_some] at hcc
 subst hcc
 obtain ⟨c0,c1,c2,c3,c4,_,_⟩:=id MM.out
 have HB:=Hh MM.out.bk
 have HK:=Hh MM.out.kd
 have hB0:=lt_of_cell c0
 simp only at hB0
 go_wp2_with (go_at_call 23;(with_reducible refine (rCheckBook_at HB.out HNM.out HU.out).mono ?_);rintro e w1 ⟨rfl,hb1⟩)
 refine ⟨rfl,fun X1 t1=>?_⟩
 have o1:=(Old.ofBelow hb1).twin0 t1
 have OO1:=Hh o1
 clear c0 c1 c2 c3 c4 HB HK hB0 t1 o1 hb1
 refine wps_nq ?_
 obtain ⟨c9,hcc⟩:∃ c,sql (sqr (no 5))=c:=⟨_,rfl⟩
 rw [hcc]
 simp only [no,sqN,sql,sqr,cnd,blk,lpc,Tryz.f4,Option.getD_some] at hcc
 subst hcc
 cases y with
 | true =>
  go_wp2
  refine ⟨rfl,fun X2 t2=>?_⟩
  exact ⟨⟨rfl,fr_of (by kernel_rfl)⟩,OO1.out.trans ((Old.refl _).twin0 t2)⟩
 | false =>
  go_wp2
  refine ⟨rfl,fun X2 t2=>?_⟩
  exact ⟨⟨rfl,fr_of (by kernel_rfl)⟩,OO1.out.trans ((Old.refl _).twin0 t2)⟩
def NZN (B X O P:Nat) (s s2 t m:Int) (a':Act) (w2:World):Prop:=∃ d,a'=nM B X O P s s2 t m d
theorem no_6 {b':Bk} (hE:BxSt w B b vr vg vm vs vc) (hM:BxSt w O b' ur ug um us uc) (hN:∀ m∈b.ms,m.name.size≤1000000) (hN':∀ m∈b'.ms,m.name.size≤1000000) (hk:bookAl b=0) (hk':bookAl b'=0) (hn:histN b=n) (hm:histN b'=m) (hin:inB m 0 n=true) :
 wps Tryz.prog [no 6,no 7,no 8] (fun a' w2=>NZN B X O P s s2 t m a' w2∧Old w w2) (nC B X O P s s2 t 0 d) w:=by
 unfold nC
 have EE:=Hh hE
 have MM:=Hh hM
 have HNB:=Hh hN
 have HNM:=Hh hN'
 have HNN:=Hh hn
 have HMM:=Hh hm
 have HKB:=Hh hk
 have HKM:=Hh hk'
 have HIN:=Hh hin
 have OO0:=Hh (Old.refl w)
 clear hN hN' hk hk' hn hm hE hM hin
 refine wps_nq ?_
 obtain ⟨c9,hcc⟩:∃ c,no 6=c:=⟨_,rfl⟩
 rw [hcc]
 simp only [no,sqN,sql,sqr,cnd,blk,lpc,Tryz.f4,Option.getD_some] at hcc
 subst hcc
 obtain ⟨c0,c1,c2,c3,c4,_,_⟩:=id MM.out
 have HB:=Hh MM.out.bk
 have HK:=Hh MM.out.kd
 have hB0:=lt_of_cell c0
 simp only at hB0
 go_wp2_with (go_at_call 25;(with_reducible refine (histories2_at HB.out HNM.out HK.out HMM.out HKM.out).mono ?_);rintro e w1 ⟨rfl,hb1⟩)
 refine ⟨rfl,fun X1 t1=>?_⟩
 have o1:=Old.twin0 (Old.ofBelow hb1) t1
 have OO1:=Hh (OO0.out.trans o1)
 replace EE:=Hh (EE.out.old o1)
 replace MM:=Hh (MM.out.old o1)
 clear t1 o1 hb1 OO0 c0 c1 c2 c3 c4 HB HK hB0
 refine wps_nq ?_
 obtain ⟨c9,hcc⟩:∃ c,no 7=c:=⟨_,rfl⟩
 rw [hcc]
 simp only [no,sqN,sql,sqr,cnd,blk,lpc,Tryz.f4,Option.getD_some] at hcc
 subst hcc
 obtain ⟨c0,c1,c2,c3,c4,_,_⟩:=id EE.out
 have HB:=Hh EE.out.bk
 have HK:=Hh EE.out.kd
 have hB0:=lt_of_cell c0
 simp only at hB0
 go_wp2_with (go_at_call 25;(with_reducible refine (histories2_at HB.out HNB.out HK.out HNN.out HKB.out).mono ?_);rintro e w1 ⟨rfl,hb1⟩)
 refine ⟨rfl,fun X2 t1=>?_⟩
 have o1:=Old.twin0 (Old.ofBelow hb1) t1
 have OO2:=Hh (OO1.out.trans o1)
 replace EE:=Hh (EE.out.old o1)
 replace MM:=Hh (MM.out.old o1)
 clear t1 o1 hb1 OO1 c0 c1 c2 c3 c4 HB HK hB0
 refine wps_nq ?_
 obtain ⟨c9,hcc⟩:∃ c,no 8=c:=⟨_,rfl⟩
 rw [hcc]
 simp only [no,sqN,sql,sqr,cnd,blk,lpc,Tryz.f4,Option.getD_some] at hcc
 subst hcc
 go_wp2_with (go_at_call 26;(with_reducible refine (rin_at HIN.out).mono ?_);rintro e w1 ⟨rfl,rfl⟩)
 refine ⟨rfl,fun X2 t2=>?_⟩
 exact ⟨fr_of (by kernel_rfl),OO2.out.trans ((Old.refl _).twin0 t2)⟩
def NZ9 (B X O P:Nat) (s s2 t m:Int) (y:Bool) (a':Act) (w2:World):Prop:=a'.tmps[99]? = some (.bool y)∧∃ d,a'=nM B X O P s s2 t m d
theorem no_9 {y:Bool} (hy:(m == 0)=y):(sql (no 9)).wp Tryz.prog (PZ w (NZ9 B X O P s s2 t m y)) (nM B X O P s s2 t m d) w:=by
 simp only [no,sqN,sql,sqr,cnd,blk,lpc,Tryz.f4,Option.getD_some,nM]
 cases y with
 | true =>
  go_wp2
  exact ⟨rfl,⟨rfl,fr_of (by kernel_rfl)⟩,bel⟩
 | false =>
  go_wp2
  exact ⟨rfl,⟨rfl,fr_of (by kernel_rfl)⟩,bel⟩
def NZK (B P iN kN:Nat) (a':Act) (w2:World):Prop:=∃ d,a'=nK B P iN kN d
theorem no_10 {b':Bk} {vr2 vg2 vm2 vs2 vc2:Value} (hE:BxSt w B b vr vg vm vs vc) (hO:BxSt w O b' vr2 vg2 vm2 vs2 vc2) (hP:BxSt w P b' ur ug um us uc) (hS:SmallB b) (hl:0 < b.ss.length) (hm:0 < b.ms.length) (hs0:0≤s) (hs1:s≤255) (ht0:0≤s2) (ht1:s2≤255) (hi:s % (b.ss.length:Int)=(iN:Int)) (hk:s2 % (b.ms.length:Int)=(kN:Int)) :
 wps Tryz.prog [no 10,no 11] (fun a' w2=>NZK B P iN kN a' w2∧Old w w2) (nM B X O P s s2 0 m d) w:=by
 unfold nM
 have hs20:b.ss.length≤20:=hS.2.1
 have hm20:b.ms.length≤20:=hS.1
 have EE:=Hh hE
 have MO:=Hh hO
 have MP:=Hh hP
 have OO0:=Hh (Old.refl w)
 clear hS hE hO hP
 refine wps_nq ?_
 obtain ⟨c9,hcc⟩:∃ c,no 10=c:=⟨_,rfl⟩
 rw [hcc]
 simp only [no,sqN,sql,sqr,cnd,blk,lpc,Tryz.f4,Option.getD_some] at hcc
 subst hcc
 obtain ⟨c0,c1,c2,c3,c4,_,_⟩:=id MO.out
 have HB:=Hh MO.out.bk
 have HK:=Hh MO.out.kd
 have hB0:=lt_of_cell c0
 simp only at hB0
 obtain ⟨c0',c1',c2',c3',c4',_,_⟩:=id MP.out
 have HB':=Hh MP.out.bk
 have HK':=Hh MP.out.kd
 have hB0':=lt_of_cell c0'
 simp only at hB0'
 go_wp2_with (go_at_call 24;(with_reducible refine (same_at HB'.out HB.out).mono ?_);rintro e w1 ⟨rfl,hb1⟩)
 refine ⟨rfl,fun X1 t1=>?_⟩
 have o1:=Old.twin0 (Old.ofBelow hb1) t1
 have OO1:=Hh (OO0.out.trans o1)
 replace EE:=Hh (EE.out.old o1)
 clear t1 o1 hb1 OO0 c0 c1 c2 c3 c4 HB HK hB0 c0' c1' c2' c3' c4' HB' HK' hB0' MO MP
 refine wps_nq ?_
 obtain ⟨c9,hcc⟩:∃ c,no 11=c:=⟨_,rfl⟩
 rw [hcc]
 simp only [no,sqN,sql,sqr,cnd,blk,lpc,Tryz.f4,Option.getD_some] at hcc
 subst hcc
 obtain ⟨rfl,rfl,⟨ma,mc,rfl,_⟩,⟨sa,sc,rfl,_⟩,ra,rc,rfl,_⟩:=id EE.out.bk
 obtain ⟨c0,c1,c2,c3,c4,_,_⟩:=id EE.out
 have HB:=Hh EE.out.bk
 have HK:=Hh EE.out.kd
 have hB0:=lt_of_cell c0
 simp only at hB0
 have hwc:IntKind.i64.wrap s=s:=wrapI (by omega) (by omega)
 have hwd:IntKind.i64.wrap s2=s2:=wrapI (by omega) (by omega)
 have hn1:((b.ss.length:Int) == 0)=false:=by rw [beq_eq_false_iff_ne];omega
 have hn2:((b.ms.length:Int) == 0)=false:=by rw [beq_eq_false_iff_ne];omega
 have hn3:¬ ((b.ss.length:Int)=0):=by omega
 have hn4:¬ ((b.ms.length:Int)=0):=by omega
 have ht1:s.tmod (b.ss.length:Int)=(iN:Int):=by rw [Int.tmod_eq_emod_of_nonneg hs0];exact hi
 have ht2:s2.tmod (b.ms.length:Int)=(kN:Int):=by rw [Int.tmod_eq_emod_of_nonneg ht0];exact hk
 have hiN:(iN:Int) < 20:=by have:=Int.emod_lt_of_pos s (show (0:Int) < (b.ss.length:Int) by omega);omega
 have hkN:(kN:Int) < 20:=by have:=Int.emod_lt_of_pos s2 (show (0:Int) < (b.ms.length:Int) by omega);omega
 have hwi:IntKind.i64.wrap (iN:Int)=(iN:Int):=wrapI (by omega) (by omega)
 have hwk:IntKind.i64.wrap (kN:Int)=(kN:Int):=wrapI (by omega) (by omega)
 clear hi hk hl hm HB HK
 go_wp2
 go_quiet (fail)
 go_wp2
 refine ⟨rfl,fun X2 t2=>?_⟩
 exact ⟨fr_of (by kernel_rfl),OO1.out.trans (Old.twin0 (Old.ofBelow (bel)) t2)⟩
variable {B X O P mc sc iN kN:Nat} {b:Bk} {r:Rec} {s s2 t n m u:Int} {vr vg vm vs vc ur ug um us uc y0:Value} {w w0:World} {d:Nat→Value}
def nV (kN:Nat) (qa:Option Addr) (qn qc:Nat) (pa:Option Addr) (pn pc:Nat) (ca:Option Addr) (cn cc:Nat) (da:Option Addr) (dn dc:Nat) (d:Nat→Value):Act:={ tmps:=#[d 0,d 1,d 2,d 3,d 4,d 5,d 6,d 7,d 8,d 9,d 10,d 11,d 12,d 13,d 14,d 15,d 16,d 17,.int .i64 (kN:Int),d 19,d 20,.slice qa qn qc,d 22,.slice pa pn pc,d 24,.slice ca cn cc,d 26,.slice da dn dc,d 28,d 29,d 30,d 31,d 32,d 33,d 34,d 35,d 36,d 37,d 38,d 39,d 40,d 41,d 42,d 43,d 44,d 45,d 46,d 47,d 48,d 49,d 50,d 51,d 52,d 53,d 54,d 55,d 56,d 57,d 58,d 59,d 60,d 61,d 62,d 63,d 64,d 65,d 66,d 67,d 68,d 69,d 70,d 71,d 72,d 73,d 74,d 75,d 76,d 77,d 78,d 79,d 80,d 81,d 82,d 83,d 84,d 85,d 86,d 87,d 88,d 89,d 90,d 91,d 92,d 93,d 94,d 95,d 96,d 97,d 98,d 99,d 100,d 101,d 102,d 103,d 104,d 105,d 106,d 107,d 108,d 109,d 110,d 111,d 112,d 113,d 114,d 115,d 116,d 117,d 118,d 119,d 120,d 121,d 122,d 123,d 124,d 125,d 126,d 127,d 128,d 129,d 130,d 131,d 132,d 133,d 134,d 135,d 136,d 137,d 138,d 139,d 140,d 141,d 142,d 143,d 144,d 145,d 146,d 147,d 148,d 149,d 150,d 151,d 152,d 153,d 154,d 155,d 156,d 157,d 158,d 159,d 160,d 161,d 162,d 163,d 164,d 165,d 166,d 167,d 168,d 169,d 170,d 171,d 172,d 173,d 174,d 175,d 176,d 177,d 178,d 179,d 180,d 181,d 182,d 183,d 184,d 185,d 186,d 187,d 188,d 189,d 190,d 191,d 192,d 193,d 194,d 195,d 196,d 197,d 198,d 199,d 200,d 201,d 202,d 203,d 204,d 205,d 206,d 207,d 208,d 209,d 210,d 211,d 212,d 213,d 214,d 215,d 216,d 217,d 218,d 219,d 220,d 221,d 222,d 223,d 224,d 225,d 226,d 227,d 228,d 229,d 230,d 231,d 232,d 233,d 234,d 235,d 236,d 237],defers:=[] }
def nZ (kN:Nat) (ca:Option Addr) (cn cc:Nat) (da:Option Addr) (dn dc:Nat) (d:Nat→Value):Act:={ tmps:=#[d 0,d 1,d 2,d 3,d 4,d 5,d 6,d 7,d 8,d 9,d 10,d 11,d 12,d 13,d 14,d 15,d 16,d 17,.int .i64 (kN:Int),d 19,d 20,d 21,d 22,d 23,d 24,.slice ca cn cc,d 26,.slice da dn dc,d 28,d 29,d 30,d 31,d 32,d 33,d 34,d 35,d 36,d 37,d 38,d 39,d 40,d 41,d 42,d 43,d 44,d 45,d 46,d 47,d 48,d 49,d 50,d 51,d 52,d 53,d 54,d 55,d 56,d 57,d 58,d 59,d 60,d 61,d 62,d 63,d 64,d 65,d 66,d 67,d 68,d 69,d 70,d 71,d 72,d 73,d 74,d 75,d 76,d 77,d 78,d 79,d 80,d 81,d 82,d 83,d 84,d 85,d 86,d 87,d 88,d 89,d 90,d 91,d 92,d 93,d 94,d 95,d 96,d 97,d 98,d 99,d 100,d 101,d 102,d 103,d 104,d 105,d 106,d 107,d 108,d 109,d 110,d 111,d 112,d 113,d 114,d 115,d 116,d 117,d 118,d 119,d 120,d 121,d 122,d 123,d 124,d 125,d 126,d 127,d 128,d 129,d 130,d 131,d 132,d 133,d 134,d 135,d 136,d 137,d 138,d 139,d 140,d 141,d 142,d 143,d 144,d 145,d 146,d 147,d 148,d 149,d 150,d 151,d 152,d 153,d 154,d 155,d 156,d 157,d 158,d 159,d 160,d 161,d 162,d 163,d 164,d 165,d 166,d 167,d 168,d 169,d 170,d 171,d 172,d 173,d 174,d 175,d 176,d 177,d 178,d 179,d 180,d 181,d 182,d 183,d 184,d 185,d 186,d 187,d 188,d 189,d 190,d 191,d 192,d 193,d 194,d 195,d 196,d 197,d 198,d 199,d 200,d 201,d 202,d 203,d 204,d 205,d 206,d 207,d 208,d 209,d 210,d 211,d 212,d 213,d 214,d 215,d 216,d 217,d 218,d 219,d 220,d 221,d 222,d 223,d 224,d 225,d 226,d 227,d 228,d 229,d 230,d 231,d 232,d 233,d 234,d 235,d 236,d 237],defers:=[] }
def NZE (kN:Nat) (u v:List Prt) (c d:List Int) (a':Act) (w2:World):Prop:=∃ qa qc pa pc ca cc da dc,(∃ d9,a'=nV kN qa u.length qc pa v.length pc ca c.length cc da d.length dc d9)∧KindsAt w2∧PartsAt w2 qa u∧PartsAt w2 pa v∧IntsAt w2 ca c∧IntsAt w2 da d
theorem no_B {b':Bk} {x y c dl:List Int} {u v:List Prt} (hE:BxSt w B b vr vg vm vs vc) (hP:BxSt w P b' ur ug um us uc) (hN:∀ m∈b.ms,m.name.size≤1000000) (hN':∀ m∈b'.ms,m.name.size≤1000000) (ho:openAl b 0=0) (ho':openAl b' 0=0) (hm5:b'.ms.length=b.ms.length)
 (hx:thr b (iN:Int)=x) (hxa:throughAl b (iN:Int)=0) (hy:thr b' (iN:Int)=y) (hya:throughAl b' (iN:Int)=0) (hu:missI b=u) (hv:missI b'=v) (hc:deliveredI b=c) (hd:deliveredI b'=dl) (hxl:x.length≤1000000) (hyl:y.length≤1000000) (hxy:∀ z∈y,z∈x) :
 wps Tryz.prog [no 12,no 13,no 14,no 15,no 16,no 17,no 18] (fun a' w2=>NZE kN u v c dl a' w2∧Old w w2) (nK B P iN kN d) w:=by
 unfold nK
 have hcl:c.length=b.ms.length:=by rw [← hc];exact deliv_len b
 have hdl:dl.length=b.ms.length:=by rw [← hd,deliv_len,hm5]
 have EE:=Hh hE
 have MP:=Hh hP
 have HNB:=Hh hN
 have HNP:=Hh hN'
 have HOB:=Hh ho
 have HOP:=Hh ho'
 have HX:=Hh hx
 have HXA:=Hh hxa
 have HY:=Hh hy
 have HYA:=Hh hya
 have HU:=Hh hu
 have HV:=Hh hv
 have HC:=Hh hc
 have HD:=Hh hd
 have HXY:=Hh hxy
 have HCL:=Hh hcl
 have HDL:=Hh hdl
 have OO0:=Hh (Old.refl w)
 clear hE hP hN hN' ho ho' hm5 hx hxa hy hya hu hv hc hd hxy hcl hdl
 refine wps_nq ?_
 obtain ⟨c9,hcc⟩:∃ c,no 12=c:=⟨_,rfl⟩
 rw [hcc]
 simp only [no,sqN,sql,sqr,cnd,blk,lpc,Tryz.f4,Option.getD_some] at hcc
 subst hcc
 obtain ⟨c0,c1,c2,c3,c4,_,_⟩:=id EE.out
 have HB:=Hh EE.out.bk
 have HK:=Hh EE.out.kd
 have hB0:=lt_of_cell c0
 simp only at hB0
 go_wp2_with (go_at_call 27;(with_reducible refine (through2_at HB.out HNB.out HK.out HX.out HXA.out).mono ?_);rintro e w1 ⟨xa9,xc9,rfl,hx1,hb1⟩)
 refine ⟨rfl,fun X1 t1=>?_⟩
 have o1:=Old.twin0 (Old.ofBelow hb1) t1
 have OO1:=Hh (OO0.out.trans o1)
 replace EE:=Hh (EE.out.old o1)
 replace MP:=Hh (MP.out.old o1)
 have XI:=Hh (t1.ints hx1)
 clear t1 o1 hb1 OO0 c0 c1 c2 c3 c4 HB HK hB0 hx1
 refine wps_nq ?_
 obtain ⟨c9,hcc⟩:∃ c,no 13=c:=⟨_,rfl⟩
 rw [hcc]
 simp only [no,sqN,sql,sqr,cnd,blk,lpc,Tryz.f4,Option.getD_some] at hcc
 subst hcc
 obtain ⟨c0,c1,c2,c3,c4,_,_⟩:=id MP.out
 have HB:=Hh MP.out.bk
 have HK:=Hh MP.out.kd
 have hB0:=lt_of_cell c0
 simp only at hB0
 go_wp2_with (go_at_call 27;(with_reducible refine (through2_at HB.out HNP.out HK.out HY.out HYA.out).mono ?_);rintro e w1 ⟨ya9,yc9,rfl,hx1,hb1⟩)
 refine ⟨rfl,fun X2 t1=>?_⟩
 have o1:=Old.twin0 (Old.ofBelow hb1) t1
 have OO2:=Hh (OO1.out.trans o1)
 replace EE:=Hh (EE.out.old o1)
 replace MP:=Hh (MP.out.old o1)
 replace XI:=Hh (o1.ints XI.out)
 have YI:=Hh (t1.ints hx1)
 clear t1 o1 hb1 OO1 c0 c1 c2 c3 c4 HB HK hB0 hx1
 refine wps_nq ?_
 obtain ⟨c9,hcc⟩:∃ c,no 14=c:=⟨_,rfl⟩
 rw [hcc]
 simp only [no,sqN,sql,sqr,cnd,blk,lpc,Tryz.f4,Option.getD_some] at hcc
 subst hcc
 obtain ⟨c0,c1,c2,c3,c4,_,_⟩:=id EE.out
 have HB:=Hh EE.out.bk
 have HK:=Hh EE.out.kd
 have hB0:=lt_of_cell c0
 simp only at hB0
 go_wp2_with (go_at_call 28;(with_reducible refine (missingApi_ok HB.out HNB.out HK.out HOB.out).mono ?_);rintro e w1 ⟨qa,qc,rfl,hx1,hb1⟩)
 rw [HU.out] at hx1 ⊢
 refine ⟨rfl,fun X3 t1=>?_⟩
 have o1:=Old.twin0 (Old.ofBelow hb1) t1
 have OO3:=Hh (OO2.out.trans o1)
 replace EE:=Hh (EE.out.old o1)
 replace MP:=Hh (MP.out.old o1)
 replace XI:=Hh (o1.ints XI.out)
 replace YI:=Hh (o1.ints YI.out)
 have QP:=Hh (t1.parts hx1)
 clear t1 o1 hb1 OO2 c0 c1 c2 c3 c4 HB HK hB0 hx1
 refine wps_nq ?_
 obtain ⟨c9,hcc⟩:∃ c,no 15=c:=⟨_,rfl⟩
 rw [hcc]
 simp only [no,sqN,sql,sqr,cnd,blk,lpc,Tryz.f4,Option.getD_some] at hcc
 subst hcc
 obtain ⟨c0,c1,c2,c3,c4,_,_⟩:=id MP.out
 have HB:=Hh MP.out.bk
 have HK:=Hh MP.out.kd
 have hB0:=lt_of_cell c0
 simp only at hB0
 go_wp2_with (go_at_call 28;(with_reducible refine (missingApi_ok HB.out HNP.out HK.out HOP.out).mono ?_);rintro e w1 ⟨pa,pc,rfl,hx1,hb1⟩)
 rw [HV.out] at hx1 ⊢
 refine ⟨rfl,fun X4 t1=>?_⟩
 have o1:=Old.twin0 (Old.ofBelow hb1) t1
 have OO4:=Hh (OO3.out.trans o1)
 replace EE:=Hh (EE.out.old o1)
 replace MP:=Hh (MP.out.old o1)
 replace XI:=Hh (o1.ints XI.out)
 replace YI:=Hh (o1.ints YI.out)
 replace QP:=Hh (o1.parts QP.out)
 have RP:=Hh (t1.parts hx1)
 clear t1 o1 hb1 OO3 c0 c1 c2 c3 c4 HB HK hB0 hx1
 refine wps_nq ?_
 obtain ⟨c9,hcc⟩:∃ c,no 16=c:=⟨_,rfl⟩
 rw [hcc]
 simp only [no,sqN,sql,sqr,cnd,blk,lpc,Tryz.f4,Option.getD_some] at hcc
 subst hcc
 obtain ⟨c0,c1,c2,c3,c4,_,_⟩:=id EE.out
 have HB:=Hh EE.out.bk
 have HK:=Hh EE.out.kd
 have hB0:=lt_of_cell c0
 simp only at hB0
 go_wp2_with (go_at_call 29;(with_reducible refine (delivered_ok HB.out HNB.out HK.out HOB.out).mono ?_);rintro e w1 ⟨ca,cc,rfl,hx1,hb1⟩)
 rw [HC.out] at hx1 ⊢
 refine ⟨rfl,fun X5 t1=>?_⟩
 have o1:=Old.twin0 (Old.ofBelow hb1) t1
 have OO5:=Hh (OO4.out.trans o1)
 replace EE:=Hh (EE.out.old o1)
 replace MP:=Hh (MP.out.old o1)
 replace XI:=Hh (o1.ints XI.out)
 replace YI:=Hh (o1.ints YI.out)
 replace QP:=Hh (o1.parts QP.out)
 replace RP:=Hh (o1.parts RP.out)
 have CI:=Hh (t1.ints hx1)
 clear t1 o1 hb1 OO4 c0 c1 c2 c3 c4 HB HK hB0 hx1
 refine wps_nq ?_
 obtain ⟨c9,hcc⟩:∃ c,no 17=c:=⟨_,rfl⟩
 rw [hcc]
 simp only [no,sqN,sql,sqr,cnd,blk,lpc,Tryz.f4,Option.getD_some] at hcc
 subst hcc
 obtain ⟨c0,c1,c2,c3,c4,_,_⟩:=id MP.out
 have HB:=Hh MP.out.bk
 have HK:=Hh MP.out.kd
 have hB0:=lt_of_cell c0
 simp only at hB0
 go_wp2_with (go_at_call 29;(with_reducible refine (delivered_ok HB.out HNP.out HK.out HOP.out).mono ?_);rintro e w1 ⟨da,dc,rfl,hx1,hb1⟩)
 rw [HD.out] at hx1 ⊢
 refine ⟨rfl,fun X6 t1=>?_⟩
 have o1:=Old.twin0 (Old.ofBelow hb1) t1
 have OO6:=Hh (OO5.out.trans o1)
 replace EE:=Hh (EE.out.old o1)
 replace MP:=Hh (MP.out.old o1)
 replace XI:=Hh (o1.ints XI.out)
 replace YI:=Hh (o1.ints YI.out)
 replace QP:=Hh (o1.parts QP.out)
 replace RP:=Hh (o1.parts RP.out)
 replace CI:=Hh (o1.ints CI.out)
 have DI:=Hh (t1.ints hx1)
 clear t1 o1 hb1 OO5 c0 c1 c2 c3 c4 HB HK hB0 hx1
 refine wps_nq ?_
 obtain ⟨c9,hcc⟩:∃ c,no 18=c:=⟨_,rfl⟩
 rw [hcc]
 simp only [no,sqN,sql,sqr,cnd,blk,lpc,Tryz.f4,Option.getD_some] at hcc
 subst hcc
 obtain ⟨rfl,rfl,⟨ma,mc,rfl,_⟩,⟨sa,sc,rfl,_⟩,ra,rc,rfl,_⟩:=id EE.out.bk
 obtain ⟨c0,c1,c2,c3,c4,_,_⟩:=id EE.out
 have HB:=Hh EE.out.bk
 have HK:=Hh EE.out.kd
 have hB0:=lt_of_cell c0
 simp only at hB0
 have hz1:((c.length:Int) != (b.ms.length:Int))=false:=by rw [HCL.out];simp
 have hz2:((dl.length:Int) != (b.ms.length:Int))=false:=by rw [HDL.out];simp
 go_wp2_with (go_at_call 30;(with_reducible refine (within_at YI.out XI.out rfl rfl hyl hxl HXY.out).mono ?_);rintro e w1 ⟨rfl,hb1⟩)
 refine ⟨rfl,fun X7 t1=>?_⟩
 have o1:=Old.twin0 (Old.ofBelow hb1) t1
 exact ⟨⟨qa,qc,pa,pc,ca,cc,da,dc,fr_of (by kernel_rfl),(EE.out.old o1).kd,o1.parts QP.out,o1.parts RP.out,o1.ints CI.out,o1.ints DI.out⟩,OO6.out.trans o1⟩
theorem no_19 {qa pa ca da:Option Addr} {qc pc cn cc dn dc:Nat} {u v:List Prt} (hq:PartsAt w qa u) (hp:PartsAt w pa v) (hul:u.length≤1000000) (hvl:v.length≤1000000) (hvu:∀ p∈v,p∈u) :
 (no 19).wp Tryz.prog (NQ fun a' w2=>(∃ d,a'=nZ kN ca cn cc da dn dc d)∧Below w.heap.size w w2) (nV kN qa u.length qc pa v.length pc ca cn cc da dn dc d) w:=by
 simp only [no,sqN,sql,sqr,cnd,blk,lpc,Tryz.f4,Option.getD_some,nV]
 have HQ:=Hh hq
 have HP:=Hh hp
 have HVU:=Hh hvu
 clear hq hp hvu
 go_wp2
 go_loopw [29] (fun i wr=>∃ k:Nat,k≤v.length∧i=.int .i64 k∧Below w.heap.size w wr) (fun i _=>v.length - (intOf i).toNat)
 case atStart=>exact ⟨0,Nat.zero_le _,rfl,Below.refl _ _⟩
 case round =>
  obtain ⟨k,hk,rfl,hW⟩:=hrel
  have hWs:=hW.size
  by_cases hlt:k < v.length
  ·obtain ⟨pb,po,rfl,hpb,e0,e1⟩:=HP.out k hlt
   have d0:=(hW.cell hpb).trans e0
   have d1:=(hW.cell hpb).trans e1
   have hpb2:pb < wr.heap.size:=Nat.lt_of_lt_of_le hpb hWs
   have hin:=Hh (show decide (v[k]∈u)=true by rw [decide_eq_true_iff];exact HVU.out _ (List.getElem_mem hlt))
   generalize v[k]=p at d0 d1 hin e0 e1
   clear e0 e1
   go_wp2_with (go_at_call 31;(with_reducible refine (hasPart_at (p:=p) (HQ.out.below hW) rfl hul hin.out).mono ?_);rintro e w1 ⟨rfl,hb1⟩)
   go_roundw
   case rel=>exact ⟨k+1,by omega,by go_num,Below.next hW hb1⟩
   case measure=>simp [intOf];omega
  ·obtain rfl:k=v.length:=by omega
   go_wp2
   exact ⟨fr_of (F:=nZ kN ca cn cc da dn dc) (by kernel_rfl),hW⟩
end Go.Proofs.YtfggbepickdokaaGreatDoor
