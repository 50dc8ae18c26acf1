/- the fault laws -/
import Derived.Test.YtgkajecjbflbbaaGreatDoorGB26
set_option maxHeartbeats 4000000
set_option maxRecDepth 100000
set_option linter.all false
namespace Go.Proofs.YtgkajecjbflbbaaGreatDoor
namespace Mt
open Go Go.RowKit Go.Maps
attribute [local go_sem] Oper.semAt_some
theorem wrap_two:∀ j:Fin 6,IntKind.i64.wrap ((2:Int) ^ j.1)=wrap64 ((2:Int) ^ j.1):=by decide +kernel
theorem goDv_time:∀ {seen:List (List UInt8)} {l:List Dev},goDv seen l=0->∀ m∈l,0<=m.time/\m.time<=99
 | seen,m::l,h,x,hx=>by
  unfold goDv at h;split at h
  ·exact absurd h (by decide)
  ·split at h
   ·exact absurd h (by decide)
   ·split at h
    ·exact absurd h (by decide)
    ·rename_i ht
     rcases List.mem_cons.1 hx with rfl | hx
     ·unfold inB at ht;simp at ht;omega
     ·exact goDv_time h x hx
theorem devs_time {b:Fbk} (h:devsAl b=0):∀ m∈b.devs,0<=m.time/\m.time<=99:=by
 unfold devsAl at h;split at h
 ·exact absurd h (by decide)
 ·split at h
  ·exact absurd h (by decide)
  ·exact goDv_time h
noncomputable def repairTab (b:Fbk):Nat->Bst:=repT (fun x=>(b.devs[x.toNat]?).elim 0 Dev.time) (fun d=>(waitI (histsI b) (suspTo (histsI b) b.devs.length) d:Int)) (suspTo (histsI b) b.devs.length) (2 ^ (suspTo (histsI b) b.devs.length).length - 1) (2 ^ (suspTo (histsI b) b.devs.length).length - 1)
noncomputable def repairsI (b:Fbk):List Int:=ordR (repairTab b) (suspTo (histsI b) b.devs.length) (2 ^ (suspTo (histsI b) b.devs.length).length - 1) (2 ^ (suspTo (histsI b) b.devs.length).length - 1) 0
section
variable {b:Fbk} {vm vd vt:Value} {w:World}
theorem suspects_all {a:Option Addr} {c:Nat} {l:List (Nat->Nat)} {all:List Int} (hall:all=suspTo l b.devs.length) (hB:FBookAt w b vm vd vt) (hS:StatesAt w a l) (hl:l.length<=1000) (hd6:b.devs.length<=6):Calls Mz.prog 109 #[.agg #[vm,vd,vt],.slice a l.length c] w (IntsRet w all):=by
 rw [hall];exact suspects_at hB hS hl hd6
def mkB (n:Nat) (W:World):World:=W.alloc (.cells (bests n) 138)
theorem make_bests2 {n:Nat} (hn:n<=64) (w:World):(Instr.makeSlice 157 (.int .i64 (n:Int)) (.int .i64 (n:Int))).run Mz.prog w=.ok (.slice (some ⟨w.heap.size,0,none⟩) n n) (mkB n w):=by
 unfold mkB;exact make_bests hn w
theorem make_bests3 {n:Nat} {m:Int} (h:(n:Int)=m) (hn:n<=64) (w:World):(Instr.makeSlice 157 (.int .i64 m) (.int .i64 m)).run Mz.prog w=.ok (.slice (some ⟨w.heap.size,0,none⟩) n n) (mkB n w):=by
 subst h;exact make_bests2 hn w
theorem mkB_below {n:Nat} {w W:World} (h:Below w.heap.size w W):Below w.heap.size w (mkB n W):=Below.al h _
theorem below_ks {w W W':World} {B:Nat} (h:Below w.heap.size w W) (hB:w.heap.size<=B) (g:KS (fun k=>k≠B) W W'):Below w.heap.size w W' :=
 ⟨g.os.trans h.os,g.tape.trans h.tape,g.output.trans h.output,Nat.le_trans h.size g.size,fun k hk=>(g.block k (Nat.lt_of_lt_of_le hk h.size) (by omega)).trans (h.block k hk)⟩
theorem updT_self (T:Nat->Bst) (d:Nat):updT T d (T d)=T:=by
 funext e;unfold updT;split
 ·rename_i h
  rw [h]
 ·rfl
theorem repT_zero {tm:Int->Int} {N:Nat->Int} {all:List Int} {full:Nat}:∀ {k d:Nat},d+k < full->repT tm N all full k d=⟨0,0,false⟩
 | 0,d,h=>by
  unfold repT;rw [if_neg (by omega)]
 | k+1,d,h=>by
  unfold repT;rw [if_neg (by omega)];exact repT_zero (by omega)
theorem repT_next {tm:Int->Int} {N:Nat->Int} {all:List Int} {full k d:Nat} (h:d+(k+1)=full):updT (repT tm N all full k) d (repCell (repT tm N all full k) tm (N d) d all)=repT tm N all full (k+1):=by
 funext e;show (if e=d then _ else _)=if e+(k+1)=full then _ else _;by_cases he:e=d
 ·subst he;rw [if_pos rfl,if_pos h]
 ·rw [if_neg he,if_neg (by omega)]
theorem updT_upd (T:Nat->Bst) (d:Nat) (x y:Bst):updT (updT T d x) d y=updT T d y:=by
 funext e;unfold updT;split <;> rfl
theorem tab0 (full:Nat) (W:World) (B:Nat) (hB:W.heap.size=B) :
 (mkB (full+1) W).cell? ⟨B,full * 3,none⟩=some (.int .i64 0)/\(mkB (full+1) W).cell? ⟨B,full * 3+1,none⟩=some (.int .i64 0)/\(mkB (full+1) W).cell? ⟨B,full * 3+2,none⟩=some (.bool false) /\
 (mkB (full+1) W).frozen? ⟨B,full * 3,none⟩=false/\(mkB (full+1) W).frozen? ⟨B,full * 3+1,none⟩=false/\(mkB (full+1) W).frozen? ⟨B,full * 3+2,none⟩=false:=by
 subst hB;obtain ⟨⟨a,b,c⟩,d,e,f⟩:=bests_tab (n:=full+1) W full (by omega);exact ⟨a,b,c,d,e,f⟩
theorem repairsApi_ok (hB:FBookAt w b vm vd vt) (hN:∀ m∈b.devs,m.name.size<=1000000) (hA:ActsAt w) (h:openAl b 0=0) :
 Calls Mz.prog 45 #[.agg #[vm,vd,vt]] w fun e w'=>∃ a c,e=.returned (.tuple #[.slice a (repairsI b).length c,.int .i64 (repairTab b 0).c,.int .i64 0])/\IntsAt w' a (repairsI b)/\Below w.heap.size w w':=by
 have HB:=Hh hB;have HN:=Hh hN;have HA:=Hh hA;have H:=Hh h;obtain ⟨hd6,hle⟩:=bk6 (openAl_ok h).1;have g1:=(openAl_ok h).1;have hsu6:(suspTo (histsI b) b.devs.length).length<=6:=Nat.le_trans (suspTo_le _ _) hd6;obtain ⟨rfl,⟨da,dc,rfl,hdv,_⟩,ta,tc,rfl,_,_⟩:=hB;clear hN h hA;obtain ⟨all,hall⟩:∃ all,all=suspTo (histsI b) b.devs.length:=⟨_,rfl⟩;rw [<- hall] at hsu6;obtain ⟨full,hfull⟩:∃ full:Nat,full+1=2 ^ all.length:=⟨2 ^ all.length - 1,by have:=Nat.two_pow_pos all.length;omega⟩;have hf64:full < 64:=by
  have:2 ^ all.length<=64:=Nat.le_trans (Nat.pow_le_pow_right (by decide) hsu6) (by decide);omega
 have hw2:wrap64 ((2:Int) ^ all.length)=(full:Int)+1:=by
  have:((2:Int) ^ all.length)=(full:Int)+1:=by
   have e:=Int.natCast_pow 2 all.length;rw [<- hfull] at e;simpa using e.symm
  rw [this];unfold wrap64;omega
 have hmin:min all.length 64=all.length:=by omega
 have hw3:wrap64 ((full:Int)+1 - 1)=(full:Int):=by unfold wrap64;omega
 have hw4:wrap64 ((full:Int)+1)=(full:Int)+1:=by unfold wrap64;omega
 have hmb:∀ W,(Instr.makeSlice 157 (.int .i64 ((full:Int)+1)) (.int .i64 ((full:Int)+1))).run Mz.prog W=.ok (.slice (some ⟨W.heap.size,0,none⟩) (full+1) (full+1)) (mkB (full+1) W):=fun W=>make_bests3 (n:=full+1) (Int.natCast_succ full) hf64 W;have HALL:=Hh hall;have HDT:=Hh (devs_time (bookAl_ok g1).1);have HFULL:=Hh hfull;clear hall hfull g1
 go_enter (mz_func (i:=45) rfl Tryz.func45),Tryz.ntmps45
 go_wp2_with (first
  | (go_at_call 64;(with_reducible refine (open_ok (HB.out.below (bel)) HN.out (HA.out.below (bel)) (fun _ _=>mz_call84 _ _) nothingC H.out).mono ?_);rintro e w1 ⟨la,lc,rfl,hst,hb1⟩;have HST:=Hh hst;have hbw1:Below w.heap.size w w1:=(bel);clear hst)
  | (go_at_call 109;(with_reducible refine (suspects_all HALL.out (HB.out.below (bel)) (HST.out.below (bel)) hle hd6).mono ?_);rintro e w2 ⟨sa,sc,rfl,hsi,hb2⟩;have HSI:=Hh hsi;obtain ⟨tc0,tc1,tc2,tf0,tf1,tf2⟩:=tab0 full (w2.alloc (.cells #[.slice sa all.length sc] 26)) (w2.heap.size+1) (by simp);clear hsi))
 obtain ⟨W2,hW2⟩:∃ W2,W2=(((mkB (full+1) (w2.alloc (.cells #[.slice sa all.length sc] 26))).setCell ⟨w2.heap.size+1,full * 3,none⟩ (.int .i64 (-1))).setCell ⟨w2.heap.size+1,full * 3+1,none⟩ (.int .i64 0)).setCell ⟨w2.heap.size+1,full * 3+2,none⟩ (.bool true):=⟨_,rfl⟩;rw [<- hW2];obtain ⟨tm,htm⟩:∃ tm:Int->Int,tm=fun x=>(b.devs[x.toNat]?).elim 0 Dev.time:=⟨_,rfl⟩;obtain ⟨N,hN⟩:∃ N:Nat->Int,N=fun d=>(waitI (histsI b) all d:Int):=⟨_,rfl⟩;have hbt:=bests_tab (n:=full+1) (w2.alloc (.cells #[.slice sa all.length sc] 26));obtain ⟨htab,hks⟩:=TabAt.set (w:=mkB (full+1) (w2.alloc (.cells #[.slice sa all.length sc] 26))) (B:=w2.heap.size+1) (by simpa [mkB] using hbt) (d:=full) (Nat.lt_succ_self _) ⟨-1,0,true⟩;simp only at htab hks;rw [<- hW2] at htab hks;have e0:updT (fun _=>(⟨0,0,false⟩:Bst)) full ⟨-1,0,true⟩=repT tm N all full 0:=by
  funext e;rfl
 rw [e0] at htab;have hws1:w.heap.size<=w1.heap.size:=hbw1.size;have hs2:w1.heap.size+1+1<=w2.heap.size:=by have:=hb2.size;simp at this;omega
 have hsW:w2.heap.size+2<=W2.heap.size:=by have:=hks.size;simp [mkB] at this;omega
 have hbk2:Below w2.heap.size w2 W2:=below_ks (mkB_below (Below.al (Below.refl _ _) _)) (by omega) hks;have hbk1:Below w1.heap.size w1 W2:=below_ks (mkB_below (Below.al (bel) _)) (by omega) hks;have hbk0:Below w.heap.size w W2:=Below.next hbw1 hbk1;have r50:W2.cell? ⟨w1.heap.size,1,none⟩=some (.slice da b.devs.length dc):=(hbk2.cell (p:=⟨w1.heap.size,1,none⟩) (by simp;omega)).trans ((hb2.cell (p:=⟨w1.heap.size,1,none⟩) (by simp;omega)).trans (by rw [World.cell?_alloc_past _ _ _ (by simp),World.cell?_alloc_at _ _ _ _ rfl];rfl));have r60:W2.cell? ⟨w1.heap.size+1,0,none⟩=some (.slice la (histsI b).length lc):=(hbk2.cell (p:=⟨w1.heap.size+1,0,none⟩) (by simp;omega)).trans ((hb2.cell (p:=⟨w1.heap.size+1,0,none⟩) (by simp)).trans (by rw [World.cell?_alloc_at _ _ _ _ (by simp)];rfl));have r70:W2.cell? ⟨w2.heap.size,0,none⟩=some (.slice sa all.length sc):=(hks.cell (x:=⟨w2.heap.size,0,none⟩) (by simp [mkB];omega) (by simp)).trans (by unfold mkB;rw [World.cell?_alloc_past _ _ _ (by simp),World.cell?_alloc_at _ _ _ _ rfl];rfl);have HAL:=Hh (show ∀ x∈all,0<=x/\x < (b.devs.length:Int) from fun x hx=>by
  rw [HALL.out] at hx
  unfold suspTo at hx
  obtain ⟨i,hi,rfl⟩:=List.mem_map.1 hx
  have:=List.mem_range.1 (List.mem_filter.1 hi).1
  omega)
 have HTIME:=Hh (show ∀ x,0<=tm x/\tm x<=99 from fun x=>by
  rw [htm]
  show 0<=(b.devs[x.toNat]?).elim 0 Dev.time/\(b.devs[x.toNat]?).elim 0 Dev.time<=99
  cases hx:b.devs[x.toNat]? with
  | none=>exact ⟨by simp,by simp⟩
  | some m=>exact HDT.out m (List.mem_of_getElem? hx))
 have HNB:=Hh (show ∀ d,0<=N d/\N d<=1000 from fun d=>by
  rw [hN]
  have:waitI (histsI b) all d<=(histsI b).length:=List.countP_le_length
  show 0<=((waitI (histsI b) all d:Nat):Int)/\((waitI (histsI b) all d:Nat):Int)<=1000
  omega)
 have HPR:=Hh (show ∀ d x,x∈all->0<=tm x * N d/\tm x * N d<=99000 from fun d x _=>⟨Int.mul_nonneg (HTIME.out x).1 (HNB.out d).1,by
  have h1:=Int.mul_le_mul (HTIME.out x).2 (HNB.out d).2 (HNB.out d).1 (by decide)
  simpa using h1⟩)
 have HS1:=Hh (HST.out.below hbk1);have HS0:=Hh HST.out;have HI0:=Hh HSI.out;have HK1:=Hh hbk1;have HK2:=Hh hbk2;have HKW:=Hh hbk0;have HDV:=Hh hdv;have HI1:=Hh (HSI.out.below hbk2);have HB2:=Hh (HB.out.below hbk0);have HBK:=Hh hbk0;have HTB:=Hh htab;have HTM:=Hh htm;have HNN:=Hh hN;clear hW2 hbt hks htab e0 hbk2 hbk1 hbk0 tc0 tc1 tc2 tf0 tf1 tf2 htm hN hb1 hb2 hbw1 HST HSI HB hmb hw2 hw3 hw4;go_loopw [11] (fun i wr=>∃ k:Nat,k<=full/\i=.int .i64 ((full:Int) - 1 - k)/\Hid (TabAt wr (w2.heap.size+1) (full+1) (repT tm N all full k))/\KS (fun x=>x≠w2.heap.size+1) W2 wr) (fun i _=>(intOf i+1).toNat)
 case atStart=>exact ⟨0,Nat.zero_le _,by simp,HTB,KS.refl _ _⟩
 case round =>
  obtain ⟨k,hk,rfl,HT,hW⟩:=hrel;have hWs:=hW.size;obtain ⟨wo,rfl⟩:∃ x,x=wr:=⟨_,rfl⟩;by_cases hlt:k < full
  ·obtain ⟨d,hd⟩:∃ d:Nat,d+(k+1)=full:=⟨full - (k+1),by omega⟩;have hdI:(full:Int) - 1 - k=(d:Int):=by omega
   rw [hdI];have hd64:d < 64:=by omega
   have hd0:(0:Int)<=(d:Int):=by omega
   have k60:=(hW.cell (x:=⟨w1.heap.size+1,0,none⟩) (by simp;omega) (by simp;omega)).trans r60;have k70:=(hW.cell (x:=⟨w2.heap.size,0,none⟩) (by simp;omega) (by simp)).trans r70;have hbo2:Below w2.heap.size w2 wo:=below_ks HK2.out (by omega) hW;have hbo1:Below w1.heap.size w1 wo:=below_ks HK1.out (by omega) hW;have HWT:=Hh (waiting_at (HS0.out.below hbo1) hle (HI0.out.below hbo2) hsu6 (fun x hx=>by have:=HAL.out x hx;omega) hd64 k60 k70 (by omega) (by omega));have hN2:N d=(waitI (histsI b) all d:Int):=by rw [HNN.out]
   obtain ⟨n,hn⟩:∃ n:Int,n=(waitI (histsI b) all d:Int):=⟨_,rfl⟩;have HWT:=Hh (show Calls Mz.prog 113 #[.int .i64 (d:Int),.pointer (some ⟨w1.heap.size+1,0,none⟩),.pointer (some ⟨w2.heap.size,0,none⟩)] wo fun e w'=>e=.returned (.int .i64 n)/\Below wo.heap.size wo w' by rw [hn];exact HWT.out);rw [<- hn] at hN2;have HN2:=Hh hN2;have HBO:=Hh hbo2;have HW:=Hh hW;clear hn hN2 hbo2 hbo1 k60 k70 hW;go_wp2_with (go_at_call 113;(with_reducible refine HWT.out.mono ?_);rintro e w3 ⟨rfl,hb3⟩;have k370:=(hb3.cell (p:=⟨w2.heap.size,0,none⟩) (by simp;omega)).trans ((HW.out.cell (x:=⟨w2.heap.size,0,none⟩) (by simp;omega) (by simp)).trans r70));have hs3:=hb3.size;have htab3:TabAt w3 (w2.heap.size+1) (full+1) (updT (repT tm N all full k) d ⟨0,0,false⟩):=by
    have e:=updT_self (repT tm N all full k) d;rw [repT_zero (show d+k < full by omega)] at e;rw [e];exact (show TabAt wo _ _ _ from HT).below (by omega) hb3
   have HTB3:=Hh htab3;have HW3:=Hh (show KS (fun x=>x≠w2.heap.size+1) W2 w3 from HW.out.trans (KS.all hb3 _));clear htab3 hb3 HWT HT;go_loopw [52] (fun i wr=>∃ j:Nat,j<=all.length/\i=.int .i64 (j:Int)/\Hid (TabAt wr (w2.heap.size+1) (full+1) (updT (repT tm N all full k) d ((List.range j).foldl (repStep (repT tm N all full k) tm n d all) ⟨0,0,false⟩)))/\KS (fun x=>x≠w2.heap.size+1) W2 wr) (fun i _=>all.length - (intOf i).toNat)
   case atStart=>exact ⟨0,Nat.zero_le _,rfl,HTB3,HW3.out⟩
   case round =>
    obtain ⟨j,hj,rfl,HTJ,hWj⟩:=hrel;have hWjs:=hWj.size;obtain ⟨wi,rfl⟩:∃ x,x=wr:=⟨_,rfl⟩;by_cases hlj:j < all.length
    ·obtain ⟨ib,io,rfl,hib,hi0⟩:=HI0.out j hlj;obtain ⟨tv,htv⟩:∃ tv,all[j]=tv:=⟨_,rfl⟩;have hgd:all.getD j 0=tv:=by rw [<- htv];simp [List.getD,hlj]
     rw [htv] at hi0;have htb:=HAL.out all[j] (List.getElem_mem hlj);rw [htv] at htb;obtain ⟨tn,rfl⟩:∃ tn:Nat,tv=(tn:Int):=⟨tv.toNat,by omega⟩;have htn:tn < b.devs.length:=by omega
     have htn6:tn < 6:=by omega
     have htnI:(tn:Int) < (b.devs.length:Int):=by omega
     have k7:=(hWj.cell (x:=⟨w2.heap.size,0,none⟩) (by simp;omega) (by simp)).trans r70;have hbj2:Below w2.heap.size w2 wi:=below_ks HK2.out (by omega) hWj;have hbjW:Below w.heap.size w wi:=below_ks HKW.out (by omega) hWj;have hij:=(hbj2.cell hib).trans hi0;obtain ⟨db,dof,rfl,hdb,_,_,_,hdt⟩:=HDV.out tn htn;have htmv:tm (tn:Int)=b.devs[tn].time:=by rw [HTM.out];show (b.devs[((tn:Nat):Int).toNat]?).elim 0 Dev.time=_;simp [htn]
     obtain ⟨tmv,htmv2⟩:∃ tmv,tmv=b.devs[tn].time:=⟨_,rfl⟩;rw [<- htmv2] at hdt htmv;have hdt2:∀ w',Below w.heap.size w w'->w'.cell? ⟨db,dof+tn * 4+3,none⟩=some (.int .i64 tmv):=fun w' hb=>(hb.cell hdb).trans hdt;have hpr:=HPR.out d (tn:Int) (by rw [<- htv];exact List.getElem_mem hlj);rw [HN2.out,htmv] at hpr;have hbz:=bit_zero6 ⟨d,hd64⟩ ⟨j,by omega⟩;simp only at hbz;have hfold:(List.range (j+1)).foldl (repStep (repT tm N all full k) tm n d all) ⟨0,0,false⟩=repStep (repT tm N all full k) tm n d all ((List.range j).foldl (repStep (repT tm N all full k) tm n d all) ⟨0,0,false⟩) j:=by rw [List.range_succ,List.foldl_append];rfl
     have HDT2:=Hh hdt2;have HWJ:=Hh hWj;clear hdt2 hdt htmv2 htv hi0 hbj2 hWj;obtain ⟨cur,hcur⟩:∃ cur,(List.range j).foldl (repStep (repT tm N all full k) tm n d all) ⟨0,0,false⟩=cur:=⟨_,rfl⟩;rw [hcur] at HTJ hfold;have HTJ2:=Hh (show TabAt wi _ _ _ from HTJ);clear HTJ hcur;obtain ⟨cv,cc,cf⟩:=cur;cases htbb:d.testBit j
     ·rw [htbb] at hbz;simp only [Bool.not_false] at hbz;obtain ⟨e,he⟩:∃ e:Nat,(d ||| 1 <<< j)=e:=⟨_,rfl⟩;have ho:=or_up ⟨all.length,by omega⟩ ⟨d,hd64⟩ ⟨j,by omega⟩ (by show d < 2 ^ all.length;have:=HFULL.out;omega) hlj htbb;have hob:=or_bits ⟨d,hd64⟩ ⟨j,by omega⟩;simp only at ho hob;rw [he] at ho hob;rw [Int.one_mul] at hob;have hef:e < full+1:=by have:=HFULL.out;omega
      have heI:(e:Int) < (full:Int)+1:=by omega
      have hdfI:(d:Int) < (full:Int)+1:=by omega
      have hed:e≠d:=by omega
      obtain ⟨Rc,hRc⟩:∃ Rc,(repT tm N all full k e).c=Rc:=⟨_,rfl⟩;have hrb:=repT_bd hsu6 HFULL.out (by decide) HPR.out k e (by omega);rw [hRc] at hrb;rw [repStep_not htbb,he,hgd,htmv,hRc] at hfold;obtain ⟨⟨nv,nc,nf⟩,hbi⟩:∃ nb,betterI ⟨cv,cc,cf⟩ ⟨(j:Int),tmv * n+Rc,true⟩=nb:=⟨_,rfl⟩;rw [hbi] at hfold;have HFO:=Hh hfold;have HBI:=Hh (show ∀ W,Calls Mz.prog 94 #[.agg #[.int .i64 cv,.int .i64 cc,.bool cf],.agg #[.int .i64 (j:Int),.int .i64 (tmv * n+Rc),.bool true]] W fun e w'=>e=.returned (.agg #[.int .i64 nv,.int .i64 nc,.bool nf])/\Below W.heap.size W w' from fun W=>by
       have:=betterB_at (w:=W) (⟨cv,cc,cf⟩:Bst) ⟨(j:Int),tmv * n+Rc,true⟩ rfl
       rw [hbi] at this
       exact this)
      have hw5:IntKind.i64.wrap (tmv * n)=tmv * n:=IntWalk.i64_in _ (by omega);have hw6:IntKind.i64.wrap (tmv * n+Rc)=tmv * n+Rc:=IntWalk.i64_in _ (by omega);have HT:=Hh (show ∀ w':World,Below wi.heap.size wi w'->w'.cell? ⟨w1.heap.size,1,none⟩=some (.slice (some ⟨db,dof,none⟩) b.devs.length dc)/\w'.cell? ⟨db,dof+tn * 4+3,none⟩=some (.int .i64 tmv)/\w'.cell? ⟨w2.heap.size+1,d * 3,none⟩=some (.int .i64 cv)/\w'.cell? ⟨w2.heap.size+1,d * 3+1,none⟩=some (.int .i64 cc)/\w'.cell? ⟨w2.heap.size+1,d * 3+2,none⟩=some (.bool cf)/\w'.cell? ⟨w2.heap.size+1,e * 3+1,none⟩=some (.int .i64 Rc) from fun w' hb=>by
       have hbe:=hb.size
       have t0:=(HTJ2.out.below (show w2.heap.size+1 < wi.heap.size by omega) hb)
       have td:=(t0 d (by omega)).1
       have te:=(t0 e hef).1
       simp only [updT,if_true,if_neg hed] at td te
       exact ⟨(hb.cell (p:=⟨w1.heap.size,1,none⟩) (by simp;omega)).trans ((HWJ.out.cell (x:=⟨w1.heap.size,1,none⟩) (by simp;omega) (by simp;omega)).trans r50),HDT2.out w' (Below.next hbjW hb),td.1,td.2.1,td.2.2,by rw [<- hRc];exact te.2.1⟩)
      have HFZ:=Hh (show ∀ w':World,Below wi.heap.size wi w'->TabAt w' (w2.heap.size+1) (full+1) (updT (repT tm N all full k) d ⟨cv,cc,cf⟩) from fun w' hb=>HTJ2.out.below (show w2.heap.size+1 < wi.heap.size by omega) hb);clear hfold hbi hRc hrb hpr he ho htmv hgd;go_wp2;refine wp_region_D (S:=fun _=>True) (T:=fun w'=>w'.cell? ⟨w1.heap.size,1,none⟩=some (.slice (some ⟨db,dof,none⟩) b.devs.length dc)/\w'.cell? ⟨db,dof+tn * 4+3,none⟩=some (.int .i64 tmv)/\w'.cell? ⟨w2.heap.size+1,d * 3,none⟩=some (.int .i64 cv)/\w'.cell? ⟨w2.heap.size+1,d * 3+1,none⟩=some (.int .i64 cc)/\w'.cell? ⟨w2.heap.size+1,d * 3+2,none⟩=some (.bool cf)/\w'.cell? ⟨w2.heap.size+1,e * 3+1,none⟩=some (.int .i64 Rc)) (d:=28) (by kernel_rfl) trivial (HT.out _ (bel)) (fun _ hTd=>?_);refine wpAnyD_take (i:=0) (v:=.slice (some ⟨w2.heap.size+1,0,none⟩) (full+1) (full+1)) rfl (by decide +kernel) (fun _ _ _ h=>h) (Or.inl ⟨by rfl,?_⟩) trivial hTd ?_
      ·rintro w9 ⟨_,s0,s1,s2,s3,s4,s5⟩;go_simp
      refine wpAnyD_take (i:=1) (v:=.int .i64 (d:Int)) rfl (by decide +kernel) (fun _ _ _ h=>h) (Or.inl ⟨by rfl,?_⟩) trivial hTd ?_
      ·rintro w9 ⟨_,s0,s1,s2,s3,s4,s5⟩;go_simp
      refine wpAnyD_take (i:=2) (v:=.slice (some ⟨w2.heap.size+1,0,none⟩) (full+1) (full+1)) rfl (by decide +kernel) (fun _ _ _ h=>h) (Or.inl ⟨by rfl,?_⟩) trivial hTd ?_
      ·rintro w9 ⟨_,s0,s1,s2,s3,s4,s5⟩;go_simp
      refine wpAnyD_take (i:=3) (v:=.int .i64 (d:Int)) rfl (by decide +kernel) (fun _ _ _ h=>h) (Or.inl ⟨by rfl,?_⟩) trivial hTd ?_
      ·rintro w9 ⟨_,s0,s1,s2,s3,s4,s5⟩;go_simp
      refine wpAnyD_take (i:=4) (v:=.pointer (some ⟨w2.heap.size+1,d * 3,none⟩)) rfl (by decide +kernel) (fun _ _ _ h=>h) (Or.inl ⟨by rfl,?_⟩) trivial hTd ?_
      ·rintro w9 ⟨_,s0,s1,s2,s3,s4,s5⟩;go_simp
      refine wpAnyD_take (i:=5) (v:=.agg #[.int .i64 cv,.int .i64 cc,.bool cf]) rfl (by decide +kernel) (fun _ _ _ h=>h) (Or.inl ⟨by rfl,?_⟩) trivial hTd ?_
      ·rintro w9 ⟨_,s0,s1,s2,s3,s4,s5⟩;go_simp
      refine wpAnyD_take (i:=6) (v:=.int .i64 (j:Int)) rfl (by decide +kernel) (fun _ _ _ h=>h) (Or.inl ⟨by rfl,?_⟩) trivial hTd ?_
      ·rintro w9 ⟨_,s0,s1,s2,s3,s4,s5⟩;go_simp
      refine wpAnyD_take (i:=7) (v:=.pointer (some ⟨w1.heap.size,0,none⟩)) rfl (by decide +kernel) (fun _ _ _ h=>h) (Or.inl ⟨by rfl,?_⟩) trivial hTd ?_
      ·rintro w9 ⟨_,s0,s1,s2,s3,s4,s5⟩;go_simp
      refine wpAnyD_take (i:=8) (v:=.pointer (some ⟨w1.heap.size,1,none⟩)) rfl (by decide +kernel) (fun _ _ _ h=>h) (Or.inl ⟨by rfl,?_⟩) trivial hTd ?_
      ·rintro w9 ⟨_,s0,s1,s2,s3,s4,s5⟩;go_simp
      refine wpAnyD_take (i:=9) (v:=.slice (some ⟨db,dof,none⟩) b.devs.length dc) rfl (by decide +kernel) (fun _ _ _ h=>h) (Or.inl ⟨by rfl,?_⟩) trivial hTd ?_
      ·rintro w9 ⟨_,s0,s1,s2,s3,s4,s5⟩;go_simp
      refine wpAnyD_take (i:=10) (v:=.int .i64 (tn:Int)) rfl (by decide +kernel) (fun _ _ _ h=>h) (Or.inl ⟨by rfl,?_⟩) trivial hTd ?_
      ·rintro w9 ⟨_,s0,s1,s2,s3,s4,s5⟩;go_simp
      refine wpAnyD_take (i:=11) (v:=.pointer (some ⟨db,dof+tn * 4,none⟩)) rfl (by decide +kernel) (fun _ _ _ h=>h) (Or.inl ⟨by rfl,?_⟩) trivial hTd ?_
      ·rintro w9 ⟨_,s0,s1,s2,s3,s4,s5⟩;go_simp
      refine wpAnyD_take (i:=12) (v:=.pointer (some ⟨db,dof+tn * 4+3,none⟩)) rfl (by decide +kernel) (fun _ _ _ h=>h) (Or.inl ⟨by rfl,?_⟩) trivial hTd ?_
      ·rintro w9 ⟨_,s0,s1,s2,s3,s4,s5⟩;go_simp
      refine wpAnyD_take (i:=13) (v:=.int .i64 tmv) rfl (by decide +kernel) (fun _ _ _ h=>h) (Or.inl ⟨by rfl,?_⟩) trivial hTd ?_
      ·rintro w9 ⟨_,s0,s1,s2,s3,s4,s5⟩;go_simp
      refine wpAnyD_take (i:=14) (v:=.int .i64 n) rfl (by decide +kernel) (fun _ _ _ h=>h) (Or.inl ⟨by rfl,?_⟩) trivial hTd ?_
      ·rintro w9 ⟨_,s0,s1,s2,s3,s4,s5⟩;go_simp
      refine wpAnyD_take (i:=15) (v:=.int .i64 (tmv * n)) rfl (by decide +kernel) (fun _ _ _ h=>h) (Or.inl ⟨by rfl,?_⟩) trivial hTd ?_
      ·rintro w9 ⟨_,s0,s1,s2,s3,s4,s5⟩;go_simp
      refine wpAnyD_take (i:=16) (v:=.slice (some ⟨w2.heap.size+1,0,none⟩) (full+1) (full+1)) rfl (by decide +kernel) (fun _ _ _ h=>h) (Or.inl ⟨by rfl,?_⟩) trivial hTd ?_
      ·rintro w9 ⟨_,s0,s1,s2,s3,s4,s5⟩;go_simp
      refine wpAnyD_take (i:=17) (v:=.int .i64 (d:Int)) rfl (by decide +kernel) (fun _ _ _ h=>h) (Or.inl ⟨by rfl,?_⟩) trivial hTd ?_
      ·rintro w9 ⟨_,s0,s1,s2,s3,s4,s5⟩;go_simp
      refine wpAnyD_take (i:=18) (v:=.int .i64 (j:Int)) rfl (by decide +kernel) (fun _ _ _ h=>h) (Or.inl ⟨by rfl,?_⟩) trivial hTd ?_
      ·rintro w9 ⟨_,s0,s1,s2,s3,s4,s5⟩;go_simp
      refine wpAnyD_take (i:=19) (v:=.int .i64 (wrap64 (2 ^ j))) rfl (by decide +kernel) (fun _ _ _ h=>h) (Or.inl ⟨by rfl,?_⟩) trivial hTd ?_
      ·rintro w9 ⟨_,s0,s1,s2,s3,s4,s5⟩;go_simp;try exact wrap_two ⟨j,by omega⟩
      refine wpAnyD_take (i:=20) (v:=.int .i64 (e:Int)) rfl (by decide +kernel) (fun _ _ _ h=>h) (Or.inl ⟨by rfl,?_⟩) trivial hTd ?_
      ·rintro w9 ⟨_,s0,s1,s2,s3,s4,s5⟩;go_simp
      refine wpAnyD_take (i:=21) (v:=.pointer (some ⟨w2.heap.size+1,e * 3,none⟩)) rfl (by decide +kernel) (fun _ _ _ h=>h) (Or.inl ⟨by rfl,?_⟩) trivial hTd ?_
      ·rintro w9 ⟨_,s0,s1,s2,s3,s4,s5⟩;go_simp
      refine wpAnyD_take (i:=22) (v:=.pointer (some ⟨w2.heap.size+1,e * 3+1,none⟩)) rfl (by decide +kernel) (fun _ _ _ h=>h) (Or.inl ⟨by rfl,?_⟩) trivial hTd ?_
      ·rintro w9 ⟨_,s0,s1,s2,s3,s4,s5⟩;go_simp
      refine wpAnyD_take (i:=23) (v:=.int .i64 Rc) rfl (by decide +kernel) (fun _ _ _ h=>h) (Or.inl ⟨by rfl,?_⟩) trivial hTd ?_
      ·rintro w9 ⟨_,s0,s1,s2,s3,s4,s5⟩;go_simp
      refine wpAnyD_take (i:=24) (v:=.int .i64 (tmv * n+Rc)) rfl (by decide +kernel) (fun _ _ _ h=>h) (Or.inl ⟨by rfl,?_⟩) trivial hTd ?_
      ·rintro w9 ⟨_,s0,s1,s2,s3,s4,s5⟩;go_simp
      refine wpAnyD_take (i:=25) (v:=.agg #[.int .i64 (j:Int),.int .i64 (tmv * n+Rc),.bool true]) rfl (by decide +kernel) (fun _ _ _ h=>h) (Or.inl ⟨by rfl,?_⟩) trivial hTd ?_
      ·rintro w9 ⟨_,s0,s1,s2,s3,s4,s5⟩;go_simp
      refine wpAnyD_ready [26] (by decide +kernel) (by simp) ?_;refine AllReadyD.pre 26 rfl (fun K9 hK=>?_) AllReadyD.nil;go_simp;refine (HBI.out _).mono ?_;rintro e w6 ⟨rfl,hb6⟩
      try go_simp
      refine hK.out _ _ trivial (HT.out _ (bel)) (fun _ hTd=>?_);refine wpAnyD_take (i:=27) (v:=.pointer (some ⟨w2.heap.size+1,d * 3,none⟩)) rfl (by decide +kernel) (fun _ _ _ h=>h) (Or.inl ⟨by rfl,?_⟩) trivial hTd ?_
      ·rintro w9 ⟨_,s0,s1,s2,s3,s4,s5⟩;go_simp
      have hbi6:Below wi.heap.size wi w6:=bel;obtain ⟨gt,gk⟩:=TabAt.set (HFZ.out _ hbi6) (show d < full+1 by omega) ⟨nv,nc,nf⟩;obtain ⟨⟨u0,u1,u2⟩,f60,f61,f62⟩:=HFZ.out _ hbi6 d (by omega);simp only [updT,if_true] at u0 u1 u2;simp only at gt gk;rw [updT_upd,<- HFO.out] at gt;have GT:=Hh gt;have GK:=Hh ((HWJ.out.trans (KS.all hbi6 _)).trans gk);clear gt gk;refine wpAnyD_ready [28] (by decide +kernel) (by simp) ?_;refine AllReadyD.post 28 rfl (by rfl) (fun K9 hK=>?_) AllReadyD.nil;go_simp;refine hK.out _ _ trivial (fun _=>?_);refine wpAnyD_done (by decide +kernel) ?_ _;go_wp2;go_roundw
      case rel=>exact ⟨j+1,hlj,by go_num,GT,GK.out⟩
      case measure=>simp [intOf];omega
     ·rw [htbb] at hbz;simp only [Bool.not_true] at hbz;rw [repStep_set htbb] at hfold;have HFO:=Hh (show TabAt wi (w2.heap.size+1) (full+1) (updT (repT tm N all full k) d ((List.range (j+1)).foldl (repStep (repT tm N all full k) tm n d all) ⟨0,0,false⟩)) by rw [hfold];exact HTJ2.out);clear hfold hpr htmv hgd;go_wp2;go_roundw
      case rel=>exact ⟨j+1,hlj,by go_num,HFO,HWJ.out⟩
      case measure=>simp [intOf];omega
    ·obtain rfl:j=all.length:=by omega
     have HTN:=Hh (show TabAt wi (w2.heap.size+1) (full+1) (repT tm N all full (k+1)) by
      rw [<- repT_next hd]
      unfold repCell
      rw [HN2.out]
      exact HTJ)
     have HWJ:=Hh hWj;clear HTJ hWj;go_wp2;go_roundw
     case rel=>exact ⟨k+1,hlt,by go_num,HTN,HWJ.out⟩
     case measure=>simp [intOf]
  ·obtain rfl:k=full:=by omega
   have k70:=(hW.cell (x:=⟨w2.heap.size,0,none⟩) (by simp;omega) (by simp)).trans r70;have hbo2:Below w2.heap.size w2 wo:=below_ks HK2.out (by omega) hW;have HBO2:=Hh hbo2;have HBOW:=Hh (show Below w.heap.size w wo from below_ks HKW.out (by omega) hW);obtain ⟨T,hT⟩:∃ T,T=repT tm N all k k:=⟨_,rfl⟩;have HTT:=Hh (show TabAt wo (w2.heap.size+1) (k+1) T by rw [hT];exact HT);have HPK:=Hh (show ∀ d,d < k->∃ i:Nat,i < all.length/\(T d).v=i/\d.testBit i=false from fun d hd=>by rw [hT];exact repT_pick hsu6 HFULL.out (by decide) HPR.out k d hd (by omega));have HANS:=Hh (show T=repairTab b by rw [hT];unfold repairTab;rw [<- HALL.out,show 2 ^ all.length - 1=k by have:=HFULL.out;omega,HTM.out,HNN.out]);have HFU:=Hh (show k=2 ^ all.length - 1 by have:=HFULL.out;omega);clear hW hbo2 hT HT;go_wp2;go_loopw [2,15] (fun v i wr=>∃ (dn f:Nat) (os:List Int) (a:Option Addr) (c:Nat),dn<=k/\k - dn<=f/\os.length<=dn/\i=.int .i64 (dn:Int)/\v=.slice a os.length c/\Hid (os ++ ordR T all k f dn=ordR T all k k 0)/\wr.ownsRow wo.heap.size 3 1 (.slice a os.length c) os.length (os.map (Value.int .i64))/\Below wo.heap.size wo wr) (fun _ i _=>k - (intOf i).toNat)
   case atStart=>exact ⟨0,k,[],none,0,Nat.zero_le _,by omega,Nat.le_refl _,rfl,rfl,rfl,by simpa using World.ownsRow_nil _ _ _ _,Below.refl _ _⟩
   case round =>
    obtain ⟨dn,f,os,a2,c2,hdn,hf,hol,rfl,rfl,hos,hrow,hW⟩:=hrel;have hWs2:=hW.size;obtain ⟨wq,rfl⟩:∃ x,x=wr:=⟨_,rfl⟩;have tab:=HTT.out.below (show w2.heap.size+1 < wo.heap.size by omega) hW;have kq:=(hW.cell (p:=⟨w2.heap.size,0,none⟩) (by simp;omega)).trans k70;have HROW:=Hh hrow;clear hrow;by_cases hdk:dn < k
    ·obtain ⟨iv,hiv,hTv,hbit⟩:=HPK.out dn hdk;have td:=(tab dn (by omega)).1.1;rw [hTv] at td;obtain ⟨ib,io,rfl,hib,hi0⟩:=HI0.out iv hiv;obtain ⟨tv,htv⟩:∃ tv,all[iv]=tv:=⟨_,rfl⟩;have hgd:all.getD iv 0=tv:=by rw [<- htv];simp [List.getD,hiv]
     rw [htv] at hi0;have hij:=(hW.cell (p:=⟨ib,io+iv,none⟩) (show ib < wo.heap.size by omega)).trans ((HBO2.out.cell hib).trans hi0);obtain ⟨e,he⟩:∃ e:Nat,(dn ||| 1 <<< iv)=e:=⟨_,rfl⟩;have ho:=or_up ⟨all.length,by omega⟩ ⟨dn,by omega⟩ ⟨iv,by omega⟩ (by show dn < 2 ^ all.length;have:=HFULL.out;omega) hiv hbit;have hob:=or_bits ⟨dn,by omega⟩ ⟨iv,by omega⟩;simp only at ho hob;rw [he] at ho hob;rw [Int.one_mul] at hob;have hek:e<=k:=by have:=HFULL.out;omega
     have hwt:=wrap_two ⟨iv,by omega⟩;simp only at hwt;have hdkI:(dn:Int) < (k:Int)+1:=by omega
     have hf1:∃ f',f=f'+1:=⟨f - 1,by omega⟩;obtain ⟨f',rfl⟩:=hf1;have hln:(os ++ [tv]).length=os.length+1:=by simp
     have HOS:=Hh (show (os ++ [tv]) ++ ordR T all k f' e=ordR T all k k 0 by
      rw [<- hos.out]
      show _=os ++ (if dn < k then _ else _)
      rw [if_pos hdk,hTv,Int.toNat_natCast,hgd,he,List.append_assoc]
      rfl)
     clear hos htv hgd hi0 he tab;go_wp2_with (at_builtin;go_loud (refine wpl_append1 rfl _ _ 26 rfl wo.heap.size 3 (mzu Tryz.underlying26) mz_intInfo rfl (by omega) (.slice a2 os.length c2) os.length _ rfl HROW.out (by omega) (by omega) _ (n:=wq.heap.size) (by first | rfl | simp | omega) rfl (by simp [Value.oneCell']) ?_;intro g cap w6 hown6 hb6));have hown7:w6.ownsRow wo.heap.size 3 1 (.slice (some ⟨g,0,none⟩) (os ++ [tv]).length cap) (os ++ [tv]).length ((os ++ [tv]).map (Value.int .i64)):=by
      rw [hln,List.map_append];exact hown6
     have HOWN:=Hh hown7;clear hown6 hown7;go_roundw
     case rel=>exact ⟨e,f',os ++ [tv],_,_,hek,by omega,by rw [hln];omega,by go_num,by rw [hln],HOS,HOWN.out,hW.trans hb6⟩
     case measure=>simp [intOf];omega
    ·obtain rfl:dn=k:=by omega
     have HOS:=Hh (show os=ordR T all dn dn 0 by
      rw [<- hos.out]
      cases f with
      | zero=>simp [ordR]
      | succ f=>simp [ordR])
     have t0:=(tab 0 (by omega)).1.2.1;simp only [Nat.zero_mul,Nat.zero_add] at t0;have HWW:=Hh hW;clear hos tab hW;go_wp2
     go_region
     go_wp2;exact bodyPost_ret (v:=.tuple #[.slice a2 os.length c2,.int .i64 (T 0).c,.int .i64 0]) (by simp [results,Tryz.results45,go_sem, *]) rfl ⟨a2,c2,by rw [HOS.out,HANS.out,HFU.out,HALL.out];rfl,by rw [show repairsI b=os by rw [HOS.out,HANS.out,HFU.out,HALL.out];rfl];exact ints_row HROW.out,by have hwf:=Below.next HBOW.out HWW.out;(exact bel)⟩
end
end Mt
end Go.Proofs.YtgkajecjbflbbaaGreatDoor
