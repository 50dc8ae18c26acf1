/- the fault laws -/
import Derived.Test.YtgkajecjbflbbaaGreatDoorGB17
set_option maxHeartbeats 2000000
set_option maxRecDepth 100000
set_option linter.all false
namespace Go.Proofs.YtgkajecjbflbbaaGreatDoor
namespace Mt
open Go Go.RowKit Go.Maps
theorem bcell {W w1:World} (hb:Below W.heap.size W w1):(∀ b o,b < W.heap.size->w1.cell? ⟨b,o,none⟩=W.cell? ⟨b,o,none⟩)/\(∀ b o,b < W.heap.size->w1.frozen? ⟨b,o,none⟩=W.frozen? ⟨b,o,none⟩) :=
 ⟨fun b o h=>hb.cell (p:=⟨b,o,none⟩) h,fun b o h=>hb.frozen (p:=⟨b,o,none⟩) h⟩
def strV (l:List UInt8):Value:=.string ⟨l.toArray⟩
theorem strV_inj {a b:List UInt8} (h:strV a=strV b):a=b:=by
 unfold strV at h;have:=congrArg (fun v=>match v with | Value.string s=>s.data.toList | _=>[]) h;simpa using this
theorem mem_strV {l:List UInt8} {seen:List (List UInt8)}:strV l∈seen.map strV↔l∈seen:=by
 constructor
 ·intro h;obtain ⟨x,hx,e⟩:=List.mem_map.1 h;rw [<- strV_inj e];exact hx
 ·exact fun h=>List.mem_map_of_mem h
theorem keyS {P:Program} {k:TypeId} (hk:P.underlying k=some .string) {s:ByteArray} (hs:s.size<=maxLen):Go.keyOf P k (.string s)=some (.string s.data.toList):=by
 simp [Go.keyOf,hk,mapKey,hs]
theorem mz_zeroBool (w:World):(zeroValue 4).run Mz.prog w=.ok (.bool false) w:=(mz_zeroValue _ _).trans (by kernel_rfl)
def goDv:List (List UInt8)->List Dev->Int
 | _,[]=>0
 | seen,m::l=>if isName m.name.data.toList=false then 4 else if m.name.data.toList∈seen then 5 else if inB m.time 0 99=false then 1 else goDv (m.name.data.toList::seen) l
def devsAl (b:Fbk):Int:=if inB b.most 0 2=false then 1 else if inB b.devs.length 1 6=false then 2 else goDv [] b.devs
theorem devices_at {b:Fbk} {vm vd vt:Value} {w:World} (hB:FBookAt w b vm vd vt) (hN:∀ m∈b.devs,m.name.size<=1000000) {t:Int} (h:devsAl b=t) :
 Calls Mz.prog 121 #[.agg #[vm,vd,vt]] w fun e w'=>e=.returned (.int .i64 t)/\Below w.heap.size w w':=by
 obtain ⟨rfl,⟨ma,mc,rfl,hM,hl⟩,ta,tc,rfl,_,_⟩:=hB;unfold devsAl at h;cases g1:inB b.most 0 2
 ·have G1:=Hh g1;rw [g1,if_pos rfl] at h;subst h;clear g1
  go_enter (mz_func (i:=121) rfl Tryz.func121),Tryz.ntmps121
  go_wp2_with (go_at_call 119;(with_reducible refine (inside_at G1.out).mono ?_);rintro e w' ⟨rfl,rfl⟩);go_ret;exact ⟨rfl,bel⟩
 rw [g1,if_neg (by simp)] at h;cases g2:inB (b.devs.length:Int) 1 6
 ·have G1:=Hh g1;have G2:=Hh g2;rw [g2,if_pos rfl] at h;subst h;clear g1 g2
  go_enter (mz_func (i:=121) rfl Tryz.func121),Tryz.ntmps121
  go_wp2_with (first | (go_at_call 119;(with_reducible refine (inside_at G1.out).mono ?_);rintro e w' ⟨rfl,rfl⟩) | (go_at_call 119;(with_reducible refine (inside_at G2.out).mono ?_);rintro e w' ⟨rfl,rfl⟩));go_ret;exact ⟨rfl,bel⟩
 ·rw [g2,if_neg (by simp)] at h;have G1:=Hh g1;have G2:=Hh g2;clear g1 g2;have H:=Hh h;clear h;have HM:=Hh hM;clear hM;have HN:=Hh hN;clear hN;have hmm:=@run_makeMap Mz.prog
  go_enter (mz_func (i:=121) rfl Tryz.func121),Tryz.ntmps121
  go_wp2_with (first | (go_at_call 119;(with_reducible refine (inside_at G1.out).mono ?_);rintro e w' ⟨rfl,rfl⟩) | (go_at_call 119;(with_reducible refine (inside_at G2.out).mono ?_);rintro e w' ⟨rfl,rfl⟩));have hs0:=SetAt.made (w.alloc (.cells #[.int .i64 b.most,.slice ma b.devs.length mc,.slice ta b.tests.length tc] 88)) Mz.prog 9 4;rw [World.size_alloc] at hs0;have hdl:b.devs.length<=6:=by have:=G2.out;simp [inB] at this;omega
  go_loopw [24] (fun i wr=>∃ (k:Nat) (seen:List (List UInt8)),k<=b.devs.length/\i=.int .i64 k/\Hid (goDv seen (b.devs.drop k)=t)/\SetAt wr Mz.prog 9 4 (w.heap.size+1) k (seen.map strV)/\Below w.heap.size w wr) (fun i _=>b.devs.length - (intOf i).toNat)
  case atStart=>exact ⟨0,[],Nat.zero_le _,rfl,by simpa [Hid] using H.out,hs0,bel⟩
  case round =>
   obtain ⟨k,seen,hk,rfl,hG,hS,hW⟩:=hrel;by_cases hlt:k < b.devs.length
   ·obtain ⟨mb,mo,rfl,hmb,h0,h1,h2,h3⟩:=HM.out k hlt;have c0:=(hW.cell hmb).trans h0;have c1:=(hW.cell hmb).trans h1;have c2:=(hW.cell hmb).trans h2;have c3:=(hW.cell hmb).trans h3;have hmb2:mb < wr.heap.size:=Nat.lt_of_lt_of_le hmb hW.size;clear h0 h1 h2 h3 hs0;have hG':=hG.out;rw [List.drop_eq_getElem_cons hlt,goDv] at hG';clear hG;have hnm:b.devs[k].name.size<=1000000:=HN.out _ (List.getElem_mem hlt);generalize hm:b.devs[k]=m at c0 c1 c2 c3 hG' hnm;obtain ⟨nm,he,bl,du⟩:=m;dsimp only at c0 c1 c2 c3 hG' hnm;have hkey:=keyS (P:=Mz.prog) (s:=nm) (mzu Tryz.underlying9) (by unfold maxLen;omega);have HM:=Hh hm;clear hm;cases hn:isName nm.data.toList
    ·have H1:=Hh hn;simp only [hn,if_true] at hG';subst hG';clear hn;go_wp2_with (go_at_call 159;(with_reducible refine (isName_at _ _ hnm H1.out).mono ?_);rintro e w1 ⟨rfl,hb1⟩);go_ret;exact ⟨rfl,bel⟩
    ·have H1:=Hh hn;simp only [hn,if_false,Bool.true_eq_false] at hG';clear hn;by_cases hmem:nm.data.toList∈seen
     ·simp only [hmem,if_true] at hG';subst hG';have HR:=Hh ((show strV nm.data.toList=Value.string nm from rfl) ▸ mem_strV.2 hmem);clear hmem;go_wp2_with (first
       | (go_at_call 159;(with_reducible refine (isName_at _ _ hnm H1.out).mono ?_);rintro e w1 ⟨rfl,hb1⟩;obtain ⟨hc1,hf1⟩:=bcell hb1;have hS1:=(hS.al _).below hb1;have hz1:=hb1.size)
       | (at_lookup;refine wpList_lookup_set_yes rfl _ _ 204 rfl (string_keyed (mzu Tryz.underlying9)) (mzu Tryz.underlying204) (mzu Tryz.underlying4) (mz_zeroBool _) rfl hS1 hkey HR.out rfl ?_))
      go_ret;exact ⟨rfl,bel⟩
     ·simp only [hmem,if_false] at hG';have HR:=Hh (show Value.string nm ∉ seen.map strV from fun h=>hmem (mem_strV.1 ((show strV nm.data.toList=Value.string nm from rfl) ▸ h)));clear hmem;cases hd:inB du 0 99
      ·have H2:=Hh hd;simp only [hd,if_true] at hG';subst hG';clear hd;go_wp2_with (first
        | (go_at_call 159;(with_reducible refine (isName_at _ _ hnm H1.out).mono ?_);rintro e w1 ⟨rfl,hb1⟩;obtain ⟨hc1,hf1⟩:=bcell hb1;have hS1:=(hS.al _).below hb1;have hz1:=hb1.size)
        | (at_lookup;refine wpList_lookup_set_no rfl _ _ 204 rfl (string_keyed (mzu Tryz.underlying9)) (mzu Tryz.underlying204) (mzu Tryz.underlying4) (mz_zeroBool _) rfl hS1 hkey HR.out rfl ?_)
        | (go_at_call 119;(with_reducible refine (inside_at H2.out).mono ?_);rintro e w' ⟨rfl,rfl⟩))
       go_ret;exact ⟨rfl,bel⟩
      ·have H2:=Hh hd;simp only [hd,Bool.true_eq_false,if_false] at hG';have HG:=Hh hG';clear hd hG';go_wp2_with (first
        | (go_at_call 159;(with_reducible refine (isName_at _ _ hnm H1.out).mono ?_);rintro e w1 ⟨rfl,hb1⟩;obtain ⟨hc1,hf1⟩:=bcell hb1;have hS1:=(hS.al _).below hb1;have hz1:=hb1.size)
        | (at_lookup;refine wpList_lookup_set_no rfl _ _ 204 rfl (string_keyed (mzu Tryz.underlying9)) (mzu Tryz.underlying204) (mzu Tryz.underlying4) (mz_zeroBool _) rfl hS1 hkey HR.out rfl ?_)
        | (go_at_call 119;(with_reducible refine (inside_at H2.out).mono ?_);rintro e w' ⟨rfl,rfl⟩)
        | (at_mapUpdate;refine wpList_put_set rfl _ _ _ 204 rfl (string_keyed (mzu Tryz.underlying9)) (mzu Tryz.underlying204) (mzu Tryz.underlying4) (by unfold maxLen;omega) rfl hS1 hkey rfl rfl ?_;intro w2 hS2 hg2))
       go_roundw
       case rel=>exact ⟨k+1,nm.data.toList::seen,by omega,by go_num,HG.out,hS2,bel⟩
       case measure=>simp [intOf];omega
   ·have:goDv seen (b.devs.drop k)=t:=hG.out;rw [List.drop_eq_nil_of_le (by omega)] at this;simp only [goDv] at this;subst this;clear hs0;go_wp2;go_ret;exact ⟨rfl,bel⟩
attribute [local go_sem] Oper.semAt_some
def goT (n:Nat):List Tst->Int
 | []=>0
 | t::l=>if pathAl n t.path≠0 then pathAl n t.path else if t.seen < 0 then 1 else if 2 < t.seen then 1 else goT n l
def testsAl (b:Fbk):Int:=if 6 < b.tests.length then 2 else goT b.devs.length b.tests
theorem tests_at {b:Fbk} {vm vd vt:Value} {w:World} (hB:FBookAt w b vm vd vt) {t:Int} (h:testsAl b=t) :
 Calls Mz.prog 122 #[.agg #[vm,vd,vt]] w fun e w'=>e=.returned (.int .i64 t)/\Below w.heap.size w w':=by
 have HB:=Hh hB;obtain ⟨rfl,⟨da,dc,rfl,_,hdl⟩,ta,tc,rfl,hT,htl⟩:=hB;have HT:=Hh hT;clear hT;unfold testsAl at h;by_cases g:6 < b.tests.length
 ·rw [if_pos g] at h;subst h
  go_enter (mz_func (i:=122) rfl Tryz.func122),Tryz.ntmps122
  go_wp2;go_ret;exact ⟨rfl,bel⟩
 ·rw [if_neg g] at h;have H:=Hh h;clear h
  go_enter (mz_func (i:=122) rfl Tryz.func122),Tryz.ntmps122
  go_wp2;obtain ⟨W0,hW0⟩:∃ W0,W0=w.alloc (.cells #[.int .i64 b.most,.slice da b.devs.length dc,.slice ta b.tests.length tc] 88):=⟨_,rfl⟩;rw [<- hW0];have hb0:Below w.heap.size w W0:=by rw [hW0];(exact bel)
  have q:∀ k u,(#[.int .i64 b.most,.slice da b.devs.length dc,.slice ta b.tests.length tc]:Array Value)[k]? = some u->W0.cell? ⟨w.heap.size,k,none⟩=some u:=fun k u hk=>by rw [hW0,World.cell?_alloc_at _ _ _ _ rfl];exact hk
  have hs0:w.heap.size < W0.heap.size:=by rw [hW0];simp
  have HQ:=Hh q;clear hW0 q;go_loopw [15] (fun i wr=>∃ k:Nat,k<=b.tests.length/\i=.int .i64 k/\Hid (goT b.devs.length (b.tests.drop k)=t)/\Below W0.heap.size W0 wr) (fun i _=>b.tests.length - (intOf i).toNat)
  case atStart=>exact ⟨0,Nat.zero_le _,rfl,by simpa [Hid] using H.out,Below.refl _ _⟩
  case round =>
   obtain ⟨k,hk,rfl,hG,hW⟩:=hrel;have hWs:=hW.size;obtain ⟨wo,rfl⟩:∃ x,x=wr:=⟨_,rfl⟩;have hbw:=Below.next hb0 hW;by_cases hlt:k < b.tests.length
   ·obtain ⟨tb,to,rfl,htb,pa,pc,t0,hpc,hpl,hpi,t1⟩:=HT.out k hlt;have d0:=(hbw.cell (p:=⟨tb,to+k * 2,none⟩) htb).trans t0;have d1:=(hbw.cell (p:=⟨tb,to+k * 2+1,none⟩) htb).trans t1;have hG':=hG.out;rw [List.drop_eq_getElem_cons hlt,goT] at hG';clear hG t0 t1;generalize b.tests[k]=tk at d0 d1 hG' hpc hpl hpi;obtain ⟨tp,ts⟩:=tk;simp only at d0 d1 hG' hpc hpl hpi;obtain ⟨n0,n1,n2⟩:_/\_/\_:=⟨(hW.cell (p:=⟨w.heap.size,0,none⟩) hs0).trans (HQ.out 0 _ rfl),(hW.cell (p:=⟨w.heap.size,1,none⟩) hs0).trans (HQ.out 1 _ rfl),(hW.cell (p:=⟨w.heap.size,2,none⟩) hs0).trans (HQ.out 2 _ rfl)⟩;have hbx:∀ o,Below w.heap.size w (wo.alloc o):=fun o=>Below.al hbw o;have HBX:=Hh fun o=>HB.out.below (hbx o);have HPI:=Hh fun o=>hpi.below (hbx o);have hwl:w.heap.size < wo.heap.size:=Nat.lt_of_lt_of_le hs0 hWs;have HBW:=Hh hbw;clear hbx hpi hbw;by_cases hp:pathAl b.devs.length tp=0
    ·rw [if_neg (by simpa using hp)] at hG';by_cases h1:ts < 0
     ·rw [if_pos h1] at hG';subst hG';go_wp2_with (go_at_call 66;(with_reducible refine (path_at (HBX.out _) (HPI.out _) hpl hpc).mono ?_);rintro e w1 ⟨rfl,hb1⟩;rw [hp];obtain ⟨hc1,hf1⟩:=bcell hb1;have hz1:=hb1.size);go_ret;exact ⟨rfl,by have:=HBW.out;(exact bel)⟩
     ·rw [if_neg h1] at hG';by_cases h2:2 < ts
      ·rw [if_pos h2] at hG';subst hG';go_wp2_with (go_at_call 66;(with_reducible refine (path_at (HBX.out _) (HPI.out _) hpl hpc).mono ?_);rintro e w1 ⟨rfl,hb1⟩;rw [hp];obtain ⟨hc1,hf1⟩:=bcell hb1;have hz1:=hb1.size);go_ret;exact ⟨rfl,by have:=HBW.out;(exact bel)⟩
      ·rw [if_neg h2] at hG';have HG:=Hh hG';clear hG';go_wp2_with (go_at_call 66;(with_reducible refine (path_at (HBX.out _) (HPI.out _) hpl hpc).mono ?_);rintro e w1 ⟨rfl,hb1⟩;rw [hp];obtain ⟨hc1,hf1⟩:=bcell hb1;have hz1:=hb1.size);go_roundw
       case rel=>exact ⟨k+1,by omega,by go_num,HG.out,(hW.alloc hWs _).trans (hb1.mono (by simp;omega))⟩
       case measure=>simp [intOf];omega
    ·rw [if_pos (by simpa using hp)] at hG';have hne:¬ t=0:=by rw [<- hG'];exact hp
     have HG:=Hh hG';clear hG' hp;go_wp2_with (go_at_call 66;(with_reducible refine (path_at (HBX.out _) (HPI.out _) hpl hpc).mono ?_);rintro e w1 ⟨rfl,hb1⟩;rw [HG.out];obtain ⟨hc1,hf1⟩:=bcell hb1;have hz1:=hb1.size);go_ret;exact ⟨rfl,by have:=HBW.out;(exact bel)⟩
   ·have:goT b.devs.length (b.tests.drop k)=t:=hG.out;rw [List.drop_eq_nil_of_le (by omega)] at this;simp only [goT] at this;subst this;have HBW:=Hh hbw;clear hbw;go_wp2;go_ret;exact ⟨rfl,HBW.out⟩
def bookAl (b:Fbk):Int:=if devsAl b≠0 then devsAl b else testsAl b
theorem checkBook_at {b:Fbk} {vm vd vt:Value} {w:World} (hB:FBookAt w b vm vd vt) (hN:∀ m∈b.devs,m.name.size<=1000000) {t:Int} (h:bookAl b=t) :
 Calls Mz.prog 78 #[.agg #[vm,vd,vt]] w fun e w'=>e=.returned (.int .i64 t)/\Below w.heap.size w w':=by
 have H:=Hh h;clear h;obtain ⟨rfl,⟨da,dc,rfl,_,_⟩,ta,tc,rfl,_,_⟩:=id hB;have HB:=Hh hB;clear hB;have HN:=Hh hN;clear hN
 go_enter (mz_func (i:=78) rfl Tryz.func78),Tryz.ntmps78
 go_wp2;obtain ⟨W0,hW0⟩:∃ W0,W0=((w.alloc (.cells #[.int .i64 b.most,.slice da b.devs.length dc,.slice ta b.tests.length tc] 25)).alloc (.cells #[.int .i64 b.most,.slice da b.devs.length dc,.slice ta b.tests.length tc] 88)).alloc (.cells #[.func (.func 121) #[.agg #[.int .i64 b.most,.slice da b.devs.length dc,.slice ta b.tests.length tc]] #[],.func (.func 122) #[.agg #[.int .i64 b.most,.slice da b.devs.length dc,.slice ta b.tests.length tc]] #[]] 168):=⟨_,rfl⟩;rw [<- hW0];have hb0:Below w.heap.size w W0:=by rw [hW0];(exact bel)
 have hsz:w.heap.size+1+1 < W0.heap.size:=by rw [hW0];simp
 have q0:W0.cell? ⟨w.heap.size+1+1,0,none⟩=some (.func (.func 121) #[.agg #[.int .i64 b.most,.slice da b.devs.length dc,.slice ta b.tests.length tc]] #[]):=by rw [hW0,World.cell?_alloc_at _ _ _ _ (by simp)];rfl
 have q1:W0.cell? ⟨w.heap.size+1+1,1,none⟩=some (.func (.func 122) #[.agg #[.int .i64 b.most,.slice da b.devs.length dc,.slice ta b.tests.length tc]] #[]):=by rw [hW0,World.cell?_alloc_at _ _ _ _ (by simp)];rfl
 have HB0:=Hh (HB.out.below hb0);clear hW0;go_loopw [15] (fun i wr=>∃ (k:Nat),k<=2/\i=.int .i64 k/\Hid ((1<=k->devsAl b=0)/\(2<=k->testsAl b=0))/\Below W0.heap.size W0 wr) (fun i _=>2 - (intOf i).toNat)
 case atStart=>exact ⟨0,by omega,rfl,by unfold Hid;omega,Below.refl _ _⟩
 case round =>
  obtain ⟨k,hk,rfl,hC,hW⟩:=hrel;have hWs:=hW.size;have HBr:=Hh (HB0.out.below hW);have z0:=(hW.cell hsz).trans q0;have z1:=(hW.cell hsz).trans q1;clear q0 q1;have:k=0\/k=1\/k=2:=by omega
  rcases this with rfl | rfl | rfl
  ·by_cases hz:devsAl b=0
   ·have HZ:=Hh hz;clear hz;go_wp2_with (go_at_call 121;(with_reducible refine (devices_at HBr.out HN.out HZ.out).mono ?_);rintro e w1 ⟨rfl,hb1⟩);go_roundw
    case rel=>exact ⟨1,by omega,by go_num,⟨fun _=>HZ.out,by omega⟩,bel⟩
    case measure=>simp [intOf]
   ·have HZ:=Hh (show devsAl b=t by rw [<- H.out];simp [bookAl,hz]);have hz3:(t != 0)=true:=by rw [<- HZ.out];simpa using hz
    have hz4:¬ t=0:=by rw [<- HZ.out];exact hz
    clear hz;go_wp2_with (go_at_call 121;(with_reducible refine (devices_at HBr.out HN.out HZ.out).mono ?_);rintro e w1 ⟨rfl,hb1⟩);go_ret;exact ⟨rfl,bel⟩
  ·have hq:testsAl b=t:=by rw [<- H.out];simp [bookAl,hC.out.1 (by omega)]
   have HZ:=Hh hq;by_cases hz:t=0
   ·have hz0:testsAl b=0:=hq.trans hz;have HZ0:=Hh hz0;clear hz hz0 hq;go_wp2_with (go_at_call 122;(with_reducible refine (tests_at HBr.out HZ0.out).mono ?_);rintro e w1 ⟨rfl,hb1⟩);go_roundw
    case rel=>exact ⟨2,by omega,by go_num,⟨fun _=>hC.out.1 (by omega),fun _=>HZ0.out⟩,bel⟩
    case measure=>simp [intOf]
   ·clear hq;go_wp2_with (go_at_call 122;(with_reducible refine (tests_at HBr.out HZ.out).mono ?_);rintro e w1 ⟨rfl,hb1⟩);go_ret;exact ⟨rfl,bel⟩
  ·have hq:t=0:=by rw [<- H.out];simp [bookAl,hC.out.1 (by omega),hC.out.2 (by omega)]
   subst hq;go_wp2;go_ret;exact ⟨rfl,bel⟩
attribute [local go_sem] Oper.semAt_some
theorem device_at {b:Fbk} {vm vd vt:Value} {w:World} {k:Int} (hB:FBookAt w b vm vd vt) {t:Int} (h:(if inB k 0 ((b.devs.length:Int) - 1) then 0 else 6)=t) :
 Calls Mz.prog 79 #[.agg #[vm,vd,vt],.int .i64 k] w fun e w'=>e=.returned (.int .i64 t)/\Below w.heap.size w w':=by
 obtain ⟨rfl,⟨da,dc,rfl,_,hdl⟩,ta,tc,rfl,_,_⟩:=hB;have ew:IntKind.i64.wrap ((b.devs.length:Int) - 1)=(b.devs.length:Int) - 1:=IntWalk.i64_in _ (by omega);cases g:inB k 0 ((b.devs.length:Int) - 1)
 ·rw [g,if_neg (by simp)] at h;subst h;have G:=Hh g;clear g
  go_enter (mz_func (i:=79) rfl Tryz.func79),Tryz.ntmps79
  go_wp2_with (go_at_call 119;(with_reducible refine (inside_at G.out).mono ?_);rintro e w' ⟨rfl,rfl⟩);go_ret;exact ⟨rfl,bel⟩
 ·rw [g,if_pos rfl] at h;subst h;have G:=Hh g;clear g
  go_enter (mz_func (i:=79) rfl Tryz.func79),Tryz.ntmps79
  go_wp2_with (go_at_call 119;(with_reducible refine (inside_at G.out).mono ?_);rintro e w' ⟨rfl,rfl⟩);go_ret;exact ⟨rfl,bel⟩
theorem nothing_at (v:Value) (vs:Array Value) (w:World) (hv:v=.agg vs):Calls Mz.prog 84 #[v] w fun e w'=>e=.returned (.int .i64 0)/\Below w.heap.size w w':=by
 subst hv
 go_enter (mz_func (i:=84) rfl Tryz.func84),Tryz.ntmps84
 go_wp2;go_ret;exact ⟨rfl,bel⟩
def ActsAt (w:World):Prop:=0 < w.heap.size/\∀ k,k < 3->w.cell? ⟨0,k,none⟩=some (.func (.func (200+k)) #[] #[])
theorem ActsAt.below {w w':World} (h:ActsAt w) (hb:Below w.heap.size w w'):ActsAt w':=⟨Nat.lt_of_lt_of_le h.1 hb.size,fun k hk=>(hb.cell h.1).trans (h.2 k hk)⟩
theorem act1_at (w:World):Calls Mz.prog 200 #[] w fun e w'=>e=.returned (.tuple #[.bool false,.bool true])/\w'=w:=by
 go_enter (mz_func (i:=200) rfl Tryz.func200),Tryz.ntmps200
 go_wp2;exact bodyPost_ret (v:=.tuple #[.bool false,.bool true]) (by simp [results,Tryz.results200,go_sem, *]) rfl ⟨rfl,rfl⟩
theorem act2_at (w:World):Calls Mz.prog 201 #[] w fun e w'=>e=.returned (.tuple #[.bool true,.bool false])/\w'=w:=by
 go_enter (mz_func (i:=201) rfl Tryz.func201),Tryz.ntmps201
 go_wp2;exact bodyPost_ret (v:=.tuple #[.bool true,.bool false]) (by simp [results,Tryz.results201,go_sem, *]) rfl ⟨rfl,rfl⟩
theorem act3_at (w:World):Calls Mz.prog 202 #[] w fun e w'=>e=.returned (.tuple #[.bool true,.bool true])/\w'=w:=by
 go_enter (mz_func (i:=202) rfl Tryz.func202),Tryz.ntmps202
 go_wp2;exact bodyPost_ret (v:=.tuple #[.bool true,.bool true]) (by simp [results,Tryz.results202,go_sem, *]) rfl ⟨rfl,rfl⟩
def stepsOf (l:List Int) (i:Nat):Nat:=(l.getD i 0).toNat
def playI (s:Nat->Nat) (l:List Int):Bool × Nat:=plays s (stepsOf l) l.length 0
def statesV (s:Nat->Nat):Array Value:=#[.int .i64 (s 0:Int),.int .i64 (s 1:Int),.int .i64 (s 2:Int),.int .i64 (s 3:Int),.int .i64 (s 4:Int),.int .i64 (s 5:Int)]
theorem statesV_get (s:Nat->Nat) {k:Nat} (h:k < 6):(statesV s)[k]? = some (.int .i64 (s k:Int)):=by
 have:k=0\/k=1\/k=2\/k=3\/k=4\/k=5:=by omega
 rcases this with rfl | rfl | rfl | rfl | rfl | rfl <;> rfl
theorem play_at {s:Nat->Nat} {pa:Option Addr} {l:List Int} {pc:Nat} {w:World} (hA:ActsAt w) (hs:∀ k,s k < 3) (hp:IntsAt w pa l) (hl:∀ x∈l,0<=x/\x < 6) (hll:l.length<=1000000) {r:Bool} {n:Nat} (h:playI s l=(r,n)) :
 Calls Mz.prog 69 #[.agg #[.int .i64 (s 0:Int),.int .i64 (s 1:Int),.int .i64 (s 2:Int),.int .i64 (s 3:Int),.int .i64 (s 4:Int),.int .i64 (s 5:Int)],.slice pa l.length pc] w fun e w'=>e=.returned (.tuple #[.bool r,.int .i64 (n:Int)])/\Below w.heap.size w w':=by
 have hb0:Below w.heap.size w (w.alloc (.cells #[.int .i64 (s 0:Int),.int .i64 (s 1:Int),.int .i64 (s 2:Int),.int .i64 (s 3:Int),.int .i64 (s 4:Int),.int .i64 (s 5:Int)] 96)):=bel;have hA0:=hA.below hb0;have hp0:=hp.below hb0;have HL:=Hh hl;have HS:=Hh hs;have H:=Hh h;clear hA hp hl hs h
 go_enter (mz_func (i:=69) rfl Tryz.func69),Tryz.ntmps69
 go_wp2;obtain ⟨W0,hW0⟩:∃ W0,W0=w.alloc (.cells #[.int .i64 (s 0:Int),.int .i64 (s 1:Int),.int .i64 (s 2:Int),.int .i64 (s 3:Int),.int .i64 (s 4:Int),.int .i64 (s 5:Int)] 96):=⟨_,rfl⟩;rw [<- hW0] at hb0 hA0 hp0 ⊢;have q:∀ k,k < 6->W0.cell? ⟨w.heap.size,k,none⟩=some (.int .i64 (s k:Int)):=fun k hk=>by rw [hW0,World.cell?_alloc_at _ _ _ _ rfl];exact statesV_get s hk
 have HQ:=Hh q;have HP:=Hh hp0;have HA:=Hh hA0.2;have HB:=Hh hb0;have hs0:w.heap.size < W0.heap.size:=by rw [hW0];simp
 clear hW0 q hp0 hA0 hb0;go_loop [12] (fun i=>∃ k:Nat,k<=l.length/\i=.int .i64 k/\Hid (plays s (stepsOf l) (l.length - k) k=(r,n))) (fun i=>l.length - (intOf i).toNat)
 case atStart=>exact ⟨0,Nat.zero_le _,rfl,H.out⟩
 case round =>
  obtain ⟨k,hk,rfl,hG⟩:=hrel;by_cases hlt:k < l.length
  ·obtain ⟨pb,po,rfl,hpb,c1⟩:=HP.out k hlt;have hx:=HL.out _ (List.getElem_mem hlt);have hst:stepsOf l k=(l[k]).toNat:=by unfold stepsOf;rw [List.getD_eq_getElem?_getD,List.getElem?_eq_getElem hlt];rfl
   have hG':=hG.out;rw [show l.length - k=(l.length - (k+1))+1 by omega,plays,hst] at hG';generalize l[k]=x at c1 hx hG' hst;obtain ⟨y,rfl⟩:∃ y:Nat,x=(y:Int):=⟨x.toNat,by omega⟩;rw [show ((y:Int)).toNat=y by simp] at hG';have hy:y < 6:=by omega
   have hyI:(y:Int) < 6:=by omega
   have c2:=HQ.out y hy;have h3:=HS.out y;have c3:=HA.out (s y) h3;clear hx hst hG;obtain ⟨z,hz⟩:∃ z,s y=z:=⟨_,rfl⟩;rw [hz] at c2 c3 h3 hG';clear hz;obtain rfl | rfl | rfl:z=0\/z=1\/z=2:=by omega
   ·rw [if_pos rfl] at hG';have HG:=Hh hG';clear hG';go_wp2_with (go_at_call 200;(with_reducible refine (act1_at _).mono ?_);rintro e w' ⟨rfl,rfl⟩);go_round
    case rel=>exact ⟨k+1,hlt,by go_num,HG.out⟩
    case measure=>simp [intOf];omega
   ·rw [if_neg (by simp)] at hG';simp only [Prod.mk.injEq] at hG';obtain ⟨h1,h2⟩:=hG';subst h1 h2;go_wp2_with (go_at_call 201;(with_reducible refine (act2_at _).mono ?_);rintro e w' ⟨rfl,rfl⟩);exact bodyPost_ret (v:=.tuple #[.bool (decide (1=2)),.int .i64 (k:Int)]) (by simp [results,Tryz.results69,go_sem, *]) rfl ⟨rfl,HB.out⟩
   ·rw [if_neg (by simp)] at hG';simp only [Prod.mk.injEq] at hG';obtain ⟨h1,h2⟩:=hG';subst h1 h2;go_wp2_with (go_at_call 202;(with_reducible refine (act3_at _).mono ?_);rintro e w' ⟨rfl,rfl⟩);exact bodyPost_ret (v:=.tuple #[.bool (decide (2=2)),.int .i64 (k:Int)]) (by simp [results,Tryz.results69,go_sem, *]) rfl ⟨rfl,HB.out⟩
  ·obtain rfl:k=l.length:=by omega
   have hG':=hG.out;rw [Nat.sub_self] at hG';simp only [plays,Prod.mk.injEq] at hG';obtain ⟨h1,h2⟩:=hG';subst h1 h2;clear hG;go_wp2;exact bodyPost_ret (v:=.tuple #[.bool true,.int .i64 (l.length:Int)]) (by simp [results,Tryz.results69,go_sem, *]) rfl ⟨rfl,HB.out⟩
attribute [local go_sem] Oper.semAt_some
def passTo (s:Nat->Nat) (l:List Tst) (k i:Nat):Bool:=decide (i < k) && (l[i]?).elim false fun t=>(playI s t.path).1
def boolsV (f:Nat->Bool):Array Value:=#[.bool (f 0),.bool (f 1),.bool (f 2),.bool (f 3),.bool (f 4),.bool (f 5)]
theorem boolsV_get (f:Nat->Bool) {k:Nat} (h:k < 6):(boolsV f)[k]? = some (.bool (f k)):=by
 have:k=0\/k=1\/k=2\/k=3\/k=4\/k=5:=by omega
 rcases this with rfl | rfl | rfl | rfl | rfl | rfl <;> rfl
theorem boolsV_set (s:Nat->Nat) (l:List Tst) {k:Nat} (h:k < 6) (hl:k < l.length) {r:Bool} (hr:(playI s l[k].path).1=r):(boolsV (passTo s l k)).setIfInBounds k (.bool r)=boolsV (passTo s l (k+1)):=by
 apply Array.ext_getElem?;intro j;by_cases hj:j < 6
 ·rw [boolsV_get _ hj,Array.getElem?_setIfInBounds,boolsV_get _ hj];have hsz:(boolsV (passTo s l k)).size=6:=rfl;rw [hsz];by_cases e:k=j
  ·subst e;simp [passTo,hl,h,hr]
  ·rw [if_neg e];have:decide (j < k)=decide (j < k+1):=by apply decide_eq_decide.2;omega
   simp only [passTo,this]
 ·have h1:((boolsV (passTo s l k)).setIfInBounds k (.bool r))[j]? = none:=by
   apply Array.getElem?_eq_none;show _<=j;simp [boolsV];omega
  have h2:(boolsV (passTo s l (k+1)))[j]? = none:=by
   apply Array.getElem?_eq_none;show 6<=j;omega
  rw [h1,h2]
def resV (s:Nat->Nat) (l:List Tst):Value:=.agg (boolsV (passTo s l l.length))
def PathsIn (l:List Tst):Prop:=∀ t∈l,∀ x∈t.path,0<=x/\x < 6
theorem results_at {b:Fbk} {vm vd vt:Value} {w:World} {s:Nat->Nat} (hB:FBookAt w b vm vd vt) (hA:ActsAt w) (hs:∀ k,s k < 3) (hp:PathsIn b.tests) (h6:b.tests.length<=6) :
 Calls Mz.prog 123 #[.agg #[vm,vd,vt],.agg #[.int .i64 (s 0:Int),.int .i64 (s 1:Int),.int .i64 (s 2:Int),.int .i64 (s 3:Int),.int .i64 (s 4:Int),.int .i64 (s 5:Int)]] w fun e w'=>e=.returned (resV s b.tests)/\Below w.heap.size w w':=by
 obtain ⟨rfl,⟨da,dc,rfl,_,_⟩,ta,tc,rfl,hT,_⟩:=hB;have HT:=Hh hT;have HA:=Hh hA;have HS:=Hh hs;have HPI:=Hh hp;clear hT hA hs hp
 go_enter (mz_func (i:=123) rfl Tryz.func123),Tryz.ntmps123
 go_wp2;obtain ⟨W2,hW2⟩:∃ W2,W2=(w.alloc (.cells #[.int .i64 b.most,.slice da b.devs.length dc,.slice ta b.tests.length tc] 88)).alloc (.cells #[.int .i64 (s 0:Int),.int .i64 (s 1:Int),.int .i64 (s 2:Int),.int .i64 (s 3:Int),.int .i64 (s 4:Int),.int .i64 (s 5:Int)] 96):=⟨_,rfl⟩;rw [<- hW2];have hb2:Below w.heap.size w W2:=by rw [hW2];(exact bel)
 have hs2:W2.heap.size=w.heap.size+1+1:=by rw [hW2];simp
 have q:∀ k,k < 6->W2.cell? ⟨w.heap.size+1,k,none⟩=some (.int .i64 (s k:Int)):=fun k hk=>by rw [hW2,World.cell?_alloc_at _ _ _ _ (by simp)];exact statesV_get s hk
 have HQ:=Hh q;have HB2:=Hh hb2;have HA2:=Hh (HA.out.below hb2);clear hW2 q;go_loopw [12] (fun i wr=>∃ k:Nat,k<=b.tests.length/\i=.int .i64 k/\wr.heap[w.heap.size+1+1]? = some (.cells (boolsV fun _=>false) 111)/\wr.heap[w.heap.size+1+1+1]? = some (.cells (boolsV (passTo s b.tests k)) 111)/\Below W2.heap.size W2 wr) (fun i _=>b.tests.length - (intOf i).toNat)
 case atStart =>
  refine ⟨0,Nat.zero_le _,rfl,?_,?_,bel⟩
  ·rw [<- hs2];show ((W2.heap.push _).push _)[W2.heap.size]? = _;rw [Array.getElem?_push,if_neg (by simp),Array.getElem?_push,if_pos rfl];rfl
  ·rw [show w.heap.size+1+1+1=(W2.heap.push (.cells (boolsV fun _=>false) 111)).size by simp [hs2]];show ((W2.heap.push _).push _)[_]? = _;rw [Array.getElem?_push,if_pos (by simp)];simp [boolsV,passTo]
 case round =>
  obtain ⟨k,hk,rfl,hZ,hR,hW⟩:=hrel;have hWs:=hW.size;obtain ⟨wo,rfl⟩:∃ x,x=wr:=⟨_,rfl⟩;have hbw:=HB2.out.trans (hW.mono (by omega));have hlt4:w.heap.size+1+1+1 < wo.heap.size:=(Array.getElem?_eq_some_iff.1 hR).1;by_cases hlt:k < b.tests.length
  ·obtain ⟨tb,to,rfl,htb,pa,pc,t0,hpc,hpl,hpi,t1⟩:=HT.out k hlt;have d0:=(hbw.cell (p:=⟨tb,to+k * 2,none⟩) htb).trans t0;have d1:=(hbw.cell (p:=⟨tb,to+k * 2+1,none⟩) htb).trans t1;have hpx:=HPI.out _ (List.getElem_mem hlt);have hk6:k < 6:=by omega
   have hset:=fun (r:Bool) hr=>boolsV_set s b.tests hk6 hlt (r:=r) hr;generalize b.tests[k]=tk at d0 d1 hpc hpl hpi hpx hset;obtain ⟨tp,ts⟩:=tk;simp only at d0 d1 hpc hpl hpi hpx hset;obtain ⟨r,n,hrn⟩:∃ r n,playI s tp=(r,n):=⟨_,_,rfl⟩;have HSET:=Hh (hset r (by rw [hrn]));have s0:=fun o=>((Below.al (Below.refl wo.heap.size wo) o).cell (p:=⟨w.heap.size+1,0,none⟩) (by simp;omega)).trans ((hW.cell (p:=⟨w.heap.size+1,0,none⟩) (by simp;omega)).trans (HQ.out 0 (by omega)));have s1:=fun o=>((Below.al (Below.refl wo.heap.size wo) o).cell (p:=⟨w.heap.size+1,1,none⟩) (by simp;omega)).trans ((hW.cell (p:=⟨w.heap.size+1,1,none⟩) (by simp;omega)).trans (HQ.out 1 (by omega)));have s2:=fun o=>((Below.al (Below.refl wo.heap.size wo) o).cell (p:=⟨w.heap.size+1,2,none⟩) (by simp;omega)).trans ((hW.cell (p:=⟨w.heap.size+1,2,none⟩) (by simp;omega)).trans (HQ.out 2 (by omega)));have s3:=fun o=>((Below.al (Below.refl wo.heap.size wo) o).cell (p:=⟨w.heap.size+1,3,none⟩) (by simp;omega)).trans ((hW.cell (p:=⟨w.heap.size+1,3,none⟩) (by simp;omega)).trans (HQ.out 3 (by omega)));have s4:=fun o=>((Below.al (Below.refl wo.heap.size wo) o).cell (p:=⟨w.heap.size+1,4,none⟩) (by simp;omega)).trans ((hW.cell (p:=⟨w.heap.size+1,4,none⟩) (by simp;omega)).trans (HQ.out 4 (by omega)));have s5:=fun o=>((Below.al (Below.refl wo.heap.size wo) o).cell (p:=⟨w.heap.size+1,5,none⟩) (by simp;omega)).trans ((hW.cell (p:=⟨w.heap.size+1,5,none⟩) (by simp;omega)).trans (HQ.out 5 (by omega)));have c5:∀ o,(wo.alloc o).cell? ⟨w.heap.size+1+1+1,k,none⟩=some (.bool (passTo s b.tests k k)):=fun o=>((Below.al (Below.refl wo.heap.size wo) o).cell (p:=⟨w.heap.size+1+1+1,k,none⟩) hlt4).trans (by simp only [World.cell?,hR];exact boolsV_get _ hk6);have f5:∀ o,(wo.alloc o).frozen? ⟨w.heap.size+1+1+1,k,none⟩=false:=fun o=>((Below.al (Below.refl wo.heap.size wo) o).frozen (p:=⟨w.heap.size+1+1+1,k,none⟩) hlt4).trans (by simp [World.frozen?,hR]);have hAw:=Hh fun o=>(HA2.out.below hW).below (Below.al (Below.refl _ _) o);have hPw:=Hh fun o=>(hpi.below hbw).below (Below.al (Below.refl _ _) o);have HPX:=Hh hpx;have HBW:=Hh hbw;have HZ:=Hh hZ;have HR:=Hh hR;have hk6I:(k:Int) < 6:=by omega
   have hwn:w.heap.size < wo.heap.size:=by omega
   have HRN:=Hh hrn;clear t0 t1 hset hpi hpx hbw hZ hR hrn;go_wp2_with (go_at_call 69;(with_reducible refine (play_at (hAw.out _) HS.out (hPw.out _) HPX.out hpl HRN.out).mono ?_);rintro e w1 ⟨rfl,hb1⟩;obtain ⟨hc1,hf1⟩:=bcell hb1;have hz1:=hb1.size;have c6:=(hc1 (w.heap.size+1+1+1) k (by simp;omega)).trans (c5 _);have f6:=(hf1 (w.heap.size+1+1+1) k (by simp;omega)).trans (f5 _));go_roundw
   case rel =>
    have hz2:wo.heap.size+1<=w1.heap.size:=by simpa using hz1
    have bl:∀ x,x < wo.heap.size->w1.heap[x]? = wo.heap[x]? := fun x hx=>(hb1.block x (by simp;omega)).trans (by show (wo.heap.push _)[x]? = _;rw [Array.getElem?_push,if_neg (by omega)]);refine ⟨k+1,by omega,by go_num,?_,?_,?_⟩
    ·rw [setCell_other (by omega),bl _ (by omega)];exact HZ.out
    ·rw [setCell_block ((bl _ (by omega)).trans HR.out),HSET.out]
    ·exact (((hW.alloc hWs _).trans (hb1.mono (by simp;omega)))).setCell (by simp;omega) _
   case measure=>simp [intOf];omega
  ·obtain rfl:k=b.tests.length:=by omega
   have e0:wo.cell? ⟨w.heap.size+1+1+1,0,none⟩=some (.bool (passTo s b.tests b.tests.length 0)):=by simp only [World.cell?,hR];exact boolsV_get _ (by omega)
   have z0:wo.cell? ⟨w.heap.size+1+1,0,none⟩=some (.bool false):=by simp only [World.cell?,hZ];exact boolsV_get _ (by omega)
   have e1:wo.cell? ⟨w.heap.size+1+1+1,1,none⟩=some (.bool (passTo s b.tests b.tests.length 1)):=by simp only [World.cell?,hR];exact boolsV_get _ (by omega)
   have z1:wo.cell? ⟨w.heap.size+1+1,1,none⟩=some (.bool false):=by simp only [World.cell?,hZ];exact boolsV_get _ (by omega)
   have e2:wo.cell? ⟨w.heap.size+1+1+1,2,none⟩=some (.bool (passTo s b.tests b.tests.length 2)):=by simp only [World.cell?,hR];exact boolsV_get _ (by omega)
   have z2:wo.cell? ⟨w.heap.size+1+1,2,none⟩=some (.bool false):=by simp only [World.cell?,hZ];exact boolsV_get _ (by omega)
   have e3:wo.cell? ⟨w.heap.size+1+1+1,3,none⟩=some (.bool (passTo s b.tests b.tests.length 3)):=by simp only [World.cell?,hR];exact boolsV_get _ (by omega)
   have z3:wo.cell? ⟨w.heap.size+1+1,3,none⟩=some (.bool false):=by simp only [World.cell?,hZ];exact boolsV_get _ (by omega)
   have e4:wo.cell? ⟨w.heap.size+1+1+1,4,none⟩=some (.bool (passTo s b.tests b.tests.length 4)):=by simp only [World.cell?,hR];exact boolsV_get _ (by omega)
   have z4:wo.cell? ⟨w.heap.size+1+1,4,none⟩=some (.bool false):=by simp only [World.cell?,hZ];exact boolsV_get _ (by omega)
   have e5:wo.cell? ⟨w.heap.size+1+1+1,5,none⟩=some (.bool (passTo s b.tests b.tests.length 5)):=by simp only [World.cell?,hR];exact boolsV_get _ (by omega)
   have z5:wo.cell? ⟨w.heap.size+1+1,5,none⟩=some (.bool false):=by simp only [World.cell?,hZ];exact boolsV_get _ (by omega)
   have fz:∀ j,wo.frozen? ⟨w.heap.size+1+1,j,none⟩=false:=fun j=>by simp [World.frozen?,hZ]
   have HBW:=Hh hbw;have HZ:=Hh hZ;have hwn:w.heap.size+1+1 < wo.heap.size:=by omega
   clear hZ hR hbw;go_wp2;have hfin:=setCell_block (k:=5) (v:=.bool (passTo s b.tests b.tests.length 5)) (setCell_block (k:=4) (v:=.bool (passTo s b.tests b.tests.length 4)) (setCell_block (k:=3) (v:=.bool (passTo s b.tests b.tests.length 3)) (setCell_block (k:=2) (v:=.bool (passTo s b.tests b.tests.length 2)) (setCell_block (k:=1) (v:=.bool (passTo s b.tests b.tests.length 1)) (setCell_block (k:=0) (v:=.bool (passTo s b.tests b.tests.length 0)) HZ.out)))));have hbe:Below w.heap.size w ((((((wo.setCell ⟨w.heap.size+1+1,0,none⟩ (.bool (passTo s b.tests b.tests.length 0))).setCell ⟨w.heap.size+1+1,1,none⟩ (.bool (passTo s b.tests b.tests.length 1))).setCell ⟨w.heap.size+1+1,2,none⟩ (.bool (passTo s b.tests b.tests.length 2))).setCell ⟨w.heap.size+1+1,3,none⟩ (.bool (passTo s b.tests b.tests.length 3))).setCell ⟨w.heap.size+1+1,4,none⟩ (.bool (passTo s b.tests b.tests.length 4))).setCell ⟨w.heap.size+1+1,5,none⟩ (.bool (passTo s b.tests b.tests.length 5))) :=
    (((((HBW.out.setCell (by simp;omega) _).setCell (by simp;omega) _).setCell (by simp;omega) _).setCell (by simp;omega) _).setCell (by simp;omega) _).setCell (by simp;omega) _
   generalize ((((((wo.setCell ⟨w.heap.size+1+1,0,none⟩ (.bool (passTo s b.tests b.tests.length 0))).setCell ⟨w.heap.size+1+1,1,none⟩ (.bool (passTo s b.tests b.tests.length 1))).setCell ⟨w.heap.size+1+1,2,none⟩ (.bool (passTo s b.tests b.tests.length 2))).setCell ⟨w.heap.size+1+1,3,none⟩ (.bool (passTo s b.tests b.tests.length 3))).setCell ⟨w.heap.size+1+1,4,none⟩ (.bool (passTo s b.tests b.tests.length 4))).setCell ⟨w.heap.size+1+1,5,none⟩ (.bool (passTo s b.tests b.tests.length 5)))=W9 at *;have y0:W9.cell? ⟨w.heap.size+1+1,0,none⟩=some (.bool (passTo s b.tests b.tests.length 0)):=by simp only [World.cell?,hfin];rfl
   have y1:W9.cell? ⟨w.heap.size+1+1,1,none⟩=some (.bool (passTo s b.tests b.tests.length 1)):=by simp only [World.cell?,hfin];rfl
   have y2:W9.cell? ⟨w.heap.size+1+1,2,none⟩=some (.bool (passTo s b.tests b.tests.length 2)):=by simp only [World.cell?,hfin];rfl
   have y3:W9.cell? ⟨w.heap.size+1+1,3,none⟩=some (.bool (passTo s b.tests b.tests.length 3)):=by simp only [World.cell?,hfin];rfl
   have y4:W9.cell? ⟨w.heap.size+1+1,4,none⟩=some (.bool (passTo s b.tests b.tests.length 4)):=by simp only [World.cell?,hfin];rfl
   have y5:W9.cell? ⟨w.heap.size+1+1,5,none⟩=some (.bool (passTo s b.tests b.tests.length 5)):=by simp only [World.cell?,hfin];rfl
   exact bodyPost_ret (v:=resV s b.tests) (by simp [results,Tryz.results123,go_sem,y0,y1,y2,y3,y4,y5,resV,boolsV]) rfl ⟨rfl,hbe⟩
theorem isState_at {k:Int} {w:World} {t:Bool} (h:(decide (0<=k) && decide (k<=2))=t):Calls Mz.prog 112 #[.int .i64 k] w fun e w'=>e=.returned (.bool t)/\w'=w:=by
 have H:=Hh h;clear h;by_cases h0:k=0
 ·subst h0
  go_enter (mz_func (i:=112) rfl Tryz.func112),Tryz.ntmps112
  go_wp2;go_ret;exact ⟨by rw [<- H.out];rfl,rfl⟩
 ·by_cases h1:k=1
  ·subst h1
   go_enter (mz_func (i:=112) rfl Tryz.func112),Tryz.ntmps112
   go_wp2;go_ret;exact ⟨by rw [<- H.out];rfl,rfl⟩
  ·by_cases h2:k=2
   ·subst h2
    go_enter (mz_func (i:=112) rfl Tryz.func112),Tryz.ntmps112
    go_wp2;go_ret;exact ⟨by rw [<- H.out];rfl,rfl⟩
   ·have ht:t=false:=by rw [<- H.out];simp;omega
    subst ht;clear H
    go_enter (mz_func (i:=112) rfl Tryz.func112),Tryz.ntmps112
    go_wp2;go_ret;exact ⟨rfl,rfl⟩
attribute [local go_sem] Oper.semAt_some
def goR (s:Nat->Nat):List Tst->Bool
 | []=>true
 | t::l=>if t.seen=0 then goR s l else if (playI s t.path).1=decide (t.seen=1) then goR s l else false
theorem right_at {b:Fbk} {vm vd vt:Value} {w:World} {s:Nat->Nat} (hB:FBookAt w b vm vd vt) (hA:ActsAt w) (hs:∀ k,s k < 3) (hp:PathsIn b.tests) (h6:b.tests.length<=6) {t:Bool} (h:goR s b.tests=t) :
 Calls Mz.prog 173 #[.agg #[vm,vd,vt],.agg #[.int .i64 (s 0:Int),.int .i64 (s 1:Int),.int .i64 (s 2:Int),.int .i64 (s 3:Int),.int .i64 (s 4:Int),.int .i64 (s 5:Int)]] w fun e w'=>e=.returned (.bool t)/\Below w.heap.size w w':=by
 have HB:=Hh hB;obtain ⟨rfl,⟨da,dc,rfl,_,_⟩,ta,tc,rfl,hT,_⟩:=hB;have HT:=Hh hT;have HA:=Hh hA;have HS:=Hh hs;have HPI:=Hh hp;have H:=Hh h;clear hT hA hs hp h;have e2:((w.alloc (.cells #[.int .i64 b.most,.slice da b.devs.length dc,.slice ta b.tests.length tc] 88)).alloc (.cells #[.int .i64 (s 0:Int),.int .i64 (s 1:Int),.int .i64 (s 2:Int),.int .i64 (s 3:Int),.int .i64 (s 4:Int),.int .i64 (s 5:Int)] 96)).cell? ⟨w.heap.size,2,none⟩=some (.slice ta b.tests.length tc):=((Below.al (Below.refl _ (w.alloc (.cells #[.int .i64 b.most,.slice da b.devs.length dc,.slice ta b.tests.length tc] 88))) (.cells #[.int .i64 (s 0:Int),.int .i64 (s 1:Int),.int .i64 (s 2:Int),.int .i64 (s 3:Int),.int .i64 (s 4:Int),.int .i64 (s 5:Int)] 96)).cell (p:=⟨w.heap.size,2,none⟩) (by simp)).trans (by rw [World.cell?_alloc_at _ _ _ _ rfl];rfl)
 go_enter (mz_func (i:=173) rfl Tryz.func173),Tryz.ntmps173
 go_wp2_with (go_at_call 123;(with_reducible refine (results_at (s:=s) (HB.out.below (bel)) (HA.out.below (bel)) HS.out HPI.out h6).mono ?_);rintro e w3 ⟨rfl,hb3⟩;have hz3:=hb3.size;have x2:=fun o=>((Below.al (Below.refl w3.heap.size w3) o).cell (p:=⟨w.heap.size,2,none⟩) (by simp at hz3 ⊢;omega)).trans ((hb3.cell (p:=⟨w.heap.size,2,none⟩) (by simp;omega)).trans e2);simp only [resV,boolsV]);obtain ⟨W0,hW0⟩:∃ W0,W0=w3.alloc (.cells (boolsV (passTo s b.tests b.tests.length)) 111):=⟨_,rfl⟩;have hb0:Below w.heap.size w W0:=by rw [hW0];exact Below.al (((Below.al (Below.al (Below.refl _ _) _) _)).trans (hb3.mono (by simp;omega))) _
 have qr:∀ k,k < 6->W0.cell? ⟨w3.heap.size,k,none⟩=some (.bool (passTo s b.tests b.tests.length k)):=fun k hk=>by rw [hW0,World.cell?_alloc_at _ _ _ _ rfl];exact boolsV_get _ hk
 have hs0:w3.heap.size < W0.heap.size:=by rw [hW0];simp
 have hws:w.heap.size+2<=w3.heap.size:=by simpa using hz3
 show Code.wp Mz.prog _ _ _ (w3.alloc (.cells (boolsV (passTo s b.tests b.tests.length)) 111));rw [<- hW0];have HQ:=Hh qr;have HB0:=Hh hb0;clear hW0 qr hb0 hb3 hz3 x2 e2;go_loopw [15] (fun i wr=>∃ k:Nat,k<=b.tests.length/\i=.int .i64 k/\Hid (goR s (b.tests.drop k)=t)/\Below W0.heap.size W0 wr) (fun i _=>b.tests.length - (intOf i).toNat)
 case atStart=>exact ⟨0,Nat.zero_le _,rfl,by simpa [Hid] using H.out,Below.refl _ _⟩
 case round =>
  obtain ⟨k,hk,rfl,hG,hW⟩:=hrel;have hWs:=hW.size;obtain ⟨wo,rfl⟩:∃ x,x=wr:=⟨_,rfl⟩;have hbw:=Below.next HB0.out hW;by_cases hlt:k < b.tests.length
  ·obtain ⟨tb,to,rfl,htb,pa,pc,t0,hpc,hpl,hpi,t1⟩:=HT.out k hlt;have d0:=(hbw.cell (p:=⟨tb,to+k * 2,none⟩) htb).trans t0;have d1:=(hbw.cell (p:=⟨tb,to+k * 2+1,none⟩) htb).trans t1;have hk6:k < 6:=by omega
   have hk6I:(k:Int) < 6:=by omega
   have hpk:passTo s b.tests b.tests.length k=(playI s b.tests[k].path).1:=by simp [passTo,hlt]
   have x5:=fun o=>((Below.al (Below.refl wo.heap.size wo) o).cell (p:=⟨w3.heap.size,k,none⟩) (by simp;omega)).trans ((hW.cell (p:=⟨w3.heap.size,k,none⟩) hs0).trans (HQ.out k hk6));rw [hpk] at x5;have hG':=hG.out;rw [List.drop_eq_getElem_cons hlt,goR] at hG';generalize b.tests[k]=tk at d0 d1 hG' x5;obtain ⟨tp,ts⟩:=tk;simp only at d0 d1 hG' x5;obtain ⟨r,hr⟩:∃ r,(playI s tp).1=r:=⟨_,rfl⟩;rw [hr] at hG' x5;have HBW:=Hh hbw;clear t0 t1 hG hpk hr hpi hbw;by_cases hz:ts=0
   ·rw [if_pos hz] at hG';subst hz;have HG:=Hh hG';clear hG';go_wp2
    go_region
    go_wp2;go_roundw
    case rel=>exact ⟨k+1,by omega,by go_num,HG.out,by first | exact hW.alloc hWs _ | exact (hW.alloc hWs _).drew⟩
    case measure=>simp [intOf];omega
   ·rw [if_neg hz] at hG';have hzd:(ts != 0)=true:=by simpa using hz
    have hzc:decide (ts=0)=false:=by simpa using hz
    by_cases h1:ts=1
    ·subst h1;cases r
     ·rw [if_neg (by simp)] at hG';subst hG';go_wp2
      go_region
      go_wp2;go_ret;exact ⟨rfl,by have:=HBW.out;(exact bel)⟩
     ·rw [if_pos (by simp)] at hG';have HG:=Hh hG';clear hG';go_wp2
      go_region
      go_wp2;go_roundw
      case rel=>exact ⟨k+1,by omega,by go_num,HG.out,by first | exact hW.alloc hWs _ | exact (hW.alloc hWs _).drew⟩
      case measure=>simp [intOf];omega
    ·have h1d:decide (ts=1)=false:=by simpa using h1
     have h1e:(ts == 1)=false:=by simpa using h1
     cases r
     ·rw [if_pos (by simp [h1])] at hG';have HG:=Hh hG';clear hG';go_wp2
      go_region
      go_wp2;go_roundw
      case rel=>exact ⟨k+1,by omega,by go_num,HG.out,by first | exact hW.alloc hWs _ | exact (hW.alloc hWs _).drew⟩
      case measure=>simp [intOf];omega
     ·rw [if_neg (by simp [h1])] at hG';subst hG';go_wp2
      go_region
      go_wp2;go_ret;exact ⟨rfl,by have:=HBW.out;(exact bel)⟩
  ·have:goR s (b.tests.drop k)=t:=hG.out;rw [List.drop_eq_nil_of_le (by omega)] at this;simp only [goR] at this;subst this;have HBW:=Hh hbw;clear hbw;go_wp2;go_ret;exact ⟨rfl,HBW.out⟩
end Mt
namespace Mt
open Go Go.RowKit
def setS (s:Nat->Nat) (i k:Nat):Nat->Nat:=fun j=>if j=i then k else s j
def histL:List Dev->Nat->Nat->(Nat->Nat)->List (Nat->Nat)
 | [],_,_,s=>[s]
 | d::l,i,left,s=>histL l (i+1) left (setS s i 0) ++ ((if d.held=true/\0 < left then histL l (i+1) (left - 1) (setS s i 1) else []) ++ (if d.blind=true/\0 < left then histL l (i+1) (left - 1) (setS s i 2) else []))
def histsI (b:Fbk):List (Nat->Nat):=(histL b.devs 0 b.most.toNat (fun _=>0)).filter fun s=>goR s b.tests
theorem setS_lt {s:Nat->Nat} {i k:Nat} (h:∀ j,s j < 3) (hk:k < 3):∀ j,setS s i k j < 3:=fun j=>by
 unfold setS;split
 ·exact hk
 ·exact h j
theorem histL_lt:∀ (l:List Dev) (i left:Nat) (s:Nat->Nat),(∀ j,s j < 3)->∀ x∈histL l i left s,∀ j,x j < 3
 | [],_,_,s,h,x,hx=>by
  simp only [histL,List.mem_singleton] at hx;subst hx;exact h
 | d::l,i,left,s,h,x,hx=>by
  simp only [histL,List.mem_append] at hx;rcases hx with hx | hx | hx
  ·exact histL_lt l _ _ _ (setS_lt h (by omega)) x hx
  ·split at hx
   ·exact histL_lt l _ _ _ (setS_lt h (by omega)) x hx
   ·cases hx
  ·split at hx
   ·exact histL_lt l _ _ _ (setS_lt h (by omega)) x hx
   ·cases hx
theorem hists_lt {b:Fbk} {s:Nat->Nat} (h:s∈histsI b):∀ j,s j < 3:=histL_lt _ _ _ _ (fun _=>by show (0:Nat) < 3;omega) s (List.mem_filter.1 h).1
def boundH:Nat->Nat->Nat
 | 0,_=>1
 | n+1,0=>boundH n 0
 | n+1,m+1=>boundH n (m+1)+2 * boundH n m
theorem histL_le:∀ (l:List Dev) (i left:Nat) (s:Nat->Nat),(histL l i left s).length<=boundH l.length left
 | [],_,_,_=>by simp [histL,boundH]
 | d::l,i,0,s=>by
  have:=histL_le l (i+1) 0 (setS s i 0);simp only [histL,List.length_append,List.length_cons,boundH];simp;exact this
 | d::l,i,m+1,s=>by
  have h0:=histL_le l (i+1) (m+1) (setS s i 0);have h1:=histL_le l (i+1) m (setS s i 1);have h2:=histL_le l (i+1) m (setS s i 2);simp only [histL,List.length_append,List.length_cons,boundH,Nat.add_sub_cancel];have e1:(if d.held=true/\0 < m+1 then histL l (i+1) m (setS s i 1) else []).length<=boundH l.length m:=by
   split
   ·exact h1
   ·simp
  have e2:(if d.blind=true/\0 < m+1 then histL l (i+1) m (setS s i 2) else []).length<=boundH l.length m:=by
   split
   ·exact h2
   ·simp
  omega
theorem boundH_all:∀ n:Fin 7,∀ m:Fin 3,boundH n m<=73:=by decide
theorem hists_le {b:Fbk} (hd:b.devs.length<=6) (hm:b.most<=2):(histsI b).length<=73:=by
 refine Nat.le_trans (List.length_filter_le _ _) (Nat.le_trans (histL_le _ _ _ _) ?_);exact boundH_all ⟨b.devs.length,by omega⟩ ⟨b.most.toNat,by omega⟩
end Mt
namespace Mt
open Go Go.RowKit Go.Maps
attribute [local go_sem] Oper.semAt_some
theorem better_at {v1 c1 v2 c2:Int} {w:World} {v c:Int} (h:(if c2 < c1 then (v2,c2) else (v1,c1))=(v,c)) :
 Calls Mz.prog 94 #[.agg #[.int .i64 v1,.int .i64 c1,.bool true],.agg #[.int .i64 v2,.int .i64 c2,.bool true]] w fun e w'=>e=.returned (.agg #[.int .i64 v,.int .i64 c,.bool true])/\Below w.heap.size w w':=by
 by_cases hlt:c2 < c1
 ·rw [if_pos hlt] at h;simp only [Prod.mk.injEq] at h;obtain ⟨rfl,rfl⟩:=h
  go_enter (mz_func (i:=94) rfl Tryz.func94),Tryz.ntmps94
  go_wp2;generalize hw2:(w.alloc (.cells #[.int .i64 v1,.int .i64 c1,.bool true] 138)).alloc (.cells #[.int .i64 v2,.int .i64 c2,.bool true] 138)=W2;have hs2:W2.heap.size=w.heap.size+1+1:=by rw [<- hw2];simp
  have hb2:Below w.heap.size w W2:=by rw [<- hw2];(exact bel)
  have y:∀ k u,(#[.int .i64 v2,.int .i64 c2,.bool true]:Array Value)[k]? = some u->(W2.alloc (.cells #[.int .i64 v2,.int .i64 c2,.bool true] 138)).cell? ⟨w.heap.size+1+1,k,none⟩=some u:=fun k u h=>by rw [World.cell?_alloc_at _ _ _ _ hs2.symm];exact h
  have y0:=y 0 _ rfl;have y1:=y 1 _ rfl;have y2:=y 2 _ rfl;exact bodyPost_ret (v:=.agg #[.int .i64 v2,.int .i64 c2,.bool true]) (by simp [results,Tryz.results94,go_sem,y0,y1,y2]) rfl ⟨rfl,Below.al hb2 _⟩
 ·rw [if_neg hlt] at h;simp only [Prod.mk.injEq] at h;obtain ⟨rfl,rfl⟩:=h
  go_enter (mz_func (i:=94) rfl Tryz.func94),Tryz.ntmps94
  go_wp2;generalize hw2:(w.alloc (.cells #[.int .i64 v1,.int .i64 c1,.bool true] 138)).alloc (.cells #[.int .i64 v2,.int .i64 c2,.bool true] 138)=W2;have hs2:W2.heap.size=w.heap.size+1+1:=by rw [<- hw2];simp
  have hb2:Below w.heap.size w W2:=by rw [<- hw2];(exact bel)
  have y:∀ k u,(#[.int .i64 v1,.int .i64 c1,.bool true]:Array Value)[k]? = some u->(W2.alloc (.cells #[.int .i64 v1,.int .i64 c1,.bool true] 138)).cell? ⟨w.heap.size+1+1,k,none⟩=some u:=fun k u h=>by rw [World.cell?_alloc_at _ _ _ _ hs2.symm];exact h
  have y0:=y 0 _ rfl;have y1:=y 1 _ rfl;have y2:=y 2 _ rfl;exact bodyPost_ret (v:=.agg #[.int .i64 v1,.int .i64 c1,.bool true]) (by simp [results,Tryz.results94,go_sem,y0,y1,y2]) rfl ⟨rfl,Below.al hb2 _⟩
def isSt (k:Int):Bool:=decide (0<=k) && decide (k<=2)
theorem noState_at {k:Int} {w:World} {t:Bool} (h:(!isSt k)=t):Calls Mz.prog 111 #[.int .i64 k] w fun e w'=>e=.returned (.bool t)/\w'=w:=by
 have h2:(decide (0<=k) && decide (k<=2))=!t:=by rw [<- h];simp [isSt]
 have H:=Hh h2;clear h h2
 go_enter (mz_func (i:=111) rfl Tryz.func111),Tryz.ntmps111
 go_wp2_with (go_at_call 112;(with_reducible refine (isState_at H.out).mono ?_);rintro e w' ⟨rfl,rfl⟩);go_ret;exact ⟨by simp,rfl⟩
section
variable {w:World} {a:Option Addr} {l:List Int} {c:Nat}
theorem badIndex_at (h:IntsAt w a l) (hl:l.length<=1000000):Calls Mz.prog 155 #[.slice a l.length c,.func (.func 111) #[] #[]] w fun e w'=>∃ r:Int,e=.returned (.int .i64 r)/\(0<=r↔∃ x∈l,isSt x=false)/\w'=w:=by
 have H:=Hh h;clear h
 go_enter (mz_func (i:=155) rfl Tryz.func155),Tryz.ntmps155
 go_wp2;go_loop [8] (fun i=>∃ k:Nat,k<=l.length/\i=.int .i64 k/\Hid (∀ j (hj:j < l.length),j < k->isSt l[j]=true)) (fun i=>l.length - (intOf i).toNat)
 case atStart=>exact ⟨0,Nat.zero_le _,rfl,fun j _ hj=>absurd hj (Nat.not_lt_zero _)⟩
 case round =>
  obtain ⟨k,hk,rfl,hno⟩:=hrel;by_cases hlt:k < l.length
  ·obtain ⟨b,o,rfl,hb,h1⟩:=H.out k hlt;obtain ⟨x,hx⟩:∃ x,l[k]=x:=⟨_,rfl⟩;rw [hx] at h1;have HX:=Hh hx;clear hx;cases he:isSt x
   ·have HE:=Hh (show (!isSt x)=true by rw [he];rfl);go_wp2_with (go_at_call 111;(with_reducible refine (noState_at HE.out).mono ?_);rintro e w' ⟨rfl,rfl⟩);go_ret;refine ⟨_,rfl,⟨fun _=>⟨x,?_,he⟩,fun _=>by omega⟩,rfl⟩;rw [<- HX.out];exact List.getElem_mem hlt
   ·have HE:=Hh (show (!isSt x)=false by rw [he];rfl);go_wp2_with (go_at_call 111;(with_reducible refine (noState_at HE.out).mono ?_);rintro e w' ⟨rfl,rfl⟩);go_round
    case rel =>
     refine ⟨k+1,hlt,by go_num,fun j hj hjk=>?_⟩;by_cases e:j < k
     ·exact hno.out j hj e
     ·obtain rfl:j=k:=by omega
      rw [HX.out];exact he
    case measure=>simp [intOf];omega
  ·obtain rfl:k=l.length:=by omega
   go_wp2;go_ret;refine ⟨_,rfl,⟨fun h=>by omega,fun ⟨x,hx,hf⟩=>?_⟩,rfl⟩;obtain ⟨j,hj,e⟩:=List.getElem_of_mem hx;have:=hno.out j hj hj;rw [e,hf] at this;cases this
theorem hasBad_at {t:Bool} (h:IntsAt w a l) (hl:l.length<=1000000) (ht:(l.any fun x=>!isSt x)=t):Calls Mz.prog 110 #[.slice a l.length c,.func (.func 111) #[] #[]] w fun e w'=>e=.returned (.bool t)/\w'=w:=by
 have H:=Hh h;have HT:=Hh ht;clear h ht
 go_enter (mz_func (i:=110) rfl Tryz.func110),Tryz.ntmps110
 go_wp2_with (go_at_call 155;(with_reducible refine (badIndex_at H.out hl).mono ?_);rintro e w' ⟨r,rfl,hr,rfl⟩);go_ret;refine ⟨?_,rfl⟩;have e:decide (0<=r)=t:=by
  rw [<- HT.out];cases hd:l.any fun x=>!isSt x
  ·simp only [List.any_eq_false] at hd;refine decide_eq_false fun h0=>?_;obtain ⟨x,hx,hf⟩:=hr.1 h0;have:=hd x hx;rw [hf] at this;simp at this
  ·simp only [List.any_eq_true] at hd;obtain ⟨x,hx,hf⟩:=hd;exact decide_eq_true (hr.2 ⟨x,hx,by simpa using hf⟩)
 rw [<- e];simp [hr]
end
attribute [local go_sem] Oper.semAt_some
def playAl (b:Fbk) (l path:List Int):Int:=if bookAl b≠0 then bookAl b else if l.length≠b.devs.length then 2 else if (l.any fun x=>!isSt x)=true then 1 else pathAl b.devs.length path
attribute [local go_sem] Oper.semAt_some
theorem add_off6 (b o j:Nat):Addr.add ⟨b,o,none⟩ j=⟨b,o+j,none⟩:=by unfold Addr.add;split <;> simp_all
theorem states_copied {l:List Int} (h:l.length<=6) (hs:∀ x∈l,0<=x):(l.map (Value.int .i64) ++ List.drop l.length [Value.int .i64 0,Value.int .i64 0,Value.int .i64 0,Value.int .i64 0,Value.int .i64 0,Value.int .i64 0]).toArray=statesV (stepsOf l):=by
 apply Array.ext_getElem?;intro j;have hz:∀ j,j < 6->([Value.int .i64 0,Value.int .i64 0,Value.int .i64 0,Value.int .i64 0,Value.int .i64 0,Value.int .i64 0]:List Value)[j]? = some (.int .i64 0):=fun j hj=>by
  have:j=0\/j=1\/j=2\/j=3\/j=4\/j=5:=by omega
  rcases this with rfl | rfl | rfl | rfl | rfl | rfl <;> rfl
 by_cases hj:j < 6
 ·rw [statesV_get _ hj];simp only [List.getElem?_toArray];by_cases hl:j < l.length
  ·rw [List.getElem?_append_left (by simpa using hl),List.getElem?_map,List.getElem?_eq_getElem hl];have h0:=hs _ (List.getElem_mem hl);simp only [Option.map_some,Option.some.injEq,Value.int.injEq,true_and];unfold stepsOf;rw [List.getD_eq_getElem?_getD,List.getElem?_eq_getElem hl,Option.getD_some];omega
  ·rw [List.getElem?_append_right (by simp;omega),List.length_map,List.getElem?_drop,show l.length+(j - l.length)=j by omega,hz j hj];have:stepsOf l j=0:=by
    unfold stepsOf;rw [List.getD_eq_getElem?_getD,List.getElem?_eq_none (by omega)];rfl
   rw [this];rfl
 ·have h1:(statesV (stepsOf l))[j]? = none:=Array.getElem?_eq_none (by show 6<=j;omega);rw [h1];apply Array.getElem?_eq_none;simp;omega
theorem copy_states {X:World} {g:Nat} {t:TypeId} {la:Option Addr} {lc:Nat} {l:List Int} (hg:X.heap[g]? = some (.cells #[Value.int .i64 0,Value.int .i64 0,Value.int .i64 0,Value.int .i64 0,Value.int .i64 0,Value.int .i64 0] t (0,0))) (hl:l.length<=6) (h1:1<=l.length) (hs:∀ x∈l,0<=x) (hI:IntsAt X la l) :
 ∃ w2,(Builtin.copy_ #[52,52] 3 #[.slice (some ⟨g,0,none⟩) 6 6,.slice la l.length lc]).run Mz.prog X=.ok (goInt l.length) w2/\w2.heap[g]? = some (.cells (statesV (stepsOf l)) t (0,0))/\KS (fun k=>k≠g) X w2:=by
 have hsz:(Mz.prog.info? 54).map (·.size)=some 1:=by
  show (Tryz.prog.info? 54).map _=_
  kernel_rfl
 obtain ⟨b0,o0,rfl,_,_⟩:=hI 0 (by omega);have hr:=run_copy_row (P:=Mz.prog) X 52 52 3 54 g 0 6 6 ⟨b0,o0,none⟩ l.length lc #[Value.int .i64 0,Value.int .i64 0,Value.int .i64 0,Value.int .i64 0,Value.int .i64 0,Value.int .i64 0] t (l.map (Value.int .i64)) (mzu Tryz.underlying52) hsz hg (by rw [List.length_map];exact (Nat.min_eq_left hl).symm) (fun j v hj=>by
  rw [List.getElem?_map] at hj
  obtain ⟨x,hx,rfl⟩:=Option.map_eq_some_iff.1 hj
  obtain ⟨hjl,rfl⟩:=List.getElem?_eq_some_iff.1 hx
  obtain ⟨b1,o1,e1,hlt1,hc1⟩:=hI j hjl
  cases e1
  rw [add_off6];exact hc1) (by rw [List.length_map];simp;omega) (fun u hu=>by obtain ⟨x,_,rfl⟩:=List.mem_map.1 hu;rfl)
 rw [List.length_map] at hr;refine ⟨_,hr,?_,⟨rfl,rfl,rfl,by simp [World.setRow],fun k _ hk=>setRow_other _ _ _ _ hk⟩⟩;rw [setRow_heap _ _ _ _ _ _ hg];have:=states_copied hl hs;simpa using this
end Mt
end Go.Proofs.YtgkajecjbflbbaaGreatDoor
