/- the fault laws -/
import Derived.Test.YtgkajecjbflbbaaGreatDoorGB20
set_option maxHeartbeats 2000000
set_option maxRecDepth 100000
set_option linter.all false
namespace Go.Proofs.YtgkajecjbflbbaaGreatDoor
namespace Mt
open Go Go.RowKit Go.Maps
attribute [local go_sem] Oper.semAt_some
theorem there8_at {n:Int} {m:Nat} {b:Bool} {w:World} (hm:m<=1000000) (h:inB n 0 ((m:Int) - 1)=b):Calls Mz.prog 82 #[.int .i64 n,.int .i64 m] w fun e w'=>e=.returned (.bool b)/\w'=w:=by
 have e1:IntKind.i64.wrap ((m:Int) - 1)=(m:Int) - 1:=IntWalk.i64_in _ (by omega);have H:=Hh h;clear h
 go_enter (mz_func (i:=82) rfl Tryz.func82),Tryz.ntmps82
 go_wp2_with (go_at_call 43;(with_reducible refine (rin_at H.out).mono ?_);rintro e w' ⟨rfl,rfl⟩);go_ret;exact ⟨rfl,rfl⟩
section
variable {b:Fbk} {vm vd vt:Value} {w:World} {pa:Option Addr} {l:List Int} {pc:Nat}
theorem rPath_at (hB:FBookAt w b vm vd vt) (hp:IntsAt w pa l) (hl:l.length<=1000000) (hc:l.length<=pc) :
 Calls Mz.prog 71 #[.agg #[vm,vd,vt],.slice pa l.length pc] w fun e w'=>e=.returned (.int .i64 (pathAl b.devs.length l))/\Below w.heap.size w w':=by
 obtain ⟨rfl,⟨da,dc,rfl,_,hdl⟩,ta,tc,rfl,_,_⟩:=hB;have hb0:Below w.heap.size w (w.alloc (.cells #[.int .i64 b.most,.slice da b.devs.length dc,.slice ta b.tests.length tc] 25)):=bel;have hp0:=hp.below hb0;cases h1:inB (l.length:Int) 1 6
 ·have ha:pathAl b.devs.length l=2:=by simp [pathAl,h1]
  have H1:=Hh h1;rw [ha];clear h1 ha hp0 hp
  go_enter (mz_func (i:=71) rfl Tryz.func71),Tryz.ntmps71
  go_wp2_with (go_at_call 43;(with_reducible refine (rin_at H1.out).mono ?_);rintro e w' ⟨rfl,rfl⟩);go_ret;exact ⟨rfl,hb0⟩
 ·have ha:pathAl b.devs.length l=goP b.devs.length [] l:=by simp [pathAl,h1]
  have H1:=Hh h1;have HP:=Hh hp0;rw [ha];clear h1 ha hp0 hp
  go_enter (mz_func (i:=71) rfl Tryz.func71),Tryz.ntmps71
  go_wp2_with (go_at_call 43;(with_reducible refine (rin_at H1.out).mono ?_);rintro e w' ⟨rfl,rfl⟩);obtain ⟨W0,hW0⟩:∃ W0,W0=w.alloc (.cells #[.int .i64 b.most,.slice da b.devs.length dc,.slice ta b.tests.length tc] 25):=⟨_,rfl⟩;rw [<- hW0] at hb0 HP ⊢;have q0:W0.cell? ⟨w.heap.size,1,none⟩=some (.slice da b.devs.length dc):=by rw [hW0,World.cell?_alloc_at _ _ _ _ rfl];rfl
  have HB:=Hh hb0;have hs0:w.heap.size < W0.heap.size:=by rw [hW0];simp
  clear hW0 hb0;go_loopw [5] (fun i wr=>∃ k:Nat,k<=l.length/\i=.int .i64 k/\Hid (goP b.devs.length (l.take k) (l.drop k)=goP b.devs.length [] l)/\Below W0.heap.size W0 wr) (fun i _=>l.length - (intOf i).toNat)
  case atStart=>exact ⟨0,Nat.zero_le _,rfl,by show goP _ (l.take 0) (l.drop 0)=_;simp,Below.refl _ _⟩
  case round =>
   obtain ⟨k,hk,rfl,hgo,hW⟩:=hrel;have hWs:=hW.size;obtain ⟨wo,rfl⟩:∃ x,x=wr:=⟨_,rfl⟩;by_cases hlt:k < l.length
   ·obtain ⟨pb,po,rfl,hpb,c1⟩:=(HP.out.below hW) k hlt;have q1:=(hW.cell (p:=⟨w.heap.size,1,none⟩) hs0).trans q0;have hst:=goP_step (n:=b.devs.length) hlt;rw [hgo.out] at hst;have HT:=Hh (IntsAt.take (HP.out.below hW) k);have hkc:k<=pc:=by omega
    have htl:(l.take k).length=k:=by rw [List.length_take];omega
    obtain ⟨x,hx⟩:∃ x,l[k]=x:=⟨_,rfl⟩;rw [hx] at c1 hst;have HW:=Hh hW;have HB1:=Hh (Below.next HB.out hW);clear hx hW hgo;cases hd:inB x 0 ((b.devs.length:Int) - 1)
    ·simp only [hd,if_true] at hst;have HD:=Hh hd;have HST:=Hh hst;clear hd hst;go_wp2;go_quiet ((go_at_call 82;with_reducible exact Calls.quiet_of_same (there8_at hdl HD.out)));go_wp2;go_ret;exact ⟨by rw [HST.out];rfl,by have hq:=HB1.out;(exact bel)⟩
    ·simp only [hd,Bool.true_eq_false,if_false] at hst;have HD:=Hh hd;clear hd;by_cases hm:x∈l.take k
     ·simp only [hm,if_true] at hst;have HST:=Hh hst;have HM:=Hh (show decide (x∈l.take k)=true by simpa using hm);clear hm hst;go_wp2;go_quiet ((go_at_call 82;with_reducible exact Calls.quiet_of_same (there8_at hdl HD.out)));go_wp2;obtain ⟨wp,hwp⟩:∃ wp,wp=wo.drewN nq:=⟨_,rfl⟩;rw [<- hwp];have hbp:Below wo.heap.size wo wp:=by rw [hwp];(exact bel)
      have c1p:=(hbp.cell hpb).trans c1;have HTX:=Hh (show ∀ n,IntsAt (wp.drewN n) (some ⟨pb,po,none⟩) (l.take k) from fun n i hi=>(HT.out.below hbp) i hi);have hpb2:pb < wp.heap.size:=Nat.lt_of_lt_of_le hpb hbp.size;clear hwp;go_quiet ((go_at_call 41;with_reducible exact Calls.quiet_of_same (hasNum_at (lc:=pc) (HTX.out _) htl.symm (by omega) HM.out)));go_wp2;go_ret;exact ⟨by rw [HST.out];rfl,by have hq:=HB1.out;(exact bel)⟩
     ·simp only [hm,if_false] at hst;have HST:=Hh hst;have HM:=Hh (show decide (x∈l.take k)=false by simpa using hm);clear hm hst;go_wp2;go_quiet ((go_at_call 82;with_reducible exact Calls.quiet_of_same (there8_at hdl HD.out)));go_wp2;obtain ⟨wp,hwp⟩:∃ wp,wp=wo.drewN nq:=⟨_,rfl⟩;rw [<- hwp];have hbp:Below wo.heap.size wo wp:=by rw [hwp];(exact bel)
      have c1p:=(hbp.cell hpb).trans c1;have HTX:=Hh (show ∀ n,IntsAt (wp.drewN n) (some ⟨pb,po,none⟩) (l.take k) from fun n i hi=>(HT.out.below hbp) i hi);have hpb2:pb < wp.heap.size:=Nat.lt_of_lt_of_le hpb hbp.size;clear hwp;go_quiet ((go_at_call 41;with_reducible exact Calls.quiet_of_same (hasNum_at (lc:=pc) (HTX.out _) htl.symm (by omega) HM.out)));go_wp2;go_roundw
      case rel=>exact ⟨k+1,hlt,by go_num,HST.out.symm,by have hq:=HW.out;(exact bel)⟩
      case measure=>simp [intOf];omega
   ·obtain rfl:k=l.length:=by omega
    have hgo:=hgo.out;rw [List.drop_length] at hgo;have HG:=Hh (show 0=goP b.devs.length [] l from hgo);have HB1:=Hh (Below.next HB.out hW);clear hgo hW;go_wp2;go_ret;exact ⟨by rw [<- HG.out];rfl,by have hq:=HB1.out;(exact bel)⟩
end
attribute [local go_sem] Oper.semAt_some
def rDevsAl (b:Fbk):Int:=if inB b.devs.length 1 6=false then 2 else goDv [] b.devs
abbrev nmL (m:Dev):List UInt8:=m.name.data.toList
theorem name_ne {s t:ByteArray} (h:s.data.toList≠t.data.toList):(s.toList == t.toList)=false:=by
 rw [ByteArray.toList_eq,ByteArray.toList_eq,beq_eq_false_iff_ne];exact h
theorem name_eq {s t:ByteArray} (h:s.data.toList=t.data.toList):s=t:=by
 obtain ⟨s⟩:=s;obtain ⟨t⟩:=t;have e:s=t:=Array.toList_inj.1 h;rw [e]
theorem goDv_step {l:List Dev} {k:Nat} (h:k < l.length):goDv ((l.take k).map nmL).reverse (l.drop k)=if isName (nmL l[k])=false then 4 else if nmL l[k]∈(l.take k).map nmL then 5 else if inB l[k].time 0 99=false then 1 else goDv ((l.take (k+1)).map nmL).reverse (l.drop (k+1)):=by
 rw [List.drop_eq_getElem_cons h];simp only [goDv,List.mem_reverse];rw [List.take_succ_eq_append_getElem h,List.map_append,List.reverse_append];rfl
section
variable {b:Fbk} {vm vd vt:Value} {w:World}
theorem rDevices_at (hB:FBookAt w b vm vd vt) (hN:∀ m∈b.devs,m.name.size<=1000000) {t:Int} (h:rDevsAl b=t) :
 Calls Mz.prog 124 #[.agg #[vm,vd,vt]] w fun e w'=>e=.returned (.int .i64 t)/\Below w.heap.size w w':=by
 have HN:=Hh hN;obtain ⟨rfl,⟨da,dc,rfl,hD,hdl⟩,ta,tc,rfl,_,_⟩:=hB;clear hN;unfold rDevsAl at h;cases h1:inB (b.devs.length:Int) 1 6
 ·rw [h1,if_pos rfl] at h;subst h;have H1:=Hh h1;clear h1 hD
  go_enter (mz_func (i:=124) rfl Tryz.func124),Tryz.ntmps124
  go_wp2_with (go_at_call 43;(with_reducible refine (rin_at H1.out).mono ?_);rintro e w' ⟨rfl,rfl⟩);go_ret;exact ⟨rfl,bel⟩
 ·rw [h1,if_neg (by decide)] at h;have H:=Hh h;have H1:=Hh h1;have HD:=Hh hD;clear h h1 hD
  go_enter (mz_func (i:=124) rfl Tryz.func124),Tryz.ntmps124
  go_wp2_with (go_at_call 43;(with_reducible refine (rin_at H1.out).mono ?_);rintro e w' ⟨rfl,rfl⟩);obtain ⟨W0,hW0⟩:∃ W0,W0=w.alloc (.cells #[.int .i64 b.most,.slice da b.devs.length dc,.slice ta b.tests.length tc] 25):=⟨_,rfl⟩;rw [<- hW0];have hb0:Below w.heap.size w W0:=by rw [hW0];(exact bel)
  have q0:W0.cell? ⟨w.heap.size,1,none⟩=some (.slice da b.devs.length dc):=by rw [hW0,World.cell?_alloc_at _ _ _ _ rfl];rfl
  have HB:=Hh hb0;have hs0:w.heap.size < W0.heap.size:=by rw [hW0];simp
  clear hW0 hb0;go_loopw [3] (fun i wr=>∃ k:Nat,k<=b.devs.length/\i=.int .i64 k/\Hid (goDv ((b.devs.take k).map nmL).reverse (b.devs.drop k)=t)/\Below W0.heap.size W0 wr) (fun i _=>b.devs.length - (intOf i).toNat)
  case atStart=>exact ⟨0,Nat.zero_le _,rfl,by show goDv ((b.devs.take 0).map nmL).reverse (b.devs.drop 0)=t;simpa using H.out,Below.refl _ _⟩
  case round =>
   obtain ⟨k,hk,rfl,hgo,hW⟩:=hrel;have hWs:=hW.size;obtain ⟨wo,rfl⟩:∃ x,x=wr:=⟨_,rfl⟩;have q1:=(hW.cell (p:=⟨w.heap.size,1,none⟩) hs0).trans q0;have HW:=Hh hW;have HBW:=Hh (Below.next HB.out hW);by_cases hlt:k < b.devs.length
   ·obtain ⟨db,dof,rfl,hdb,c0,c1,c2,c3⟩:=(HD.out.below HBW.out) k hlt;have hst:=goDv_step hlt;rw [hgo.out] at hst;have hnm:=HN.out _ (List.getElem_mem hlt);have HIN:=Hh (List.take_succ_eq_append_getElem hlt);obtain ⟨m,hm⟩:∃ m,b.devs[k]=m:=⟨_,rfl⟩;rw [hm] at c0 c1 c2 c3 hst hnm;obtain ⟨nm,he,bl,du⟩:=m;simp only at c0 c1 c2 c3 hst hnm;clear hgo hW;cases hn:isName nm.data.toList
    ·rw [show nmL (Dev.mk nm he bl du)=nm.data.toList from rfl,hn,if_pos rfl] at hst;subst hst;have H2:=Hh hn;clear hn hm;go_wp2_with (go_at_call 160;(with_reducible refine (rIsName_at _ _ hnm H2.out).mono ?_);rintro e w' ⟨rfl,rfl⟩);go_ret;exact ⟨rfl,by have hq:=HBW.out;(exact bel)⟩
    ·rw [show nmL (Dev.mk nm he bl du)=nm.data.toList from rfl,hn,if_neg (by decide)] at hst;have H2:=Hh hn;have HST:=Hh hst;clear hn hm hst;go_wp2_with (go_at_call 160;(with_reducible refine (rIsName_at _ _ hnm H2.out).mono ?_);rintro e w' ⟨rfl,rfl⟩);obtain ⟨W1,hW1⟩:∃ W1,W1=wo.alloc (.cells #[.string nm,.bool he,.bool bl,.int .i64 du] 74):=⟨_,rfl⟩;rw [<- hW1];have HB1:=Hh (show Below w.heap.size w W1 by rw [hW1];have hq:=HBW.out;(exact bel));have HBO:=Hh (show Below W0.heap.size W0 W1 by rw [hW1];have hq:=HW.out;(exact bel));have x0:W1.cell? ⟨wo.heap.size,0,none⟩=some (.string nm):=by rw [hW1,World.cell?_alloc_at _ _ _ _ rfl];rfl
     have x3:W1.cell? ⟨wo.heap.size,3,none⟩=some (.int .i64 du):=by rw [hW1,World.cell?_alloc_at _ _ _ _ rfl];rfl
     have q2:W1.cell? ⟨w.heap.size,1,none⟩=some (.slice (some ⟨db,dof,none⟩) b.devs.length dc):=(HBO.out.cell (p:=⟨w.heap.size,1,none⟩) hs0).trans q0;have hs1:wo.heap.size < W1.heap.size:=by rw [hW1];simp
     clear hW1 c0 c1 c2 c3 q1;go_loopw [5] (fun i wr=>∃ j:Nat,j<=k/\i=.int .i64 j/\Hid (nm.data.toList ∉ (b.devs.take j).map nmL)/\Below W1.heap.size W1 wr) (fun i _=>k - (intOf i).toNat)
     case atStart=>exact ⟨0,Nat.zero_le _,rfl,by simp [Hid],Below.refl _ _⟩
     case round =>
      obtain ⟨j,hj,rfl,hno,hX⟩:=hrel;have hXs:=hX.size;obtain ⟨wi,rfl⟩:∃ x,x=wr:=⟨_,rfl⟩;have x0i:=(hX.cell (p:=⟨wo.heap.size,0,none⟩) hs1).trans x0;have x3i:=(hX.cell (p:=⟨wo.heap.size,3,none⟩) hs1).trans x3;have q3:=(hX.cell (p:=⟨w.heap.size,1,none⟩) (by simp;omega)).trans q2;have HX:=Hh hX;by_cases hjk:j < k
      ·have hjl:j < b.devs.length:=by omega
       obtain ⟨db2,dof2,he2,hdb2,e0,_⟩:=(HD.out.below (Below.next HB1.out hX)) j hjl;cases he2;have htj:=List.take_succ_eq_append_getElem hjl;have hmem:b.devs[j]∈b.devs.take k:=List.mem_take_iff_getElem.2 ⟨j,by omega,rfl⟩;obtain ⟨n2,hn2⟩:∃ n2,b.devs[j].name=n2:=⟨_,rfl⟩;rw [hn2] at e0;have HTJ:=Hh htj;clear hX htj;by_cases hq:n2.data.toList=nm.data.toList
       ·have ht:t=5:=by rw [HST.out,if_pos (List.mem_map.2 ⟨_,hmem,by show b.devs[j].name.data.toList=_;rw [hn2];exact hq⟩)]
        obtain rfl:=name_eq hq;subst ht;clear hmem hn2 hq;go_wp2
        go_region
        go_wp2;go_ret;exact ⟨rfl,by have hq:=HB1.out;have hq2:=HX.out;(exact bel)⟩
       ·have hqb:(n2.toList == nm.toList)=false:=name_ne hq;have HN3:=Hh (show nm.data.toList ∉ (b.devs.take (j+1)).map nmL by
         rw [HTJ.out,List.map_append,List.mem_append]
         rintro (h | h)
         ·exact hno.out h
         ·rw [List.map_cons,List.map_nil,List.mem_singleton] at h
          exact hq (by rw [<- hn2];exact h.symm))
        clear hq hno hmem hn2;go_wp2
        go_region
        go_wp2;go_roundw
        case rel=>exact ⟨j+1,hjk,by go_num,HN3.out,by have hq:=HX.out;(exact bel)⟩
        case measure=>simp [intOf];omega
      ·obtain rfl:j=k:=by omega
       have hst:=HST.out;rw [if_neg hno.out] at hst;clear hX hno;cases hd:inB du 0 99
       ·rw [hd,if_pos rfl] at hst;subst hst;have H3:=Hh hd;clear hd;go_wp2_with (go_at_call 43;(with_reducible refine (rin_at H3.out).mono ?_);rintro e w' ⟨rfl,rfl⟩);go_ret;exact ⟨rfl,by have hq:=HB1.out;have hq2:=HX.out;(exact bel)⟩
       ·rw [hd,if_neg (by decide)] at hst;have HS3:=Hh hst.symm;have H3:=Hh hd;clear hd hst;go_wp2_with (go_at_call 43;(with_reducible refine (rin_at H3.out).mono ?_);rintro e w' ⟨rfl,rfl⟩);go_roundw
        case rel=>exact ⟨j+1,hlt,by go_num,HS3.out,HBO.out.trans (HX.out.mono (by have:=HBO.out.size;omega))⟩
        case measure=>simp [intOf];omega
   ·obtain rfl:k=b.devs.length:=by omega
    have hgo:=hgo.out;rw [List.drop_length] at hgo;have ht:t=0:=hgo.symm;subst ht;clear hgo hW;go_wp2;go_ret;exact ⟨rfl,HBW.out⟩
end
attribute [local go_sem] Oper.semAt_some
theorem devsAl_eq (b:Fbk):devsAl b=if inB b.most 0 2=false then 1 else rDevsAl b:=rfl
section
variable {b:Fbk} {vm vd vt:Value} {w:World}
theorem rCheckBook_at (hB:FBookAt w b vm vd vt) (hN:∀ m∈b.devs,m.name.size<=1000000) {t:Int} (h:bookAl b=t) :
 Calls Mz.prog 81 #[.agg #[vm,vd,vt]] w fun e w'=>e=.returned (.int .i64 t)/\Below w.heap.size w w':=by
 have HN:=Hh hN;have HB:=Hh hB;obtain ⟨rfl,⟨da,dc,rfl,hD,hdl⟩,ta,tc,rfl,hT,htl⟩:=hB;clear hN hD;unfold bookAl at h;rw [devsAl_eq] at h;cases h1:inB b.most 0 2
 ·simp [h1] at h;subst h;have H1:=Hh h1;clear h1 hT
  go_enter (mz_func (i:=81) rfl Tryz.func81),Tryz.ntmps81
  go_wp2_with (go_at_call 43;(with_reducible refine (rin_at H1.out).mono ?_);rintro e w' ⟨rfl,rfl⟩);go_ret;exact ⟨rfl,bel⟩
 ·simp only [h1,Bool.true_eq_false,if_false] at h;have H1:=Hh h1;obtain ⟨dv,hdv⟩:∃ dv,rDevsAl b=dv:=⟨_,rfl⟩;rw [hdv] at h;have HDV:=Hh hdv;clear h1 hdv;by_cases hz:dv=0
  ·subst hz;simp only [ne_eq,not_true_eq_false,if_false] at h;unfold testsAl at h;by_cases h6:6 < b.tests.length
   ·rw [if_pos h6] at h;subst h;have h6I:(6:Int) < (b.tests.length:Int):=by omega
    clear h6 hT
    go_enter (mz_func (i:=81) rfl Tryz.func81),Tryz.ntmps81
    go_wp2_with (first | (go_at_call 43;(with_reducible refine (rin_at H1.out).mono ?_);rintro e w' ⟨rfl,rfl⟩) | (go_at_call 124;(with_reducible refine (rDevices_at (HB.out.below (bel)) HN.out HDV.out).mono ?_);rintro e w1 ⟨rfl,hb1⟩;have q2:w1.cell? ⟨w.heap.size,2,none⟩=some (.slice ta b.tests.length tc):=(hb1.cell (p:=⟨w.heap.size,2,none⟩) (by simp)).trans (by rw [World.cell?_alloc_at _ _ _ _ rfl];rfl);have hs1:w.heap.size < w1.heap.size:=(by have:=hb1.size;simp at this;omega)));go_ret;exact ⟨rfl,bel⟩
   ·rw [if_neg h6] at h;have h6I:¬ (6:Int) < (b.tests.length:Int):=by omega
    have H:=Hh h;have HT:=Hh hT;clear h6 hT h
    go_enter (mz_func (i:=81) rfl Tryz.func81),Tryz.ntmps81
    go_wp2_with (first | (go_at_call 43;(with_reducible refine (rin_at H1.out).mono ?_);rintro e w' ⟨rfl,rfl⟩) | (go_at_call 124;(with_reducible refine (rDevices_at (HB.out.below (bel)) HN.out HDV.out).mono ?_);rintro e w1 ⟨rfl,hb1⟩;have q2:w1.cell? ⟨w.heap.size,2,none⟩=some (.slice ta b.tests.length tc):=(hb1.cell (p:=⟨w.heap.size,2,none⟩) (by simp)).trans (by rw [World.cell?_alloc_at _ _ _ _ rfl];rfl);have hs1:w.heap.size < w1.heap.size:=(by have:=hb1.size;simp at this;omega)));have q:∀ k u,(#[.int .i64 b.most,.slice da b.devs.length dc,.slice ta b.tests.length tc]:Array Value)[k]? = some u->w1.cell? ⟨w.heap.size,k,none⟩=some u:=fun k u hk=>(hb1.cell (p:=⟨w.heap.size,k,none⟩) (by simp)).trans (by rw [World.cell?_alloc_at _ _ _ _ rfl];exact hk);have q0:=q 0 _ rfl;have q1:=q 1 _ rfl;have HB1:=Hh (show Below w.heap.size w w1 from bel);clear q hb1;go_loopw [4] (fun i wr=>∃ k:Nat,k<=b.tests.length/\i=.int .i64 k/\Hid (goT b.devs.length (b.tests.drop k)=t)/\Below w1.heap.size w1 wr) (fun i _=>b.tests.length - (intOf i).toNat)
    case atStart=>exact ⟨0,Nat.zero_le _,rfl,by show goT _ (b.tests.drop 0)=t;exact H.out,Below.refl _ _⟩
    case round =>
     obtain ⟨k,hk,rfl,hgo,hW⟩:=hrel;have hWs:=hW.size;obtain ⟨wo,rfl⟩:∃ x,x=wr:=⟨_,rfl⟩;have x0:=(hW.cell (p:=⟨w.heap.size,0,none⟩) hs1).trans q0;have x1:=(hW.cell (p:=⟨w.heap.size,1,none⟩) hs1).trans q1;have x2:=(hW.cell (p:=⟨w.heap.size,2,none⟩) hs1).trans q2;have hso:w.heap.size < wo.heap.size:=by omega
     have HW:=Hh hW;have HBW:=Hh (Below.next HB1.out hW);have hgo2:=hgo.out;clear hgo hW;by_cases hlt:k < b.tests.length
     ·obtain ⟨tb,to,rfl,htb,pa,pc,c0,hpc,hpl,hpi,c1⟩:=(HT.out.below HBW.out) k hlt;rw [List.drop_eq_getElem_cons hlt] at hgo2;unfold goT at hgo2;have HBO:=Hh (HB.out.below HBW.out);have HPT:=Hh (rPath_at HBO.out hpi hpl hpc);have HBL:=Hh (fun (x:Bel wo)=>rPath_at (HBO.out.below (later_below wo x)) (hpi.below (later_below wo x)) hpl hpc);obtain ⟨pv,hpv⟩:∃ pv,pathAl b.devs.length b.tests[k].path=pv:=⟨_,rfl⟩;obtain ⟨sv,hsv⟩:∃ sv,b.tests[k].seen=sv:=⟨_,rfl⟩;rw [hpv] at hgo2 HBL;rw [hsv] at hgo2 c1;obtain ⟨pth,hpth⟩:∃ p,b.tests[k].path=p:=⟨_,rfl⟩;rw [hpth] at c0 hpc hpl hpi HBL;have HGO:=Hh hgo2;clear HPT hpv hsv hpth hgo2 hpi;by_cases hpz:pv=0
      ·subst hpz;have hgo2:=HGO.out;simp only [ne_eq,not_true_eq_false,if_false] at hgo2;by_cases hs0:sv < 0
       ·rw [if_pos hs0] at hgo2;subst hgo2;go_wp2
        (refine wp_region_bel (by kernel_rfl) (by kernel_rfl) ?_;(repeat (go_big_quiet_step ((go_at_call 71;with_reducible exact Calls.bel_of (HBL.out _)))));refine wpQuiet_nil ?_;rintro _ ⟨xq,rfl⟩)
        have hlx:Below wo.heap.size wo (later wo xq):=later_below _ _;have c1x:=(hlx.cell htb).trans c1;have x2x:=(hlx.cell (p:=⟨w.heap.size,2,none⟩) hso).trans x2;go_wp2;go_ret;exact ⟨rfl,Below.next HBW.out (later_below _ _)⟩
       ·rw [if_neg hs0] at hgo2;by_cases hs2:2 < sv
        ·rw [if_pos hs2] at hgo2;subst hgo2;go_wp2
         (refine wp_region_bel (by kernel_rfl) (by kernel_rfl) ?_;(repeat (go_big_quiet_step ((go_at_call 71;with_reducible exact Calls.bel_of (HBL.out _)))));refine wpQuiet_nil ?_;rintro _ ⟨xq,rfl⟩)
         go_wp2;go_ret;exact ⟨rfl,Below.next HBW.out (later_below _ _)⟩
        ·rw [if_neg hs2] at hgo2;have HG2:=Hh hgo2;clear hgo2;go_wp2
         (refine wp_region_bel (by kernel_rfl) (by kernel_rfl) ?_;(repeat (go_big_quiet_step ((go_at_call 71;with_reducible exact Calls.bel_of (HBL.out _)))));refine wpQuiet_nil ?_;rintro _ ⟨xq,rfl⟩)
         go_wp2;go_roundw
         case rel=>exact ⟨k+1,hlt,by go_num,HG2.out,Below.next HW.out (later_below _ _)⟩
         case measure=>simp [intOf];omega
      ·have hgo2:=HGO.out;rw [if_pos hpz] at hgo2;subst hgo2;have hpb:(pv != 0)=true:=by simpa using hpz
       go_wp2
       (refine wp_region_bel (by kernel_rfl) (by kernel_rfl) ?_;(repeat (go_big_quiet_step ((go_at_call 71;with_reducible exact Calls.bel_of (HBL.out _)))));refine wpQuiet_nil ?_;rintro _ ⟨xq,rfl⟩)
       go_wp2;go_ret;exact ⟨rfl,Below.next HBW.out (later_below _ _)⟩
     ·obtain rfl:k=b.tests.length:=by omega
      rw [List.drop_length] at hgo2;have ht:t=0:=hgo2.symm;subst ht;clear hgo2;go_wp2;go_ret;exact ⟨rfl,HBW.out⟩
  ·rw [if_pos hz] at h;subst h;have hzb:(dv != 0)=true:=by simpa using hz
   clear hT
   go_enter (mz_func (i:=81) rfl Tryz.func81),Tryz.ntmps81
   go_wp2_with (first | (go_at_call 43;(with_reducible refine (rin_at H1.out).mono ?_);rintro e w' ⟨rfl,rfl⟩) | (go_at_call 124;(with_reducible refine (rDevices_at (HB.out.below (bel)) HN.out HDV.out).mono ?_);rintro e w1 ⟨rfl,hb1⟩));go_ret;exact ⟨rfl,bel⟩
end
attribute [local go_sem] Oper.semAt_some
section
variable {w:World} {sa pa:Option Addr} {l:List Int} {sc pc n:Nat} {s:Nat->Nat}
end
attribute [local go_sem] Oper.semAt_some
section
variable {b:Fbk} {vm vd vt:Value} {w:World} {sa:Option Addr} {sc:Nat} {s:Nat->Nat}
end
end Mt
end Go.Proofs.YtgkajecjbflbbaaGreatDoor
