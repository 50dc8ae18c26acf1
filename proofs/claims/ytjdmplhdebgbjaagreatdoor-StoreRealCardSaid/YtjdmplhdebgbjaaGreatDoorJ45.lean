/- Leads to StoreReal of chapter 6: U11. -/
import Derived.Test.YtjdmplhdebgbjaaGreatDoorJ44
set_option maxHeartbeats 16000000
set_option maxRecDepth 100000
set_option linter.all false
namespace Go.Proofs.YtjdmplhdebgbjaaGreatDoor
open Go.RowKit Go.Maps Sp
def truTo (b:Bk) (c:List Int) (k:Nat):List Rec:=(b.rs.take k).map (truR b c)
theorem truTo_succ (b:Bk) (c:List Int) {k:Nat} (h:k < b.rs.length):truTo b c (k+1)=truTo b c k ++ [truR b c b.rs[k]]:=by
 unfold truTo;rw [List.take_succ_eq_append_getElem h,List.map_append];rfl
theorem truTo_all (b:Bk) (c:List Int):truTo b c b.rs.length=(truB b c).rs:=by
 unfold truTo truB;rw [List.take_length]
theorem truB_len (b:Bk) (c:List Int):(truB b c).rs.length=b.rs.length:=by simp [truB]
def TruRet (w:World) (b:Bk) (cl:List Int) (vr vg vm vs:Value) (e:Ending) (w':World):Prop:=∃ ra rc,e=.returned (.agg #[vr,vg,vm,vs,.slice ra b.rs.length rc])/\BookAt w' (truB b cl) vr vg vm vs (.slice ra b.rs.length rc)/\w'.ownsRow w.heap.size 84 4 (.slice ra b.rs.length rc) b.rs.length ((truB b cl).rs.flatMap cellsR)/\Below w.heap.size w w'
structure RecV (wr V:World) (k A B M:Int):Prop where
 bl:Below wr.heap.size wr V
 lt:wr.heap.size < V.heap.size
 c0:V.cell? ⟨wr.heap.size,0,none⟩=some (.int .i64 k)
 c1:V.cell? ⟨wr.heap.size,1,none⟩=some (.int .i64 A)
 c2:V.cell? ⟨wr.heap.size,2,none⟩=some (.int .i64 B)
 c3:V.cell? ⟨wr.heap.size,3,none⟩=some (.int .i64 M)
 fz:∀ i,V.frozen? ⟨wr.heap.size,i,none⟩=false
theorem RecV.new (wr:World) (k A B M:Int):RecV wr (wr.alloc (.cells #[.int .i64 k,.int .i64 A,.int .i64 B,.int .i64 M] 84)) k A B M:=by
 refine ⟨bel,by simp,?_,?_,?_,?_,fun i=>by rw [World.frozen?_alloc_at _ _ _ _ rfl]⟩ <;> (rw [World.cell?_alloc_at _ _ _ _ rfl];rfl)
theorem RecV.below {wr V V2:World} {k A B M:Int} (h:RecV wr V k A B M) (hb:Below V.heap.size V V2):RecV wr V2 k A B M :=
 ⟨Below.next h.bl hb,Nat.lt_of_lt_of_le h.lt hb.size,(hb.cell (p:=⟨wr.heap.size,0,none⟩) h.lt).trans h.c0,(hb.cell (p:=⟨wr.heap.size,1,none⟩) h.lt).trans h.c1,(hb.cell (p:=⟨wr.heap.size,2,none⟩) h.lt).trans h.c2,(hb.cell (p:=⟨wr.heap.size,3,none⟩) h.lt).trans h.c3,fun i=>(hb.frozen (p:=⟨wr.heap.size,i,none⟩) h.lt).trans (h.fz i)⟩
theorem RecV.put {wr V:World} {k A B M:Int} (h:RecV wr V k A B M) (i:Nat) (v:Value):Below wr.heap.size wr (V.setCell ⟨wr.heap.size,i,none⟩ v):=⟨h.bl.os,h.bl.tape,h.bl.output,by simpa using h.bl.size,fun q hq=>by
 rw [(KS.setCell (p:=fun q=>q≠wr.heap.size) (x:=⟨wr.heap.size,i,none⟩) (by simp) V v).block q (Nat.lt_of_lt_of_le hq h.bl.size) (by show q≠_;omega)]
 exact h.bl.block q hq⟩
theorem RecV.kind {wr V:World} {k A B M:Int} (h:RecV wr V k A B M) (k':Int):RecV wr (V.setCell ⟨wr.heap.size,0,none⟩ (.int .i64 k')) k' A B M:=by
 refine ⟨h.put 0 _,by simpa using h.lt,World.cell?_setCell_same' _ _ _ (by rw [h.c0];rfl),?_,?_,?_,fun i=>by rw [World.frozen?_setCell];exact h.fz i⟩
 ·rw [World.cell?_setCell_other (h:=fun e=>by injection e with _ e _;omega)];exact h.c1
 ·rw [World.cell?_setCell_other (h:=fun e=>by injection e with _ e _;omega)];exact h.c2
 ·rw [World.cell?_setCell_other (h:=fun e=>by injection e with _ e _;omega)];exact h.c3
theorem RecV.many {wr V:World} {k A B M:Int} (h:RecV wr V k A B M) (m':Int):RecV wr (V.setCell ⟨wr.heap.size,3,none⟩ (.int .i64 m')) k A B m':=by
 refine ⟨h.put 3 _,by simpa using h.lt,?_,?_,?_,World.cell?_setCell_same' _ _ _ (by rw [h.c3];rfl),fun i=>by rw [World.frozen?_setCell];exact h.fz i⟩
 ·rw [World.cell?_setCell_other (h:=fun e=>by injection e with _ e _;omega)];exact h.c0
 ·rw [World.cell?_setCell_other (h:=fun e=>by injection e with _ e _;omega)];exact h.c1
 ·rw [World.cell?_setCell_other (h:=fun e=>by injection e with _ e _;omega)];exact h.c2
section
variable {b:Bk} {vr vg vm vs vc:Value} {w:World} {la:Option Addr} {lc n:Nat} {cl:List Int}
theorem truly_at (hB:BookAt w b vr vg vm vs vc) (hk:bookAl b=0) (hL:IntsAt w la cl) (hn:n=cl.length) (hC:Really b cl) :
 Calls Tryz.prog 7 #[.agg #[vr,vg,vm,vs,vc],.slice la n lc] w (TruRet w b cl vr vg vm vs):=by
 subst hn;have HB:=Hh hB;have HP:=Hh hL;have HRE:=Hh hC;have hr5:=recs_len hk;have hll:=hC.1;have hcm:Came b cl:=fun i hi=>by
  obtain ⟨k1,k2,k3⟩:=hC.2 i (by omega);rw [getD_of_lt (by omega)];exact ⟨k1,k3⟩
 have HCM:=Hh hcm;have HLL:=Hh hll;have HBO:=Hh (bookAl_ok hk);have hss4:b.ss.length<=20:=by have:=(bookAl_ok hk).1.sl;omega
 obtain ⟨i0,hi,hz0,hz1,hz2⟩:=info_parts recInfo;obtain ⟨rfl,rfl,⟨ma,mc,rfl,_,_⟩,⟨sa,sc,rfl,hSS,_⟩,ra,rc,rfl,hRR,_⟩:=id hB;have HRR:=Hh hRR;have HSS:=Hh hSS;clear hB hL hC hRR hSS hcm hk hll
 go_enter Tryz.func7,Tryz.ntmps7
 go_wp2;obtain ⟨W0,hW0⟩:∃ W0,W0=((w.alloc (.cells #[.int .i64 b.room,.int .i64 b.gap,.slice ma b.ms.length mc,.slice sa b.ss.length sc,.slice ra b.rs.length rc] 26)).alloc (.cells #[.int .i64 0,.int .i64 0,.slice none 0 0,.slice none 0 0,.slice none 0 0] 26)).alloc (.cells #[.int .i64 b.room,.int .i64 b.gap,.slice ma b.ms.length mc,.slice sa b.ss.length sc,.slice none 0 0] 26):=⟨_,rfl⟩;rw [← hW0];have hb0:Below w.heap.size w W0:=by rw [hW0];(exact bel)
 have hs0:W0.heap.size=w.heap.size+3:=by rw [hW0];simp
 have x4:W0.cell? ⟨w.heap.size,4,none⟩=some (.slice ra b.rs.length rc):=by rw [hW0,World.cell?_alloc_past _ _ _ (by first | omega | (simp;done) | (simp;omega)),World.cell?_alloc_past _ _ _ (by first | omega | (simp;done) | (simp;omega)),World.cell?_alloc_at _ _ _ _ rfl];rfl
 have nn:∀ k u,(#[.int .i64 b.room,.int .i64 b.gap,.slice ma b.ms.length mc,.slice sa b.ss.length sc,.slice none 0 0]:Array Value)[k]? = some u->W0.cell? ⟨w.heap.size+1+1,k,none⟩=some u:=fun k u hk=>by
  rw [hW0,World.cell?_alloc_at _ _ _ _ (by simp)];exact hk
 have y4:=nn 4 _ rfl;have z4:W0.frozen? ⟨w.heap.size+1+1,4,none⟩=false:=by rw [hW0,World.frozen?_alloc_at _ _ _ _ (by simp)]
 have zz:∀ k,W0.frozen? ⟨w.heap.size+1,k,none⟩=false:=fun k=>by rw [hW0,World.frozen?_alloc_past _ _ _ (by simp),World.frozen?_alloc_at _ _ _ _ (by simp)]
 have zc:∀ k u,(#[.int .i64 0,.int .i64 0,.slice none 0 0,.slice none 0 0,.slice none 0 0]:Array Value)[k]? = some u->W0.cell? ⟨w.heap.size+1,k,none⟩=some u:=fun k u hk=>by
  rw [hW0,World.cell?_alloc_past _ _ _ (by simp),World.cell?_alloc_at _ _ _ _ (by simp)];exact hk
 have hle1:w.heap.size+3<=W0.heap.size:=by omega
 have zB:∀ k u,(#[.int .i64 b.room,.int .i64 b.gap,.slice ma b.ms.length mc,.slice sa b.ss.length sc,.slice ra b.rs.length rc]:Array Value)[k]? = some u->W0.cell? ⟨w.heap.size,k,none⟩=some u:=fun k u hk=>by
  rw [hW0,World.cell?_alloc_past _ _ _ (by first | omega | (simp;done) | (simp;omega)),World.cell?_alloc_past _ _ _ (by first | omega | (simp;done) | (simp;omega)),World.cell?_alloc_at _ _ _ _ rfl];exact hk
 have HZB:=Hh zB;have HN:=Hh nn;have HZ:=Hh zz;have HZC:=Hh zc;have HB0:=Hh hb0;clear hW0 nn hs0 zz zc hb0 zB;go_loopw [6] (fun i wr=>∃ (j:Nat) (a:Option Addr) (c:Nat),j<=b.rs.length/\i=.int .i64 j/\wr.cell? ⟨w.heap.size+1+1,4,none⟩=some (.slice a j c)/\wr.frozen? ⟨w.heap.size+1+1,4,none⟩=false/\wr.ownsRow W0.heap.size 84 4 (.slice a j c) j ((truTo b cl j).flatMap cellsR)/\KS (fun k=>k < W0.heap.size/\k≠w.heap.size+1+1) W0 wr/\Hid (∀ k,k≠4->wr.cell? ⟨w.heap.size+1+1,k,none⟩=W0.cell? ⟨w.heap.size+1+1,k,none⟩)) (fun i _=>b.rs.length - (intOf i).toNat)
 case atStart=>exact ⟨0,none,0,Nat.zero_le _,rfl,y4,z4,by simpa [truTo] using World.ownsRow_nil _ _ _ _,KS.refl _ _,fun _ _=>rfl⟩
 case round =>
  obtain ⟨j,a,c,hj,rfl,h1,h2,hrow,hW,hQ⟩:=hrel;have hWs:=hW.size;have hbc:∀ k,wr.cell? ⟨w.heap.size,k,none⟩=W0.cell? ⟨w.heap.size,k,none⟩:=fun k=>hW.cell (x:=⟨w.heap.size,k,none⟩) (by simp;omega) (by simp;omega);have b0:=(hbc 0).trans (HZB.out 0 _ rfl);have b1:=(hbc 1).trans (HZB.out 1 _ rfl);have b2:=(hbc 2).trans (HZB.out 2 _ rfl);have b3:=(hbc 3).trans (HZB.out 3 _ rfl);have b4:=(hbc 4).trans (HZB.out 4 _ rfl);have hwr:w.heap.size < wr.heap.size:=by omega
  by_cases hlt:j < b.rs.length
  ·have hral:=HBO.out.2 _ (List.getElem_mem hlt);have hsn:=truTo_succ b cl hlt;obtain ⟨sb,so,rfl,hsb,e0,e1,e2,e3⟩:=HRR.out j hlt;have hsW:=Nat.lt_of_lt_of_le hsb HB0.out.size;have g0:=(hW.cell (x:=⟨sb,so+j * 4,none⟩) hsW (by simp;omega)).trans ((HB0.out.cell (p:=⟨sb,so+j * 4,none⟩) hsb).trans e0);have g1:=(hW.cell (x:=⟨sb,so+j * 4+1,none⟩) hsW (by simp;omega)).trans ((HB0.out.cell (p:=⟨sb,so+j * 4+1,none⟩) hsb).trans e1);have g2:=(hW.cell (x:=⟨sb,so+j * 4+2,none⟩) hsW (by simp;omega)).trans ((HB0.out.cell (p:=⟨sb,so+j * 4+2,none⟩) hsb).trans e2);have g3:=(hW.cell (x:=⟨sb,so+j * 4+3,none⟩) hsW (by simp;omega)).trans ((HB0.out.cell (p:=⟨sb,so+j * 4+3,none⟩) hsb).trans e3);have hBw:Below w.heap.size w wr:=HB0.out.trans (hW.toBelow (n:=w.heap.size) (by omega) (fun k hk=>by omega));generalize b.rs[j]=r at g0 g1 g2 g3 hsn e0 e1 e2 e3 hral;obtain ⟨rk,rA,rb,rm⟩:=r;simp only at g0 g1 g2 g3;have hkk:=recAl_kind hral;simp only at hkk;have HRAL:=Hh hral;have HSN:=Hh hsn;have HROW:=Hh hrow;have HW:=Hh hW;have HBW:=Hh hBw;have hOr:w.heap.size+1+1 < wr.heap.size:=by omega
   have hsr:sb < wr.heap.size:=by omega
   have hBb:Below w.heap.size w wr:=hBw;clear e0 e1 e2 e3 hral hsn hrow hW hBw hbc;have hcase:rk=0∨rk=1∨rk=2∨rk=3∨rk=4∨rk=5:=by omega
   rcases hcase with rfl | rfl | rfl | rfl | rfl | rfl
   ·have hra:=recAl_a HRAL.out (by simp);simp only at hra;obtain ⟨q,rfl⟩:∃ q:Nat,rA=q:=⟨rA.toNat,by omega⟩;have hq:q < b.ss.length:=by omega
    have hqc:q < cl.length:=by rw [HLL.out];exact hq
    obtain ⟨cb,co,rfl,hcb,ec⟩:=HP.out q hqc;obtain ⟨tb,to2,rfl,htb,pa,pc,es,_,_,_⟩:=HSS.out q hq;obtain ⟨hc0,_,hc1⟩:=HRE.out.2 q hqc;have hR:truR b cl ⟨0,(q:Int),rb,rm⟩=⟨if cl[q]=(b.ss[q].length:Int) then 0 else 1,(q:Int),rb,rm⟩:=by
     have e1:cl.getD q 0=cl[q]:=getD_of_lt hqc;have e2:(b.ss[q]?).elim 0 List.length=b.ss[q].length:=by rw [List.getElem?_eq_getElem hq];rfl
     unfold truR;rw [if_pos (by simp)];simp only [Int.toNat_natCast,e1,e2]
    generalize cl[q]=cv at ec hc0 hc1 hR;generalize b.ss[q].length=ln at es hc1 hR;have fc:=(hBb.cell (p:=⟨cb,co+q,none⟩) hcb).trans ec;have fs:=(hBb.cell (p:=⟨tb,to2+q,none⟩) htb).trans es;have hcbr:cb < wr.heap.size:=by omega
    have htbr:tb < wr.heap.size:=by omega
    have HR:=Hh hR;clear ec es hcb htb hR;go_wp2;have hv:=RecV.new wr 1 (q:Int) rb rm;generalize (wr.alloc (.cells #[.int .i64 1,.int .i64 (q:Int),.int .i64 rb,.int .i64 rm] 84))=V at hv ⊢;have HV:=Hh hv;obtain ⟨hVb,hRV,r0,r1,r2,r3,f0⟩:=id hv;have z0:=f0 0;have z3:=f0 3;have uc:=(hVb.cell (p:=⟨cb,co+q,none⟩) hcbr).trans fc;have us:=(hVb.cell (p:=⟨tb,to2+q,none⟩) htbr).trans fs;have ub:=(hVb.cell (p:=⟨w.heap.size,3,none⟩) hwr).trans b3;have l1:cb < V.heap.size:=by have:=hVb.size;omega
    have l2:tb < V.heap.size:=by have:=hVb.size;omega
    have l3:w.heap.size < V.heap.size:=by have:=hVb.size;omega
    go_quiet (fail);have hv2:=RecV.below HV.out (bel:Below V.heap.size V (V.drewN nq));generalize V.drewN nq=V2 at hv2 ⊢;clear uc us ub l1 l2 l3 z0 z3 r0 r1 r2 r3 f0 hRV hVb hv HV;obtain ⟨hVb,hRV,r0,r1,r2,r3,f0⟩:=id hv2;have z0:=f0 0;have HV2:=Hh hv2;clear hv2;by_cases hcl:cv=(ln:Int)
    ·have e9:(cv == (ln:Int))=true:=by rw [beq_iff_eq];exact hcl
     have HR2:=Hh (HR.out.trans (by rw [if_pos hcl]));clear hcl
     go_upto_region 21 with fail
     have hv:=HV2.out.kind 0;generalize V2.setCell ⟨wr.heap.size,0,none⟩ (.int .i64 0)=V at hv ⊢;clear r0 r1 r2 r3 f0 z0 hRV hVb;obtain ⟨hVb,hRV,r0,r1,r2,r3,_⟩:=hv;have hV:=hVb.size;have v4:=(hVb.cell (p:=⟨w.heap.size+1+1,4,none⟩) hOr).trans h1;have f4:=(hVb.frozen (p:=⟨w.heap.size+1+1,4,none⟩) hOr).trans h2;have hOV:w.heap.size+1+1 < V.heap.size:=by omega
     have ROWV:=Hh (ownsRow_below HROW.out hVb);go_wp2_with (at_builtin;go_loud (refine wpList_append_own _ rfl _ _ 24 rfl W0.heap.size 84 i0 (.agg #[.int .i64 0,.int .i64 0,.int .i64 0,.int .i64 0]) 4 32 Tryz.underlying24 hi hz0 hz1 hz2 rfl (by decide) (.slice a j c) j _ rfl (ROWV.out.alloc _) ⟨V.heap.size,0,none⟩ 1 1 [.int .i64 0,.int .i64 (q:Int),.int .i64 rb,.int .i64 rm] rfl rfl (cells_new _ _ _) (by simp [Value.oneCell']) (by unfold maxLen;omega) (by omega) (by simp;omega) ?_;intro v' w5 hown' hgrow _;obtain ⟨g,cap,rfl⟩:=ownsRow_succ hown';have hks:=grow_ks (ROWV.out.alloc (.cells #[.int .i64 0,.int .i64 (q:Int),.int .i64 rb,.int .i64 rm] 84)) hgrow;have q1:=(hks.cell (x:=⟨w.heap.size+1+1,4,none⟩) (by simp;omega) (by simp;omega));have q2:=(hks.frozen (x:=⟨w.heap.size+1+1,4,none⟩) (by simp;omega) (by simp;omega));rw [World.cell?_alloc_past _ _ _ (by first | omega | (simp;omega)),v4] at q1;rw [World.frozen?_alloc_past _ _ _ (by first | omega | (simp;omega)),f4] at q2));have h8:KS (fun k=>k < W0.heap.size) wr w5:=((KS.all hVb _).trans (KS.alloc _ _ _)).trans hks;have h9:KS (fun k=>k≠w.heap.size+1+1) w5 (w5.setCell ⟨w.heap.size+1+1,4,none⟩ (.slice (some ⟨g,0,none⟩) (j+1) cap)):=KS.setCell (by simp) _ _;have H9:=Hh (⟨h8,h9,q1,q2,hown'⟩:_/\_/\_/\_/\_);clear h8 h9 q1 q2 hown' hgrow hks;go_roundw
     case rel =>
      obtain ⟨h8,h9,q1,q2,hown'⟩:=H9.out;refine ⟨j+1,some ⟨g,0,none⟩,cap,by omega,by go_num,?_,?_,?_,?_,fun k hk=>?_⟩
      ·exact World.cell?_setCell_same' _ _ _ (by rw [q1];rfl)
      ·rw [World.frozen?_setCell];exact q2
      ·rw [HSN.out,List.flatMap_append,HR2.out];exact ownsRow_ks hown' h9 (fun k hk=>by show k≠_;omega)
      ·exact HW.out.trans ((h8.mono fun k _ h=>h.1).trans (h9.mono fun k _ h=>h.2))
      ·rw [World.cell?_setCell_other (h:=fun e=>by injection e with _ e _;exact hk e.symm)];exact (h8.cell (x:=⟨w.heap.size+1+1,k,none⟩) hOr (by show w.heap.size+1+1 < W0.heap.size;omega)).trans (hQ.out k hk)
     case measure=>simp [intOf];omega
    ·have e9:(cv == (ln:Int))=false:=by rw [beq_eq_false_iff_ne];exact hcl
     have HR2:=Hh (HR.out.trans (by rw [if_neg hcl]));clear hcl
     go_upto_region 21 with fail
     have hv:=HV2.out;generalize V2=V at hv ⊢;clear r0 r1 r2 r3 f0 z0 hRV hVb;obtain ⟨hVb,hRV,r0,r1,r2,r3,_⟩:=hv;have hV:=hVb.size;have v4:=(hVb.cell (p:=⟨w.heap.size+1+1,4,none⟩) hOr).trans h1;have f4:=(hVb.frozen (p:=⟨w.heap.size+1+1,4,none⟩) hOr).trans h2;have hOV:w.heap.size+1+1 < V.heap.size:=by omega
     have ROWV:=Hh (ownsRow_below HROW.out hVb);go_wp2_with (at_builtin;go_loud (refine wpList_append_own _ rfl _ _ 24 rfl W0.heap.size 84 i0 (.agg #[.int .i64 0,.int .i64 0,.int .i64 0,.int .i64 0]) 4 32 Tryz.underlying24 hi hz0 hz1 hz2 rfl (by decide) (.slice a j c) j _ rfl (ROWV.out.alloc _) ⟨V.heap.size,0,none⟩ 1 1 [.int .i64 1,.int .i64 (q:Int),.int .i64 rb,.int .i64 rm] rfl rfl (cells_new _ _ _) (by simp [Value.oneCell']) (by unfold maxLen;omega) (by omega) (by simp;omega) ?_;intro v' w5 hown' hgrow _;obtain ⟨g,cap,rfl⟩:=ownsRow_succ hown';have hks:=grow_ks (ROWV.out.alloc (.cells #[.int .i64 1,.int .i64 (q:Int),.int .i64 rb,.int .i64 rm] 84)) hgrow;have q1:=(hks.cell (x:=⟨w.heap.size+1+1,4,none⟩) (by simp;omega) (by simp;omega));have q2:=(hks.frozen (x:=⟨w.heap.size+1+1,4,none⟩) (by simp;omega) (by simp;omega));rw [World.cell?_alloc_past _ _ _ (by first | omega | (simp;omega)),v4] at q1;rw [World.frozen?_alloc_past _ _ _ (by first | omega | (simp;omega)),f4] at q2));have h8:KS (fun k=>k < W0.heap.size) wr w5:=((KS.all hVb _).trans (KS.alloc _ _ _)).trans hks;have h9:KS (fun k=>k≠w.heap.size+1+1) w5 (w5.setCell ⟨w.heap.size+1+1,4,none⟩ (.slice (some ⟨g,0,none⟩) (j+1) cap)):=KS.setCell (by simp) _ _;have H9:=Hh (⟨h8,h9,q1,q2,hown'⟩:_/\_/\_/\_/\_);clear h8 h9 q1 q2 hown' hgrow hks;go_roundw
     case rel =>
      obtain ⟨h8,h9,q1,q2,hown'⟩:=H9.out;refine ⟨j+1,some ⟨g,0,none⟩,cap,by omega,by go_num,?_,?_,?_,?_,fun k hk=>?_⟩
      ·exact World.cell?_setCell_same' _ _ _ (by rw [q1];rfl)
      ·rw [World.frozen?_setCell];exact q2
      ·rw [HSN.out,List.flatMap_append,HR2.out];exact ownsRow_ks hown' h9 (fun k hk=>by show k≠_;omega)
      ·exact HW.out.trans ((h8.mono fun k _ h=>h.1).trans (h9.mono fun k _ h=>h.2))
      ·rw [World.cell?_setCell_other (h:=fun e=>by injection e with _ e _;exact hk e.symm)];exact (h8.cell (x:=⟨w.heap.size+1+1,k,none⟩) hOr (by show w.heap.size+1+1 < W0.heap.size;omega)).trans (hQ.out k hk)
     case measure=>simp [intOf];omega
   ·have hra:=recAl_a HRAL.out (by simp);simp only at hra;obtain ⟨q,rfl⟩:∃ q:Nat,rA=q:=⟨rA.toNat,by omega⟩;have hq:q < b.ss.length:=by omega
    have hqc:q < cl.length:=by rw [HLL.out];exact hq
    obtain ⟨cb,co,rfl,hcb,ec⟩:=HP.out q hqc;obtain ⟨tb,to2,rfl,htb,pa,pc,es,_,_,_⟩:=HSS.out q hq;obtain ⟨hc0,_,hc1⟩:=HRE.out.2 q hqc;have hR:truR b cl ⟨1,(q:Int),rb,rm⟩=⟨if cl[q]=(b.ss[q].length:Int) then 0 else 1,(q:Int),rb,rm⟩:=by
     have e1:cl.getD q 0=cl[q]:=getD_of_lt hqc;have e2:(b.ss[q]?).elim 0 List.length=b.ss[q].length:=by rw [List.getElem?_eq_getElem hq];rfl
     unfold truR;rw [if_pos (by simp)];simp only [Int.toNat_natCast,e1,e2]
    generalize cl[q]=cv at ec hc0 hc1 hR;generalize b.ss[q].length=ln at es hc1 hR;have fc:=(hBb.cell (p:=⟨cb,co+q,none⟩) hcb).trans ec;have fs:=(hBb.cell (p:=⟨tb,to2+q,none⟩) htb).trans es;have hcbr:cb < wr.heap.size:=by omega
    have htbr:tb < wr.heap.size:=by omega
    have HR:=Hh hR;clear ec es hcb htb hR;go_wp2;have hv:=RecV.new wr 1 (q:Int) rb rm;generalize (wr.alloc (.cells #[.int .i64 1,.int .i64 (q:Int),.int .i64 rb,.int .i64 rm] 84))=V at hv ⊢;have HV:=Hh hv;obtain ⟨hVb,hRV,r0,r1,r2,r3,f0⟩:=id hv;have z0:=f0 0;have z3:=f0 3;have uc:=(hVb.cell (p:=⟨cb,co+q,none⟩) hcbr).trans fc;have us:=(hVb.cell (p:=⟨tb,to2+q,none⟩) htbr).trans fs;have ub:=(hVb.cell (p:=⟨w.heap.size,3,none⟩) hwr).trans b3;have l1:cb < V.heap.size:=by have:=hVb.size;omega
    have l2:tb < V.heap.size:=by have:=hVb.size;omega
    have l3:w.heap.size < V.heap.size:=by have:=hVb.size;omega
    go_quiet (fail);have hv2:=RecV.below HV.out (bel:Below V.heap.size V (V.drewN nq));generalize V.drewN nq=V2 at hv2 ⊢;clear uc us ub l1 l2 l3 z0 z3 r0 r1 r2 r3 f0 hRV hVb hv HV;obtain ⟨hVb,hRV,r0,r1,r2,r3,f0⟩:=id hv2;have z0:=f0 0;have HV2:=Hh hv2;clear hv2;by_cases hcl:cv=(ln:Int)
    ·have e9:(cv == (ln:Int))=true:=by rw [beq_iff_eq];exact hcl
     have HR2:=Hh (HR.out.trans (by rw [if_pos hcl]));clear hcl
     go_upto_region 21 with fail
     have hv:=HV2.out.kind 0;generalize V2.setCell ⟨wr.heap.size,0,none⟩ (.int .i64 0)=V at hv ⊢;clear r0 r1 r2 r3 f0 z0 hRV hVb;obtain ⟨hVb,hRV,r0,r1,r2,r3,_⟩:=hv;have hV:=hVb.size;have v4:=(hVb.cell (p:=⟨w.heap.size+1+1,4,none⟩) hOr).trans h1;have f4:=(hVb.frozen (p:=⟨w.heap.size+1+1,4,none⟩) hOr).trans h2;have hOV:w.heap.size+1+1 < V.heap.size:=by omega
     have ROWV:=Hh (ownsRow_below HROW.out hVb);go_wp2_with (at_builtin;go_loud (refine wpList_append_own _ rfl _ _ 24 rfl W0.heap.size 84 i0 (.agg #[.int .i64 0,.int .i64 0,.int .i64 0,.int .i64 0]) 4 32 Tryz.underlying24 hi hz0 hz1 hz2 rfl (by decide) (.slice a j c) j _ rfl (ROWV.out.alloc _) ⟨V.heap.size,0,none⟩ 1 1 [.int .i64 0,.int .i64 (q:Int),.int .i64 rb,.int .i64 rm] rfl rfl (cells_new _ _ _) (by simp [Value.oneCell']) (by unfold maxLen;omega) (by omega) (by simp;omega) ?_;intro v' w5 hown' hgrow _;obtain ⟨g,cap,rfl⟩:=ownsRow_succ hown';have hks:=grow_ks (ROWV.out.alloc (.cells #[.int .i64 0,.int .i64 (q:Int),.int .i64 rb,.int .i64 rm] 84)) hgrow;have q1:=(hks.cell (x:=⟨w.heap.size+1+1,4,none⟩) (by simp;omega) (by simp;omega));have q2:=(hks.frozen (x:=⟨w.heap.size+1+1,4,none⟩) (by simp;omega) (by simp;omega));rw [World.cell?_alloc_past _ _ _ (by first | omega | (simp;omega)),v4] at q1;rw [World.frozen?_alloc_past _ _ _ (by first | omega | (simp;omega)),f4] at q2));have h8:KS (fun k=>k < W0.heap.size) wr w5:=((KS.all hVb _).trans (KS.alloc _ _ _)).trans hks;have h9:KS (fun k=>k≠w.heap.size+1+1) w5 (w5.setCell ⟨w.heap.size+1+1,4,none⟩ (.slice (some ⟨g,0,none⟩) (j+1) cap)):=KS.setCell (by simp) _ _;have H9:=Hh (⟨h8,h9,q1,q2,hown'⟩:_/\_/\_/\_/\_);clear h8 h9 q1 q2 hown' hgrow hks;go_roundw
     case rel =>
      obtain ⟨h8,h9,q1,q2,hown'⟩:=H9.out;refine ⟨j+1,some ⟨g,0,none⟩,cap,by omega,by go_num,?_,?_,?_,?_,fun k hk=>?_⟩
      ·exact World.cell?_setCell_same' _ _ _ (by rw [q1];rfl)
      ·rw [World.frozen?_setCell];exact q2
      ·rw [HSN.out,List.flatMap_append,HR2.out];exact ownsRow_ks hown' h9 (fun k hk=>by show k≠_;omega)
      ·exact HW.out.trans ((h8.mono fun k _ h=>h.1).trans (h9.mono fun k _ h=>h.2))
      ·rw [World.cell?_setCell_other (h:=fun e=>by injection e with _ e _;exact hk e.symm)];exact (h8.cell (x:=⟨w.heap.size+1+1,k,none⟩) hOr (by show w.heap.size+1+1 < W0.heap.size;omega)).trans (hQ.out k hk)
     case measure=>simp [intOf];omega
    ·have e9:(cv == (ln:Int))=false:=by rw [beq_eq_false_iff_ne];exact hcl
     have HR2:=Hh (HR.out.trans (by rw [if_neg hcl]));clear hcl
     go_upto_region 21 with fail
     have hv:=HV2.out;generalize V2=V at hv ⊢;clear r0 r1 r2 r3 f0 z0 hRV hVb;obtain ⟨hVb,hRV,r0,r1,r2,r3,_⟩:=hv;have hV:=hVb.size;have v4:=(hVb.cell (p:=⟨w.heap.size+1+1,4,none⟩) hOr).trans h1;have f4:=(hVb.frozen (p:=⟨w.heap.size+1+1,4,none⟩) hOr).trans h2;have hOV:w.heap.size+1+1 < V.heap.size:=by omega
     have ROWV:=Hh (ownsRow_below HROW.out hVb);go_wp2_with (at_builtin;go_loud (refine wpList_append_own _ rfl _ _ 24 rfl W0.heap.size 84 i0 (.agg #[.int .i64 0,.int .i64 0,.int .i64 0,.int .i64 0]) 4 32 Tryz.underlying24 hi hz0 hz1 hz2 rfl (by decide) (.slice a j c) j _ rfl (ROWV.out.alloc _) ⟨V.heap.size,0,none⟩ 1 1 [.int .i64 1,.int .i64 (q:Int),.int .i64 rb,.int .i64 rm] rfl rfl (cells_new _ _ _) (by simp [Value.oneCell']) (by unfold maxLen;omega) (by omega) (by simp;omega) ?_;intro v' w5 hown' hgrow _;obtain ⟨g,cap,rfl⟩:=ownsRow_succ hown';have hks:=grow_ks (ROWV.out.alloc (.cells #[.int .i64 1,.int .i64 (q:Int),.int .i64 rb,.int .i64 rm] 84)) hgrow;have q1:=(hks.cell (x:=⟨w.heap.size+1+1,4,none⟩) (by simp;omega) (by simp;omega));have q2:=(hks.frozen (x:=⟨w.heap.size+1+1,4,none⟩) (by simp;omega) (by simp;omega));rw [World.cell?_alloc_past _ _ _ (by first | omega | (simp;omega)),v4] at q1;rw [World.frozen?_alloc_past _ _ _ (by first | omega | (simp;omega)),f4] at q2));have h8:KS (fun k=>k < W0.heap.size) wr w5:=((KS.all hVb _).trans (KS.alloc _ _ _)).trans hks;have h9:KS (fun k=>k≠w.heap.size+1+1) w5 (w5.setCell ⟨w.heap.size+1+1,4,none⟩ (.slice (some ⟨g,0,none⟩) (j+1) cap)):=KS.setCell (by simp) _ _;have H9:=Hh (⟨h8,h9,q1,q2,hown'⟩:_/\_/\_/\_/\_);clear h8 h9 q1 q2 hown' hgrow hks;go_roundw
     case rel =>
      obtain ⟨h8,h9,q1,q2,hown'⟩:=H9.out;refine ⟨j+1,some ⟨g,0,none⟩,cap,by omega,by go_num,?_,?_,?_,?_,fun k hk=>?_⟩
      ·exact World.cell?_setCell_same' _ _ _ (by rw [q1];rfl)
      ·rw [World.frozen?_setCell];exact q2
      ·rw [HSN.out,List.flatMap_append,HR2.out];exact ownsRow_ks hown' h9 (fun k hk=>by show k≠_;omega)
      ·exact HW.out.trans ((h8.mono fun k _ h=>h.1).trans (h9.mono fun k _ h=>h.2))
      ·rw [World.cell?_setCell_other (h:=fun e=>by injection e with _ e _;exact hk e.symm)];exact (h8.cell (x:=⟨w.heap.size+1+1,k,none⟩) hOr (by show w.heap.size+1+1 < W0.heap.size;omega)).trans (hQ.out k hk)
     case measure=>simp [intOf];omega
   ·have hra:=recAl_a HRAL.out (by simp);simp only at hra;obtain ⟨q,rfl⟩:∃ q:Nat,rA=q:=⟨rA.toNat,by omega⟩;have hq:q < b.ss.length:=by omega
    have hqc:q < cl.length:=by rw [HLL.out];exact hq
    obtain ⟨cb,co,rfl,hcb,ec⟩:=HP.out q hqc;obtain ⟨tb,to2,rfl,htb,pa,pc,es,_,_,_⟩:=HSS.out q hq;obtain ⟨hc0,_,hc1⟩:=HRE.out.2 q hqc;have e1:cl[q]?.getD 0=cl[q]:=by rw [List.getElem?_eq_getElem hqc];rfl
    have hR:truR b cl ⟨2,(q:Int),rb,rm⟩=⟨2,(q:Int),rb,min rm cl[q]⟩:=by unfold truR;simp [e1]
    generalize cl[q]=cv at ec hc0 hc1 hR e1;have fc:=(hBb.cell (p:=⟨cb,co+q,none⟩) hcb).trans ec;have fs:=(hBb.cell (p:=⟨tb,to2+q,none⟩) htb).trans es;have hcbr:cb < wr.heap.size:=by omega
    have htbr:tb < wr.heap.size:=by omega
    have HR:=Hh hR;clear ec es hcb htb hR;clear e1;go_wp2;have hv:=RecV.new wr 2 (q:Int) rb rm;generalize (wr.alloc (.cells #[.int .i64 2,.int .i64 (q:Int),.int .i64 rb,.int .i64 rm] 84))=V at hv ⊢;have HV:=Hh hv;obtain ⟨hVb,hRV,r0,r1,r2,r3,f0⟩:=id hv;have z0:=f0 0;have z3:=f0 3;have uc:=(hVb.cell (p:=⟨cb,co+q,none⟩) hcbr).trans fc;have us:=(hVb.cell (p:=⟨tb,to2+q,none⟩) htbr).trans fs;have ub:=(hVb.cell (p:=⟨w.heap.size,3,none⟩) hwr).trans b3;have l1:cb < V.heap.size:=by have:=hVb.size;omega
    have l2:tb < V.heap.size:=by have:=hVb.size;omega
    have l3:w.heap.size < V.heap.size:=by have:=hVb.size;omega
    go_still_tail 9,(by kernel_rfl)
    change wpList _ _ _ _ _ V.drew;have hv2:=RecV.below HV.out (bel:Below V.heap.size V V.drew);generalize V.drew=V2 at hv2 ⊢;clear uc us ub l1 l2 l3 z0 z3 r0 r1 r2 r3 f0 hRV hVb hv HV;obtain ⟨hVb,hRV,r0,r1,r2,r3,f0⟩:=id hv2;have z3:=f0 3;have HV2:=Hh hv2;clear hv2
    go_upto_region 21 with fail
    have hv:=HV2.out.many (min rm cv);generalize V2.setCell ⟨wr.heap.size,3,none⟩ (.int .i64 (min rm cv))=V at hv ⊢;clear r0 r1 r2 r3 f0 z3 hRV hVb;obtain ⟨hVb,hRV,r0,r1,r2,r3,_⟩:=hv;have hV:=hVb.size;have v4:=(hVb.cell (p:=⟨w.heap.size+1+1,4,none⟩) hOr).trans h1;have f4:=(hVb.frozen (p:=⟨w.heap.size+1+1,4,none⟩) hOr).trans h2;have hOV:w.heap.size+1+1 < V.heap.size:=by omega
    have ROWV:=Hh (ownsRow_below HROW.out hVb);go_wp2_with (at_builtin;go_loud (refine wpList_append_own _ rfl _ _ 24 rfl W0.heap.size 84 i0 (.agg #[.int .i64 0,.int .i64 0,.int .i64 0,.int .i64 0]) 4 32 Tryz.underlying24 hi hz0 hz1 hz2 rfl (by decide) (.slice a j c) j _ rfl (ROWV.out.alloc _) ⟨V.heap.size,0,none⟩ 1 1 [.int .i64 2,.int .i64 (q:Int),.int .i64 rb,.int .i64 (min rm cv)] rfl rfl (cells_new _ _ _) (by simp [Value.oneCell']) (by unfold maxLen;omega) (by omega) (by simp;omega) ?_;intro v' w5 hown' hgrow _;obtain ⟨g,cap,rfl⟩:=ownsRow_succ hown';have hks:=grow_ks (ROWV.out.alloc (.cells #[.int .i64 2,.int .i64 (q:Int),.int .i64 rb,.int .i64 (min rm cv)] 84)) hgrow;have q1:=(hks.cell (x:=⟨w.heap.size+1+1,4,none⟩) (by simp;omega) (by simp;omega));have q2:=(hks.frozen (x:=⟨w.heap.size+1+1,4,none⟩) (by simp;omega) (by simp;omega));rw [World.cell?_alloc_past _ _ _ (by first | omega | (simp;omega)),v4] at q1;rw [World.frozen?_alloc_past _ _ _ (by first | omega | (simp;omega)),f4] at q2));have h8:KS (fun k=>k < W0.heap.size) wr w5:=((KS.all hVb _).trans (KS.alloc _ _ _)).trans hks;have h9:KS (fun k=>k≠w.heap.size+1+1) w5 (w5.setCell ⟨w.heap.size+1+1,4,none⟩ (.slice (some ⟨g,0,none⟩) (j+1) cap)):=KS.setCell (by simp) _ _;have H9:=Hh (⟨h8,h9,q1,q2,hown'⟩:_/\_/\_/\_/\_);clear h8 h9 q1 q2 hown' hgrow hks;go_roundw
    case rel =>
     obtain ⟨h8,h9,q1,q2,hown'⟩:=H9.out;refine ⟨j+1,some ⟨g,0,none⟩,cap,by omega,by go_num,?_,?_,?_,?_,fun k hk=>?_⟩
     ·exact World.cell?_setCell_same' _ _ _ (by rw [q1];rfl)
     ·rw [World.frozen?_setCell];exact q2
     ·rw [HSN.out,List.flatMap_append,HR.out];exact ownsRow_ks hown' h9 (fun k hk=>by show k≠_;omega)
     ·exact HW.out.trans ((h8.mono fun k _ h=>h.1).trans (h9.mono fun k _ h=>h.2))
     ·rw [World.cell?_setCell_other (h:=fun e=>by injection e with _ e _;exact hk e.symm)];exact (h8.cell (x:=⟨w.heap.size+1+1,k,none⟩) hOr (by show w.heap.size+1+1 < W0.heap.size;omega)).trans (hQ.out k hk)
    case measure=>simp [intOf];omega
   ·have hra:=recAl_a HRAL.out (by simp);simp only at hra;obtain ⟨q,rfl⟩:∃ q:Nat,rA=q:=⟨rA.toNat,by omega⟩;have hq:q < b.ss.length:=by omega
    have hqc:q < cl.length:=by rw [HLL.out];exact hq
    obtain ⟨cb,co,rfl,hcb,ec⟩:=HP.out q hqc;obtain ⟨tb,to2,rfl,htb,pa,pc,es,_,_,_⟩:=HSS.out q hq;obtain ⟨hc0,_,hc1⟩:=HRE.out.2 q hqc;have e1:cl[q]?.getD 0=cl[q]:=by rw [List.getElem?_eq_getElem hqc];rfl
    have hR:truR b cl ⟨3,(q:Int),rb,rm⟩=⟨3,(q:Int),rb,max rm cl[q]⟩:=by unfold truR;simp [e1]
    generalize cl[q]=cv at ec hc0 hc1 hR e1;have fc:=(hBb.cell (p:=⟨cb,co+q,none⟩) hcb).trans ec;have fs:=(hBb.cell (p:=⟨tb,to2+q,none⟩) htb).trans es;have hcbr:cb < wr.heap.size:=by omega
    have htbr:tb < wr.heap.size:=by omega
    have HR:=Hh hR;clear ec es hcb htb hR;clear e1;go_wp2;have hv:=RecV.new wr 3 (q:Int) rb rm;generalize (wr.alloc (.cells #[.int .i64 3,.int .i64 (q:Int),.int .i64 rb,.int .i64 rm] 84))=V at hv ⊢;have HV:=Hh hv;obtain ⟨hVb,hRV,r0,r1,r2,r3,f0⟩:=id hv;have z0:=f0 0;have z3:=f0 3;have uc:=(hVb.cell (p:=⟨cb,co+q,none⟩) hcbr).trans fc;have us:=(hVb.cell (p:=⟨tb,to2+q,none⟩) htbr).trans fs;have ub:=(hVb.cell (p:=⟨w.heap.size,3,none⟩) hwr).trans b3;have l1:cb < V.heap.size:=by have:=hVb.size;omega
    have l2:tb < V.heap.size:=by have:=hVb.size;omega
    have l3:w.heap.size < V.heap.size:=by have:=hVb.size;omega
    go_still_tail 9,(by kernel_rfl)
    change wpList _ _ _ _ _ V.drew;have hv2:=RecV.below HV.out (bel:Below V.heap.size V V.drew);generalize V.drew=V2 at hv2 ⊢;clear uc us ub l1 l2 l3 z0 z3 r0 r1 r2 r3 f0 hRV hVb hv HV;obtain ⟨hVb,hRV,r0,r1,r2,r3,f0⟩:=id hv2;have z3:=f0 3;have HV2:=Hh hv2;clear hv2
    go_upto_region 21 with fail
    have hv:=HV2.out.many (max rm cv);generalize V2.setCell ⟨wr.heap.size,3,none⟩ (.int .i64 (max rm cv))=V at hv ⊢;clear r0 r1 r2 r3 f0 z3 hRV hVb;obtain ⟨hVb,hRV,r0,r1,r2,r3,_⟩:=hv;have hV:=hVb.size;have v4:=(hVb.cell (p:=⟨w.heap.size+1+1,4,none⟩) hOr).trans h1;have f4:=(hVb.frozen (p:=⟨w.heap.size+1+1,4,none⟩) hOr).trans h2;have hOV:w.heap.size+1+1 < V.heap.size:=by omega
    have ROWV:=Hh (ownsRow_below HROW.out hVb);go_wp2_with (at_builtin;go_loud (refine wpList_append_own _ rfl _ _ 24 rfl W0.heap.size 84 i0 (.agg #[.int .i64 0,.int .i64 0,.int .i64 0,.int .i64 0]) 4 32 Tryz.underlying24 hi hz0 hz1 hz2 rfl (by decide) (.slice a j c) j _ rfl (ROWV.out.alloc _) ⟨V.heap.size,0,none⟩ 1 1 [.int .i64 3,.int .i64 (q:Int),.int .i64 rb,.int .i64 (max rm cv)] rfl rfl (cells_new _ _ _) (by simp [Value.oneCell']) (by unfold maxLen;omega) (by omega) (by simp;omega) ?_;intro v' w5 hown' hgrow _;obtain ⟨g,cap,rfl⟩:=ownsRow_succ hown';have hks:=grow_ks (ROWV.out.alloc (.cells #[.int .i64 3,.int .i64 (q:Int),.int .i64 rb,.int .i64 (max rm cv)] 84)) hgrow;have q1:=(hks.cell (x:=⟨w.heap.size+1+1,4,none⟩) (by simp;omega) (by simp;omega));have q2:=(hks.frozen (x:=⟨w.heap.size+1+1,4,none⟩) (by simp;omega) (by simp;omega));rw [World.cell?_alloc_past _ _ _ (by first | omega | (simp;omega)),v4] at q1;rw [World.frozen?_alloc_past _ _ _ (by first | omega | (simp;omega)),f4] at q2));have h8:KS (fun k=>k < W0.heap.size) wr w5:=((KS.all hVb _).trans (KS.alloc _ _ _)).trans hks;have h9:KS (fun k=>k≠w.heap.size+1+1) w5 (w5.setCell ⟨w.heap.size+1+1,4,none⟩ (.slice (some ⟨g,0,none⟩) (j+1) cap)):=KS.setCell (by simp) _ _;have H9:=Hh (⟨h8,h9,q1,q2,hown'⟩:_/\_/\_/\_/\_);clear h8 h9 q1 q2 hown' hgrow hks;go_roundw
    case rel =>
     obtain ⟨h8,h9,q1,q2,hown'⟩:=H9.out;refine ⟨j+1,some ⟨g,0,none⟩,cap,by omega,by go_num,?_,?_,?_,?_,fun k hk=>?_⟩
     ·exact World.cell?_setCell_same' _ _ _ (by rw [q1];rfl)
     ·rw [World.frozen?_setCell];exact q2
     ·rw [HSN.out,List.flatMap_append,HR.out];exact ownsRow_ks hown' h9 (fun k hk=>by show k≠_;omega)
     ·exact HW.out.trans ((h8.mono fun k _ h=>h.1).trans (h9.mono fun k _ h=>h.2))
     ·rw [World.cell?_setCell_other (h:=fun e=>by injection e with _ e _;exact hk e.symm)];exact (h8.cell (x:=⟨w.heap.size+1+1,k,none⟩) hOr (by show w.heap.size+1+1 < W0.heap.size;omega)).trans (hQ.out k hk)
    case measure=>simp [intOf];omega
   ·have hR:truR b cl ⟨4,rA,rb,rm⟩=⟨4,rA,rb,copies b cl (rA,rb)⟩:=by unfold truR;simp
    generalize hct:copies b cl (rA,rb)=ct at hR;have HCT:=Hh hct;have HR:=Hh hR;have HBB:=Hh hBb;clear hct hR;go_wp2;have hv:=RecV.new wr 4 rA rb rm;generalize (wr.alloc (.cells #[.int .i64 4,.int .i64 rA,.int .i64 rb,.int .i64 rm] 84))=V at hv ⊢;have HV:=Hh hv;obtain ⟨hVb,hRV,r0,r1,r2,r3,f0⟩:=id hv;have z3:=f0 3;have u0:=(hVb.cell (p:=⟨w.heap.size,0,none⟩) hwr).trans b0;have u1:=(hVb.cell (p:=⟨w.heap.size,1,none⟩) hwr).trans b1;have u2:=(hVb.cell (p:=⟨w.heap.size,2,none⟩) hwr).trans b2;have u3:=(hVb.cell (p:=⟨w.heap.size,3,none⟩) hwr).trans b3;have u4:=(hVb.cell (p:=⟨w.heap.size,4,none⟩) hwr).trans b4;have l3:w.heap.size < V.heap.size:=by have:=hVb.size;omega
    have HS1:=Hh (fun (w':World) (h:Below V.heap.size V w')=>(⟨Below.next hVb h,(h.cell (p:=⟨w.heap.size,0,none⟩) l3).trans u0,(h.cell (p:=⟨w.heap.size,1,none⟩) l3).trans u1,(h.cell (p:=⟨w.heap.size,2,none⟩) l3).trans u2,(h.cell (p:=⟨w.heap.size,3,none⟩) l3).trans u3,(h.cell (p:=⟨w.heap.size,4,none⟩) l3).trans u4,(h.cell (p:=⟨wr.heap.size,1,none⟩) hRV).trans r1,(h.cell (p:=⟨wr.heap.size,2,none⟩) hRV).trans r2⟩:Below wr.heap.size wr w'/\w'.cell? ⟨w.heap.size,0,none⟩=some (.int .i64 b.room)/\w'.cell? ⟨w.heap.size,1,none⟩=some (.int .i64 b.gap)/\w'.cell? ⟨w.heap.size,2,none⟩=some (.slice ma b.ms.length mc)/\w'.cell? ⟨w.heap.size,3,none⟩=some (.slice sa b.ss.length sc)/\w'.cell? ⟨w.heap.size,4,none⟩=some (.slice (some ⟨sb,so,none⟩) b.rs.length rc)/\w'.cell? ⟨wr.heap.size,1,none⟩=some (.int .i64 rA)/\w'.cell? ⟨wr.heap.size,2,none⟩=some (.int .i64 rb)));have HSP:=Hh (fun (X:World) (v:Int) (h:Below V.heap.size V X)=>(by
     have hm:=(HV.out.below h).many v
     have hp:=hm.bl
     exact ⟨hp,(hp.cell (p:=⟨w.heap.size,0,none⟩) hwr).trans b0,(hp.cell (p:=⟨w.heap.size,1,none⟩) hwr).trans b1,(hp.cell (p:=⟨w.heap.size,2,none⟩) hwr).trans b2,(hp.cell (p:=⟨w.heap.size,3,none⟩) hwr).trans b3,(hp.cell (p:=⟨w.heap.size,4,none⟩) hwr).trans b4,hm.c1,hm.c2⟩:Below wr.heap.size wr (X.setCell ⟨wr.heap.size,3,none⟩ (.int .i64 v))/\(X.setCell ⟨wr.heap.size,3,none⟩ (.int .i64 v)).cell? ⟨w.heap.size,0,none⟩=some (.int .i64 b.room)/\(X.setCell ⟨wr.heap.size,3,none⟩ (.int .i64 v)).cell? ⟨w.heap.size,1,none⟩=some (.int .i64 b.gap)/\(X.setCell ⟨wr.heap.size,3,none⟩ (.int .i64 v)).cell? ⟨w.heap.size,2,none⟩=some (.slice ma b.ms.length mc)/\(X.setCell ⟨wr.heap.size,3,none⟩ (.int .i64 v)).cell? ⟨w.heap.size,3,none⟩=some (.slice sa b.ss.length sc)/\(X.setCell ⟨wr.heap.size,3,none⟩ (.int .i64 v)).cell? ⟨w.heap.size,4,none⟩=some (.slice (some ⟨sb,so,none⟩) b.rs.length rc)/\(X.setCell ⟨wr.heap.size,3,none⟩ (.int .i64 v)).cell? ⟨wr.heap.size,1,none⟩=some (.int .i64 rA)/\(X.setCell ⟨wr.heap.size,3,none⟩ (.int .i64 v)).cell? ⟨wr.heap.size,2,none⟩=some (.int .i64 rb)))
    go_region_held3 (fun w'=>Below wr.heap.size wr w'/\w'.cell? ⟨w.heap.size,0,none⟩=some (.int .i64 b.room)/\w'.cell? ⟨w.heap.size,1,none⟩=some (.int .i64 b.gap)/\w'.cell? ⟨w.heap.size,2,none⟩=some (.slice ma b.ms.length mc)/\w'.cell? ⟨w.heap.size,3,none⟩=some (.slice sa b.ss.length sc)/\w'.cell? ⟨w.heap.size,4,none⟩=some (.slice (some ⟨sb,so,none⟩) b.rs.length rc)/\w'.cell? ⟨wr.heap.size,1,none⟩=some (.int .i64 rA)/\w'.cell? ⟨wr.heap.size,2,none⟩=some (.int .i64 rb))
     ((go_split_ands;first | exact HSP.out _ _ (bel) | exact HS1.out _ (bel)))
     (first
       | (go_at_call 8;go_split_ands;(with_reducible refine (part_at _ _ _).mono ?_);rintro e w1 ⟨rfl,hb1⟩;have hbr1:Below V.heap.size V w1:=bel)
       | (go_at_call 17;go_split_ands;(with_reducible refine (rCopies_at (HB.out.below (Below.next HBB.out ‹Below wr.heap.size wr _›)) HBO.out.1 (HP.out.below (Below.next HBB.out ‹Below wr.heap.size wr _›)) rfl HLL.out HCM.out (rA,rb) HCT.out).mono ?_);rintro e w2 ⟨rfl,hb2⟩;have hbr2:Below V.heap.size V w2:=bel;have r3w:=(HV.out.below hbr2).c3;have z3w:=(HV.out.below hbr2).fz 3;have hlw2:=(HV.out.below hbr2).lt)
       | fail "no arm")
    all_goals
     have hv3:=(HV.out.below hbr2).many ct;clear u0 u1 u2 u3 u4 r0 r1 r2 r3 f0 z3 l3 hVb hRV hv r3w z3w hlw2 hb2 hb1 hbr1 hbr2 HV HS1 HSP;generalize w2.setCell ⟨wr.heap.size,3,none⟩ (.int .i64 ct)=V at hv3 ⊢;have hv:=hv3;clear hv3;obtain ⟨hVb,hRV,r0,r1,r2,r3,_⟩:=hv;have hV:=hVb.size;have v4:=(hVb.cell (p:=⟨w.heap.size+1+1,4,none⟩) hOr).trans h1;have f4:=(hVb.frozen (p:=⟨w.heap.size+1+1,4,none⟩) hOr).trans h2;have hOV:w.heap.size+1+1 < V.heap.size:=by omega
     have ROWV:=Hh (ownsRow_below HROW.out hVb);go_wp2_with (at_builtin;go_loud (refine wpList_append_own _ rfl _ _ 24 rfl W0.heap.size 84 i0 (.agg #[.int .i64 0,.int .i64 0,.int .i64 0,.int .i64 0]) 4 32 Tryz.underlying24 hi hz0 hz1 hz2 rfl (by decide) (.slice a j c) j _ rfl (ROWV.out.alloc _) ⟨V.heap.size,0,none⟩ 1 1 [.int .i64 4,.int .i64 rA,.int .i64 rb,.int .i64 ct] rfl rfl (cells_new _ _ _) (by simp [Value.oneCell']) (by unfold maxLen;omega) (by omega) (by simp;omega) ?_;intro v' w5 hown' hgrow _;obtain ⟨g,cap,rfl⟩:=ownsRow_succ hown';have hks:=grow_ks (ROWV.out.alloc (.cells #[.int .i64 4,.int .i64 rA,.int .i64 rb,.int .i64 ct] 84)) hgrow;have q1:=(hks.cell (x:=⟨w.heap.size+1+1,4,none⟩) (by simp;omega) (by simp;omega));have q2:=(hks.frozen (x:=⟨w.heap.size+1+1,4,none⟩) (by simp;omega) (by simp;omega));rw [World.cell?_alloc_past _ _ _ (by first | omega | (simp;omega)),v4] at q1;rw [World.frozen?_alloc_past _ _ _ (by first | omega | (simp;omega)),f4] at q2));have h8:KS (fun k=>k < W0.heap.size) wr w5:=((KS.all hVb _).trans (KS.alloc _ _ _)).trans hks;have h9:KS (fun k=>k≠w.heap.size+1+1) w5 (w5.setCell ⟨w.heap.size+1+1,4,none⟩ (.slice (some ⟨g,0,none⟩) (j+1) cap)):=KS.setCell (by simp) _ _;have H9:=Hh (⟨h8,h9,q1,q2,hown'⟩:_/\_/\_/\_/\_);clear h8 h9 q1 q2 hown' hgrow hks;go_roundw
     case rel =>
      obtain ⟨h8,h9,q1,q2,hown'⟩:=H9.out;refine ⟨j+1,some ⟨g,0,none⟩,cap,by omega,by go_num,?_,?_,?_,?_,fun k hk=>?_⟩
      ·exact World.cell?_setCell_same' _ _ _ (by rw [q1];rfl)
      ·rw [World.frozen?_setCell];exact q2
      ·rw [HSN.out,List.flatMap_append,HR.out];exact ownsRow_ks hown' h9 (fun k hk=>by show k≠_;omega)
      ·exact HW.out.trans ((h8.mono fun k _ h=>h.1).trans (h9.mono fun k _ h=>h.2))
      ·rw [World.cell?_setCell_other (h:=fun e=>by injection e with _ e _;exact hk e.symm)];exact (h8.cell (x:=⟨w.heap.size+1+1,k,none⟩) hOr (by show w.heap.size+1+1 < W0.heap.size;omega)).trans (hQ.out k hk)
     case measure=>simp [intOf];omega
   ·have hR:truR b cl ⟨5,rA,rb,rm⟩=⟨5,rA,rb,haveOf b cl rA⟩:=by unfold truR;simp
    have HMI:=Hh (show 0<=rA/\rA.toNat < b.ms.length by
     obtain ⟨_,_,n,hm,_,_⟩:=recAl_parts HRAL.out
     unfold most at hm
     rw [if_neg (by simp),if_neg (by simp)] at hm
     split at hm
     ·rename_i hi2
      have:0<=rA/\rA<=(b.ms.length:Int) - 1:=by simpa [inB] using hi2
      omega
     ·cases hm)
    generalize hct:haveOf b cl rA=ct at hR;have HCT:=Hh hct;have HR:=Hh hR;have HBB:=Hh hBb;clear hct hR;have hv0:=Hh (RecV.new wr 5 rA rb rm)
    go_upto_region 20 with fail
    have hv:=hv0.out;generalize (wr.alloc (.cells #[.int .i64 5,.int .i64 rA,.int .i64 rb,.int .i64 rm] 84))=V at hv ⊢;have HV:=Hh hv;obtain ⟨hVb,hRV,r0,r1,r2,r3,f0⟩:=id hv;have z3:=f0 3;have u0:=(hVb.cell (p:=⟨w.heap.size,0,none⟩) hwr).trans b0;have u1:=(hVb.cell (p:=⟨w.heap.size,1,none⟩) hwr).trans b1;have u2:=(hVb.cell (p:=⟨w.heap.size,2,none⟩) hwr).trans b2;have u3:=(hVb.cell (p:=⟨w.heap.size,3,none⟩) hwr).trans b3;have u4:=(hVb.cell (p:=⟨w.heap.size,4,none⟩) hwr).trans b4;have l3:w.heap.size < V.heap.size:=by have:=hVb.size;omega
    go_upto_region 21 with (go_at_call 22;(with_reducible refine (rHave_at (HB.out.below (Below.next HBB.out HV.out.bl)) HBO.out.1 (HP.out.below (Below.next HBB.out HV.out.bl)) rfl HLL.out HCM.out HMI.out HCT.out).mono ?_);rintro e w2 ⟨rfl,hb2⟩;have r3w:=(HV.out.below hb2).c3;have z3w:=(HV.out.below hb2).fz 3;have hlw2:=(HV.out.below hb2).lt)
    have hv3:=(HV.out.below hb2).many ct;clear u0 u1 u2 u3 u4 r0 r1 r2 r3 f0 z3 l3 hVb hRV hv r3w z3w hlw2 hb2 HV;generalize w2.setCell ⟨wr.heap.size,3,none⟩ (.int .i64 ct)=V at hv3 ⊢;have hv:=hv3;clear hv3;obtain ⟨hVb,hRV,r0,r1,r2,r3,_⟩:=hv;have hV:=hVb.size;have v4:=(hVb.cell (p:=⟨w.heap.size+1+1,4,none⟩) hOr).trans h1;have f4:=(hVb.frozen (p:=⟨w.heap.size+1+1,4,none⟩) hOr).trans h2;have hOV:w.heap.size+1+1 < V.heap.size:=by omega
    have ROWV:=Hh (ownsRow_below HROW.out hVb);go_wp2_with (at_builtin;go_loud (refine wpList_append_own _ rfl _ _ 24 rfl W0.heap.size 84 i0 (.agg #[.int .i64 0,.int .i64 0,.int .i64 0,.int .i64 0]) 4 32 Tryz.underlying24 hi hz0 hz1 hz2 rfl (by decide) (.slice a j c) j _ rfl (ROWV.out.alloc _) ⟨V.heap.size,0,none⟩ 1 1 [.int .i64 5,.int .i64 rA,.int .i64 rb,.int .i64 ct] rfl rfl (cells_new _ _ _) (by simp [Value.oneCell']) (by unfold maxLen;omega) (by omega) (by simp;omega) ?_;intro v' w5 hown' hgrow _;obtain ⟨g,cap,rfl⟩:=ownsRow_succ hown';have hks:=grow_ks (ROWV.out.alloc (.cells #[.int .i64 5,.int .i64 rA,.int .i64 rb,.int .i64 ct] 84)) hgrow;have q1:=(hks.cell (x:=⟨w.heap.size+1+1,4,none⟩) (by simp;omega) (by simp;omega));have q2:=(hks.frozen (x:=⟨w.heap.size+1+1,4,none⟩) (by simp;omega) (by simp;omega));rw [World.cell?_alloc_past _ _ _ (by first | omega | (simp;omega)),v4] at q1;rw [World.frozen?_alloc_past _ _ _ (by first | omega | (simp;omega)),f4] at q2));have h8:KS (fun k=>k < W0.heap.size) wr w5:=((KS.all hVb _).trans (KS.alloc _ _ _)).trans hks;have h9:KS (fun k=>k≠w.heap.size+1+1) w5 (w5.setCell ⟨w.heap.size+1+1,4,none⟩ (.slice (some ⟨g,0,none⟩) (j+1) cap)):=KS.setCell (by simp) _ _;have H9:=Hh (⟨h8,h9,q1,q2,hown'⟩:_/\_/\_/\_/\_);clear h8 h9 q1 q2 hown' hgrow hks;go_roundw
    case rel =>
     obtain ⟨h8,h9,q1,q2,hown'⟩:=H9.out;refine ⟨j+1,some ⟨g,0,none⟩,cap,by omega,by go_num,?_,?_,?_,?_,fun k hk=>?_⟩
     ·exact World.cell?_setCell_same' _ _ _ (by rw [q1];rfl)
     ·rw [World.frozen?_setCell];exact q2
     ·rw [HSN.out,List.flatMap_append,HR.out];exact ownsRow_ks hown' h9 (fun k hk=>by show k≠_;omega)
     ·exact HW.out.trans ((h8.mono fun k _ h=>h.1).trans (h9.mono fun k _ h=>h.2))
     ·rw [World.cell?_setCell_other (h:=fun e=>by injection e with _ e _;exact hk e.symm)];exact (h8.cell (x:=⟨w.heap.size+1+1,k,none⟩) hOr (by show w.heap.size+1+1 < W0.heap.size;omega)).trans (hQ.out k hk)
    case measure=>simp [intOf];omega
  ·obtain rfl:j=b.rs.length:=by omega
   have o:∀ k,wr.cell? ⟨w.heap.size+1,k,none⟩=W0.cell? ⟨w.heap.size+1,k,none⟩:=fun k=>hW.cell (x:=⟨w.heap.size+1,k,none⟩) (by simp;omega) (by simp;omega);have oz:∀ k,wr.frozen? ⟨w.heap.size+1,k,none⟩=false:=fun k=>(hW.frozen (x:=⟨w.heap.size+1,k,none⟩) (by simp;omega) (by simp;omega)).trans (HZ.out k);have t0:=(o 0).trans (HZC.out 0 _ rfl);have t1:=(o 1).trans (HZC.out 1 _ rfl);have t2:=(o 2).trans (HZC.out 2 _ rfl);have t3:=(o 3).trans (HZC.out 3 _ rfl);have t4:=(o 4).trans (HZC.out 4 _ rfl);have f0:=oz 0;have f1:=oz 1;have f2:=oz 2;have f3:=oz 3;have f4:=oz 4;have p0:=(hQ.out 0 (by omega)).trans (HN.out 0 _ rfl);have p1:=(hQ.out 1 (by omega)).trans (HN.out 1 _ rfl);have p2:=(hQ.out 2 (by omega)).trans (HN.out 2 _ rfl);have p3:=(hQ.out 3 (by omega)).trans (HN.out 3 _ rfl);have hOr:w.heap.size+1+1 < wr.heap.size:=by omega
   have hLr:w.heap.size+1 < wr.heap.size:=by omega
   have HROW:=Hh hrow;have HW:=Hh hW;clear o oz hQ hrow hW;go_wp2;have five:=Five.put (r:=w.heap.size+1) (v0:=.int .i64 b.room) (v1:=.int .i64 b.gap) (v2:=.slice ma b.ms.length mc) (v3:=.slice sa b.ss.length sc) (v4:=.slice a b.rs.length c) (w:=wr) (by rw [t0];rfl) (by rw [t1];rfl) (by rw [t2];rfl) (by rw [t3];rfl) (by rw [t4];rfl) hLr;obtain ⟨W9,hW9⟩:∃ W9,W9=(((((wr.setCell ⟨w.heap.size+1,0,none⟩ (.int .i64 b.room)).setCell ⟨w.heap.size+1,1,none⟩ (.int .i64 b.gap)).setCell ⟨w.heap.size+1,2,none⟩ (.slice ma b.ms.length mc)).setCell ⟨w.heap.size+1,3,none⟩ (.slice sa b.ss.length sc)).setCell ⟨w.heap.size+1,4,none⟩ (.slice a b.rs.length c)):=⟨_,rfl⟩;have k9:KS (fun k=>k≠w.heap.size+1) wr W9:=by
    rw [hW9];exact ((((KS.setCell (by simp) _ _).trans (KS.setCell (by simp) _ _)).trans (KS.setCell (by simp) _ _)).trans (KS.setCell (by simp) _ _)).trans (KS.setCell (by simp) _ _)
   rw [← hW9] at five ⊢;obtain ⟨c0,c1,c2,c3,c4,_⟩:=five;have hbw:Below w.heap.size w W9:=(HB0.out.trans ((HW.out.toBelow (n:=w.heap.size) (by omega) (fun k hk=>by omega)))).trans (k9.toBelow (n:=w.heap.size) (by omega) (fun k hk=>by omega));have hr9:W9.ownsRow W0.heap.size 84 4 (.slice a b.rs.length c) b.rs.length ((truTo b cl b.rs.length).flatMap cellsR):=ownsRow_ks HROW.out k9 (fun k hk=>by omega);have HBW:=Hh hbw;have HR9:=Hh hr9;clear hW9 k9 hbw hr9 t0 t1 t2 t3 t4 p0 p1 p2 p3 f0 f1 f2 f3 f4 h1 h2;refine bodyPost_ret (v:=.agg #[.int .i64 b.room,.int .i64 b.gap,.slice ma b.ms.length mc,.slice sa b.ss.length sc,.slice a b.rs.length c]) (by simp [results,Tryz.results7,go_sem,c0,c1,c2,c3,c4]) rfl ⟨a,c,rfl,?_⟩;have hB9:=HB.out.below HBW.out;have hrr:=recs_of_row HR9.out;have hrw:=HR9.out;rw [truTo_all] at hrr hrw;refine ⟨?_,ownsRow_base hrw (by omega),HBW.out⟩;exact ⟨hB9.room,hB9.gap,hB9.ms,hB9.ss,a,c,by rw [truB_len],hrr,by show (b.rs.map _).length<=1000000;simp;omega⟩
end
end Go.Proofs.YtjdmplhdebgbjaaGreatDoor

