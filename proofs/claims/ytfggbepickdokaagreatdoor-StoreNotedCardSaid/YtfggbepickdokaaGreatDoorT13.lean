/- Leads to the Store laws of chapter 6: N10. -/
import Derived.Test.YtfggbepickdokaaGreatDoorT12
set_option maxHeartbeats 1000000
set_option maxRecDepth 100000
set_option linter.all false
namespace Go.Proofs.YtfggbepickdokaaGreatDoor
open Go.RowKit Go.Maps Sp
section
variable {w w':World} {a:Option Addr}
theorem flat2:∀ (l:List Prt) (i j:Nat) (_:j < 2) (h:i < l.length),(l.flatMap cellsQ)[i * 2+j]? = (cellsQ l[i])[j]?
 | [],i,j,_,h=>by simp at h
 | x::l,0,j,hj,h=>by
  rw [List.flatMap_cons,List.getElem?_append_left (by simp [cellsQ];omega)]
  simp
 | x::l,i+1,j,hj,h=>by
  rw [List.flatMap_cons,List.getElem?_append_right (by simp [cellsQ];omega),show (i+1) * 2+j - (cellsQ x).length=i * 2+j by simp [cellsQ];omega,flat2 l i j hj (by simpa using h)]
  simp
theorem flat2_length:∀ (l:List Prt),(l.flatMap cellsQ).length=l.length * 2
 | []=>rfl
 | x::l=>by rw [List.flatMap_cons,List.length_append,flat2_length l,List.length_cons];simp [cellsQ];omega
theorem parts_of_row {base n c:Nat} {l:List Prt} (h:w.ownsRow base 65 2 (.slice a n c) n (l.flatMap cellsQ)):PartsAt w a l:=fun i hi=>by
 have hlen:=flat2_length l
 obtain ⟨g,rfl,_,h2,_⟩:=row_cell h (i * 2) (by omega)
 have hc:∀ j,j < 2→w.cell? ⟨g,i * 2+j,none⟩=(cellsQ l[i])[j]? := fun j hj=>by
  obtain ⟨g',e,_,_,h3⟩:=row_cell h (i * 2+j) (by omega)
  cases e
  rw [h3,flat2 l i j hj hi]
 refine ⟨g,0,rfl,h2,?_,?_⟩
 ·rw [Nat.zero_add];exact hc 0 (by omega)
 ·rw [Nat.zero_add];exact hc 1 (by omega)
structure RowAt (w:World) (B:Nat) (l:List Int):Prop where
 c:∀ i (h:i < l.length),w.cell? ⟨B,i,none⟩=some (.int .i64 l[i])
 f:∀ i,i < l.length→w.frozen? ⟨B,i,none⟩=false
 lt:B < w.heap.size
theorem RowAt.made (w:World) (n:Nat) (t:TypeId):RowAt (w.alloc (.cells (madeCells #[.int .i64 0] n) t)) w.heap.size (List.replicate n 0) :=
 ⟨fun i h=>by rw [made_cell _ _ _ rfl (by simpa using h)];simp,fun i h=>by rw [World.frozen?_alloc_at _ _ _ _ rfl],by simp⟩
theorem RowAt.below {B n:Nat} {l:List Int} (h:RowAt w B l) (hb:Below n w w') (hn:B < n):RowAt w' B l :=
 ⟨fun i hi=>(hb.cell hn).trans (h.c i hi),fun i hi=>(hb.frozen hn).trans (h.f i hi),Nat.lt_of_lt_of_le h.lt hb.size⟩
theorem RowAt.drew {B:Nat} {l:List Int} (h:RowAt w B l):RowAt w.drew B l:=h.below (Below.drew (Below.refl (B+1) w)) (Nat.lt_succ_self B)
theorem RowAt.ints {B:Nat} {l:List Int} (h:RowAt w B l):IntsAt w (some ⟨B,0,none⟩) l:=fun i hi=>⟨B,0,rfl,h.lt,by rw [Nat.zero_add];exact h.c i hi⟩
theorem RowAt.set {B:Nat} {l:List Int} (h:RowAt w B l) {k:Nat} (hk:k < l.length) (v:Int):RowAt (w.setCell ⟨B,k,none⟩ (.int .i64 v)) B (l.set k v):=by
 refine ⟨fun i hi=>?_,fun i hi=>?_,by simpa [World.setCell] using h.lt⟩
 ·have hi2:i < l.length:=by simpa using hi
  by_cases hik:i=k
  ·subst hik
   rw [World.cell?_setCell_same' _ _ _ (by rw [h.c i hi2];rfl)]
   simp
  ·rw [World.cell?_setCell_other (h:=fun e=>hik (by injection e with _ e _;exact e.symm)),h.c i hi2]
   simp [List.getElem_set_ne (Ne.symm hik)]
 ·rw [World.frozen?_setCell];exact h.f i (by simpa using hi)
theorem RowAt.ks {B:Nat} {l:List Int} {p:Nat→Prop} (h:RowAt w B l) (hk:KS p w w') (hp:p B):RowAt w' B l :=
 ⟨fun i hi=>(hk.cell (x:=⟨B,i,none⟩) h.lt hp).trans (h.c i hi),fun i hi=>(hk.frozen (x:=⟨B,i,none⟩) h.lt hp).trans (h.f i hi),Nat.lt_of_lt_of_le h.lt hk.size⟩
theorem KS.toBelow {p:Nat→Prop} {n:Nat} (h:KS p w w') (hn:n≤w.heap.size) (hp:∀ k,k < n→p k):Below n w w' :=
 ⟨h.os,h.tape,h.output,h.size,fun k hk=>h.block k (Nat.lt_of_lt_of_le hk hn) (hp k hk)⟩
theorem PartsAt.nil (w:World) (a:Option Addr):PartsAt w a []:=fun i hi=>absurd hi (by simp)
end
def loadsOf (n:Nat) (l:List Prt):List Int:=(List.range n).map fun (i:Nat)=>((l.countP fun p=>decide (p.1=(i:Int)):Nat):Int)
def missI (b:Bk):List Prt:=missL b (pasts b) (partsL b)
def loadsI (b:Bk):List Int:=loadsOf b.ms.length (missI b)
theorem loadsOf_length (n:Nat) (l:List Prt):(loadsOf n l).length=n:=by simp [loadsOf]
theorem loadsOf_nil (n:Nat):loadsOf n []=List.replicate n 0:=by
 apply List.ext_getElem
 ·simp [loadsOf]
 ·intro i h1 h2;simp [loadsOf]
theorem loadsOf_at (n:Nat) (l:List Prt) {i:Nat} (h:i < (loadsOf n l).length):(loadsOf n l)[i]=((l.countP fun p=>decide (p.1=(i:Int)):Nat):Int):=by simp [loadsOf]
theorem loadsOf_snoc (n:Nat) (l:List Prt) (p:Prt) {q:Nat} (hq:p.1=q) (hqn:q < n):loadsOf n (l ++ [p])=(loadsOf n l).set q ((loadsOf n l)[q]'(by rw [loadsOf_length];exact hqn)+1):=by
 apply List.ext_getElem
 ·simp [loadsOf]
 ·intro i h1 h2
  rw [loadsOf_at]
  by_cases hi:q=i
  ·subst hi
   rw [List.getElem_set_self,loadsOf_at,List.countP_append]
   simp [hq]
  ·rw [List.getElem_set_ne hi,loadsOf_at,List.countP_append]
   have:¬ (q:Int)=(i:Int):=by omega
   simp [hq,this]
theorem loadsOf_bd (n:Nat) (l:List Prt):∀ x∈loadsOf n l,0≤x∧x≤l.length:=fun x hx=>by
 obtain ⟨i,_,rfl⟩:=List.mem_map.1 hx
 have:=List.countP_le_length (p:=fun p:Prt=>decide (p.1=(i:Int))) (l:=l)
 omega
section
variable {b:Bk} {vr vg vm vs vc:Value} {w:World}
theorem nightOf_at (hB:BookAt w b vr vg vm vs vc) (hO:BkOk b) {la:Option Addr} {lc:Nat} {l:List (List Int)} (hL:CamesAt w la l) (hl:∀ x∈l,Came b (pad x)∧(pad x).length=4∧x.length=b.ss.length) (hll:l.length≤2000) :
 Calls Tryz.prog 48 #[.agg #[vr,vg,vm,vs,vc],.slice la l.length lc] w fun e w'=>∃ B c,e=.returned (.agg #[vr,vg,vm,vs,vc,.slice (some ⟨B,0,none⟩) b.ms.length c])∧IntsAt w' (some ⟨B,0,none⟩) (loadsOf b.ms.length (missL b l (partsL b)))∧w.heap.size≤B∧B < w'.heap.size∧Below w.heap.size w w':=by
 have hms:∀ w':World,Below w.heap.size w w'→Calls Tryz.prog 64 #[.agg #[vr,vg,vm,vs,vc],.slice la l.length lc] w' fun e w2=>∃ v,e=.returned v∧w2.ownsRow (w'.heap.size+5) 65 2 v (missL b l (partsL b)).length ((missL b l (partsL b)).flatMap cellsQ)∧Below w'.heap.size w' w2:=fun w' hb=>missing_at (lc:=lc) (hB.below hb) hO (hL.below hb) hl hll
 have hml:=hO.ml
 have hmb:(missL b l (partsL b)).length≤5000:=Nat.le_trans (List.length_filter_le _ _) (parts_bd hO)
 have hpt:∀ p∈missL b l (partsL b),isPart b p=true:=fun p hp=>parts_isPart (List.mem_filter.1 hp).1
 generalize missL b l (partsL b)=M at hms hmb hpt
 have HMS:=Hh hms
 have HPT:=Hh hpt
 have hmk:=run_make_row' (P:=Tryz.prog) 27 3 (.int .i64 0) 8 Tryz.underlying27 intInfo rfl .i64 .i64 b.ms.length (by omega) (by omega)
 obtain ⟨rfl,rfl,⟨ma,mc,rfl,_,_⟩,⟨sa,sc,rfl,_,_⟩,ra,rc,rfl,_,_⟩:=id hB
 clear hB hO hL hl hms hpt
 go_enter Tryz.func48,Tryz.ntmps48
 go_wp2
 go_region
 ·obtain ⟨W1,hW1⟩:∃ W1,W1=((((w.alloc (.cells #[.int .i64 b.room,.int .i64 b.gap,.slice ma b.ms.length mc,.slice sa b.ss.length sc,.slice ra b.rs.length rc] 88)).alloc (.cells #[.int .i64 0,.int .i64 0,.slice none 0 0,.slice none 0 0,.slice none 0 0,.slice none 0 0] 95)).alloc (.cells (madeCells #[.int .i64 0] b.ms.length) 3)).alloc (.cells #[.int .i64 b.room,.int .i64 b.gap,.slice ma b.ms.length mc,.slice sa b.ss.length sc,.slice ra b.rs.length rc,.slice (some ⟨w.heap.size+1+1,0,none⟩) b.ms.length b.ms.length] 95)).drew:=⟨_,rfl⟩
  rw [← hW1]
  have hb1:Below w.heap.size w W1:=by rw [hW1];(exact bel)
  have hs1:W1.heap.size=w.heap.size+1+1+1+1:=by rw [hW1];simp
  have hN:∀ k u,(#[.int .i64 b.room,.int .i64 b.gap,.slice ma b.ms.length mc,.slice sa b.ss.length sc,.slice ra b.rs.length rc,.slice (some ⟨w.heap.size+1+1,0,none⟩) b.ms.length b.ms.length]:Array Value)[k]? = some u→W1.cell? ⟨w.heap.size+1+1+1,k,none⟩=some u:=fun k u hk=>by
   rw [hW1]
   show (World.cell? _ _)=_
   rw [World.cell?_drew]
   rw [World.cell?_alloc_at _ _ _ _ (by first | (simp;done) | (simp;omega))];exact hk
  have hZ:∀ k u,(#[.int .i64 0,.int .i64 0,.slice none 0 0,.slice none 0 0,.slice none 0 0,.slice none 0 0]:Array Value)[k]? = some u→W1.cell? ⟨w.heap.size+1,k,none⟩=some u∧W1.frozen? ⟨w.heap.size+1,k,none⟩=false:=fun k u hk=>by
   rw [hW1]
   refine ⟨?_,?_⟩
   ·rw [World.cell?_drew,World.cell?_alloc_past _ _ _ (by first | (simp;done) | (simp;omega)),World.cell?_alloc_past _ _ _ (by first | (simp;done) | (simp;omega)),World.cell?_alloc_at _ _ _ _ (by first | (simp;done) | (simp;omega))];exact hk
   ·rw [World.frozen?_drew,World.frozen?_alloc_past _ _ _ (by first | (simp;done) | (simp;omega)),World.frozen?_alloc_past _ _ _ (by first | (simp;done) | (simp;omega)),World.frozen?_alloc_at _ _ _ _ (by first | (simp;done) | (simp;omega))]
  have hR:RowAt W1 (w.heap.size+1+1) (List.replicate b.ms.length 0):=by
   rw [hW1]
   refine RowAt.drew ?_
   exact (RowAt.made ((w.alloc (.cells #[.int .i64 b.room,.int .i64 b.gap,.slice ma b.ms.length mc,.slice sa b.ss.length sc,.slice ra b.rs.length rc] 88)).alloc (.cells #[.int .i64 0,.int .i64 0,.slice none 0 0,.slice none 0 0,.slice none 0 0,.slice none 0 0] 95)) _ _).below (n:=w.heap.size+1+1+1) ((Below.refl _ _).alloc (by simp) _) (by simp) |> fun h=>by simpa using h
  have hF:∀ k u,(#[.int .i64 b.room,.int .i64 b.gap,.slice ma b.ms.length mc,.slice sa b.ss.length sc,.slice ra b.rs.length rc]:Array Value)[k]? = some u→W1.cell? ⟨w.heap.size,k,none⟩=some u:=fun k u hk=>by
   rw [hW1,World.cell?_drew,World.cell?_alloc_past _ _ _ (by first | (simp;done) | (simp;omega)),World.cell?_alloc_past _ _ _ (by first | (simp;done) | (simp;omega)),World.cell?_alloc_past _ _ _ (by first | (simp;done) | (simp;omega)),World.cell?_alloc_at _ _ _ _ rfl];exact hk
  have HF:=Hh hF
  have HN:=Hh hN
  have HZ:=Hh hZ
  clear hW1 hN hZ hF
  have hF:∀ k u,(#[.int .i64 b.room,.int .i64 b.gap,.slice ma b.ms.length mc,.slice sa b.ss.length sc,.slice ra b.rs.length rc]:Array Value)[k]? = some u→W1.cell? ⟨w.heap.size,k,none⟩=some u:=fun k u hk=>HF.out k u hk
  have f0:=hF 0 _ rfl
  have f1:=hF 1 _ rfl
  have f2:=hF 2 _ rfl
  have f3:=hF 3 _ rfl
  have f4:=hF 4 _ rfl
  clear hF
  go_wp2_with (go_at_call 64;(with_reducible refine (HMS.out _ (bel)).mono ?_);rintro e w2 ⟨v,rfl,hrow,hb2⟩;obtain ⟨pa,pc,rfl⟩:=ownsRow_slice hrow;have HROW:=Hh hrow;clear hrow)
  have hs2:=hb2.size
  clear f0 f1 f2 f3 f4
  go_loopw [19] (fun i wr=>∃ (k:Nat),k≤M.length∧i=.int .i64 k∧KS (fun j=>j≠w.heap.size+1+1) w2 wr∧RowAt wr (w.heap.size+1+1) (loadsOf b.ms.length (M.take k))) (fun i _=>M.length - (intOf i).toNat)
  case atStart=>exact ⟨0,Nat.zero_le _,rfl,KS.refl _ _,by rw [List.take_zero,loadsOf_nil];exact hR.below hb2 (by omega)⟩
  case round =>
   obtain ⟨k,hk,rfl,hW,hrw⟩:=hrel
   have hWs:=hW.size
   have hNw:∀ j u,(#[.int .i64 b.room,.int .i64 b.gap,.slice ma b.ms.length mc,.slice sa b.ss.length sc,.slice ra b.rs.length rc,.slice (some ⟨w.heap.size+1+1,0,none⟩) b.ms.length b.ms.length]:Array Value)[j]? = some u→wr.cell? ⟨w.heap.size+1+1+1,j,none⟩=some u:=fun j u hj =>
    (hW.cell (x:=⟨w.heap.size+1+1+1,j,none⟩) (by simp;omega) (by simp)).trans ((hb2.cell (p:=⟨w.heap.size+1+1+1,j,none⟩) (by simp;omega)).trans (HN.out j u hj))
   have hZw:∀ j u,(#[.int .i64 0,.int .i64 0,.slice none 0 0,.slice none 0 0,.slice none 0 0,.slice none 0 0]:Array Value)[j]? = some u→wr.cell? ⟨w.heap.size+1,j,none⟩=some u∧wr.frozen? ⟨w.heap.size+1,j,none⟩=false:=fun j u hj =>
    ⟨(hW.cell (x:=⟨w.heap.size+1,j,none⟩) (by simp;omega) (by simp)).trans ((hb2.cell (p:=⟨w.heap.size+1,j,none⟩) (by simp;omega)).trans (HZ.out j u hj).1),
      (hW.frozen (x:=⟨w.heap.size+1,j,none⟩) (by simp;omega) (by simp)).trans ((hb2.frozen (p:=⟨w.heap.size+1,j,none⟩) (by simp;omega)).trans (HZ.out j u hj).2)⟩
   have n5:=hNw 5 _ rfl
   have hRl:=hrw.lt
   have hNl:w.heap.size+1+1+1 < wr.heap.size:=by omega
   have h1l:w.heap.size+1 < wr.heap.size:=by omega
   by_cases hlt:k < M.length
   ·have hrow2:=ownsRow_ks HROW.out hW (fun j hj=>by omega)
    obtain ⟨pb,po,rfl,hpb,d0,d1⟩:=parts_of_row hrow2 k hlt
    have hp:=HPT.out _ (List.getElem_mem hlt)
    obtain ⟨q,hq,hqn⟩:∃ q:Nat,M[k].1=q∧q < b.ms.length:=by
     unfold isPart inB at hp
     simp only [Bool.and_eq_true,decide_eq_true_eq] at hp
     exact ⟨M[k].1.toNat,by omega,by omega⟩
    have htk:=List.take_succ_eq_append_getElem hlt
    have hsn:=loadsOf_snoc b.ms.length (M.take k) M[k] hq hqn
    rw [← htk] at hsn
    have hql:q < (loadsOf b.ms.length (M.take k)).length:=by rw [loadsOf_length];exact hqn
    have hc:=hrw.c q hql
    have hf:=hrw.f q hql
    have hset:=hrw.set hql ((loadsOf b.ms.length (M.take k))[q]+1)
    rw [← hsn] at hset
    have hbd:=loadsOf_bd b.ms.length (M.take k) _ (List.getElem_mem hql)
    have htl:=List.length_take_le k M
    generalize (loadsOf b.ms.length (M.take k))[q]=y at hc hset hbd
    generalize hx:M[k]=x at d0 d1 hq hset
    obtain ⟨x1,x2⟩:=x
    simp only at hq d0 d1 hset
    subst hq
    have HSET:=Hh hset
    have hwy:IntKind.i64.wrap (y+1)=y+1:=IntWalk.i64_in _ (by omega)
    clear hset hrw htk hsn hx hp hrow2 hNw hZw
    go_wp2
    go_roundw
    case rel=>exact ⟨k+1,by omega,by go_num,(hW.trans (KS.setCell (by simp) _ _)).trans (KS.alloc _ _ _),HSET.out.ks (KS.alloc (fun _=>True) _ _) trivial⟩
    case measure=>simp [intOf];omega
   ·obtain rfl:k=M.length:=by omega
    rw [List.take_length] at hrw
    have n0:=hNw 0 _ rfl
    have n1:=hNw 1 _ rfl
    have n2:=hNw 2 _ rfl
    have n3:=hNw 3 _ rfl
    have n4:=hNw 4 _ rfl
    obtain ⟨z0,y0⟩:=hZw 0 _ rfl
    obtain ⟨z1,y1⟩:=hZw 1 _ rfl
    obtain ⟨z2,y2⟩:=hZw 2 _ rfl
    obtain ⟨z3,y3⟩:=hZw 3 _ rfl
    obtain ⟨z4,y4⟩:=hZw 4 _ rfl
    obtain ⟨z5,y5⟩:=hZw 5 _ rfl
    have HRW:=Hh hrw
    clear hNw hZw hrw
    go_wp2
    have hks:∀ W9,KS (fun j=>j≠w.heap.size+1) wr W9→IntsAt W9 (some ⟨w.heap.size+1+1,0,none⟩) (loadsOf b.ms.length M)∧w.heap.size≤w.heap.size+1+1∧w.heap.size+1+1 < W9.heap.size∧Below w.heap.size w W9:=fun W9 h9=>by
     refine ⟨(HRW.out.ks h9 (by omega)).ints,by omega,(HRW.out.ks h9 (by omega)).lt,?_⟩
     have h7:=(KS.toBelow (n:=w.heap.size) hW (by omega) (fun k hk=>by omega))
     have h8:=(KS.toBelow (n:=w.heap.size) h9 (by omega) (fun k hk=>by omega))
     exact ((Below.next hb1 hb2).trans h7).trans h8
    exact bodyPost_ret (v:=.agg #[.int .i64 b.room,.int .i64 b.gap,.slice ma b.ms.length mc,.slice sa b.ss.length sc,.slice ra b.rs.length rc,.slice (some ⟨w.heap.size+1+1,0,none⟩) b.ms.length b.ms.length]) (by simp [results,Tryz.results48,go_sem, *]) rfl ⟨_,_,rfl,hks _ (by (repeat (with_reducible refine KS.trans ?_ (KS.setCell (by simp) _ _)));with_reducible exact KS.refl _ _)⟩
 ·obtain ⟨W1,hW1⟩:∃ W1,W1=((((w.alloc (.cells #[.int .i64 b.room,.int .i64 b.gap,.slice ma b.ms.length mc,.slice sa b.ss.length sc,.slice ra b.rs.length rc] 88)).alloc (.cells #[.int .i64 0,.int .i64 0,.slice none 0 0,.slice none 0 0,.slice none 0 0,.slice none 0 0] 95)).alloc (.cells #[.int .i64 b.room,.int .i64 b.gap,.slice ma b.ms.length mc,.slice sa b.ss.length sc,.slice ra b.rs.length rc,.slice (some ⟨w.heap.size+1+1+1,0,none⟩) b.ms.length b.ms.length] 95)).alloc (.cells (madeCells #[.int .i64 0] b.ms.length) 3)).drew:=⟨_,rfl⟩
  rw [← hW1]
  have hb1:Below w.heap.size w W1:=by rw [hW1];(exact bel)
  have hs1:W1.heap.size=w.heap.size+1+1+1+1:=by rw [hW1];simp
  have hN:∀ k u,(#[.int .i64 b.room,.int .i64 b.gap,.slice ma b.ms.length mc,.slice sa b.ss.length sc,.slice ra b.rs.length rc,.slice (some ⟨w.heap.size+1+1+1,0,none⟩) b.ms.length b.ms.length]:Array Value)[k]? = some u→W1.cell? ⟨w.heap.size+1+1,k,none⟩=some u:=fun k u hk=>by
   rw [hW1]
   show (World.cell? _ _)=_
   rw [World.cell?_drew]
   rw [World.cell?_alloc_past _ _ _ (by first | (simp;done) | (simp;omega)),World.cell?_alloc_at _ _ _ _ (by first | (simp;done) | (simp;omega))];exact hk
  have hZ:∀ k u,(#[.int .i64 0,.int .i64 0,.slice none 0 0,.slice none 0 0,.slice none 0 0,.slice none 0 0]:Array Value)[k]? = some u→W1.cell? ⟨w.heap.size+1,k,none⟩=some u∧W1.frozen? ⟨w.heap.size+1,k,none⟩=false:=fun k u hk=>by
   rw [hW1]
   refine ⟨?_,?_⟩
   ·rw [World.cell?_drew,World.cell?_alloc_past _ _ _ (by first | (simp;done) | (simp;omega)),World.cell?_alloc_past _ _ _ (by first | (simp;done) | (simp;omega)),World.cell?_alloc_at _ _ _ _ (by first | (simp;done) | (simp;omega))];exact hk
   ·rw [World.frozen?_drew,World.frozen?_alloc_past _ _ _ (by first | (simp;done) | (simp;omega)),World.frozen?_alloc_past _ _ _ (by first | (simp;done) | (simp;omega)),World.frozen?_alloc_at _ _ _ _ (by first | (simp;done) | (simp;omega))]
  have hR:RowAt W1 (w.heap.size+1+1+1) (List.replicate b.ms.length 0):=by
   rw [hW1]
   refine RowAt.drew ?_
   simpa using RowAt.made (((w.alloc (.cells #[.int .i64 b.room,.int .i64 b.gap,.slice ma b.ms.length mc,.slice sa b.ss.length sc,.slice ra b.rs.length rc] 88)).alloc (.cells #[.int .i64 0,.int .i64 0,.slice none 0 0,.slice none 0 0,.slice none 0 0,.slice none 0 0] 95)).alloc (.cells #[.int .i64 b.room,.int .i64 b.gap,.slice ma b.ms.length mc,.slice sa b.ss.length sc,.slice ra b.rs.length rc,.slice (some ⟨w.heap.size+1+1+1,0,none⟩) b.ms.length b.ms.length] 95)) b.ms.length 3
  have hF:∀ k u,(#[.int .i64 b.room,.int .i64 b.gap,.slice ma b.ms.length mc,.slice sa b.ss.length sc,.slice ra b.rs.length rc]:Array Value)[k]? = some u→W1.cell? ⟨w.heap.size,k,none⟩=some u:=fun k u hk=>by
   rw [hW1,World.cell?_drew,World.cell?_alloc_past _ _ _ (by first | (simp;done) | (simp;omega)),World.cell?_alloc_past _ _ _ (by first | (simp;done) | (simp;omega)),World.cell?_alloc_past _ _ _ (by first | (simp;done) | (simp;omega)),World.cell?_alloc_at _ _ _ _ rfl];exact hk
  have HF:=Hh hF
  have HN:=Hh hN
  have HZ:=Hh hZ
  clear hW1 hN hZ hF
  have hF:∀ k u,(#[.int .i64 b.room,.int .i64 b.gap,.slice ma b.ms.length mc,.slice sa b.ss.length sc,.slice ra b.rs.length rc]:Array Value)[k]? = some u→W1.cell? ⟨w.heap.size,k,none⟩=some u:=fun k u hk=>HF.out k u hk
  have f0:=hF 0 _ rfl
  have f1:=hF 1 _ rfl
  have f2:=hF 2 _ rfl
  have f3:=hF 3 _ rfl
  have f4:=hF 4 _ rfl
  clear hF
  go_wp2_with (go_at_call 64;(with_reducible refine (HMS.out _ (bel)).mono ?_);rintro e w2 ⟨v,rfl,hrow,hb2⟩;obtain ⟨pa,pc,rfl⟩:=ownsRow_slice hrow;have HROW:=Hh hrow;clear hrow)
  have hs2:=hb2.size
  clear f0 f1 f2 f3 f4
  go_loopw [19] (fun i wr=>∃ (k:Nat),k≤M.length∧i=.int .i64 k∧KS (fun j=>j≠w.heap.size+1+1+1) w2 wr∧RowAt wr (w.heap.size+1+1+1) (loadsOf b.ms.length (M.take k))) (fun i _=>M.length - (intOf i).toNat)
  case atStart=>exact ⟨0,Nat.zero_le _,rfl,KS.refl _ _,by rw [List.take_zero,loadsOf_nil];exact hR.below hb2 (by omega)⟩
  case round =>
   obtain ⟨k,hk,rfl,hW,hrw⟩:=hrel
   have hWs:=hW.size
   have hNw:∀ j u,(#[.int .i64 b.room,.int .i64 b.gap,.slice ma b.ms.length mc,.slice sa b.ss.length sc,.slice ra b.rs.length rc,.slice (some ⟨w.heap.size+1+1+1,0,none⟩) b.ms.length b.ms.length]:Array Value)[j]? = some u→wr.cell? ⟨w.heap.size+1+1,j,none⟩=some u:=fun j u hj =>
    (hW.cell (x:=⟨w.heap.size+1+1,j,none⟩) (by simp;omega) (by simp)).trans ((hb2.cell (p:=⟨w.heap.size+1+1,j,none⟩) (by simp;omega)).trans (HN.out j u hj))
   have hZw:∀ j u,(#[.int .i64 0,.int .i64 0,.slice none 0 0,.slice none 0 0,.slice none 0 0,.slice none 0 0]:Array Value)[j]? = some u→wr.cell? ⟨w.heap.size+1,j,none⟩=some u∧wr.frozen? ⟨w.heap.size+1,j,none⟩=false:=fun j u hj =>
    ⟨(hW.cell (x:=⟨w.heap.size+1,j,none⟩) (by simp;omega) (by simp)).trans ((hb2.cell (p:=⟨w.heap.size+1,j,none⟩) (by simp;omega)).trans (HZ.out j u hj).1),
      (hW.frozen (x:=⟨w.heap.size+1,j,none⟩) (by simp;omega) (by simp)).trans ((hb2.frozen (p:=⟨w.heap.size+1,j,none⟩) (by simp;omega)).trans (HZ.out j u hj).2)⟩
   have n5:=hNw 5 _ rfl
   have hRl:=hrw.lt
   have hNl:w.heap.size+1+1 < wr.heap.size:=by omega
   have h1l:w.heap.size+1 < wr.heap.size:=by omega
   by_cases hlt:k < M.length
   ·have hrow2:=ownsRow_ks HROW.out hW (fun j hj=>by omega)
    obtain ⟨pb,po,rfl,hpb,d0,d1⟩:=parts_of_row hrow2 k hlt
    have hp:=HPT.out _ (List.getElem_mem hlt)
    obtain ⟨q,hq,hqn⟩:∃ q:Nat,M[k].1=q∧q < b.ms.length:=by
     unfold isPart inB at hp
     simp only [Bool.and_eq_true,decide_eq_true_eq] at hp
     exact ⟨M[k].1.toNat,by omega,by omega⟩
    have htk:=List.take_succ_eq_append_getElem hlt
    have hsn:=loadsOf_snoc b.ms.length (M.take k) M[k] hq hqn
    rw [← htk] at hsn
    have hql:q < (loadsOf b.ms.length (M.take k)).length:=by rw [loadsOf_length];exact hqn
    have hc:=hrw.c q hql
    have hf:=hrw.f q hql
    have hset:=hrw.set hql ((loadsOf b.ms.length (M.take k))[q]+1)
    rw [← hsn] at hset
    have hbd:=loadsOf_bd b.ms.length (M.take k) _ (List.getElem_mem hql)
    have htl:=List.length_take_le k M
    generalize (loadsOf b.ms.length (M.take k))[q]=y at hc hset hbd
    generalize hx:M[k]=x at d0 d1 hq hset
    obtain ⟨x1,x2⟩:=x
    simp only at hq d0 d1 hset
    subst hq
    have HSET:=Hh hset
    have hwy:IntKind.i64.wrap (y+1)=y+1:=IntWalk.i64_in _ (by omega)
    clear hset hrw htk hsn hx hp hrow2 hNw hZw
    go_wp2
    go_roundw
    case rel=>exact ⟨k+1,by omega,by go_num,(hW.trans (KS.setCell (by simp) _ _)).trans (KS.alloc _ _ _),HSET.out.ks (KS.alloc (fun _=>True) _ _) trivial⟩
    case measure=>simp [intOf];omega
   ·obtain rfl:k=M.length:=by omega
    rw [List.take_length] at hrw
    have n0:=hNw 0 _ rfl
    have n1:=hNw 1 _ rfl
    have n2:=hNw 2 _ rfl
    have n3:=hNw 3 _ rfl
    have n4:=hNw 4 _ rfl
    obtain ⟨z0,y0⟩:=hZw 0 _ rfl
    obtain ⟨z1,y1⟩:=hZw 1 _ rfl
    obtain ⟨z2,y2⟩:=hZw 2 _ rfl
    obtain ⟨z3,y3⟩:=hZw 3 _ rfl
    obtain ⟨z4,y4⟩:=hZw 4 _ rfl
    obtain ⟨z5,y5⟩:=hZw 5 _ rfl
    have HRW:=Hh hrw
    clear hNw hZw hrw
    go_wp2
    have hks:∀ W9,KS (fun j=>j≠w.heap.size+1) wr W9→IntsAt W9 (some ⟨w.heap.size+1+1+1,0,none⟩) (loadsOf b.ms.length M)∧w.heap.size≤w.heap.size+1+1+1∧w.heap.size+1+1+1 < W9.heap.size∧Below w.heap.size w W9:=fun W9 h9=>by
     refine ⟨(HRW.out.ks h9 (by omega)).ints,by omega,(HRW.out.ks h9 (by omega)).lt,?_⟩
     have h7:=(KS.toBelow (n:=w.heap.size) hW (by omega) (fun k hk=>by omega))
     have h8:=(KS.toBelow (n:=w.heap.size) h9 (by omega) (fun k hk=>by omega))
     exact ((Below.next hb1 hb2).trans h7).trans h8
    exact bodyPost_ret (v:=.agg #[.int .i64 b.room,.int .i64 b.gap,.slice ma b.ms.length mc,.slice sa b.ss.length sc,.slice ra b.rs.length rc,.slice (some ⟨w.heap.size+1+1+1,0,none⟩) b.ms.length b.ms.length]) (by simp [results,Tryz.results48,go_sem, *]) rfl ⟨_,_,rfl,hks _ (by (repeat (with_reducible refine KS.trans ?_ (KS.setCell (by simp) _ _)));with_reducible exact KS.refl _ _)⟩
end
end Go.Proofs.YtfggbepickdokaaGreatDoor
