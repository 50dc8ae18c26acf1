/- StoreTapes -/
import Derived.Test.YtgagoahfdnnpkaaGreatDoorSG07
set_option maxHeartbeats 2000000
set_option maxRecDepth 100000
set_option linter.all false
namespace Go.Proofs.YtgagoahfdnnpkaaGreatDoor
section
open Go.RowKit Go.Maps Sp
section
variable {w w':World} {a:Option Addr}
theorem flat2:∀ (l:List Prt) (i j:Nat) (_:j < 2) (h:i < l.length),(l.flatMap cellsQ)[i * 2+j]? = (cellsQ l[i])[j]?
 | [],i,j,_,h=>by simp at h
 | x::l,0,j,hj,h=>by
  rw [List.flatMap_cons,List.getElem?_append_left (by simp [cellsQ];omega)];simp
 | x::l,i+1,j,hj,h=>by
  rw [List.flatMap_cons,List.getElem?_append_right (by simp [cellsQ];omega),show (i+1) * 2+j - (cellsQ x).length=i * 2+j by simp [cellsQ];omega,flat2 l i j hj (by simpa using h)];simp
theorem flat2_length:∀ (l:List Prt),(l.flatMap cellsQ).length=l.length * 2
 | []=>rfl
 | x::l=>by rw [List.flatMap_cons,List.length_append,flat2_length l,List.length_cons];simp [cellsQ];omega
theorem parts_of_row {base n c:Nat} {l:List Prt} (h:w.ownsRow base 75 2 (.slice a n c) n (l.flatMap cellsQ)):PartsAt w a l:=fun i hi=>by
 have hlen:=flat2_length l;obtain ⟨g,rfl,_,h2,_⟩:=row_cell h (i * 2) (by omega);have hc:∀ j,j < 2->w.cell? ⟨g,i * 2+j,none⟩=(cellsQ l[i])[j]? := fun j hj=>by
  obtain ⟨g',e,_,_,h3⟩:=row_cell h (i * 2+j) (by omega);cases e;rw [h3,flat2 l i j hj hi]
 refine ⟨g,0,rfl,h2,?_,?_⟩
 ·rw [Nat.zero_add];exact hc 0 (by omega)
 ·rw [Nat.zero_add];exact hc 1 (by omega)
structure RowAt (w:World) (B:Nat) (l:List Int):Prop where
 c:∀ i (h:i < l.length),w.cell? ⟨B,i,none⟩=some (.int .i64 l[i])
 f:∀ i,i < l.length->w.frozen? ⟨B,i,none⟩=false
 lt:B < w.heap.size
theorem RowAt.made (w:World) (n:Nat) (t:TypeId):RowAt (w.alloc (.cells (madeCells #[.int .i64 0] n) t)) w.heap.size (List.replicate n 0) :=
 ⟨fun i h=>by rw [made_cell _ _ _ rfl (by simpa using h)];simp,fun i h=>by rw [World.frozen?_alloc_at _ _ _ _ rfl],by simp⟩
theorem RowAt.below {B n:Nat} {l:List Int} (h:RowAt w B l) (hb:Below n w w') (hn:B < n):RowAt w' B l :=
 ⟨fun i hi=>(hb.cell hn).trans (h.c i hi),fun i hi=>(hb.frozen hn).trans (h.f i hi),Nat.lt_of_lt_of_le h.lt hb.size⟩
theorem RowAt.drew {B:Nat} {l:List Int} (h:RowAt w B l):RowAt w.drew B l:=h.below (Below.drew (Below.refl (B+1) w)) (Nat.lt_succ_self B)
theorem RowAt.ints {B:Nat} {l:List Int} (h:RowAt w B l):IntsAt w (some ⟨B,0,none⟩) l:=fun i hi=>⟨B,0,rfl,h.lt,by rw [Nat.zero_add];exact h.c i hi⟩
theorem RowAt.set {B:Nat} {l:List Int} (h:RowAt w B l) {k:Nat} (hk:k < l.length) (v:Int):RowAt (w.setCell ⟨B,k,none⟩ (.int .i64 v)) B (l.set k v):=by
 refine ⟨fun i hi=>?_,fun i hi=>?_,by simpa [World.setCell] using h.lt⟩
 ·have hi2:i < l.length:=by simpa using hi
  by_cases hik:i=k
  ·subst hik;rw [World.cell?_setCell_same' _ _ _ (by rw [h.c i hi2];rfl)];simp
  ·rw [World.cell?_setCell_other (h:=fun e=>hik (by injection e with _ e _;exact e.symm)),h.c i hi2];simp [List.getElem_set_ne (Ne.symm hik)]
 ·rw [World.frozen?_setCell];exact h.f i (by simpa using hi)
theorem RowAt.ks {B:Nat} {l:List Int} {p:Nat->Prop} (h:RowAt w B l) (hk:KS p w w') (hp:p B):RowAt w' B l :=
 ⟨fun i hi=>(hk.cell (x:=⟨B,i,none⟩) h.lt hp).trans (h.c i hi),fun i hi=>(hk.frozen (x:=⟨B,i,none⟩) h.lt hp).trans (h.f i hi),Nat.lt_of_lt_of_le h.lt hk.size⟩
theorem KS.toBelow {p:Nat->Prop} {n:Nat} (h:KS p w w') (hn:n<=w.heap.size) (hp:∀ k,k < n->p k):Below n w w' :=
 ⟨h.os,h.tape,h.output,h.size,fun k hk=>h.block k (Nat.lt_of_lt_of_le hk hn) (hp k hk)⟩
theorem PartsAt.nil (w:World) (a:Option Addr):PartsAt w a []:=fun i hi=>absurd hi (by simp)
end
def loadsOf (n:Nat) (l:List Prt):List Int:=(List.range n).map fun (i:Nat)=>((l.countP fun p=>decide (p.1=(i:Int)):Nat):Int)
def missI (b:Bk):List Prt:=missL b (pasts b) (partsL b)
def loadsI (b:Bk):List Int:=loadsOf b.ms.length (missI b)
theorem loadsOf_length (n:Nat) (l:List Prt):(loadsOf n l).length=n:=by simp [loadsOf]
theorem loadsOf_nil (n:Nat):loadsOf n []=List.replicate n 0:=by
 apply List.ext_getElem
 ·simp [loadsOf]
 ·intro i h1 h2;simp [loadsOf]
theorem loadsOf_at (n:Nat) (l:List Prt) {i:Nat} (h:i < (loadsOf n l).length):(loadsOf n l)[i]=((l.countP fun p=>decide (p.1=(i:Int)):Nat):Int):=by simp [loadsOf]
theorem loadsOf_snoc (n:Nat) (l:List Prt) (p:Prt) {q:Nat} (hq:p.1=q) (hqn:q < n):loadsOf n (l ++ [p])=(loadsOf n l).set q ((loadsOf n l)[q]'(by rw [loadsOf_length];exact hqn)+1):=by
 apply List.ext_getElem
 ·simp [loadsOf]
 ·intro i h1 h2;rw [loadsOf_at];by_cases hi:q=i
  ·subst hi;rw [List.getElem_set_self,loadsOf_at,List.countP_append];simp [hq]
  ·rw [List.getElem_set_ne hi,loadsOf_at,List.countP_append];have:¬ (q:Int)=(i:Int):=by omega
   simp [hq,this]
theorem loadsOf_bd (n:Nat) (l:List Prt):∀ x∈loadsOf n l,0<=x/\x<=l.length:=fun x hx=>by
 obtain ⟨i,_,rfl⟩:=List.mem_map.1 hx;have:=List.countP_le_length (p:=fun p:Prt=>decide (p.1=(i:Int))) (l:=l);omega
section
variable {b:Bk} {vr vg vm vs vc:Value} {w:World}
theorem nightOf_at (hB:BookAt w b vr vg vm vs vc) (hO:BkOk b) {la:Option Addr} {lc:Nat} {l:List (List Int)} (hL:CamesAt w la l) (hl:∀ x∈l,Came b (pad x)/\(pad x).length=4/\x.length=b.ss.length) (hll:l.length<=2000) :
 Calls Tryz.prog 33 #[.agg #[vr,vg,vm,vs,vc],.slice la l.length lc] w fun e w'=>∃ B c,e=.returned (.agg #[vr,vg,vm,vs,vc,.slice (some ⟨B,0,none⟩) b.ms.length c])/\IntsAt w' (some ⟨B,0,none⟩) (loadsOf b.ms.length (missL b l (partsL b)))/\w.heap.size<=B/\B < w'.heap.size/\Below w.heap.size w w':=by
 have hms:∀ w':World,Below w.heap.size w w'->Calls Tryz.prog 50 #[.agg #[vr,vg,vm,vs,vc],.slice la l.length lc] w' fun e w2=>∃ v,e=.returned v/\w2.ownsRow (w'.heap.size+5) 75 2 v (missL b l (partsL b)).length ((missL b l (partsL b)).flatMap cellsQ)/\Below w'.heap.size w' w2:=fun w' hb=>missing_at (lc:=lc) (hB.below hb) hO (hL.below hb) hl hll;have hml:=hO.ml;have hmb:(missL b l (partsL b)).length<=5000:=Nat.le_trans (List.length_filter_le _ _) (parts_bd hO);have hpt:∀ p∈missL b l (partsL b),isPart b p=true:=fun p hp=>parts_isPart (List.mem_filter.1 hp).1;generalize missL b l (partsL b)=M at hms hmb hpt;have HMS:=Hh hms;have HPT:=Hh hpt;have hmk:=run_make_row' (P:=Tryz.prog) 27 3 (.int .i64 0) 8 Tryz.underlying27 intInfo rfl .i64 .i64 b.ms.length (by omega) (by omega);obtain ⟨rfl,rfl,⟨ma,mc,rfl,_,_⟩,⟨sa,sc,rfl,_,_⟩,ra,rc,rfl,_,_⟩:=id hB;clear hB hO hL hl hms hpt
 go_enter Tryz.func33,Tryz.ntmps33
 go_wp2
 go_region
 ·obtain ⟨W1,hW1⟩:∃ W1,W1=((((w.alloc (.cells #[.int .i64 b.room,.int .i64 b.gap,.slice ma b.ms.length mc,.slice sa b.ss.length sc,.slice ra b.rs.length rc] 78)).alloc (.cells #[.int .i64 0,.int .i64 0,.slice none 0 0,.slice none 0 0,.slice none 0 0,.slice none 0 0] 85)).alloc (.cells (madeCells #[.int .i64 0] b.ms.length) 3)).alloc (.cells #[.int .i64 b.room,.int .i64 b.gap,.slice ma b.ms.length mc,.slice sa b.ss.length sc,.slice ra b.rs.length rc,.slice (some ⟨w.heap.size+1+1,0,none⟩) b.ms.length b.ms.length] 85)).drew:=⟨_,rfl⟩;rw [<- hW1];have hb1:Below w.heap.size w W1:=by rw [hW1];(exact bel)
  have hs1:W1.heap.size=w.heap.size+1+1+1+1:=by rw [hW1];simp
  have hN:∀ k u,(#[.int .i64 b.room,.int .i64 b.gap,.slice ma b.ms.length mc,.slice sa b.ss.length sc,.slice ra b.rs.length rc,.slice (some ⟨w.heap.size+1+1,0,none⟩) b.ms.length b.ms.length]:Array Value)[k]? = some u->W1.cell? ⟨w.heap.size+1+1+1,k,none⟩=some u:=fun k u hk=>by
   rw [hW1];show (World.cell? _ _)=_;rw [World.cell?_drew];rw [World.cell?_alloc_at _ _ _ _ (by first | (simp;done) | (simp;omega))];exact hk
  have hZ:∀ k u,(#[.int .i64 0,.int .i64 0,.slice none 0 0,.slice none 0 0,.slice none 0 0,.slice none 0 0]:Array Value)[k]? = some u->W1.cell? ⟨w.heap.size+1,k,none⟩=some u/\W1.frozen? ⟨w.heap.size+1,k,none⟩=false:=fun k u hk=>by
   rw [hW1];refine ⟨?_,?_⟩
   ·rw [World.cell?_drew,World.cell?_alloc_past _ _ _ (by first | (simp;done) | (simp;omega)),World.cell?_alloc_past _ _ _ (by first | (simp;done) | (simp;omega)),World.cell?_alloc_at _ _ _ _ (by first | (simp;done) | (simp;omega))];exact hk
   ·rw [World.frozen?_drew,World.frozen?_alloc_past _ _ _ (by first | (simp;done) | (simp;omega)),World.frozen?_alloc_past _ _ _ (by first | (simp;done) | (simp;omega)),World.frozen?_alloc_at _ _ _ _ (by first | (simp;done) | (simp;omega))]
  have hR:RowAt W1 (w.heap.size+1+1) (List.replicate b.ms.length 0):=by
   rw [hW1];refine RowAt.drew ?_;exact (RowAt.made ((w.alloc (.cells #[.int .i64 b.room,.int .i64 b.gap,.slice ma b.ms.length mc,.slice sa b.ss.length sc,.slice ra b.rs.length rc] 78)).alloc (.cells #[.int .i64 0,.int .i64 0,.slice none 0 0,.slice none 0 0,.slice none 0 0,.slice none 0 0] 85)) _ _).below (n:=w.heap.size+1+1+1) ((Below.refl _ _).alloc (by simp) _) (by simp) |> fun h=>by simpa using h
  have hF:∀ k u,(#[.int .i64 b.room,.int .i64 b.gap,.slice ma b.ms.length mc,.slice sa b.ss.length sc,.slice ra b.rs.length rc]:Array Value)[k]? = some u->W1.cell? ⟨w.heap.size,k,none⟩=some u:=fun k u hk=>by
   rw [hW1,World.cell?_drew,World.cell?_alloc_past _ _ _ (by first | (simp;done) | (simp;omega)),World.cell?_alloc_past _ _ _ (by first | (simp;done) | (simp;omega)),World.cell?_alloc_past _ _ _ (by first | (simp;done) | (simp;omega)),World.cell?_alloc_at _ _ _ _ rfl];exact hk
  have HF:=Hh hF;have HN:=Hh hN;have HZ:=Hh hZ;clear hW1 hN hZ hF;have hF:∀ k u,(#[.int .i64 b.room,.int .i64 b.gap,.slice ma b.ms.length mc,.slice sa b.ss.length sc,.slice ra b.rs.length rc]:Array Value)[k]? = some u->W1.cell? ⟨w.heap.size,k,none⟩=some u:=fun k u hk=>HF.out k u hk;have f0:=hF 0 _ rfl;have f1:=hF 1 _ rfl;have f2:=hF 2 _ rfl;have f3:=hF 3 _ rfl;have f4:=hF 4 _ rfl;clear hF;go_wp2_with (go_at_call 50;(with_reducible refine (HMS.out _ (bel)).mono ?_);rintro e w2 ⟨v,rfl,hrow,hb2⟩;obtain ⟨pa,pc,rfl⟩:=ownsRow_slice hrow;have HROW:=Hh hrow;clear hrow);have hs2:=hb2.size;clear f0 f1 f2 f3 f4;go_loopw [19] (fun i wr=>∃ (k:Nat),k<=M.length/\i=.int .i64 k/\KS (fun j=>j≠w.heap.size+1+1) w2 wr/\RowAt wr (w.heap.size+1+1) (loadsOf b.ms.length (M.take k))) (fun i _=>M.length - (intOf i).toNat)
  case atStart=>exact ⟨0,Nat.zero_le _,rfl,KS.refl _ _,by rw [List.take_zero,loadsOf_nil];exact hR.below hb2 (by omega)⟩
  case round =>
   obtain ⟨k,hk,rfl,hW,hrw⟩:=hrel;have hWs:=hW.size;have hNw:∀ j u,(#[.int .i64 b.room,.int .i64 b.gap,.slice ma b.ms.length mc,.slice sa b.ss.length sc,.slice ra b.rs.length rc,.slice (some ⟨w.heap.size+1+1,0,none⟩) b.ms.length b.ms.length]:Array Value)[j]? = some u->wr.cell? ⟨w.heap.size+1+1+1,j,none⟩=some u:=fun j u hj =>
    (hW.cell (x:=⟨w.heap.size+1+1+1,j,none⟩) (by simp;omega) (by simp)).trans ((hb2.cell (p:=⟨w.heap.size+1+1+1,j,none⟩) (by simp;omega)).trans (HN.out j u hj))
   have hZw:∀ j u,(#[.int .i64 0,.int .i64 0,.slice none 0 0,.slice none 0 0,.slice none 0 0,.slice none 0 0]:Array Value)[j]? = some u->wr.cell? ⟨w.heap.size+1,j,none⟩=some u/\wr.frozen? ⟨w.heap.size+1,j,none⟩=false:=fun j u hj =>
    ⟨(hW.cell (x:=⟨w.heap.size+1,j,none⟩) (by simp;omega) (by simp)).trans ((hb2.cell (p:=⟨w.heap.size+1,j,none⟩) (by simp;omega)).trans (HZ.out j u hj).1),
      (hW.frozen (x:=⟨w.heap.size+1,j,none⟩) (by simp;omega) (by simp)).trans ((hb2.frozen (p:=⟨w.heap.size+1,j,none⟩) (by simp;omega)).trans (HZ.out j u hj).2)⟩
   have n5:=hNw 5 _ rfl;have hRl:=hrw.lt;have hNl:w.heap.size+1+1+1 < wr.heap.size:=by omega
   have h1l:w.heap.size+1 < wr.heap.size:=by omega
   by_cases hlt:k < M.length
   ·have hrow2:=ownsRow_ks HROW.out hW (fun j hj=>by omega);obtain ⟨pb,po,rfl,hpb,d0,d1⟩:=parts_of_row hrow2 k hlt;have hp:=HPT.out _ (List.getElem_mem hlt);obtain ⟨q,hq,hqn⟩:∃ q:Nat,M[k].1=q/\q < b.ms.length:=by
     unfold isPart inB at hp;simp only [Bool.and_eq_true,decide_eq_true_eq] at hp;exact ⟨M[k].1.toNat,by omega,by omega⟩
    have htk:=List.take_succ_eq_append_getElem hlt;have hsn:=loadsOf_snoc b.ms.length (M.take k) M[k] hq hqn;rw [<- htk] at hsn;have hql:q < (loadsOf b.ms.length (M.take k)).length:=by rw [loadsOf_length];exact hqn
    have hc:=hrw.c q hql;have hf:=hrw.f q hql;have hset:=hrw.set hql ((loadsOf b.ms.length (M.take k))[q]+1);rw [<- hsn] at hset;have hbd:=loadsOf_bd b.ms.length (M.take k) _ (List.getElem_mem hql);have htl:=List.length_take_le k M;generalize (loadsOf b.ms.length (M.take k))[q]=y at hc hset hbd;generalize hx:M[k]=x at d0 d1 hq hset;obtain ⟨x1,x2⟩:=x;simp only at hq d0 d1 hset;subst hq;have HSET:=Hh hset;have hwy:IntKind.i64.wrap (y+1)=y+1:=IntWalk.i64_in _ (by omega);clear hset hrw htk hsn hx hp hrow2 hNw hZw;go_wp2;go_roundw
    case rel=>exact ⟨k+1,by omega,by go_num,(hW.trans (KS.setCell (by simp) _ _)).trans (KS.alloc _ _ _),HSET.out.ks (KS.alloc (fun _=>True) _ _) trivial⟩
    case measure=>simp [intOf];omega
   ·obtain rfl:k=M.length:=by omega
    rw [List.take_length] at hrw;have n0:=hNw 0 _ rfl;have n1:=hNw 1 _ rfl;have n2:=hNw 2 _ rfl;have n3:=hNw 3 _ rfl;have n4:=hNw 4 _ rfl;obtain ⟨z0,y0⟩:=hZw 0 _ rfl;obtain ⟨z1,y1⟩:=hZw 1 _ rfl;obtain ⟨z2,y2⟩:=hZw 2 _ rfl;obtain ⟨z3,y3⟩:=hZw 3 _ rfl;obtain ⟨z4,y4⟩:=hZw 4 _ rfl;obtain ⟨z5,y5⟩:=hZw 5 _ rfl;have HRW:=Hh hrw;clear hNw hZw hrw;go_wp2;have hks:∀ W9,KS (fun j=>j≠w.heap.size+1) wr W9->IntsAt W9 (some ⟨w.heap.size+1+1,0,none⟩) (loadsOf b.ms.length M)/\w.heap.size<=w.heap.size+1+1/\w.heap.size+1+1 < W9.heap.size/\Below w.heap.size w W9:=fun W9 h9=>by
     refine ⟨(HRW.out.ks h9 (by omega)).ints,by omega,(HRW.out.ks h9 (by omega)).lt,?_⟩;have h7:=(KS.toBelow (n:=w.heap.size) hW (by omega) (fun k hk=>by omega));have h8:=(KS.toBelow (n:=w.heap.size) h9 (by omega) (fun k hk=>by omega));exact ((Below.next hb1 hb2).trans h7).trans h8
    exact bodyPost_ret (v:=.agg #[.int .i64 b.room,.int .i64 b.gap,.slice ma b.ms.length mc,.slice sa b.ss.length sc,.slice ra b.rs.length rc,.slice (some ⟨w.heap.size+1+1,0,none⟩) b.ms.length b.ms.length]) (by simp [results,Tryz.results33,go_sem, *]) rfl ⟨_,_,rfl,hks _ (by (repeat (with_reducible refine KS.trans ?_ (KS.setCell (by simp) _ _)));with_reducible exact KS.refl _ _)⟩
 ·obtain ⟨W1,hW1⟩:∃ W1,W1=((((w.alloc (.cells #[.int .i64 b.room,.int .i64 b.gap,.slice ma b.ms.length mc,.slice sa b.ss.length sc,.slice ra b.rs.length rc] 78)).alloc (.cells #[.int .i64 0,.int .i64 0,.slice none 0 0,.slice none 0 0,.slice none 0 0,.slice none 0 0] 85)).alloc (.cells #[.int .i64 b.room,.int .i64 b.gap,.slice ma b.ms.length mc,.slice sa b.ss.length sc,.slice ra b.rs.length rc,.slice (some ⟨w.heap.size+1+1+1,0,none⟩) b.ms.length b.ms.length] 85)).alloc (.cells (madeCells #[.int .i64 0] b.ms.length) 3)).drew:=⟨_,rfl⟩;rw [<- hW1];have hb1:Below w.heap.size w W1:=by rw [hW1];(exact bel)
  have hs1:W1.heap.size=w.heap.size+1+1+1+1:=by rw [hW1];simp
  have hN:∀ k u,(#[.int .i64 b.room,.int .i64 b.gap,.slice ma b.ms.length mc,.slice sa b.ss.length sc,.slice ra b.rs.length rc,.slice (some ⟨w.heap.size+1+1+1,0,none⟩) b.ms.length b.ms.length]:Array Value)[k]? = some u->W1.cell? ⟨w.heap.size+1+1,k,none⟩=some u:=fun k u hk=>by
   rw [hW1];show (World.cell? _ _)=_;rw [World.cell?_drew];rw [World.cell?_alloc_past _ _ _ (by first | (simp;done) | (simp;omega)),World.cell?_alloc_at _ _ _ _ (by first | (simp;done) | (simp;omega))];exact hk
  have hZ:∀ k u,(#[.int .i64 0,.int .i64 0,.slice none 0 0,.slice none 0 0,.slice none 0 0,.slice none 0 0]:Array Value)[k]? = some u->W1.cell? ⟨w.heap.size+1,k,none⟩=some u/\W1.frozen? ⟨w.heap.size+1,k,none⟩=false:=fun k u hk=>by
   rw [hW1];refine ⟨?_,?_⟩
   ·rw [World.cell?_drew,World.cell?_alloc_past _ _ _ (by first | (simp;done) | (simp;omega)),World.cell?_alloc_past _ _ _ (by first | (simp;done) | (simp;omega)),World.cell?_alloc_at _ _ _ _ (by first | (simp;done) | (simp;omega))];exact hk
   ·rw [World.frozen?_drew,World.frozen?_alloc_past _ _ _ (by first | (simp;done) | (simp;omega)),World.frozen?_alloc_past _ _ _ (by first | (simp;done) | (simp;omega)),World.frozen?_alloc_at _ _ _ _ (by first | (simp;done) | (simp;omega))]
  have hR:RowAt W1 (w.heap.size+1+1+1) (List.replicate b.ms.length 0):=by
   rw [hW1];refine RowAt.drew ?_;simpa using RowAt.made (((w.alloc (.cells #[.int .i64 b.room,.int .i64 b.gap,.slice ma b.ms.length mc,.slice sa b.ss.length sc,.slice ra b.rs.length rc] 78)).alloc (.cells #[.int .i64 0,.int .i64 0,.slice none 0 0,.slice none 0 0,.slice none 0 0,.slice none 0 0] 85)).alloc (.cells #[.int .i64 b.room,.int .i64 b.gap,.slice ma b.ms.length mc,.slice sa b.ss.length sc,.slice ra b.rs.length rc,.slice (some ⟨w.heap.size+1+1+1,0,none⟩) b.ms.length b.ms.length] 85)) b.ms.length 3
  have hF:∀ k u,(#[.int .i64 b.room,.int .i64 b.gap,.slice ma b.ms.length mc,.slice sa b.ss.length sc,.slice ra b.rs.length rc]:Array Value)[k]? = some u->W1.cell? ⟨w.heap.size,k,none⟩=some u:=fun k u hk=>by
   rw [hW1,World.cell?_drew,World.cell?_alloc_past _ _ _ (by first | (simp;done) | (simp;omega)),World.cell?_alloc_past _ _ _ (by first | (simp;done) | (simp;omega)),World.cell?_alloc_past _ _ _ (by first | (simp;done) | (simp;omega)),World.cell?_alloc_at _ _ _ _ rfl];exact hk
  have HF:=Hh hF;have HN:=Hh hN;have HZ:=Hh hZ;clear hW1 hN hZ hF;have hF:∀ k u,(#[.int .i64 b.room,.int .i64 b.gap,.slice ma b.ms.length mc,.slice sa b.ss.length sc,.slice ra b.rs.length rc]:Array Value)[k]? = some u->W1.cell? ⟨w.heap.size,k,none⟩=some u:=fun k u hk=>HF.out k u hk;have f0:=hF 0 _ rfl;have f1:=hF 1 _ rfl;have f2:=hF 2 _ rfl;have f3:=hF 3 _ rfl;have f4:=hF 4 _ rfl;clear hF;go_wp2_with (go_at_call 50;(with_reducible refine (HMS.out _ (bel)).mono ?_);rintro e w2 ⟨v,rfl,hrow,hb2⟩;obtain ⟨pa,pc,rfl⟩:=ownsRow_slice hrow;have HROW:=Hh hrow;clear hrow);have hs2:=hb2.size;clear f0 f1 f2 f3 f4;go_loopw [19] (fun i wr=>∃ (k:Nat),k<=M.length/\i=.int .i64 k/\KS (fun j=>j≠w.heap.size+1+1+1) w2 wr/\RowAt wr (w.heap.size+1+1+1) (loadsOf b.ms.length (M.take k))) (fun i _=>M.length - (intOf i).toNat)
  case atStart=>exact ⟨0,Nat.zero_le _,rfl,KS.refl _ _,by rw [List.take_zero,loadsOf_nil];exact hR.below hb2 (by omega)⟩
  case round =>
   obtain ⟨k,hk,rfl,hW,hrw⟩:=hrel;have hWs:=hW.size;have hNw:∀ j u,(#[.int .i64 b.room,.int .i64 b.gap,.slice ma b.ms.length mc,.slice sa b.ss.length sc,.slice ra b.rs.length rc,.slice (some ⟨w.heap.size+1+1+1,0,none⟩) b.ms.length b.ms.length]:Array Value)[j]? = some u->wr.cell? ⟨w.heap.size+1+1,j,none⟩=some u:=fun j u hj =>
    (hW.cell (x:=⟨w.heap.size+1+1,j,none⟩) (by simp;omega) (by simp)).trans ((hb2.cell (p:=⟨w.heap.size+1+1,j,none⟩) (by simp;omega)).trans (HN.out j u hj))
   have hZw:∀ j u,(#[.int .i64 0,.int .i64 0,.slice none 0 0,.slice none 0 0,.slice none 0 0,.slice none 0 0]:Array Value)[j]? = some u->wr.cell? ⟨w.heap.size+1,j,none⟩=some u/\wr.frozen? ⟨w.heap.size+1,j,none⟩=false:=fun j u hj =>
    ⟨(hW.cell (x:=⟨w.heap.size+1,j,none⟩) (by simp;omega) (by simp)).trans ((hb2.cell (p:=⟨w.heap.size+1,j,none⟩) (by simp;omega)).trans (HZ.out j u hj).1),
      (hW.frozen (x:=⟨w.heap.size+1,j,none⟩) (by simp;omega) (by simp)).trans ((hb2.frozen (p:=⟨w.heap.size+1,j,none⟩) (by simp;omega)).trans (HZ.out j u hj).2)⟩
   have n5:=hNw 5 _ rfl;have hRl:=hrw.lt;have hNl:w.heap.size+1+1 < wr.heap.size:=by omega
   have h1l:w.heap.size+1 < wr.heap.size:=by omega
   by_cases hlt:k < M.length
   ·have hrow2:=ownsRow_ks HROW.out hW (fun j hj=>by omega);obtain ⟨pb,po,rfl,hpb,d0,d1⟩:=parts_of_row hrow2 k hlt;have hp:=HPT.out _ (List.getElem_mem hlt);obtain ⟨q,hq,hqn⟩:∃ q:Nat,M[k].1=q/\q < b.ms.length:=by
     unfold isPart inB at hp;simp only [Bool.and_eq_true,decide_eq_true_eq] at hp;exact ⟨M[k].1.toNat,by omega,by omega⟩
    have htk:=List.take_succ_eq_append_getElem hlt;have hsn:=loadsOf_snoc b.ms.length (M.take k) M[k] hq hqn;rw [<- htk] at hsn;have hql:q < (loadsOf b.ms.length (M.take k)).length:=by rw [loadsOf_length];exact hqn
    have hc:=hrw.c q hql;have hf:=hrw.f q hql;have hset:=hrw.set hql ((loadsOf b.ms.length (M.take k))[q]+1);rw [<- hsn] at hset;have hbd:=loadsOf_bd b.ms.length (M.take k) _ (List.getElem_mem hql);have htl:=List.length_take_le k M;generalize (loadsOf b.ms.length (M.take k))[q]=y at hc hset hbd;generalize hx:M[k]=x at d0 d1 hq hset;obtain ⟨x1,x2⟩:=x;simp only at hq d0 d1 hset;subst hq;have HSET:=Hh hset;have hwy:IntKind.i64.wrap (y+1)=y+1:=IntWalk.i64_in _ (by omega);clear hset hrw htk hsn hx hp hrow2 hNw hZw;go_wp2;go_roundw
    case rel=>exact ⟨k+1,by omega,by go_num,(hW.trans (KS.setCell (by simp) _ _)).trans (KS.alloc _ _ _),HSET.out.ks (KS.alloc (fun _=>True) _ _) trivial⟩
    case measure=>simp [intOf];omega
   ·obtain rfl:k=M.length:=by omega
    rw [List.take_length] at hrw;have n0:=hNw 0 _ rfl;have n1:=hNw 1 _ rfl;have n2:=hNw 2 _ rfl;have n3:=hNw 3 _ rfl;have n4:=hNw 4 _ rfl;obtain ⟨z0,y0⟩:=hZw 0 _ rfl;obtain ⟨z1,y1⟩:=hZw 1 _ rfl;obtain ⟨z2,y2⟩:=hZw 2 _ rfl;obtain ⟨z3,y3⟩:=hZw 3 _ rfl;obtain ⟨z4,y4⟩:=hZw 4 _ rfl;obtain ⟨z5,y5⟩:=hZw 5 _ rfl;have HRW:=Hh hrw;clear hNw hZw hrw;go_wp2;have hks:∀ W9,KS (fun j=>j≠w.heap.size+1) wr W9->IntsAt W9 (some ⟨w.heap.size+1+1+1,0,none⟩) (loadsOf b.ms.length M)/\w.heap.size<=w.heap.size+1+1+1/\w.heap.size+1+1+1 < W9.heap.size/\Below w.heap.size w W9:=fun W9 h9=>by
     refine ⟨(HRW.out.ks h9 (by omega)).ints,by omega,(HRW.out.ks h9 (by omega)).lt,?_⟩;have h7:=(KS.toBelow (n:=w.heap.size) hW (by omega) (fun k hk=>by omega));have h8:=(KS.toBelow (n:=w.heap.size) h9 (by omega) (fun k hk=>by omega));exact ((Below.next hb1 hb2).trans h7).trans h8
    exact bodyPost_ret (v:=.agg #[.int .i64 b.room,.int .i64 b.gap,.slice ma b.ms.length mc,.slice sa b.ss.length sc,.slice ra b.rs.length rc,.slice (some ⟨w.heap.size+1+1+1,0,none⟩) b.ms.length b.ms.length]) (by simp [results,Tryz.results33,go_sem, *]) rfl ⟨_,_,rfl,hks _ (by (repeat (with_reducible refine KS.trans ?_ (KS.setCell (by simp) _ _)));with_reducible exact KS.refl _ _)⟩
end
attribute [local go_sem] Oper.semAt_some
theorem goM_facts:∀ (l:List Msg) (seen:List (List UInt8)) (_:goM seen l=0),∀ m∈l,(1<=m.groups/\m.groups<=4)/\0<=m.due/\m.due<=999
 | [],_,_=>by simp
 | m::l,seen,h=>by
  unfold goM at h;split at h
  ·cases h
  ·split at h
   ·cases h
   ·split at h
    ·cases h
    ·rename_i h3
     intro x hx;rcases List.mem_cons.1 hx with rfl | hx
     ·unfold inB at h3;simp only [decide_eq_false_iff_not,not_or,Classical.not_not] at h3;exact h3
     ·exact goM_facts l _ h x hx
structure NightOk (b:Bk):Prop where
 gap:0<=b.gap/\b.gap<=100
 due:∀ m∈b.ms,0<=m.due/\m.due<=999
 few:(partsL b).length<=20
theorem nightOk {b:Bk} (h:bookAl b=0):NightOk b:=by
 have hO:=(bookAl_ok h).1;obtain ⟨h0,h1,_,_⟩:=bookAl_parts h;have hm:goM [] b.ms=0:=by
  unfold msgsAl at h1;split at h1
  ·cases h1
  ·exact h1
 have hf:=goM_facts b.ms [] hm;refine ⟨?_,fun m hm=>(hf m hm).2,?_⟩
 ·unfold numbersAl inB at h0;split at h0
  ·rename_i hx
   simp only [Bool.and_eq_true,decide_eq_true_eq] at hx;omega
  ·cases h0
 ·unfold partsL partsTo;rw [List.length_flatMap];have h:=sum_map_le (fun i=>(partsOf i ((b.ms[i]?).elim 0 Msg.groups).toNat).length) 4 (List.range b.ms.length) fun i hi=>by
   unfold partsOf;rw [List.length_map,List.length_range]
   cases hm:b.ms[i]? with
   | none=>simp
   | some m =>
    have:=(hf m (List.mem_of_getElem? hm)).1;simp only [Option.elim];omega
  rw [List.length_range] at h;have:=hO.ml;omega
theorem missI_bd {b:Bk} (h:bookAl b=0):(missI b).length<=20:=Nat.le_trans (List.length_filter_le _ _) (nightOk h).few
theorem loadsI_bd {b:Bk} (h:bookAl b=0):∀ x∈loadsI b,0<=x/\x<=1000:=fun x hx=>by
 have:=loadsOf_bd _ _ x hx;have:=missI_bd h;omega
theorem plansFrom_mem {loads:List Int}:∀ (rest pre:List Int) (x:List Int × List Int) (_:x∈plansFrom loads pre rest),planOk loads x.1=some x.2/\x.1.length=pre.length+rest.length
 | [],pre,x,h=>by
  unfold plansFrom at h
  cases hp:planOk loads pre with
  | none=>rw [hp] at h;simp at h
  | some t=>rw [hp] at h;obtain rfl:x=(pre,t):=by simpa using h
            exact ⟨hp,rfl⟩
 | ld::rest,pre,x,h=>by
  unfold plansFrom at h;obtain ⟨k,_,hk⟩:=List.mem_flatMap.1 h;obtain ⟨h1,h2⟩:=plansFrom_mem rest (pre ++ [k]) x hk;exact ⟨h1,by rw [h2];simp;omega⟩
theorem plansI_mem {loads:List Int} {x:List Int × List Int} (h:x∈plansI loads):planOk loads x.1=some x.2/\x.1.length=loads.length:=by
 obtain ⟨h1,h2⟩:=plansFrom_mem loads [] x h;exact ⟨h1,by rw [h2];simp⟩
section
variable {b:Bk} {vr vg vm vs vc:Value} {w:World}
theorem nothing_any (v0 v1 v2 v3 v4:Value) (W:World):Calls Tryz.prog 54 #[.agg #[v0,v1,v2,v3,v4]] W fun e w'=>e=.returned (.int .i64 0)/\Below W.heap.size W w':=by
 go_enter Tryz.func54,Tryz.ntmps54
 go_wp2;go_ret;exact ⟨rfl,bel⟩
structure LatJ (b:Bk) (w W1:World) (pre:List (List Int × List Int)) (A:World):Prop where
 c:A.cell? ⟨w.heap.size+1,0,none⟩=some (.int .i64 ((pre.foldl (latestStep b) none).getD 0))
 f:A.frozen? ⟨w.heap.size+1,0,none⟩=false
 d:A.cell? ⟨w.heap.size+1+1,0,none⟩=some (.bool (pre.foldl (latestStep b) none).isSome)
 g:A.frozen? ⟨w.heap.size+1+1,0,none⟩=false
 ks:KS (fun k=>k < W1.heap.size/\k≠w.heap.size+1/\k≠w.heap.size+1+1) W1 A
theorem LatJ.keep {W1 A B:World} {pre:List (List Int × List Int)} (h:LatJ b w W1 pre A) {p:Nat->Prop} (hk:KS p A B) (h1:p (w.heap.size+1)) (h2:p (w.heap.size+1+1)) (h3:∀ k,k < W1.heap.size/\k≠w.heap.size+1/\k≠w.heap.size+1+1->p k):LatJ b w W1 pre B :=
 ⟨(hk.cell (x:=⟨_,_,none⟩) (lt_of_cell h.c) h1).trans h.c,(hk.frozen (x:=⟨_,_,none⟩) (lt_of_cell h.c) h1).trans h.f,(hk.cell (x:=⟨_,_,none⟩) (lt_of_cell h.d) h2).trans h.d,(hk.frozen (x:=⟨_,_,none⟩) (lt_of_cell h.d) h2).trans h.g,
   h.ks.trans (hk.mono fun k _ hq=>h3 k hq)⟩
theorem latest_ok (hB:BookAt w b vr vg vm vs vc) (hN:∀ m∈b.ms,m.name.size<=1000000) (hK:KindsAt w) (ht:openAl b 0=0) :
 Calls Tryz.prog 16 #[.agg #[vr,vg,vm,vs,vc]] w fun e w'=>e=.returned (.tuple #[.int .i64 ((latestI b (loadsI b)).getD 0),.bool (latestI b (loadsI b)).isSome,.int .i64 0])/\Below w.heap.size w w':=by
 refine (callsIn_wide (n:=0)).1 (callsIn_of_wp_marks Tryz.func16 rfl trivial (wpIn_wide.2 ?_) rfl);have HB:=Hh hB;have HN:=Hh hN;have HK:=Hh hK;obtain ⟨hk,hpt,hps⟩:=openAl_ok ht;have hbo:=(bookAl_ok hk).1;have HO:=Hh hbo;have HBA:=Hh hk;have HPS:=Hh hps;have hpl:=pasts_le hbo;have hml:=hbo.ml;have HPC:=Hh (fun x (hx:x∈pasts b)=>pasts_came hbo hx);obtain ⟨rfl,rfl,⟨ma,mc,rfl,_,_⟩,⟨sa,sc,rfl,_,_⟩,ra,rc,rfl,_,_⟩:=id hB;clear hB hN hK ht hk hpt hps hbo;simp only [Tryz.ntmps16,List.size_toArray,List.length_cons,List.length_nil,Nat.reduceAdd,Nat.reduceSub,Array.replicate_succ,Array.replicate_zero,List.push_toArray,List.append_toArray,List.nil_append,List.cons_append];go_wp2_with (first
  | (go_at_call 31;(with_reducible refine (open_nothing_ok (HB.out.below (bel)) HN.out (HK.out.below (bel)) (al:=0) (fun hk W hW=>nothing_any _ _ _ _ _ _) HBA.out rfl HPS.out).mono ?_);rintro e w3 ⟨la,rfl,hrow,hb3⟩;obtain ⟨la,lc,rfl⟩:=ownsRow_slice hrow;have HCM:=Hh (cames_of_row hrow);clear hrow;obtain ⟨hc3,hf3⟩:=bcell hb3;have hz3:=hb3.size;(try simp at hz3))
  | (go_at_call 33;(with_reducible refine (nightOf_at (HB.out.below (bel)) HO.out (HCM.out.below (bel)) HPC.out (by omega)).mono ?_);rintro e w4 ⟨RB,lc2,rfl,hld,hRB0,hRBl,hb4⟩;have HLD:=Hh hld;clear hld;obtain ⟨hc4,hf4⟩:=bcell hb4;have hz4:=hb4.size;(try simp at hz4)))
 obtain ⟨W1,hW1⟩:∃ W1,W1=w4.alloc (.cells #[.int .i64 b.room,.int .i64 b.gap,.slice ma b.ms.length mc,.slice sa b.ss.length sc,.slice ra b.rs.length rc,.slice (some ⟨RB,0,none⟩) b.ms.length lc2] 85):=⟨_,rfl⟩;rw [<- hW1];have hb1:Below w.heap.size w W1:=by rw [hW1];(exact bel)
 have hs1:w4.heap.size+1<=W1.heap.size:=by rw [hW1];simp
 have hw4:w3.heap.size+1<=w4.heap.size:=by have:=hb4.size;simpa using this
 have hw3:w.heap.size+1+1+1<=w3.heap.size:=by have:=hb3.size;simpa using this
 have hRB1:w3.heap.size+1<=RB:=by simpa using hRB0
 have x1:W1.cell? ⟨w.heap.size+1,0,none⟩=some (.int .i64 0):=by
  rw [hW1,World.cell?_alloc_past _ _ _ (by omega),hc4 _ _ (by simp;omega),World.cell?_alloc_past _ _ _ (by omega),hc3 _ _ (by simp),World.cell?_alloc_past _ _ _ (by simp),alloc1_cell (by simp)]
 have x2:W1.frozen? ⟨w.heap.size+1,0,none⟩=false:=by
  rw [hW1,World.frozen?_alloc_past _ _ _ (by omega),hf4 _ _ (by simp;omega),World.frozen?_alloc_past _ _ _ (by omega),hf3 _ _ (by simp),World.frozen?_alloc_past _ _ _ (by simp),World.frozen?_alloc_at _ _ _ _ (by simp)]
 have x3:W1.cell? ⟨w.heap.size+1+1,0,none⟩=some (.bool false):=by
  rw [hW1,World.cell?_alloc_past _ _ _ (by omega),hc4 _ _ (by simp;omega),World.cell?_alloc_past _ _ _ (by omega),hc3 _ _ (by simp),alloc1_cell (by simp)]
 have x4:W1.frozen? ⟨w.heap.size+1+1,0,none⟩=false:=by
  rw [hW1,World.frozen?_alloc_past _ _ _ (by omega),hf4 _ _ (by simp;omega),World.frozen?_alloc_past _ _ _ (by omega),hf3 _ _ (by simp),World.frozen?_alloc_at _ _ _ _ (by simp)]
 have hN:∀ k u,(#[.int .i64 b.room,.int .i64 b.gap,.slice ma b.ms.length mc,.slice sa b.ss.length sc,.slice ra b.rs.length rc,.slice (some ⟨RB,0,none⟩) b.ms.length lc2]:Array Value)[k]? = some u->W1.cell? ⟨w4.heap.size,k,none⟩=some u:=fun k u hk=>by
  rw [hW1,World.cell?_alloc_at _ _ _ _ rfl];exact hk
 have hli:IntsAt W1 (some ⟨RB,0,none⟩) (loadsI b):=HLD.out.below (by rw [hW1];(exact bel));have HN:=Hh hN;have HLI:=Hh hli;have HJ0:Hid (LatJ b w W1 [] W1):=⟨x1,x2,x3,x4,KS.refl _ _⟩;clear hW1 hN hli x1 x2 x3 x4 hc3 hf3 hc4 hf4 hb3 hb4;refine wpIn_wide.1 (wpIn_range (gf:=34) (recv:=.agg #[.int .i64 b.room,.int .i64 b.gap,.slice ma b.ms.length mc,.slice sa b.ss.length sc,.slice ra b.rs.length rc,.slice (some ⟨RB,0,none⟩) b.ms.length lc2]) rfl (enters_of Tryz.func34 (by kernel_rfl) rfl)
  (encPl (W1.heap.size+1+1) b.ms.length) (fun x args W h=>by obtain ⟨a,c,tn,rfl,_⟩:=h;rfl) (plansI (loadsI b)) (fun k=>k=W1.heap.size+1+1+1+1) (fun k=>(k < W1.heap.size/\k≠w.heap.size+1/\k≠w.heap.size+1+1)\/(W1.heap.size+2<=k/\k<=W1.heap.size+6)) ⟨by omega,by omega⟩ (by omega)
  (fun W hW hsz=>?seq) (fun pre A=>LatJ b w W1 pre A) (fun _ _=>False) ?hJ ?hJx ?h0 (fun pre x a A=>∃ ta tc,IntsAt A (some ⟨W1.heap.size+1+1+1+1,0,none⟩) x.1/\x.1.length=b.ms.length/\IntsAt A ta x.2/\(∀ y,ta=some y->W1.heap.size+1 < y.block)/\LatJ b w W1 pre A/\W1.heap.size+1+1+1+1 < A.heap.size/\a={ tmps:=#[.agg #[.int .i64 b.room,.int .i64 b.gap,.slice ma b.ms.length mc,.slice sa b.ss.length sc,.slice ra b.rs.length rc],.pointer (some ⟨w.heap.size,0,none⟩),.pointer (some ⟨w.heap.size+1,0,none⟩),.pointer (some ⟨w.heap.size+1+1,0,none⟩),.int .i64 0,.pointer (some ⟨w3.heap.size,0,none⟩),.slice la (pasts b).length lc,.pointer (some ⟨w4.heap.size,0,none⟩),.slice (some ⟨W1.heap.size+1+1+1+1,0,none⟩) b.ms.length b.ms.length,.slice ta x.2.length tc,U,U,.tuple #[.agg #[.int .i64 b.room,.int .i64 b.gap,.slice ma b.ms.length mc,.slice sa b.ss.length sc,.slice ra b.rs.length rc],.slice la (pasts b).length lc,.int .i64 0],.agg #[.int .i64 b.room,.int .i64 b.gap,.slice ma b.ms.length mc,.slice sa b.ss.length sc,.slice ra b.rs.length rc],.tuple #[.agg #[.int .i64 b.room,.int .i64 b.gap,.slice ma b.ms.length mc,.slice sa b.ss.length sc,.slice ra b.rs.length rc],.slice la (pasts b).length lc,.int .i64 0],.agg #[.int .i64 b.room,.int .i64 b.gap,.slice ma b.ms.length mc,.slice sa b.ss.length sc,.slice ra b.rs.length rc],.slice la (pasts b).length lc,.int .i64 0,.int .i64 0,.bool false,U,.agg #[.int .i64 b.room,.int .i64 b.gap,.slice ma b.ms.length mc,.slice sa b.ss.length sc,.slice ra b.rs.length rc],.slice la (pasts b).length lc,.agg #[.int .i64 b.room,.int .i64 b.gap,.slice ma b.ms.length mc,.slice sa b.ss.length sc,.slice ra b.rs.length rc,.slice (some ⟨RB,0,none⟩) b.ms.length lc2],.agg #[.int .i64 b.room,.int .i64 b.gap,.slice ma b.ms.length mc,.slice sa b.ss.length sc,.slice ra b.rs.length rc,.slice (some ⟨RB,0,none⟩) b.ms.length lc2],.func (.func 34) #[.agg #[.int .i64 b.room,.int .i64 b.gap,.slice ma b.ms.length mc,.slice sa b.ss.length sc,.slice ra b.rs.length rc,.slice (some ⟨RB,0,none⟩) b.ms.length lc2]] #[],.slice (some ⟨W1.heap.size+1+1+1+1,0,none⟩) b.ms.length b.ms.length,.slice ta x.2.length tc,U,U,U,U,U,U,U,U,U,U,U,U,U,U,U,U,U,U,U,U,U,U,U,U,U,U],defers:=[] }) ?hMid ?assign ?body ?done ?stop)
 case seq =>
  have hh:=plans_iter (vr:=.int .i64 b.room) (vg:=.int .i64 b.gap) (vm:=.slice ma b.ms.length mc) (vs:=.slice sa b.ss.length sc) (vc:=.slice ra b.rs.length rc) (lc:=lc2) (n:=b.ms.length) (HLI.out.below hW) (by omega) (loadsI_bd HBA.out) (loadsOf_length _ _) (by omega) (p:=fun k=>(k < W1.heap.size/\k≠w.heap.size+1/\k≠w.heap.size+1+1)\/(W1.heap.size+2<=k/\k<=W1.heap.size+6)) (.inl (by omega)) (fun k h1 h2=>.inr (by omega));rw [hsz] at hh;exact hh
 case hJ=>exact fun pre A B h hk=>h.keep hk (by omega) (by omega) (fun k h=>by omega)
 case hJx=>exact fun _ _ _ h _=>h
 case h0=>exact fun W hW hsz=>HJ0.out.keep (KS.all hW (fun _=>True)) trivial trivial (fun _ _=>trivial)
 case hMid =>
  rintro pre x a₁ A B ⟨ta,tc,h1,h2,h3,h4,h5,h6,ha⟩ hk hsz;refine ⟨ta,tc,h1.ks hk (by omega),h2,?_,h4,h5.keep hk (by omega) (by omega) (fun k h=>by omega),by omega,ha⟩;rcases ta with _ | ⟨g,o,sel⟩
  ·intro i hi;obtain ⟨_,_,e,_⟩:=h3 i hi;cases e
  ·intro i hi;obtain ⟨g',o',e,hlt,hc⟩:=h3 i hi;have:=h4 _ e;simp only at this;exact ⟨g',o',e,by omega,(hk.cell (x:=⟨g',o'+i,none⟩) hlt (by simp;omega)).trans hc⟩
 case assign =>
  rintro pre x args A hx ⟨ta,tc,tn,rfl,rfl,hl,hi1,hi2,htb,hsz⟩ hj hlt;have HTB:=Hh htb;have HJ:=Hh hj;have HI1:=Hh hi1;have HI2:=Hh hi2;clear hj hx hi1 hi2 htb;rw [two_param];show Code.wpIn _ _ _ _ _ { tmps:=#[.agg #[.int .i64 b.room,.int .i64 b.gap,.slice ma b.ms.length mc,.slice sa b.ss.length sc,.slice ra b.rs.length rc],.pointer (some ⟨w.heap.size,0,none⟩),.pointer (some ⟨w.heap.size+1,0,none⟩),.pointer (some ⟨w.heap.size+1+1,0,none⟩),.int .i64 0,.pointer (some ⟨w3.heap.size,0,none⟩),.slice la (pasts b).length lc,.pointer (some ⟨w4.heap.size,0,none⟩),U,U,U,U,.tuple #[.agg #[.int .i64 b.room,.int .i64 b.gap,.slice ma b.ms.length mc,.slice sa b.ss.length sc,.slice ra b.rs.length rc],.slice la (pasts b).length lc,.int .i64 0],.agg #[.int .i64 b.room,.int .i64 b.gap,.slice ma b.ms.length mc,.slice sa b.ss.length sc,.slice ra b.rs.length rc],.tuple #[.agg #[.int .i64 b.room,.int .i64 b.gap,.slice ma b.ms.length mc,.slice sa b.ss.length sc,.slice ra b.rs.length rc],.slice la (pasts b).length lc,.int .i64 0],.agg #[.int .i64 b.room,.int .i64 b.gap,.slice ma b.ms.length mc,.slice sa b.ss.length sc,.slice ra b.rs.length rc],.slice la (pasts b).length lc,.int .i64 0,.int .i64 0,.bool false,U,.agg #[.int .i64 b.room,.int .i64 b.gap,.slice ma b.ms.length mc,.slice sa b.ss.length sc,.slice ra b.rs.length rc],.slice la (pasts b).length lc,.agg #[.int .i64 b.room,.int .i64 b.gap,.slice ma b.ms.length mc,.slice sa b.ss.length sc,.slice ra b.rs.length rc,.slice (some ⟨RB,0,none⟩) b.ms.length lc2],.agg #[.int .i64 b.room,.int .i64 b.gap,.slice ma b.ms.length mc,.slice sa b.ss.length sc,.slice ra b.rs.length rc,.slice (some ⟨RB,0,none⟩) b.ms.length lc2],.func (.func 34) #[.agg #[.int .i64 b.room,.int .i64 b.gap,.slice ma b.ms.length mc,.slice sa b.ss.length sc,.slice ra b.rs.length rc,.slice (some ⟨RB,0,none⟩) b.ms.length lc2]] #[],.slice (some ⟨W1.heap.size+1+1+1+1,0,none⟩) b.ms.length b.ms.length,.slice ta x.2.length tc,U,U,U,U,U,U,U,U,U,U,U,U,U,U,U,U,U,U,U,U,U,U,U,U,U,U],defers:=[] } _
  gi_wp2
  gi_wp2
  exact ⟨KS.refl _ _,ta,tc,HI1.out,hl,HI2.out,fun y hy=>by have:=HTB.out y hy;omega,HJ.out,by omega,rfl⟩
 case body =>
  rintro pre x a₁ A ⟨suf,hx⟩ ⟨ta,tc,h1,h2,h3,h4,hj,h6,rfl⟩ hlt;have hmem:x∈plansI (loadsI b):=by rw [hx];simp
  obtain ⟨hok,hxl⟩:=plansI_mem hmem;have hpl5:x.1.length<=50:=by omega
  have hbd:=planOk_bd hok hpl5 (loadsI_bd HBA.out);have hll:(loadsI b).length=x.1.length:=by rw [h2];exact loadsOf_length _ _
  have hkt:=planOk_lt hok hll;have hN:=nightOk HBA.out;have hbA:Below w.heap.size w A:=by
   have:=hj.ks;exact ⟨this.os.trans hb1.os,this.tape.trans hb1.tape,this.output.trans hb1.output,Nat.le_trans hb1.size this.size,fun k hk=>(this.block k (by omega) (by omega)).trans (hb1.block k hk)⟩
  have hla:=late_at (pc:=b.ms.length) (tc:=tc) (HB.out.below hbA) hN.due hN.gap (.slice (some ⟨RB,0,none⟩) b.ms.length lc2) rfl h1 (pn:=b.ms.length) h2.symm h2 h3 rfl hbd.2 hbd.1 hkt (by omega);have hlb:=lateI_bd (plan:=x.1) hN.due hN.gap hbd.2 hbd.1;have hst:(pre ++ [x]).foldl (latestStep b) none=latestStep b (pre.foldl (latestStep b) none) x:=by rw [List.foldl_append];rfl
  have hls:∀ st,latestStep b st x=if fitsI b x.2 && decide (lateI b x.1 x.2<=0) && (match st with | none=>true | some y=>decide (y < - lateI b x.1 x.2)) then some (- lateI b x.1 x.2) else st:=fun st=>rfl;have nn:∀ k u,(#[.int .i64 b.room,.int .i64 b.gap,.slice ma b.ms.length mc,.slice sa b.ss.length sc,.slice ra b.rs.length rc,.slice (some ⟨RB,0,none⟩) b.ms.length lc2]:Array Value)[k]? = some u->A.cell? ⟨w4.heap.size,k,none⟩=some u:=fun k u hk =>
   (hj.ks.cell (x:=⟨w4.heap.size,k,none⟩) (by simp;omega) (by simp;omega)).trans (HN.out k u hk)
  obtain ⟨n0,n1,n2,n3,n4,n5⟩:_/\_/\_/\_/\_/\_:=⟨nn 0 _ rfl,nn 1 _ rfl,nn 2 _ rfl,nn 3 _ rfl,nn 4 _ rfl,nn 5 _ rfl⟩;have jc:=hj.c;have jf:=hj.f;have jd:=hj.d;have jg:=hj.g;have hAl:w4.heap.size < A.heap.size:=by have:=hj.ks.size;omega
  have hB1:=lt_of_cell jc;have hB2:=lt_of_cell jd;simp only at hB1 hB2;have HJ:=Hh hj;have HST:=Hh hst;have HLS:=Hh hls;have HLA:=Hh hla;generalize lateI b x.1 x.2=L at HLA HLS hlb;generalize fitsI b x.2=F at HLA HLS;have hneg:IntKind.i64.wrap (- L)=- L:=IntWalk.i64_in _ (by omega);clear hx h1 h2 h3 h4 hj hmem hok hxl hbd hll hkt hN hst hls hla nn hpl5;have same:∀ B,Below A.heap.size A B->latestStep b (pre.foldl (latestStep b) none) x=pre.foldl (latestStep b) none->KS (fun k=>((k < W1.heap.size/\k≠w.heap.size+1/\k≠w.heap.size+1+1)\/(W1.heap.size+2<=k/\k<=W1.heap.size+6))\/k=W1.heap.size\/k=W1.heap.size+1) A B/\LatJ b w W1 (pre ++ [x]) B:=fun B hb he=>by
   refine ⟨KS.all hb _,?_⟩;have h:=HJ.out.keep (KS.all hb (fun _=>True)) trivial trivial (fun _ _=>trivial);exact ⟨by rw [HST.out,he];exact h.c,h.f,by rw [HST.out,he];exact h.d,h.g,h.ks⟩
  have turn:∀ B,Below A.heap.size A B->latestStep b (pre.foldl (latestStep b) none) x=some (- L)->KS (fun k=>((k < W1.heap.size/\k≠w.heap.size+1/\k≠w.heap.size+1+1)\/(W1.heap.size+2<=k/\k<=W1.heap.size+6))\/k=W1.heap.size\/k=W1.heap.size+1) A ((B.setCell ⟨w.heap.size+1,0,none⟩ (.int .i64 (- L))).setCell ⟨w.heap.size+1+1,0,none⟩ (.bool true)) /\
   LatJ b w W1 (pre ++ [x]) ((B.setCell ⟨w.heap.size+1,0,none⟩ (.int .i64 (- L))).setCell ⟨w.heap.size+1+1,0,none⟩ (.bool true)):=fun B hb he=>by
   have h:=HJ.out.keep (KS.all hb (fun _=>True)) trivial trivial (fun _ _=>trivial);have k1:KS (fun k=>k≠w.heap.size+1/\k≠w.heap.size+1+1) B ((B.setCell ⟨w.heap.size+1,0,none⟩ (.int .i64 (- L))).setCell ⟨w.heap.size+1+1,0,none⟩ (.bool true)):=(KS.setCell (by simp) _ _).trans (KS.setCell (by simp) _ _);refine ⟨(KS.all hb _).trans (k1.mono fun k _ hk=>by omega),?_,?_,?_,?_,h.ks.trans (k1.mono fun k _ hk=>⟨hk.2.1,hk.2.2⟩)⟩
   ·rw [World.cell?_setCell_other (h:=fun e=>by injection e with e _ _;omega),World.cell?_setCell_same' _ _ _ (by rw [h.c];rfl),HST.out,he];rfl
   ·rw [World.frozen?_setCell,World.frozen?_setCell];exact h.f
   ·rw [World.cell?_setCell_same' _ _ _ (by rw [World.cell?_setCell_other (h:=fun e=>by injection e with e _ _;omega),h.d];rfl),HST.out,he];rfl
   ·rw [World.frozen?_setCell,World.frozen?_setCell];exact h.g
  have SAME:=Hh same;have TURN:=Hh turn;clear same turn;cases F
  ·gi_wp2_with (gi_at_call 55;(with_reducible refine (calls_round HLA.out).mono ?_);rintro e w5 ⟨rfl,hb5⟩;obtain ⟨hc5,hf5⟩:=bcell hb5;have hz5:=hb5.size)
   exact SAME.out w5 hb5 (by rw [HLS.out];simp)
  ·by_cases hL:L<=0
   ·cases hs:pre.foldl (latestStep b) none with
    | none =>
     rw [hs] at jc jd;simp only [Option.getD_none,Option.isSome_none] at jc jd;have HS:=Hh hs;clear hs
     gi_wp2_with (gi_at_call 55;(with_reducible refine (calls_round HLA.out).mono ?_);rintro e w5 ⟨rfl,hb5⟩;obtain ⟨hc5,hf5⟩:=bcell hb5;have hz5:=hb5.size)
     exact TURN.out w5 hb5 (by rw [HLS.out,HS.out];simp [hL])
    | some y =>
     rw [hs] at jc jd;simp only [Option.getD_some,Option.isSome_some] at jc jd;have HS:=Hh hs;clear hs;by_cases hy:y < - L
     ·gi_wp2_with (gi_at_call 55;(with_reducible refine (calls_round HLA.out).mono ?_);rintro e w5 ⟨rfl,hb5⟩;obtain ⟨hc5,hf5⟩:=bcell hb5;have hz5:=hb5.size)
      exact TURN.out w5 hb5 (by rw [HLS.out,HS.out];simp [hL,hy])
     ·gi_wp2_with (gi_at_call 55;(with_reducible refine (calls_round HLA.out).mono ?_);rintro e w5 ⟨rfl,hb5⟩;obtain ⟨hc5,hf5⟩:=bcell hb5;have hz5:=hb5.size)
      exact SAME.out w5 hb5 (by rw [HLS.out,HS.out];simp [hL];intro h;omega)
   ·gi_wp2_with (gi_at_call 55;(with_reducible refine (calls_round HLA.out).mono ?_);rintro e w5 ⟨rfl,hb5⟩;obtain ⟨hc5,hf5⟩:=bcell hb5;have hz5:=hb5.size)
    exact SAME.out w5 hb5 (by rw [HLS.out];simp;intro h;omega)
 case done =>
  rintro W hj hd;have jc:=hj.c;have jf:=hj.f;have jd:=hj.d;have jg:=hj.g;have HJ:=Hh hj;have hD:W1.heap.size < W.heap.size:=(Array.getElem?_eq_some_iff.1 hd).1;have hB1:=lt_of_cell jc;have hB2:=lt_of_cell jd;simp only at hB1 hB2;generalize hst:(plansI (loadsI b)).foldl (latestStep b) none=st at jc jd;have HST:=Hh (show latestI b (loadsI b)=st from hst);clear hst;clear hj;go_wp2
  go_region
  go_wp2;obtain ⟨W9,hW9⟩:∃ W9,W9=((W.setCell ⟨w.heap.size+1,0,none⟩ (.int .i64 (st.getD 0))).setCell ⟨w.heap.size+1+1,0,none⟩ (.bool st.isSome)).drew:=⟨_,rfl⟩;rw [<- hW9];have k9:KS (fun k=>k≠w.heap.size+1/\k≠w.heap.size+1+1) W W9:=by rw [hW9];exact ((KS.setCell (by simp) _ _).trans (KS.setCell (by simp) _ _)).trans (KS.drew _ _)
  have hd9:W9.heap[W1.heap.size]? = some (.deferred (some [])):=(k9.block _ hD (by omega)).trans hd;have k10:KS (fun k=>k≠W1.heap.size) W9 (W9.putObj W1.heap.size (.deferred none)):=KS.putObj (by simp) _ _;have c1:(W9.putObj W1.heap.size (.deferred none)).cell? ⟨w.heap.size+1,0,none⟩=some (.int .i64 (st.getD 0)):=by
   rw [k10.cell (x:=⟨w.heap.size+1,0,none⟩) (Nat.lt_of_lt_of_le hB1 k9.size) (by simp;omega),hW9,World.cell?_drew,World.cell?_setCell_other (h:=fun e=>by injection e with e _ _;omega),World.cell?_setCell_same' _ _ _ (by rw [jc];rfl)]
  have c2:(W9.putObj W1.heap.size (.deferred none)).cell? ⟨w.heap.size+1+1,0,none⟩=some (.bool st.isSome):=by
   rw [k10.cell (x:=⟨w.heap.size+1+1,0,none⟩) (Nat.lt_of_lt_of_le hB2 k9.size) (by simp;omega),hW9,World.cell?_drew,World.cell?_setCell_same' _ _ _ (by rw [World.cell?_setCell_other (h:=fun e=>by injection e with e _ _;omega),jd];rfl)]
  have hbw:Below w.heap.size w (W9.putObj W1.heap.size (.deferred none)):=by
   have h1:=HJ.out.ks;have h2:=(h1.toBelow (n:=w.heap.size) (by omega) (fun k hk=>by omega));have h3:=(k9.toBelow (n:=w.heap.size) (by omega) (fun k hk=>by omega));have h4:=(k10.toBelow (n:=w.heap.size) (by have:=k9.size;omega) (fun k hk=>by omega));exact ((hb1.trans h2).trans h3).trans h4
  clear hW9 jc jd jf jg;refine ⟨by simp,.inl ⟨_,_,rfl,run_takeDeferred hd9,?_⟩⟩;exact ⟨.tuple #[.int .i64 (st.getD 0),.bool st.isSome,.int .i64 0],by simp [results,Tryz.results16,go_sem,c1,c2],by rw [HST.out],hbw⟩
 case stop=>exact fun _ _ h _=>h.elim
end
theorem rin_any (n low high:Int) (w:World):Calls Tryz.prog 51 #[.int .i64 n,.int .i64 low,.int .i64 high] w fun e w'=>e=.returned (.bool (inB n low high))/\w'=w:=by
 by_cases h1:low<=n
 ·by_cases h2:n<=high
  ·go_enter Tryz.func51,Tryz.ntmps51
   go_wp2;go_ret;exact ⟨by simp [inB,h1,h2],rfl⟩
  ·go_enter Tryz.func51,Tryz.ntmps51
   go_wp2;go_ret;exact ⟨by simp [inB,h1,h2],rfl⟩
 ·go_enter Tryz.func51,Tryz.ntmps51
  go_wp2;go_ret;exact ⟨by simp [inB];omega,rfl⟩
theorem rin_at {n low high:Int} {b:Bool} {w:World} (h:inB n low high=b):Calls Tryz.prog 51 #[.int .i64 n,.int .i64 low,.int .i64 high] w fun e w'=>e=.returned (.bool b)/\w'=w :=
 (rin_any _ _ _ _).mono fun _ _ ⟨a,b⟩=>⟨h ▸ a,b⟩
theorem there_at {n:Int} {m:Nat} {b:Bool} {w:World} (hm:m<=1000000) (h:inB n 0 ((m:Int) - 1)=b):Calls Tryz.prog 102 #[.int .i64 n,.int .i64 m] w fun e w'=>e=.returned (.bool b)/\w'=w:=by
 have e1:IntKind.i64.wrap ((m:Int) - 1)=(m:Int) - 1:=IntWalk.i64_in _ (by omega);have H:=Hh h;clear h
 go_enter Tryz.func102,Tryz.ntmps102
 go_wp2_with (go_at_call 51;(with_reducible refine (rin_at H.out).mono ?_);rintro e w' ⟨rfl,rfl⟩);go_ret;exact ⟨rfl,rfl⟩
theorem thereI_at {n m:Int} {b:Bool} {w:World} (hm:0<=m/\m<=1000000) (h:inB n 0 (m - 1)=b):Calls Tryz.prog 102 #[.int .i64 n,.int .i64 m] w fun e w'=>e=.returned (.bool b)/\w'=w:=by
 obtain ⟨k,rfl⟩:∃ k:Nat,m=k:=⟨m.toNat,by omega⟩;exact there_at (by omega) h
theorem rIsName_at (s:ByteArray) (w:World) (hs:s.size<=1000000) {t:Bool} (h:isName s.data.toList=t) :
 Calls Tryz.prog 99 #[.string s] w fun e w'=>e=.returned (.bool t)/\w'=w:=by
 have H:=Hh h;clear h
 go_enter Tryz.func99,Tryz.ntmps99
 go_wp2;go_loop [3] (fun i=>∃ k:Nat,k<=s.size/\i=.int .i64 k/\∀ j,j < k->okAt j (s.data.toList.getD j 0)=true) (fun i=>s.size - (intOf i).toNat)
 case atStart=>exact ⟨0,Nat.zero_le _,rfl,fun j hj=>absurd hj (Nat.not_lt_zero _)⟩
 case round =>
  obtain ⟨k,hk,rfl,hok⟩:=hrel;by_cases hlt:k < s.size
  ·obtain ⟨n,hn⟩:∃ n:Nat,s[k].toNat=n:=⟨_,rfl⟩;have hok1:okAt k (s.data.toList.getD k 0)=okAt k s[k]:=by simp [hlt];rfl
   have hokn:okAt k s[k]=(decide (97<=n/\n<=122) || (decide (0 < k) && decide (48<=n/\n<=57))):=by simp [okAt,letter,digit,hn]
   have H1:=Hh hok1;have H2:=Hh hokn;clear hok1 hokn;have H3:=Hh hok;clear hok;have hcases:(97<=n/\n<=122)\/(97<=n/\122 < n/\0 < k)\/(97<=n/\122 < n/\k=0)\/(n < 97/\k=0)\/(n < 97/\0 < k/\n < 48)\/(n < 97/\0 < k/\48<=n/\n<=57)\/(n < 97/\0 < k/\48<=n/\57 < n):=by omega
   have yes:((97<=n/\n<=122)\/(0 < k/\48<=n/\n<=57))->∀ j,j < k+1->okAt j (s.data.toList.getD j 0)=true:=fun hh j hj=>by
    by_cases hjk:j < k
    ·exact H3.out j hjk
    ·obtain rfl:j=k:=by omega
     rw [H1.out,H2.out];simp;omega
   have no:¬ ((97<=n/\n<=122)\/(0 < k/\48<=n/\n<=57))->t=false:=fun hh=>by
    have h0:okAt k s[k]=false:=by
     rw [H2.out];simp;omega
    rw [<- H.out];simp only [isName,okName];have:((List.range s.data.toList.length).all fun i=>okAt i (s.data.toList.getD i 0))=false:=by
     rw [List.all_eq_false];refine ⟨k,by simpa using hlt,?_⟩;rw [H1.out,h0];simp
    rw [this,Bool.false_and]
   rcases hcases with ⟨g1,g2⟩ | ⟨g1,g2,g3⟩ | ⟨g1,g2,g3⟩ | ⟨g1,g3⟩ | ⟨g1,g2,g3⟩ | ⟨g1,g2,g3,g4⟩ | ⟨g1,g2,g3,g4⟩
   case inl | inr.inr.inr.inr.inr.inl =>
    have Y:=Hh (yes (by omega));clear yes no;go_wp2
    all_goals first
     | (exfalso;simp_all;omega)
     | (go_round
        case rel=>exact ⟨k+1,hlt,by go_num,Y.out⟩
        case measure=>simp [intOf];omega)
   all_goals
    have N:=no (by omega);clear yes no;subst N;go_wp2
    all_goals first
     | (exfalso;simp_all;omega)
     | (go_ret
        exact ⟨rfl,rfl⟩)
  ·have hke:k=s.size:=by omega
   have hN:okName s.data.toList=true:=by
    simp only [okName,List.all_eq_true,List.mem_range];exact fun j hj=>hok j (by rw [hke];simpa using hj)
   have hI:inB s.size 1 9=t:=by rw [<- H.out];simp [isName,hN]
   have HI:=Hh hI;clear hI hN hke hok;go_wp2_with (go_at_call 51;(with_reducible refine (rin_at HI.out).mono ?_);rintro e w' ⟨rfl,rfl⟩);go_ret;exact ⟨rfl,rfl⟩
def lesserI:List Int->List Int->Bool
 | x::l,y::m=>if x=y then lesserI l m else decide (x < y)
 | [],_::_=>true
 | _,[]=>false
end
end Go.Proofs.YtgagoahfdnnpkaaGreatDoor
