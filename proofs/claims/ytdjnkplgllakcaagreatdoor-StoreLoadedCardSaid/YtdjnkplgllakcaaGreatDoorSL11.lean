/- StoreLoaded -/
import Derived.Test.YtdjnkplgllakcaaGreatDoorSL10
set_option maxHeartbeats 2000000
set_option maxRecDepth 100000
set_option linter.all false
namespace Go.Proofs.YtdjnkplgllakcaaGreatDoor
open Go.RowKit Go.Maps Sp
attribute [local go_sem] Oper.semAt_some
namespace Sp
def onTape (plan:List Int) (tape:Int) (p:Prt):Bool:=decide (plan.getD p.1.toNat 0=tape)
def punchI (plan:List Int) (tape:Int) (l:List Prt):List Prt:=l.filter (onTape plan tape)
end Sp
theorem punchI_snoc (plan:List Int) (tape:Int) (l:List Prt) (p:Prt):punchI plan tape (l ++ [p])=punchI plan tape l ++ if onTape plan tape p=true then [p] else []:=by
 unfold punchI;rw [List.filter_append,List.filter_cons,List.filter_nil]
theorem cells_new' (w:World) (cs:List Value) (t:TypeId) {n:Nat} (hn:n=w.heap.size):∀ j u,cs[j]? = some u->(w.alloc (.cells cs.toArray t)).cell? (Addr.add ⟨n,0,none⟩ j)=some u:=by
 subst hn;exact cells_new w cs t
section
variable {b:Bk} {vr vg vm vs vc:Value} {w:World}
def PunchRow (w:World) (l:List Prt) (e:Ending) (w':World):Prop:=∃ a c,e=.returned (.tuple #[.agg #[.slice a l.length c],.int .i64 0])/\PartsAt w' a l/\Below w.heap.size w w'
theorem missI_part {b:Bk} {p:Prt} (h:p∈missI b):0<=p.1/\p.1 < (b.ms.length:Int)/\isPart b p=true:=by
 have h1:=parts_isPart (List.mem_filter.1 h).1;have h2:=h1;unfold isPart inB at h1;simp only [Bool.and_eq_true,decide_eq_true_eq] at h1;exact ⟨h1.1.1,by omega,h2⟩
theorem punch_ok (hB:BookAt w b vr vg vm vs vc) (hN:∀ m∈b.ms,m.name.size<=1000000) (hK:KindsAt w) {pa:Option Addr} {pc:Nat} {plan:List Int} {pn:Nat} (hpl:pn=plan.length) (hP:IntsAt w pa plan) (tape:Int) (ht:openAl b (planAsk b.ms.length plan.length 0)=0) {o:List Int} (ho:planOk (loadsI b) plan=some o)
 (hin:inB tape 0 ((o.length:Int) - 1)=true) (hfew:(punchI plan tape (missI b)).length<=5) :
 Calls Tryz.prog 27 #[.agg #[vr,vg,vm,vs,vc],.slice pa pn pc,.int .i64 tape] w (PunchRow w (punchI plan tape (missI b))):=by
 have HB:=Hh hB;have HN:=Hh hN;have HK:=Hh hK;have HP:=Hh hP;have HT:=Hh ht;have HOO:=Hh ho;have HPL:=Hh hpl;have HIN:=Hh hin;obtain ⟨hk,hpt,hps⟩:=openAl_ok ht;have hbo:=(bookAl_ok hk).1;have HO:=Hh hbo;obtain ⟨_,hpm⟩:=planAsk_ok hpt;have hml5:=hbo.ml;have HPM:=Hh hpm;have HBD:=Hh (planOk_bd ho (by omega) (loadsI_bd hk));have hol:=(planOk_bd ho (by omega) (loadsI_bd hk)).2;have HPC:=Hh (fun x (hx:x∈pasts b)=>pasts_came hbo hx);have hple:=pasts_le hbo;have hmi:=missI_bd hk;have hwo:IntKind.i64.wrap ((o.length:Int) - 1)=(o.length:Int) - 1:=wrapI (by omega) (by omega);have HWO:=Hh hwo;obtain ⟨rfl,rfl,⟨ma,mc,rfl,_,_⟩,⟨sa,sc,rfl,_,_⟩,ra,rc,rfl,_,_⟩:=id hB;clear hB hN hK hP ht hpl ho hk hpt hps hbo hpm hin
 go_enter Tryz.func27,Tryz.ntmps27
 go_wp2_with (first
  | (go_at_call 44;(with_reducible refine (planned_yes (HB.out.below (bel)) HN.out (HK.out.below (bel)) HPL.out (HP.out.below (bel)) 0 HT.out HOO.out).mono ?_);rintro e w3 ⟨RB,lc,tc,lc2,ta,la,rfl,hl3,ht3,hc3,hb3⟩;have HC3:=Hh hc3;clear hl3 ht3 hc3;have hz3:=hb3.size;(try simp at hz3))
  | (go_at_call 58;(with_reducible refine (inside_at HIN.out).mono ?_);rintro e w' ⟨rfl,rfl⟩)
  | (go_at_call 36;(with_reducible refine (missing_at (HB.out.below (bel)) HO.out (HC3.out.below (bel)) HPC.out (by omega)).mono ?_);rintro e w4 ⟨v4,rfl,hr4,hb4⟩;obtain ⟨a4,c4,rfl⟩:=ownsRow_slice hr4;have HP4:=Hh (show PartsAt w4 a4 (missI b) from parts_of_row hr4);have HG4:=Hh (row_ge hr4);rw [show (missL b (pasts b) (partsL b)).length=(missI b).length from rfl];clear hr4;have hz4:=hb4.size;(try simp at hz4)))
 have x1:w4.cell? ⟨w3.heap.size+1,0,none⟩=some (.slice none 0 0):=by
  refine (hb4.cell (p:=⟨w3.heap.size+1,0,none⟩) (by simp)).trans ?_;rw [World.cell?_alloc_at _ _ _ _ (by simp)];rfl
 have x2:w4.frozen? ⟨w3.heap.size+1,0,none⟩=false:=by
  refine (hb4.frozen (p:=⟨w3.heap.size+1,0,none⟩) (by simp)).trans ?_;rw [World.frozen?_alloc_at _ _ _ _ (by simp)]
 have y1:w4.cell? ⟨w.heap.size+1,0,none⟩=some (.slice none 0 0):=by
  refine (hb4.cell (p:=⟨w.heap.size+1,0,none⟩) (by simp;omega)).trans ?_;rw [World.cell?_alloc_past _ _ _ (by first | omega | (simp;done) | (simp;omega)),World.cell?_alloc_past _ _ _ (by first | omega | (simp;done) | (simp;omega))];refine (hb3.cell (p:=⟨w.heap.size+1,0,none⟩) (by simp)).trans ?_;rw [World.cell?_alloc_at _ _ _ _ (by simp)];rfl
 have y2:w4.frozen? ⟨w.heap.size+1,0,none⟩=false:=by
  refine (hb4.frozen (p:=⟨w.heap.size+1,0,none⟩) (by simp;omega)).trans ?_;rw [World.frozen?_alloc_past _ _ _ (by first | omega | (simp;done) | (simp;omega)),World.frozen?_alloc_past _ _ _ (by first | omega | (simp;done) | (simp;omega))];refine (hb3.frozen (p:=⟨w.heap.size+1,0,none⟩) (by simp)).trans ?_;rw [World.frozen?_alloc_at _ _ _ _ (by simp)]
 have hbw:Below w.heap.size w w4:=bel;have hP4:IntsAt w4 pa plan:=HP.out.below hbw;have HPP:=Hh hP4;have HPL2:=Hh (fun i (hi:i < plan.length)=>HP.out i hi);have HX:=Hh (⟨x1,x2⟩:_/\_);have HY:=Hh (⟨y1,y2⟩:_/\_);have hz9:w3.heap.size+1 < w4.heap.size:=by omega
 have hz10:w.heap.size+1 < w3.heap.size:=by omega
 obtain ⟨i0,hi,hz0,hz1,hz2⟩:=info_parts partInfo;clear hb4 hb3 hP4 x1 x2 y1 y2 hz4 hz3;go_loopw [39] (fun i wr=>∃ (k:Nat) (a:Option Addr) (c:Nat) (l:List Prt),k<=(missI b).length/\i=.int .i64 k/\Hid (l=punchI plan tape ((missI b).take k))/\wr.cell? ⟨w3.heap.size+1,0,none⟩=some (.slice a l.length c)/\wr.frozen? ⟨w3.heap.size+1,0,none⟩=false/\wr.ownsRow w4.heap.size 85 2 (.slice a l.length c) l.length (l.flatMap cellsQ)/\KS (fun k=>k < w4.heap.size/\k≠w3.heap.size+1) w4 wr) (fun i _=>(missI b).length - (intOf i).toNat)
 case atStart=>exact ⟨0,none,0,[],Nat.zero_le _,rfl,rfl,HX.out.1,HX.out.2,by simpa using World.ownsRow_nil _ _ _ _,KS.refl _ _⟩
 case round =>
  obtain ⟨k,a,c,l,hk,rfl,hl,hs1,hs2,hrow,hW⟩:=hrel;have hWs:=hW.size;have hl5:l.length<=20:=by rw [hl.out];exact Nat.le_trans (List.length_filter_le _ _) (by simp;omega)
  by_cases hlt:k < (missI b).length
  ·obtain ⟨lb,lo,rfl,hlb,e0,e1⟩:=HP4.out k hlt;have hge:=HG4.out _ rfl;simp at hge;have d0:=(hW.cell (x:=⟨lb,lo+k * 2,none⟩) hlb (by simp;omega)).trans e0;have d1:=(hW.cell (x:=⟨lb,lo+k * 2+1,none⟩) hlb (by simp;omega)).trans e1;obtain ⟨hp0,hp1,_⟩:=missI_part (List.getElem_mem hlt);have hts:=List.take_succ_eq_append_getElem hlt;have hsn:=punchI_snoc plan tape ((missI b).take k) (missI b)[k];rw [<- hts,<- hl.out] at hsn;generalize (missI b)[k]=p at d0 d1 hp0 hp1 hsn;obtain ⟨p1,p2⟩:=p;simp only at d0 d1 hp0 hp1;obtain ⟨q,rfl⟩:∃ q:Nat,p1=q:=⟨p1.toNat,by omega⟩;have hqn:q < plan.length:=by have:=HPM.out;omega
   have hqn2:(q:Int) < (pn:Int):=by have:=HPL.out;omega
   have hq0:(0:Int)<=(q:Int):=by omega
   obtain ⟨pb,po,rfl,hpb,p0⟩:=HPL2.out q hqn;have d2:wr.cell? ⟨pb,po+q,none⟩=some (.int .i64 plan[q]):=by
    refine (hW.cell (x:=⟨pb,po+q,none⟩) (by simp;omega) (by simp;omega)).trans ((hbw.cell (p:=⟨pb,po+q,none⟩) hpb).trans p0)
   have hon:onTape plan tape ((q:Int),p2)=decide (plan[q]=tape):=by
    unfold onTape;simp only [Int.toNat_natCast,List.getD_eq_getElem?_getD,List.getElem?_eq_getElem hqn,Option.getD_some]
   rw [hon] at hsn;generalize plan[q]=pq at d2 hsn;have hlb2:lb < wr.heap.size:=by omega
   have hpb2:pb < wr.heap.size:=by omega
   have hs9:w3.heap.size+1 < wr.heap.size:=by omega
   have HROW:=Hh hrow;have HW:=Hh hW;have HL:=Hh hl;clear e0 e1 hp0 hp1 hts hon hrow hW hl hge p0;by_cases hon2:pq=tape
   ·have hd:(pq == tape)=true:=by simpa using hon2
    rw [if_pos (by simpa using hon2)] at hsn;have HSN:=Hh hsn;subst hon2;clear hsn;go_wp2_with (at_builtin;go_loud (refine wpList_append_own _ rfl _ _ 31 rfl w4.heap.size 85 i0 (.agg #[.int .i64 0,.int .i64 0]) 2 16 Tryz.underlying31 hi hz0 hz1 hz2 rfl (by decide) _ _ _ rfl ((HROW.out.alloc _).alloc _) ⟨wr.heap.size+1,0,none⟩ 1 1 [.int .i64 q,.int .i64 p2] rfl rfl (cells_new' _ _ _ (by simp)) (by simp [Value.oneCell']) (by unfold maxLen;omega) (by omega) (by simp;omega) ?_;intro v' w5 hown' hgrow _;obtain ⟨g',cap',rfl⟩:=ownsRow_succ hown';have hks:=grow_ks ((HROW.out.alloc _).alloc _) hgrow;have q1:=(hks.cell (x:=⟨w3.heap.size+1,0,none⟩) (by simp;omega) (by simp;omega));have q2:=(hks.frozen (x:=⟨w3.heap.size+1,0,none⟩) (by simp;omega) (by simp;omega));rw [World.cell?_alloc_past _ _ _ (by simp;omega),World.cell?_alloc_past _ _ _ (by omega),hs1] at q1;rw [World.frozen?_alloc_past _ _ _ (by simp;omega),World.frozen?_alloc_past _ _ _ (by omega),hs2] at q2));have h8:KS (fun k=>k < w4.heap.size) wr w5:=((KS.alloc (fun k=>k < w4.heap.size) wr _).trans (KS.alloc _ _ _)).trans hks;have h9:KS (fun k=>k≠w3.heap.size+1) w5 (w5.setCell ⟨w3.heap.size+1,0,none⟩ (.slice (some ⟨g',0,none⟩) (l.length+1) cap')):=KS.setCell (by simp) _ _;have hl8:(l ++ [((q:Int),p2)]).length=l.length+1:=by simp
    have hf8:(l ++ [((q:Int),p2)]).flatMap cellsQ=l.flatMap cellsQ ++ [.int .i64 q,.int .i64 p2]:=by rw [List.flatMap_append];rfl
    go_roundw
    case rel =>
     refine ⟨k+1,some ⟨g',0,none⟩,cap',l ++ [((q:Int),p2)],by omega,by go_num,HSN.out.symm,?_,?_,?_,?_⟩
     ·rw [hl8];exact World.cell?_setCell_same' _ _ _ (by rw [q1];rfl)
     ·rw [World.frozen?_setCell];exact q2
     ·rw [hl8,hf8];exact ownsRow_ks hown' h9 (fun k hk=>by show k≠_;omega)
     ·exact HW.out.trans ((h8.mono fun k _ h=>h.1).trans (h9.mono fun k _ h=>h.2))
    case measure=>simp [intOf];omega
   ·have hd:(pq == tape)=false:=by simpa using hon2
    rw [if_neg (by simpa using hon2),List.append_nil] at hsn;have HSN:=Hh hsn;clear hsn;go_wp2;go_roundw
    case rel =>
     have h8:=KS.alloc (fun _=>True) wr (.cells #[.int .i64 q,.int .i64 p2] 85);exact ⟨k+1,a,c,l,by omega,by go_num,HSN.out.symm,(h8.cell (x:=⟨w3.heap.size+1,0,none⟩) (by simp;omega) trivial).trans hs1,(h8.frozen (x:=⟨w3.heap.size+1,0,none⟩) (by simp;omega) trivial).trans hs2,ownsRow_ks HROW.out h8 (fun _ _=>trivial),HW.out.trans (h8.mono fun _ _ _=>trivial)⟩
    case measure=>simp [intOf];omega
  ·obtain rfl:k=(missI b).length:=by omega
   have hl2:=hl.out;rw [List.take_length] at hl2;have hlen5:l.length<=5:=by rw [hl2];exact hfew
   have hs9:w3.heap.size+1 < wr.heap.size:=by omega
   have hs10:w.heap.size+1 < wr.heap.size:=by omega
   have y1:=(hW.cell (x:=⟨w.heap.size+1,0,none⟩) (by simp;omega) (by simp;omega)).trans HY.out.1;have y2:=(hW.frozen (x:=⟨w.heap.size+1,0,none⟩) (by simp;omega) (by simp;omega)).trans HY.out.2;have HROW:=Hh hrow;have HW:=Hh hW;have HL2:=Hh hl2;clear hrow hW hl hl2;go_wp2;have hB9:Below w.heap.size w (wr.setCell ⟨w.heap.size+1,0,none⟩ (.slice a l.length c)):=by
    have h1:=HW.out.toBelow (n:=w.heap.size) (by omega) (fun k hk=>by omega);exact Below.wr (hbw.trans h1) (by simp) _
   have hr9:(wr.setCell ⟨w.heap.size+1,0,none⟩ (.slice a l.length c)).ownsRow w4.heap.size 85 2 (.slice a l.length c) l.length (l.flatMap cellsQ):=ownsRow_ks HROW.out (KS.setCell (p:=fun k=>k≠w.heap.size+1) (by simp) _ _) (fun k hk=>by show k≠_;omega);have hc9:(wr.setCell ⟨w.heap.size+1,0,none⟩ (.slice a l.length c)).cell? ⟨w.heap.size+1,0,none⟩=some (.slice a l.length c):=World.cell?_setCell_same' _ _ _ (by rw [y1];rfl);refine bodyPost_ret (v:=.tuple #[.agg #[.slice a l.length c],.int .i64 0]) (by simp [results,Tryz.results27,go_sem, *]) rfl ⟨a,c,by rw [<- HL2.out],?_,hB9⟩;rw [<- HL2.out];exact parts_of_row hr9
end
end Go.Proofs.YtdjnkplgllakcaaGreatDoor
