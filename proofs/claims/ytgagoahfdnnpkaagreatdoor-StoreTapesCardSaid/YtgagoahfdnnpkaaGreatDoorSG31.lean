/- StoreTapes -/
import Derived.Test.YtgagoahfdnnpkaaGreatDoorSG30
set_option maxHeartbeats 8000000
set_option maxRecDepth 100000
set_option linter.all false
namespace Go.Proofs.YtgagoahfdnnpkaaGreatDoor
section
open Go.RowKit Go.Maps Sp
section
variable {b:Bk} {vr vg vm vs vc:Value} {w:World} {pa:Option Addr} {pc pn:Nat} {plan:List Int}
def PunchRet (w:World) (l:List Prt) (t:Int) (e:Ending) (w':World):Prop:=∃ a c,e=.returned (.tuple #[.agg #[.slice a l.length c],.int .i64 t])/\PartsAt w' a l/\Below w.heap.size w w'
theorem PunchRet.nil {t:Int} {e:Ending} {w':World} (h:e=.returned (.tuple #[.agg #[.slice none 0 0],.int .i64 t])/\Below w.heap.size w w'):PunchRet w [] t e w':=⟨none,0,h.1,fun i hi=>absurd hi (Nat.not_lt_zero _),h.2⟩
theorem rPunch_no (hB:BookAt w b vr vg vm vs vc) (hN:∀ m∈b.ms,m.name.size<=1000000) (hpl:pn=plan.length) (hp6:plan.length<=1000) (hP:IntsAt w pa plan) (tape:Int) {t:Int} (ht:plannedAl b plan 0=t) (h0:t≠0) :
 Calls Tryz.prog 14 #[.agg #[vr,vg,vm,vs,vc],.slice pa pn pc,.int .i64 tape] w fun e w'=>e=.returned (.tuple #[.agg #[.slice none 0 0],.int .i64 t])/\Below w.heap.size w w':=by
 have HB:=Hh hB;have HN:=Hh hN;have HP:=Hh hP;have HT:=Hh ht;have HT0:=Hh h0;have HPL:=Hh hpl;have HP6:=Hh hp6;have hz3:(t != 0)=true:=by simpa using h0
 obtain ⟨rfl,rfl,⟨ma,mc,rfl,_,_⟩,⟨sa,sc,rfl,_,_⟩,ra,rc,rfl,_,_⟩:=id hB;clear hB hN hP ht h0 hpl
 go_enter Tryz.func14,Tryz.ntmps14
 go_wp2_with (go_at_call 47;(with_reducible refine (rPlanned_no (HB.out.below (bel)) HN.out HPL.out HP6.out (HP.out.below (bel)) 0 HT.out HT0.out).mono ?_);rintro e w1 ⟨rfl,hb1⟩;obtain ⟨hc1,hf1⟩:=bcell hb1;have hz1:w.heap.size+1 < w1.heap.size:=(by have:=hb1.size;simp at this;omega));have y1:w1.cell? ⟨w.heap.size+1,0,none⟩=some (.slice none 0 0):=by
  refine (hb1.cell (p:=⟨w.heap.size+1,0,none⟩) (by simp)).trans ?_;rw [World.cell?_alloc_at _ _ _ _ (by simp)];rfl
 exact bodyPost_ret (v:=.tuple #[.agg #[.slice none 0 0],.int .i64 t]) (by simp [results,Tryz.results14,go_sem, *]) rfl ⟨rfl,bel⟩
theorem rPunch_absent (hB:BookAt w b vr vg vm vs vc) (hN:∀ m∈b.ms,m.name.size<=1000000) (hpl:pn=plan.length) (hP:IntsAt w pa plan) (tape:Int) (ht:plannedAl b plan 0=0) {o:List Int} (ho:planOk (loadsI b) plan=some o) (hin:inB tape 0 ((o.length:Int) - 1)=false) :
 Calls Tryz.prog 14 #[.agg #[vr,vg,vm,vs,vc],.slice pa pn pc,.int .i64 tape] w fun e w'=>e=.returned (.tuple #[.agg #[.slice none 0 0],.int .i64 6])/\Below w.heap.size w w':=by
 subst hpl;obtain ⟨hk,hi,hl,-,-⟩:=plannedAl_yes ht;have hml:=(bookAl_ok hk).1.ml;have HB:=Hh hB;have HN:=Hh hN;have HP:=Hh hP;have HT:=Hh ht;have HO:=Hh ho;have HIN:=Hh hin;have HLL:=Hh (show (loadsI b).length=plan.length by rw [hl];exact loadsOf_length _ _);have HP6:=Hh (show plan.length<=50 by omega);have hol:=(planOk_bd ho (by omega) (loadsI_bd hk)).2;have hwo:IntKind.i64.wrap ((o.length:Int) - 1)=(o.length:Int) - 1:=wrapI (by omega) (by omega);obtain ⟨rfl,rfl,⟨ma,mc,rfl,_,_⟩,⟨sa,sc,rfl,_,_⟩,ra,rc,rfl,_,_⟩:=id hB;clear hB hN hP ht ho hin hk hi hl
 go_enter Tryz.func14,Tryz.ntmps14
 go_wp2_with (first
  | (go_at_call 47;(with_reducible refine (rPlanned_ok (HB.out.below (bel)) HN.out rfl (by have:=HP6.out;omega) (HP.out.below (bel)) 0 HT.out).mono ?_);rintro e w1 ⟨la,lc,rfl,hL,hb1⟩;have HL:=Hh hL;clear hL;obtain ⟨hc1,hf1⟩:=bcell hb1;have hz1:w.heap.size+1 < w1.heap.size:=(by have:=hb1.size;simp at this;omega))
  | (go_at_call 43;(with_reducible refine (tapesOf_at HL.out (HP.out.below (bel)) rfl rfl HLL.out (by have:=HP6.out;omega) HO.out).mono ?_);rintro e w2 ⟨rfl,hb2⟩;obtain ⟨hc2,hf2⟩:=bcell hb2;have hz2:w.heap.size+1 < w2.heap.size:=(by have:=hb2.size;omega))
  | (go_at_call 51;(with_reducible refine (rin_at HIN.out).mono ?_);rintro e w3 ⟨rfl,hw3⟩;subst w3))
 have y1:w2.cell? ⟨w.heap.size+1,0,none⟩=some (.slice none 0 0):=by
  refine (hb2.cell (p:=⟨w.heap.size+1,0,none⟩) hz1).trans ((hb1.cell (p:=⟨w.heap.size+1,0,none⟩) (by simp)).trans ?_);rw [World.cell?_alloc_at _ _ _ _ (by simp)];rfl
 exact bodyPost_ret (v:=.tuple #[.agg #[.slice none 0 0],.int .i64 6]) (by simp [results,Tryz.results14,go_sem, *]) rfl ⟨rfl,bel⟩
def PunchOut (w:World) (l:List Prt) (e:Ending) (w':World):Prop:=(l.length<=5/\∃ a c,e=.returned (.tuple #[.agg #[.slice a l.length c],.int .i64 0])/\PartsAt w' a l/\Below w.heap.size w w')\/(5 < l.length/\e=.returned (.tuple #[.agg #[.slice none 0 0],.int .i64 2])/\Below w.heap.size w w')
theorem rPunch_ok (hB:BookAt w b vr vg vm vs vc) (hN:∀ m∈b.ms,m.name.size<=1000000) (hpl:pn=plan.length) (hP:IntsAt w pa plan) (tape:Int) (ht:plannedAl b plan 0=0) {o:List Int} (ho:planOk (loadsI b) plan=some o) (hin:inB tape 0 ((o.length:Int) - 1)=true) :
 Calls Tryz.prog 14 #[.agg #[vr,vg,vm,vs,vc],.slice pa pn pc,.int .i64 tape] w (PunchOut w (punchI plan tape (missI b))):=by
 subst hpl;obtain ⟨hk,hi,hl,-,-⟩:=plannedAl_yes ht;have hbo:=(bookAl_ok hk).1;have hml:=hbo.ml;have hmi:=missI_bd hk;have hple:=pasts_le hbo;have HB:=Hh hB;have HN:=Hh hN;have HP:=Hh hP;have HT:=Hh ht;have HO:=Hh ho;have HIN:=Hh hin;have HBO:=Hh hbo;have HR:=Hh (bookAl_ok hk).2;have HPA:=Hh (show ∀ x∈pasts b,x.length=b.ss.length/\Came b x from fun x hx=>⟨past_len hx,past_came hx⟩);have HPM:=Hh hl;have HLL:=Hh (show (loadsI b).length=plan.length by rw [hl];exact loadsOf_length _ _);have HP6:=Hh (show plan.length<=50 by omega);have hol:=(planOk_bd ho (by omega) (loadsI_bd hk)).2;have hwo:IntKind.i64.wrap ((o.length:Int) - 1)=(o.length:Int) - 1:=wrapI (by omega) (by omega);obtain ⟨i0,hi,hz0,hz1,hz2⟩:=info_parts partInfo;obtain ⟨rfl,rfl,⟨ma,mc,rfl,_,_⟩,⟨sa,sc,rfl,_,_⟩,ra,rc,rfl,_,_⟩:=id hB;clear hB hN hP ht ho hin hk hl hbo
 go_enter Tryz.func14,Tryz.ntmps14
 go_wp2_with (first
  | (go_at_call 47;(with_reducible refine (rPlanned_ok (HB.out.below (bel)) HN.out rfl (by have:=HP6.out;omega) (HP.out.below (bel)) 0 HT.out).mono ?_);rintro e w1 ⟨la,lc,rfl,hL,hb1⟩;have HL:=Hh hL;clear hL;obtain ⟨hc1,hf1⟩:=bcell hb1;have hs1:w.heap.size+1 < w1.heap.size:=(by have:=hb1.size;simp at this;omega))
  | (go_at_call 43;(with_reducible refine (tapesOf_at HL.out (HP.out.below (bel)) rfl rfl HLL.out (by have:=HP6.out;omega) HO.out).mono ?_);rintro e w2 ⟨rfl,hb2⟩;obtain ⟨hc2,hf2⟩:=bcell hb2;have hs2:w.heap.size+1 < w2.heap.size:=(by have:=hb2.size;omega))
  | (go_at_call 51;(with_reducible refine (rin_at HIN.out).mono ?_);rintro e w3 ⟨rfl,hw3⟩;subst w3))
 have y1:w2.cell? ⟨w.heap.size+1,0,none⟩=some (.slice none 0 0):=by
  refine (hb2.cell (p:=⟨w.heap.size+1,0,none⟩) hs1).trans ((hb1.cell (p:=⟨w.heap.size+1,0,none⟩) (by simp)).trans ?_);rw [World.cell?_alloc_at _ _ _ _ (by simp)];rfl
 have y2:w2.frozen? ⟨w.heap.size+1,0,none⟩=false:=by
  refine (hb2.frozen (p:=⟨w.heap.size+1,0,none⟩) hs1).trans ((hb1.frozen (p:=⟨w.heap.size+1,0,none⟩) (by simp)).trans ?_);rw [World.frozen?_alloc_at _ _ _ _ (by simp)]
 have hbw:Below w.heap.size w w2:=bel;have hzw:w.heap.size < w2.heap.size:=by omega
 have nn:∀ k u,(#[.int .i64 b.room,.int .i64 b.gap,.slice ma b.ms.length mc,.slice sa b.ss.length sc,.slice ra b.rs.length rc]:Array Value)[k]? = some u->w2.cell? ⟨w.heap.size,k,none⟩=some u:=fun k u hk=>by
  rw [hc2 _ _ (by first | omega | (simp;omega)),hc1 _ _ (by first | (simp;done) | (simp;omega)),World.cell?_alloc_past _ _ _ (by first | (simp;done) | (simp;omega)),World.cell?_alloc_at _ _ _ _ rfl];exact hk
 have HALL:=Hh (fun (w':World) (h:Below w2.heap.size w2 w')=>(⟨h,(h.cell (p:=⟨w.heap.size,0,none⟩) hzw).trans (nn 0 _ rfl),(h.cell (p:=⟨w.heap.size,1,none⟩) hzw).trans (nn 1 _ rfl),(h.cell (p:=⟨w.heap.size,2,none⟩) hzw).trans (nn 2 _ rfl),(h.cell (p:=⟨w.heap.size,3,none⟩) hzw).trans (nn 3 _ rfl),(h.cell (p:=⟨w.heap.size,4,none⟩) hzw).trans (nn 4 _ rfl)⟩:Below w2.heap.size w2 w'/\w'.cell? ⟨w.heap.size,0,none⟩=some (.int .i64 b.room)/\w'.cell? ⟨w.heap.size,1,none⟩=some (.int .i64 b.gap)/\w'.cell? ⟨w.heap.size,2,none⟩=some (.slice ma b.ms.length mc)/\w'.cell? ⟨w.heap.size,3,none⟩=some (.slice sa b.ss.length sc)/\w'.cell? ⟨w.heap.size,4,none⟩=some (.slice ra b.rs.length rc)));have HBW:=Hh hbw;have HY:=Hh (⟨y1,y2⟩:_/\_);have HBr:=Hh (HB.out.below hbw);have HPr:=Hh (HP.out.below hbw);clear nn y1 y2 hbw hb1 hb2 hc1 hf1 hc2 hf2;go_region_held3 (fun w'=>Below w2.heap.size w2 w'/\w'.cell? ⟨w.heap.size,0,none⟩=some (.int .i64 b.room)/\w'.cell? ⟨w.heap.size,1,none⟩=some (.int .i64 b.gap)/\w'.cell? ⟨w.heap.size,2,none⟩=some (.slice ma b.ms.length mc)/\w'.cell? ⟨w.heap.size,3,none⟩=some (.slice sa b.ss.length sc)/\w'.cell? ⟨w.heap.size,4,none⟩=some (.slice ra b.rs.length rc))
  ((go_split_ands;exact HALL.out _ (bel)))
  (first
    | (go_at_call 53;go_split_ands;(with_reducible refine (rPastsOf_at (HBr.out.below ‹Below w2.heap.size w2 _›) HBO.out HR.out).mono ?_);rintro e w3 ⟨a3,c3,vs3,rfl,hrow3,hl3,hb3⟩;have HL3:=Hh (ListI.of (lists_of_row hrow3 hl3));clear hrow3 hl3)
    | (go_at_call 52;go_split_ands;(with_reducible refine (rMissingOf_new (HBr.out.below ‹Below w2.heap.size w2 _›) HBO.out (by omega) HL3.out rfl HPA.out (by omega)).mono ?_);rintro e w4 ⟨a4,c4,rfl,hp4,hn4,hb4⟩)
    | fail "no arm")
 all_goals
  have hb24:Below w2.heap.size w2 w4:=bel;have hg3:w2.heap.size<=w3.heap.size:=(show Below w2.heap.size w2 w3 from bel).size;rw [show (missL b (pasts b) (partsL b)).length=(missI b).length from rfl];have HP4:=Hh (show PartsAt w4 a4 (missI b) from hp4);have HG4:=Hh (show ∀ ad,a4=some ad->w2.heap.size<=ad.block from fun ad e=>Nat.le_trans hg3 (hn4 ad e));have HB24:=Hh hb24;have HB4:=Hh (Below.next HBW.out hb24);have hs4:w2.heap.size<=w4.heap.size:=hb24.size;clear hp4 hn4 hb3 hb4 hb24 hg3;go_wp2;obtain ⟨W5,hW5⟩:∃ W5,W5=w4.alloc (.cells #[.slice none 0 0] 40):=⟨_,rfl⟩;rw [<- hW5];have x1:W5.cell? ⟨w4.heap.size,0,none⟩=some (.slice none 0 0):=by rw [hW5,World.cell?_alloc_at _ _ _ _ rfl];rfl
  have x2:W5.frozen? ⟨w4.heap.size,0,none⟩=false:=by rw [hW5,World.frozen?_alloc_at _ _ _ _ rfl]
  have hb5:Below w4.heap.size w4 W5:=by rw [hW5];(exact bel)
  have hs5:W5.heap.size=w4.heap.size+1:=by rw [hW5];simp
  have HX:=Hh (⟨x1,x2⟩:_/\_);have HB5:=Hh hb5;have hs5':w4.heap.size < W5.heap.size:=by omega
  have HS5:=Hh hs5;clear hW5 x1 x2 hb5 hs5;go_loopw [12] (fun i wr=>∃ (k:Nat) (a:Option Addr) (c:Nat) (l:List Prt),k<=(missI b).length/\i=.int .i64 k/\Hid (l=punchI plan tape ((missI b).take k))/\wr.cell? ⟨w4.heap.size,0,none⟩=some (.slice a l.length c)/\wr.frozen? ⟨w4.heap.size,0,none⟩=false/\wr.ownsRow W5.heap.size 75 2 (.slice a l.length c) l.length (l.flatMap cellsQ)/\KS (fun k=>k < W5.heap.size/\k≠w4.heap.size) W5 wr) (fun i _=>(missI b).length - (intOf i).toNat)
  case atStart=>exact ⟨0,none,0,[],Nat.zero_le _,rfl,rfl,HX.out.1,HX.out.2,by simpa using World.ownsRow_nil _ _ _ _,KS.refl _ _⟩
  case round =>
   obtain ⟨k,a,c,l,hk,rfl,hl,h1,h2,hrow,hW⟩:=hrel;have hWs:=hW.size;have hl5:l.length<=20:=by rw [hl.out];exact Nat.le_trans (List.length_filter_le _ _) (by simp;omega)
   by_cases hlt:k < (missI b).length
   ·obtain ⟨lb,lo,rfl,hlb,e0,e1⟩:=HP4.out k hlt;have d0:=(hW.cell (x:=⟨lb,lo+k * 2,none⟩) (by simp;omega) (by simp;omega)).trans ((HB5.out.cell hlb).trans e0);have d1:=(hW.cell (x:=⟨lb,lo+k * 2+1,none⟩) (by simp;omega) (by simp;omega)).trans ((HB5.out.cell hlb).trans e1);obtain ⟨hp0,hp1,_⟩:=missI_part (List.getElem_mem hlt);have hts:=List.take_succ_eq_append_getElem hlt;have hsn:=punchI_snoc plan tape ((missI b).take k) (missI b)[k];rw [<- hts,<- hl.out] at hsn;generalize (missI b)[k]=p at d0 d1 hp0 hp1 hsn e0 e1;obtain ⟨p1,p2⟩:=p;simp only at d0 d1 hp0 hp1;obtain ⟨q,rfl⟩:∃ q:Nat,p1=q:=⟨p1.toNat,by omega⟩;have hqn:q < plan.length:=by have:=HPM.out;omega
    have hqn2:(q:Int) < (plan.length:Int):=by omega
    have hq0:(0:Int)<=(q:Int):=by omega
    obtain ⟨pb,po,rfl,hpb,p0⟩:=HPr.out q hqn;have d2:wr.cell? ⟨pb,po+q,none⟩=some (.int .i64 plan[q]):=(hW.cell (x:=⟨pb,po+q,none⟩) (by simp;omega) (by simp;omega)).trans ((HB5.out.cell (p:=⟨pb,po+q,none⟩) (by simp;omega)).trans ((HB24.out.cell (p:=⟨pb,po+q,none⟩) hpb).trans p0));have hon:onTape plan tape ((q:Int),p2)=decide (plan[q]=tape):=by
     unfold onTape;simp only [Int.toNat_natCast,List.getD_eq_getElem?_getD,List.getElem?_eq_getElem hqn,Option.getD_some]
    rw [hon] at hsn;generalize plan[q]=pq at d2 hsn p0 hon;have hlr:lb < wr.heap.size:=by omega
    have hpr:pb < wr.heap.size:=by omega
    have hOr:w4.heap.size < wr.heap.size:=by omega
    have HROW:=Hh hrow;have HW:=Hh hW;clear e0 e1 p0 hp0 hp1 hts hon hrow hW hl;by_cases hon2:pq=tape
    ·rw [if_pos (by simpa using hon2)] at hsn;have hd:(pq == tape)=true:=by simpa using hon2
     have HSN:=Hh hsn;have hf8:(l ++ [((q:Int),p2)]).flatMap cellsQ=l.flatMap cellsQ ++ [.int .i64 q,.int .i64 p2]:=by rw [List.flatMap_append];rfl
     have HF8:=Hh hf8;subst hon2;clear hsn hf8;go_wp2
     go_region_law ((refine step_append_lies (w:=_) rfl _ _ 38 rfl W5.heap.size 75 i0 (.agg #[.int .i64 0,.int .i64 0]) 2 16 Tryz.underlying38 hi hz0 hz1 hz2 rfl (by decide) (.slice a l.length c) l.length _ rfl (row_keep' HROW.out ((KS.drew (fun _=>True) _).trans (KS.alloc _ _ _)) (fun _ _=>trivial)) ⟨wr.heap.size,0,none⟩ 1 1 [.int .i64 q,.int .i64 p2] rfl rfl (cells_new _ _ _) (by simp [Value.oneCell']) (by decide) (by unfold maxLen;omega) (by omega) (by simp;omega) _ rfl ?_;intro g cap w6 hown' hgrow hat hglt;have hks:=grow_ks (row_keep' HROW.out ((KS.drew (fun _=>True) wr).trans (KS.alloc _ _ (.cells #[.int .i64 q,.int .i64 p2] 75))) (fun _ _=>trivial)) hgrow;have q1:=(hks.cell (x:=⟨w4.heap.size,0,none⟩) (by simp;omega) (by simp;omega));have q2:=(hks.frozen (x:=⟨w4.heap.size,0,none⟩) (by simp;omega) (by simp;omega));rw [World.cell?_alloc_past _ _ _ (by simp;omega),World.cell?_drew,h1] at q1;rw [World.frozen?_alloc_past _ _ _ (by simp;omega),World.frozen?_drew,h2] at q2))
     all_goals
      have h8:KS (fun k=>k < W5.heap.size) wr w6:=((KS.drew (fun k=>k < W5.heap.size) wr).trans (KS.alloc _ _ _)).trans hks;have h9:KS (fun k=>k≠w4.heap.size) w6 (w6.setCell ⟨w4.heap.size,0,none⟩ (.slice (some ⟨g,0,none⟩) (l.length+1) cap)):=KS.setCell (by simp) _ _;have H9:=Hh (⟨h8,h9,q1,q2,hown'⟩:_/\_/\_/\_/\_);clear h8 h9 q1 q2 hown' hgrow hat hglt hks;go_wp2;go_roundw
      case rel =>
       obtain ⟨h8,h9,q1,q2,hown'⟩:=H9.out;refine ⟨k+1,some ⟨g,0,none⟩,cap,l ++ [((q:Int),p2)],by omega,by go_num,HSN.out.symm,?_,?_,?_,?_⟩
       ·rw [List.length_append];exact World.cell?_setCell_same' _ _ _ (by rw [q1];rfl)
       ·rw [World.frozen?_setCell];exact q2
       ·rw [List.length_append,HF8.out];exact ownsRow_ks hown' h9 (fun k hk=>by show k≠_;omega)
       ·exact HW.out.trans ((h8.mono fun k _ h=>h.1).trans (h9.mono fun k _ h=>h.2))
      case measure=>simp [intOf];omega
    ·rw [if_neg (by simpa using hon2),List.append_nil] at hsn;have hd:(pq == tape)=false:=by simpa using hon2
     have HSN:=Hh hsn;clear hsn hon2;go_wp2;go_roundw
     case rel=>exact ⟨k+1,a,c,l,by omega,by go_num,HSN.out.symm,h1,h2,HROW.out,HW.out⟩
     case measure=>simp [intOf];omega
   ·obtain rfl:k=(missI b).length:=by omega
    have hl2:=hl.out;rw [List.take_length] at hl2;have hs10:w.heap.size+1 < wr.heap.size:=by omega
    have hOr:w4.heap.size < wr.heap.size:=by omega
    have hy1:=(hW.cell (x:=⟨w.heap.size+1,0,none⟩) (by simp;omega) (by simp;omega)).trans ((HB5.out.cell (p:=⟨w.heap.size+1,0,none⟩) (by simp;omega)).trans ((HB24.out.cell (p:=⟨w.heap.size+1,0,none⟩) hs2).trans HY.out.1));have hy2:=(hW.frozen (x:=⟨w.heap.size+1,0,none⟩) (by simp;omega) (by simp;omega)).trans ((HB5.out.frozen (p:=⟨w.heap.size+1,0,none⟩) (by simp;omega)).trans ((HB24.out.frozen (p:=⟨w.heap.size+1,0,none⟩) hs2).trans HY.out.2));have hbz:Below w.heap.size w wr:=by
     have h1:=hW.toBelow (n:=w.heap.size) (by omega) (fun k hk=>by omega);exact (Below.next HB4.out HB5.out).trans h1
    have HBZ:=Hh hbz;have HROW:=Hh hrow;have HL2:=Hh hl2;clear hrow hW hl hl2 hbz;by_cases hfew:l.length<=5
    ·have hd:decide ((5:Int) < (l.length:Int))=false:=by rw [decide_eq_false_iff_not];omega
     have HFEW:=Hh hfew;clear hfew;go_wp2;have hr9:(wr.setCell ⟨w.heap.size+1,0,none⟩ (.slice a l.length c)).ownsRow W5.heap.size 75 2 (.slice a l.length c) l.length (l.flatMap cellsQ):=ownsRow_ks HROW.out (KS.setCell (p:=fun k=>k≠w.heap.size+1) (by simp) _ _) (fun k hk=>by show k≠_;omega);have hc9:(wr.setCell ⟨w.heap.size+1,0,none⟩ (.slice a l.length c)).cell? ⟨w.heap.size+1,0,none⟩=some (.slice a l.length c):=World.cell?_setCell_same' _ _ _ (by rw [hy1];rfl);refine bodyPost_ret (v:=.tuple #[.agg #[.slice a l.length c],.int .i64 0]) (by simp [results,Tryz.results14,go_sem, *]) rfl (.inl ⟨by rw [<- HL2.out];exact HFEW.out,a,c,by rw [<- HL2.out],?_,Below.wr HBZ.out (by simp) _⟩);rw [<- HL2.out];exact parts_of_row hr9
    ·have hd:decide ((5:Int) < (l.length:Int))=true:=by rw [decide_eq_true_iff];omega
     have HFEW:=Hh (show 5 < l.length by omega);clear hfew;go_wp2;have hc9:(wr.setCell ⟨w.heap.size+1,0,none⟩ (.slice none 0 0)).cell? ⟨w.heap.size+1,0,none⟩=some (.slice none 0 0):=World.cell?_setCell_same' _ _ _ (by rw [hy1];rfl);exact bodyPost_ret (v:=.tuple #[.agg #[.slice none 0 0],.int .i64 2]) (by simp [results,Tryz.results14,go_sem, *]) rfl (.inr ⟨by rw [<- HL2.out];exact HFEW.out,rfl,Below.wr HBZ.out (by simp) _⟩)
end
section
variable {b:Bk} {vr vg vm vs vc:Value} {w:World}
theorem latest_no (hB:BookAt w b vr vg vm vs vc) (hN:∀ m∈b.ms,m.name.size<=1000000) (hK:KindsAt w) {t:Int} (ht:openAl b 0=t) (h0:t≠0) :
 Calls Tryz.prog 16 #[.agg #[vr,vg,vm,vs,vc]] w fun e w'=>e=.returned (.tuple #[.int .i64 0,.bool false,.int .i64 t])/\Below w.heap.size w w':=by
 have HB:=Hh hB;have HN:=Hh hN;have HK:=Hh hK;have HT:=Hh ht;have HH0:=Hh h0;have hz3:(t != 0)=true:=by simpa using h0
 obtain ⟨rfl,rfl,⟨ma,mc,rfl,_,_⟩,⟨sa,sc,rfl,_,_⟩,ra,rc,rfl,_,_⟩:=id hB;clear hB hN hK ht h0
 go_enter Tryz.func16,Tryz.ntmps16
 go_wp2_with (go_at_call 31;(with_reducible refine (open_nothing_no (HB.out.below (bel)) HN.out (HK.out.below (bel)) (al:=0) (fun hk W hW=>nothing_any _ _ _ _ _ _) HT.out HH0.out).mono ?_);rintro e w3 ⟨rfl,hb3⟩;have z1:w3.cell? ⟨w.heap.size+1,0,none⟩=some (.int .i64 0):=(by refine (hb3.cell (p:=⟨w.heap.size+1,0,none⟩) (by simp)).trans ?_;rw [World.cell?_alloc_past _ _ _ (by simp),World.cell?_alloc_at _ _ _ _ (by simp)];rfl);have z2:w3.frozen? ⟨w.heap.size+1,0,none⟩=false:=(by refine (hb3.frozen (p:=⟨w.heap.size+1,0,none⟩) (by simp)).trans ?_;rw [World.frozen?_alloc_past _ _ _ (by simp),World.frozen?_alloc_at _ _ _ _ (by simp)]);have z3:w3.cell? ⟨w.heap.size+1+1,0,none⟩=some (.bool false):=(by refine (hb3.cell (p:=⟨w.heap.size+1+1,0,none⟩) (by simp)).trans ?_;rw [World.cell?_alloc_at _ _ _ _ (by simp)];rfl);have z4:w3.frozen? ⟨w.heap.size+1+1,0,none⟩=false:=(by refine (hb3.frozen (p:=⟨w.heap.size+1+1,0,none⟩) (by simp)).trans ?_;rw [World.frozen?_alloc_at _ _ _ _ (by simp)]);have hs3:w.heap.size+1+1+1<=w3.heap.size:=(by have:=hb3.size;simpa using this);have hs4:w.heap.size+1+1 < w3.heap.size:=(by omega);have hs5:w.heap.size+1 < w3.heap.size:=(by omega));have hbw:Below w.heap.size w w3:=bel;refine bodyPost_ret (v:=.tuple #[.int .i64 0,.bool false,.int .i64 t]) (by simp [results,Tryz.results16,go_sem, *]) rfl ⟨rfl,bel⟩
theorem punch_no (hB:BookAt w b vr vg vm vs vc) (hN:∀ m∈b.ms,m.name.size<=1000000) (hK:KindsAt w) {pa:Option Addr} {pc:Nat} {plan:List Int} {pn:Nat} (hpl:pn=plan.length) (hp6:plan.length<=1000000) (hP:IntsAt w pa plan) (tape:Int) {t:Int} (ht:plannedAl b plan 0=t) (h0:t≠0) :
 Calls Tryz.prog 13 #[.agg #[vr,vg,vm,vs,vc],.slice pa pn pc,.int .i64 tape] w fun e w'=>e=.returned (.tuple #[.agg #[.slice none 0 0],.int .i64 t])/\Below w.heap.size w w':=by
 have HB:=Hh hB;have HN:=Hh hN;have HK:=Hh hK;have HP:=Hh hP;have HT:=Hh ht;have HPL:=Hh hpl;have HH0:=Hh h0;have hz3:(t != 0)=true:=by simpa using h0
 obtain ⟨rfl,rfl,⟨ma,mc,rfl,_,_⟩,⟨sa,sc,rfl,_,_⟩,ra,rc,rfl,_,_⟩:=id hB;clear hB hN hK hP ht hpl h0
 go_enter Tryz.func13,Tryz.ntmps13
 go_wp2_with (go_at_call 45;(with_reducible refine (planned_no (HB.out.below (bel)) HN.out (HK.out.below (bel)) HPL.out hp6 (HP.out.below (bel)) 0 HT.out HH0.out).mono ?_);rintro e w3 ⟨rfl,hb3⟩;have z1:w3.cell? ⟨w.heap.size+1,0,none⟩=some (.slice none 0 0):=(by refine (hb3.cell (p:=⟨w.heap.size+1,0,none⟩) (by simp)).trans ?_;rw [World.cell?_alloc_at _ _ _ _ (by simp)];rfl);have z2:w3.frozen? ⟨w.heap.size+1,0,none⟩=false:=(by refine (hb3.frozen (p:=⟨w.heap.size+1,0,none⟩) (by simp)).trans ?_;rw [World.frozen?_alloc_at _ _ _ _ (by simp)]);have hs3:w.heap.size+1+1<=w3.heap.size:=(by have:=hb3.size;simpa using this);have hs5:w.heap.size+1 < w3.heap.size:=(by omega));refine bodyPost_ret (v:=.tuple #[.agg #[.slice none 0 0],.int .i64 t]) (by simp [results,Tryz.results13,go_sem, *]) rfl ⟨rfl,bel⟩
theorem punch_absent (hB:BookAt w b vr vg vm vs vc) (hN:∀ m∈b.ms,m.name.size<=1000000) (hK:KindsAt w) {pa:Option Addr} {pc:Nat} {plan:List Int} {pn:Nat} (hpl:pn=plan.length) (hP:IntsAt w pa plan) (tape:Int) (ht:openAl b (planAsk b.ms.length plan.length 0)=0) {o:List Int} (ho:planOk (loadsI b) plan=some o) (hin:inB tape 0 ((o.length:Int) - 1)=false) :
 Calls Tryz.prog 13 #[.agg #[vr,vg,vm,vs,vc],.slice pa pn pc,.int .i64 tape] w fun e w'=>e=.returned (.tuple #[.agg #[.slice none 0 0],.int .i64 6])/\Below w.heap.size w w':=by
 have HB:=Hh hB;have HN:=Hh hN;have HK:=Hh hK;have HP:=Hh hP;have HT:=Hh ht;have HOO:=Hh ho;have HPL:=Hh hpl;have HIN:=Hh hin;obtain ⟨hk,hpt,hps⟩:=openAl_ok ht;obtain ⟨_,hpm⟩:=planAsk_ok hpt;have hml5:=(bookAl_ok hk).1.ml;have hol:=(planOk_bd ho (by omega) (loadsI_bd hk)).2;have hwo:IntKind.i64.wrap ((o.length:Int) - 1)=(o.length:Int) - 1:=wrapI (by omega) (by omega);obtain ⟨rfl,rfl,⟨ma,mc,rfl,_,_⟩,⟨sa,sc,rfl,_,_⟩,ra,rc,rfl,_,_⟩:=id hB;clear hB hN hK hP ht hpl ho hk hpt hps hpm hin
 go_enter Tryz.func13,Tryz.ntmps13
 go_wp2_with (first
  | (go_at_call 45;(with_reducible refine (planned_yes (HB.out.below (bel)) HN.out (HK.out.below (bel)) HPL.out (HP.out.below (bel)) 0 HT.out HOO.out).mono ?_);rintro e w3 ⟨RB,lc,tc,lc2,ta,la,rfl,hl3,ht3,hc3,hb3⟩;clear hl3 ht3 hc3;have z1:w3.cell? ⟨w.heap.size+1,0,none⟩=some (.slice none 0 0):=(by refine (hb3.cell (p:=⟨w.heap.size+1,0,none⟩) (by simp)).trans ?_;rw [World.cell?_alloc_at _ _ _ _ (by simp)];rfl);have z2:w3.frozen? ⟨w.heap.size+1,0,none⟩=false:=(by refine (hb3.frozen (p:=⟨w.heap.size+1,0,none⟩) (by simp)).trans ?_;rw [World.frozen?_alloc_at _ _ _ _ (by simp)]);have hs3:w.heap.size+1+1<=w3.heap.size:=(by have:=hb3.size;simpa using this);have hs5:w.heap.size+1 < w3.heap.size:=(by omega))
  | (go_at_call 49;(with_reducible refine (inside_at HIN.out).mono ?_);rintro e w' ⟨rfl,rfl⟩))
 refine bodyPost_ret (v:=.tuple #[.agg #[.slice none 0 0],.int .i64 6]) (by simp [results,Tryz.results13,go_sem, *]) rfl ⟨rfl,bel⟩
end
section
variable {b:Bk} {vr vg vm vs vc:Value} {w:World}
theorem pack_no (hB:BookAt w b vr vg vm vs vc) (hN:∀ m∈b.ms,m.name.size<=1000000) (hK:KindsAt w) (now:Int) {t:Int} (ht:openAl b (timedAsk now)=t) (h0:t≠0) :
 Calls Tryz.prog 6 #[.agg #[vr,vg,vm,vs,vc],.int .i64 now] w fun e w'=>e=.returned (.tuple #[.slice none 0 0,.bool false,.int .i64 t])/\Below w.heap.size w w':=by
 have HB:=Hh hB;have HN:=Hh hN;have HK:=Hh hK;have HT:=Hh ht;have HH0:=Hh h0;have hz3:(t != 0)=true:=by simpa using h0
 obtain ⟨rfl,rfl,⟨ma,mc,rfl,_,_⟩,⟨sa,sc,rfl,_,_⟩,ra,rc,rfl,_,_⟩:=id hB;clear hB hN hK ht
 go_enter Tryz.func6,Tryz.ntmps6
 go_wp2;obtain ⟨W0,hW0⟩:∃ W0,W0=(((w.alloc (.cells #[.int .i64 b.room,.int .i64 b.gap,.slice ma b.ms.length mc,.slice sa b.ss.length sc,.slice ra b.rs.length rc] 26)).alloc (.cells #[.int .i64 now] 3)).alloc (.cells #[.slice none 0 0] 27)).alloc (.cells #[.bool false] 4):=⟨_,rfl⟩;rw [<- hW0];have hb0:Below w.heap.size w W0:=by rw [hW0];(exact bel)
 have hs0:W0.heap.size=w.heap.size+1+1+1+1:=by rw [hW0];simp
 have c5:∀ k u,(#[.int .i64 b.room,.int .i64 b.gap,.slice ma b.ms.length mc,.slice sa b.ss.length sc,.slice ra b.rs.length rc]:Array Value)[k]? = some u->W0.cell? ⟨w.heap.size,k,none⟩=some u:=fun k u hk=>by
  rw [hW0,World.cell?_alloc_past _ _ _ (by first | (simp;done) | (simp;omega)),World.cell?_alloc_past _ _ _ (by first | (simp;done) | (simp;omega)),World.cell?_alloc_past _ _ _ (by first | (simp;done) | (simp;omega)),World.cell?_alloc_at _ _ _ _ rfl];exact hk
 have q5:W0.cell? ⟨w.heap.size+1,0,none⟩=some (.int .i64 now):=by rw [hW0,World.cell?_alloc_past _ _ _ (by first | omega | (simp;done) | (simp;omega)),World.cell?_alloc_past _ _ _ (by first | omega | (simp;done) | (simp;omega)),World.cell?_alloc_at _ _ _ _ (by first | omega | (simp;done) | (simp;omega))];rfl
 have q6:W0.cell? ⟨w.heap.size+1+1,0,none⟩=some (.slice none 0 0):=by rw [hW0,World.cell?_alloc_past _ _ _ (by first | omega | (simp;done) | (simp;omega)),World.cell?_alloc_at _ _ _ _ (by first | omega | (simp;done) | (simp;omega))];rfl
 have q7:W0.cell? ⟨w.heap.size+1+1+1,0,none⟩=some (.bool false):=by rw [hW0,World.cell?_alloc_at _ _ _ _ (by first | omega | (simp;done) | (simp;omega))];rfl
 have q8:W0.frozen? ⟨w.heap.size+1+1,0,none⟩=false:=by rw [hW0];simp [go_sem]
 have q9:W0.frozen? ⟨w.heap.size+1+1+1,0,none⟩=false:=by rw [hW0];simp [go_sem]
 have HALL:=Hh (fun (w':World) (h:Below W0.heap.size W0 w')=>(⟨h,(h.cell (by simp;omega)).trans (c5 0 _ rfl),(h.cell (by simp;omega)).trans (c5 1 _ rfl),(h.cell (by simp;omega)).trans (c5 2 _ rfl),(h.cell (by simp;omega)).trans (c5 3 _ rfl),(h.cell (by simp;omega)).trans (c5 4 _ rfl),(h.cell (by simp;omega)).trans q5⟩:Below W0.heap.size W0 w'/\w'.cell? ⟨w.heap.size,0,none⟩=some (.int .i64 b.room)/\w'.cell? ⟨w.heap.size,1,none⟩=some (.int .i64 b.gap)/\w'.cell? ⟨w.heap.size,2,none⟩=some (.slice ma b.ms.length mc)/\w'.cell? ⟨w.heap.size,3,none⟩=some (.slice sa b.ss.length sc)/\w'.cell? ⟨w.heap.size,4,none⟩=some (.slice ra b.rs.length rc)/\w'.cell? ⟨w.heap.size+1,0,none⟩=some (.int .i64 now)));have HQ0:=Hh (⟨q6,q7,q8,q9⟩:_/\_/\_/\_);have hs0a:w.heap.size+1+1+1+1<=W0.heap.size:=by omega
 clear hs0 hW0 c5 q5 q6 q7 q8 q9;have HTM:=Hh (fun (w':World)=>timed_at now w');refine Code.wp_mono (Q:=fun e a' w'=>e=.normal/\Below W0.heap.size W0 w'/\∃ v7 v8 v13 v14 v15 v16 v17 v18 v19 v20,a'={ tmps:=#[.agg #[.int .i64 b.room,.int .i64 b.gap,.slice ma b.ms.length mc,.slice sa b.ss.length sc,.slice ra b.rs.length rc],.int .i64 now,.pointer (some ⟨w.heap.size,0,none⟩),.pointer (some ⟨w.heap.size+1,0,none⟩),.pointer (some ⟨w.heap.size+1+1,0,none⟩),.pointer (some ⟨w.heap.size+1+1+1,0,none⟩),.int .i64 t,v7,v8,U,U,U,U,v13,v14,v15,v16,v17,v18,v19,v20,U,U,U,U,U,U,U,U,U,U,U,U,U,U,U,U,U,U,U,U,U,U,U,U,U,U,U,U,U,U,U],defers:=[] }) ?_ ?_
 rotate_left
 ·go_region_held3 (fun w'=>Below W0.heap.size W0 w'/\w'.cell? ⟨w.heap.size,0,none⟩=some (.int .i64 b.room)/\w'.cell? ⟨w.heap.size,1,none⟩=some (.int .i64 b.gap)/\w'.cell? ⟨w.heap.size,2,none⟩=some (.slice ma b.ms.length mc)/\w'.cell? ⟨w.heap.size,3,none⟩=some (.slice sa b.ss.length sc)/\w'.cell? ⟨w.heap.size,4,none⟩=some (.slice ra b.rs.length rc)/\w'.cell? ⟨w.heap.size+1,0,none⟩=some (.int .i64 now))
   ((go_split_ands;exact HALL.out _ (bel)))
   (first
     | (go_at_call 32;(with_reducible refine (HTM.out _).mono ?_);rintro e w2 ⟨B,rfl,hB1,r0,hb2⟩;have hq:∀ W,Below w2.heap.size w2 W->W.cell? ⟨B,0,none⟩=some (.int .i64 now):=(fun W h=>(h.cell hB1).trans r0);have HQ:=Hh hq;clear hq r0;obtain ⟨hc2,hf2⟩:=bcell hb2;have hz2:=hb2.size;(try simp at hz2);(try (have hy2:W0.heap.size < w2.heap.size:=by omega)))
     | (go_at_call 31;go_split_ands;have hX:=Below.next hb0 ‹Below W0.heap.size W0 _›;(with_reducible refine (open_timed_no (HB.out.below hX) HN.out (HK.out.below hX) _ (al:=timedAsk now) (fun hk W hW=>timed1_at _ _ _ _ _ (HQ.out W (Below.next (by first | exact Below.refl _ _ | exact bal _ _) hW))) HT.out HH0.out).mono ?_);rintro e w3 ⟨rfl,hb3⟩;obtain ⟨hc3,hf3⟩:=bcell hb3;have hz3':=hb3.size;(try simp at hz3');(try (have hy3:W0.heap.size < w3.heap.size:=by omega)))
     | fail "no arm")
  all_goals exact ⟨rfl,bel,_,_,_,_,_,_,_,_,_,_,rfl⟩
 rintro e a' X ⟨rfl,hbX,v7,v8,v13,v14,v15,v16,v17,v18,v19,v20,rfl⟩;obtain ⟨q6,q7,q8,q9⟩:=HQ0.out;have hXs:=hbX.size;have x1:=(hbX.cell (p:=⟨w.heap.size+1+1,0,none⟩) (by simp;omega)).trans q6;have x2:=(hbX.frozen (p:=⟨w.heap.size+1+1,0,none⟩) (by simp;omega)).trans q8;have x3:=(hbX.cell (p:=⟨w.heap.size+1+1+1,0,none⟩) (by simp;omega)).trans q7;have x4:=(hbX.frozen (p:=⟨w.heap.size+1+1+1,0,none⟩) (by simp;omega)).trans q9;have hbw:=Below.next hb0 hbX;have hlt1:w.heap.size+1+1 < X.heap.size:=by omega
 have hlt2:w.heap.size+1+1+1 < X.heap.size:=by omega
 clear q6 q7 q8 q9;go_wp2;have c1:((X.setCell ⟨w.heap.size+1+1,0,none⟩ (.slice none 0 0)).setCell ⟨w.heap.size+1+1+1,0,none⟩ (.bool false)).cell? ⟨w.heap.size+1+1,0,none⟩=some (.slice none 0 0):=by
  rw [World.cell?_setCell_other (h:=fun e=>by injection e with e _ _;omega),World.cell?_setCell_same' _ _ _ (by rw [x1];rfl)]
 have c2:((X.setCell ⟨w.heap.size+1+1,0,none⟩ (.slice none 0 0)).setCell ⟨w.heap.size+1+1+1,0,none⟩ (.bool false)).cell? ⟨w.heap.size+1+1+1,0,none⟩=some (.bool false):=by
  rw [World.cell?_setCell_same' _ _ _ (by rw [World.cell?_setCell_other (h:=fun e=>by injection e with e _ _;omega),x3];rfl)]
 exact bodyPost_ret (v:=.tuple #[.slice none 0 0,.bool false,.int .i64 t]) (by simp [results,Tryz.results6,go_sem,c1,c2]) rfl ⟨rfl,(hbw.setCell (by simp;omega) _).setCell (by simp;omega) _⟩
end
def packR (b:Bk) (now:Int):List Int × Bool × Int:=if openAl b (timedAsk now)=0 then (planOf (packI b (loadsI b) now),(packI b (loadsI b) now).isSome,0) else ([],false,openAl b (timedAsk now))
def planO (b:Bk) (plan:List Int):List Int:=(planOk (loadsI b) plan).getD []
def timesR (b:Bk) (plan:List Int) (now:Int):List Int × Int:=if plannedAl b plan now=0 then (endsI b.gap now (planO b plan),0) else ([],plannedAl b plan now)
def goodR (b:Bk) (plan:List Int) (now:Int):Bool × Int:=if plannedAl b plan now=0 then (goodI b plan (planO b plan) now,0) else (false,plannedAl b plan now)
def punchR (b:Bk) (plan:List Int) (tape:Int):List Prt × Int :=
 if plannedAl b plan 0=0 then (if inB tape 0 (((planO b plan).length:Int) - 1)=true then (if (punchI plan tape (missI b)).length<=5 then (punchI plan tape (missI b),0) else ([],2)) else ([],6)) else ([],plannedAl b plan 0)
def latestR (b:Bk):Int × Bool × Int:=if openAl b 0=0 then ((latestI b (loadsI b)).getD 0,(latestI b (loadsI b)).isSome,0) else (0,false,openAl b 0)
theorem planO_eq {b:Bk} {plan:List Int} {now:Int} (h:plannedAl b plan now=0):planOk (loadsI b) plan=some (planO b plan):=by
 obtain ⟨_,_,_,_,o,ho⟩:=plannedAl_yes h;unfold planO;rw [ho];rfl
theorem plannedAl_open {b:Bk} {plan:List Int} {now:Int} (h:plannedAl b plan now=0):openAl b (planAsk b.ms.length plan.length now)=0:=(plannedAl_ok h).1
def ListRet (w:World) (q:List Int) (t:Int) (e:Ending) (w':World):Prop:=∃ a c,e=.returned (.tuple #[.slice a q.length c,.int .i64 t])/\IntsAt w' a q/\Below w.heap.size w w'
def ListRet3 (w:World) (q:List Int) (f:Bool) (t:Int) (e:Ending) (w':World):Prop:=∃ a c,e=.returned (.tuple #[.slice a q.length c,.bool f,.int .i64 t])/\IntsAt w' a q/\Below w.heap.size w w'
section
variable {b:Bk} {vr vg vm vs vc:Value} {w:World} {pa:Option Addr} {pc:Nat} {plan:List Int}
theorem packP_at (hB:BookAt w b vr vg vm vs vc) (hN:∀ m∈b.ms,m.name.size<=1000000) (hK:KindsAt w) {now:Int} {q:List Int} {f:Bool} {t:Int} (h:packR b now=(q,f,t)) :
 Calls Tryz.prog 6 #[.agg #[vr,vg,vm,vs,vc],.int .i64 now] w (ListRet3 w q f t):=by
 unfold packR at h;by_cases h0:openAl b (timedAsk now)=0
 ·rw [if_pos h0] at h;cases h;obtain ⟨_,hi,_⟩:=timedAl_yes h0;exact pack_ok hB hN hK now (inB_time hi) h0
 ·rw [if_neg h0] at h;cases h;exact (pack_no hB hN hK now rfl h0).mono fun e w' ⟨h1,h2⟩=>⟨none,0,h1,ints_nil,h2⟩
theorem rPackP_at (hB:BookAt w b vr vg vm vs vc) (hN:∀ m∈b.ms,m.name.size<=1000000) {now:Int} {q:List Int} {f:Bool} {t:Int} (h:packR b now=(q,f,t)) :
 Calls Tryz.prog 7 #[.agg #[vr,vg,vm,vs,vc],.int .i64 now] w (ListRet3 w q f t):=by
 unfold packR at h;by_cases h0:openAl b (timedAsk now)=0
 ·rw [if_pos h0] at h;cases h;exact rPack_ok hB hN now h0
 ·rw [if_neg h0] at h;cases h;exact (rPack_no hB hN now rfl h0).mono fun e w' ⟨h1,h2⟩=>⟨none,0,h1,ints_nil,h2⟩
theorem timesP_at (hB:BookAt w b vr vg vm vs vc) (hN:∀ m∈b.ms,m.name.size<=1000000) (hK:KindsAt w) (hP:IntsAt w pa plan) (hl:plan.length<=20) {now:Int} {q:List Int} {t:Int} (h:timesR b plan now=(q,t)) :
 Calls Tryz.prog 9 #[.agg #[vr,vg,vm,vs,vc],.slice pa plan.length pc,.int .i64 now] w (ListRet w q t):=by
 unfold timesR at h;by_cases h0:plannedAl b plan now=0
 ·rw [if_pos h0] at h;cases h;exact times_ok hB hN hK rfl hP now (plannedAl_open h0) (planO_eq h0)
 ·rw [if_neg h0] at h;cases h;exact (times_no hB hN hK rfl (by omega) hP now rfl h0).mono fun e w' ⟨h1,h2⟩=>⟨none,0,h1,ints_nil,h2⟩
theorem rTimesP_at (hB:BookAt w b vr vg vm vs vc) (hN:∀ m∈b.ms,m.name.size<=1000000) (hP:IntsAt w pa plan) (hl:plan.length<=20) {now:Int} {q:List Int} {t:Int} (h:timesR b plan now=(q,t)) :
 Calls Tryz.prog 10 #[.agg #[vr,vg,vm,vs,vc],.slice pa plan.length pc,.int .i64 now] w (ListRet w q t):=by
 unfold timesR at h;by_cases h0:plannedAl b plan now=0
 ·rw [if_pos h0] at h;cases h;exact rTimes_ok hB hN rfl hP now h0 (planO_eq h0)
 ·rw [if_neg h0] at h;cases h;exact (rTimes_no hB hN rfl (by omega) hP now rfl h0).mono fun e w' ⟨h1,h2⟩=>⟨none,0,h1,ints_nil,h2⟩
theorem goodP_at (hB:BookAt w b vr vg vm vs vc) (hN:∀ m∈b.ms,m.name.size<=1000000) (hK:KindsAt w) (hP:IntsAt w pa plan) (hl:plan.length<=20) {now:Int} {f:Bool} {t:Int} (h:goodR b plan now=(f,t)) :
 Calls Tryz.prog 11 #[.agg #[vr,vg,vm,vs,vc],.slice pa plan.length pc,.int .i64 now] w fun e w'=>e=.returned (.tuple #[.bool f,.int .i64 t])/\Below w.heap.size w w':=by
 unfold goodR at h;by_cases h0:plannedAl b plan now=0
 ·rw [if_pos h0] at h;cases h;exact goodApi_ok hB hN hK rfl hP now (plannedAl_open h0) (planO_eq h0)
 ·rw [if_neg h0] at h;cases h;exact goodApi_no hB hN hK rfl (by omega) hP now rfl h0
theorem rGoodP_at (hB:BookAt w b vr vg vm vs vc) (hN:∀ m∈b.ms,m.name.size<=1000000) (hP:IntsAt w pa plan) (hl:plan.length<=20) {now:Int} {f:Bool} {t:Int} (h:goodR b plan now=(f,t)) :
 Calls Tryz.prog 12 #[.agg #[vr,vg,vm,vs,vc],.slice pa plan.length pc,.int .i64 now] w fun e w'=>e=.returned (.tuple #[.bool f,.int .i64 t])/\Below w.heap.size w w':=by
 unfold goodR at h;by_cases h0:plannedAl b plan now=0
 ·rw [if_pos h0] at h;cases h;exact rGood_ok hB hN rfl hP now h0 (planO_eq h0) rfl
 ·rw [if_neg h0] at h;cases h;exact rGood_no hB hN rfl (by omega) hP now rfl h0
theorem punchR_len (b:Bk) (plan:List Int) (tape:Int):(punchR b plan tape).1.length<=5:=by
 unfold punchR;split
 ·split
  ·split
   ·assumption
   ·simp
  ·simp
 ·simp
theorem punchP_at (hB:BookAt w b vr vg vm vs vc) (hN:∀ m∈b.ms,m.name.size<=1000000) (hK:KindsAt w) (hP:IntsAt w pa plan) (hl:plan.length<=20) {tape:Int} {x:List Prt} {t:Int} (h:punchR b plan tape=(x,t)) :
 Calls Tryz.prog 13 #[.agg #[vr,vg,vm,vs,vc],.slice pa plan.length pc,.int .i64 tape] w (PunchRet w x t):=by
 unfold punchR at h;by_cases h0:plannedAl b plan 0=0
 ·rw [if_pos h0] at h;by_cases hin:inB tape 0 (((planO b plan).length:Int) - 1)=true
  ·rw [if_pos hin] at h;by_cases hf:(punchI plan tape (missI b)).length<=5
   ·rw [if_pos hf] at h;cases h;exact punch_ok hB hN hK rfl hP tape (plannedAl_open h0) (planO_eq h0) hin hf
   ·rw [if_neg hf] at h;cases h;exact (punch_many hB hN hK rfl hP tape (plannedAl_open h0) (planO_eq h0) hin (by omega)).mono fun e w' h=>.nil h
  ·rw [if_neg hin] at h;cases h;exact (punch_absent hB hN hK rfl hP tape (plannedAl_open h0) (planO_eq h0) (by simpa using hin)).mono fun e w' h=>.nil h
 ·rw [if_neg h0] at h;cases h;exact (punch_no hB hN hK rfl (by omega) hP tape rfl h0).mono fun e w' h=>.nil h
theorem rPunchP_at (hB:BookAt w b vr vg vm vs vc) (hN:∀ m∈b.ms,m.name.size<=1000000) (hP:IntsAt w pa plan) (hl:plan.length<=20) {tape:Int} {x:List Prt} {t:Int} (h:punchR b plan tape=(x,t)) :
 Calls Tryz.prog 14 #[.agg #[vr,vg,vm,vs,vc],.slice pa plan.length pc,.int .i64 tape] w (PunchRet w x t):=by
 unfold punchR at h;by_cases h0:plannedAl b plan 0=0
 ·rw [if_pos h0] at h;by_cases hin:inB tape 0 (((planO b plan).length:Int) - 1)=true
  ·rw [if_pos hin] at h;refine (rPunch_ok hB hN rfl hP tape h0 (planO_eq h0) hin).mono ?_;rintro e w' (⟨hf,h1⟩ | ⟨hf,h1⟩)
   ·rw [if_pos hf] at h;cases h;exact h1
   ·rw [if_neg (by omega)] at h;cases h;exact .nil h1
  ·rw [if_neg hin] at h;cases h;exact (rPunch_absent hB hN rfl hP tape h0 (planO_eq h0) (by simpa using hin)).mono fun e w' h=>.nil h
 ·rw [if_neg h0] at h;cases h;exact (rPunch_no hB hN rfl (by omega) hP tape rfl h0).mono fun e w' h=>.nil h
theorem latestP_at (hB:BookAt w b vr vg vm vs vc) (hN:∀ m∈b.ms,m.name.size<=1000000) (hK:KindsAt w) {n:Int} {f:Bool} {t:Int} (h:latestR b=(n,f,t)) :
 Calls Tryz.prog 16 #[.agg #[vr,vg,vm,vs,vc]] w fun e w'=>e=.returned (.tuple #[.int .i64 n,.bool f,.int .i64 t])/\Below w.heap.size w w':=by
 unfold latestR at h;by_cases h0:openAl b 0=0
 ·rw [if_pos h0] at h;cases h;exact latest_ok hB hN hK h0
 ·rw [if_neg h0] at h;cases h;exact latest_no hB hN hK rfl h0
theorem rLatestP_at (hB:BookAt w b vr vg vm vs vc) (hN:∀ m∈b.ms,m.name.size<=1000000) {n:Int} {f:Bool} {t:Int} (h:latestR b=(n,f,t)) :
 Calls Tryz.prog 17 #[.agg #[vr,vg,vm,vs,vc]] w fun e w'=>e=.returned (.tuple #[.int .i64 n,.bool f,.int .i64 t])/\Below w.heap.size w w':=by
 unfold latestR at h;by_cases h0:openAl b 0=0
 ·rw [if_pos h0] at h;cases h;exact rLatest_ok hB hN h0
 ·rw [if_neg h0] at h;cases h;exact rLatest_no hB hN rfl h0
theorem sameSes_at {x:List Prt} {la ma:Option Addr} {lc mc:Nat} (hL:PartsAt w la x) (hM:PartsAt w ma x) (hx:x.length<=5) :
 Calls Tryz.prog 15 #[.agg #[.slice la x.length lc],.agg #[.slice ma x.length mc]] w fun e w'=>e=.returned (.bool true)/\Below w.heap.size w w':=by
 have HL:=Hh hL;have HM:=Hh hM;clear hL hM
 go_enter Tryz.func15,Tryz.ntmps15
 go_wp2_with (go_at_call 29;(with_reducible refine (sameParts_at (t:=true) (HL.out.below (bel)) (HM.out.below (bel)) rfl rfl (by omega) (by omega) (by simp)).mono ?_);rintro e w1 ⟨rfl,hb1⟩);go_ret;exact ⟨rfl,bel⟩
end
end
section
open Go.RowKit Sp Mt Go.Conc
section
variable {P:Program} {b:Frame} {a:Act} {w:World} {k:List Item} {cs:List Frame} {K:Frame->List Frame->World->Prop}
theorem Twin.refl0 (w:World):Twin 0 w w:=⟨rfl,rfl,rfl,fun _=>rfl,fun _=>rfl,fun _ _=>rfl⟩
theorem Twin.at0 {w w1:World} (h:Twin 0 w w1) (d:Nat):Twin 0 w (w1.at d):=⟨h.os,h.output,h.size,h.cell,h.frozen,h.block⟩
theorem Twin.old0 {w w1 w2:World} (h:Twin 0 w w1) (k:Old w1 w2):Old w w2:=⟨k.os.trans h.os,k.output.trans h.output,by rw [<- h.size];exact k.size,fun i hi=>(k.block i (by rw [h.size];exact hi)).trans (h.block i (Nat.zero_le _))⟩
def LeadsA (P:Program) (K:Frame->List Frame->World->Prop) (fr:Frame) (cs:List Frame) (w:World):Prop:=∀ w',Twin 0 w w'->Leads P K fr cs w'
theorem LeadsA.here {fr:Frame} (h:LeadsA P K fr cs w):Leads P K fr cs w:=h w (Twin.refl0 w)
theorem all_region {id:Nat} {ops:Array Oper} (h:LeadsA P K (b.at a (.inRegion ops (List.range ops.size)::k)) cs w):LeadsA P K (b.at a (.code (.region id ops false)::k)) cs w:=fun _ t=>leads_region fun d=>h _ (t.at0 d)
theorem all_end {ops:Array Oper} (h:LeadsA P K (b.at a k) cs w):LeadsA P K (b.at a (.inRegion ops []::k)) cs w:=fun _ t=>leads_inRegion fun d=>h _ (t.at0 d)
theorem all_seq {x y:Code} (h:LeadsA P K (b.at a (.code x::.code y::k)) cs w):LeadsA P K (b.at a (.code (.seq x y)::k)) cs w:=fun _ t=>leads_seq fun d=>h _ (t.at0 d)
theorem all_ret (h:LeadsA P K { b.at a (.code .ret::k) with mode:=.returning } cs w):LeadsA P K (b.at a (.code .ret::k)) cs w:=fun _ t=>leads_ret fun d=>h _ (t.at0 d)
theorem all_op {ops:Array Oper} {i:Nat} {rest:List Nat} (v:Value) (hb:b.kind=.normal) {o:Oper} (ho:ops[i]? = some o) (hw:Region.wanted o (yielded ops a.tmps)=true)
 (hr:∀ w',(execOp a.eval o).run P w'=.ok (.value v) w') (he:∀ w',(execOp a.eval o).events P w' #[]=#[])
 (h:LeadsA P K (b.at (a.put o.dst v) (.inRegion ops rest::k)) cs w):LeadsA P K (b.at a (.inRegion ops (i::rest)::k)) cs w:=fun _ t =>
 leads_op v hb ho hw (fun d=>hr _) (fun d e hm=>by rw [he] at hm;simp at hm) fun d=>h _ (t.at0 d)
theorem all_call {ops:Array Oper} {i:Nat} {rest:List Nat} (f:FuncId) (args:Array Value) (hb:b.kind=.normal) {o:Oper} (ho:ops[i]? = some o) (hw:Region.wanted o (yielded ops a.tmps)=true)
 (hr:∀ w',(execOp a.eval o).run P w'=.ok (.enter f args) w') (he:∀ w',(execOp a.eval o).events P w' #[]=#[]) {Z:Value->World->Prop}
 (hc:∀ (c:Frame) (w':World),Twin 0 w w'->Leads P (fun fr' cs' w1=>∃ v,fr'=c.finish v/\cs'=cs/\Z v w1) (Frame.enter P f args .normal) (c::cs) w')
 (h:∀ v w1,Z v w1->LeadsA P K (b.at (a.put o.dst v) (.inRegion ops rest::k)) cs w1):LeadsA P K (b.at a (.inRegion ops (i::rest)::k)) cs w:=fun w' t =>
 leads_call hb ho hw (fun d=>hr _) (fun d=>he _) (fun d=>hc _ _ (t.at0 d)) fun v w1 hz=>(h v w1 hz).here
end
section
variable {w:World} {cs:List Frame} {c:Frame}
end
theorem wps_cons {P:Program} {c:Code} {l:List Code} {Q:Act->World->Prop} {a:Act} {w:World} (h:c.wp P (fun e a' w'=>e=.normal/\a'.defers=[]/\∀ X,Twin 0 w' X->wps P l Q a' X) a w):wps P (c::l) Q a w :=
 Code.wp_mono (fun _ _ _ ⟨h1,h2,h3⟩=>⟨h1,h2,fun _=>h3 _ ⟨rfl,rfl,rfl,fun _=>rfl,fun _=>rfl,fun _ _=>rfl⟩⟩) h
theorem Twin.five {n:Nat} {w w1:World} (h:Twin n w w1) {r:Nat} {v0 v1 v2 v3 v4:Value} (k:Five w r v0 v1 v2 v3 v4):Five w1 r v0 v1 v2 v3 v4:=⟨(h.cell _).trans k.c0,(h.cell _).trans k.c1,(h.cell _).trans k.c2,(h.cell _).trans k.c3,(h.cell _).trans k.c4,by rw [h.size];exact k.lt⟩
theorem Old.twin0 {w w1 X:World} (h:Old w w1) (t:Twin 0 w1 X):Old w X:=⟨t.os.trans h.os,t.output.trans h.output,by rw [t.size];exact h.size,fun k hk=>(t.block k (Nat.zero_le _)).trans (h.block k hk)⟩
theorem Old.ofBelow {w w1:World} (h:Below w.heap.size w w1):Old w w1:=⟨h.os,h.output,h.size,h.block⟩
theorem Old.ks {w A B:World} {O:Nat} (h:Old w A) (hO:w.heap.size<=O) (hk:KS (fun k=>k < A.heap.size/\k≠O) A B):Old w B:=⟨hk.os.trans h.os,hk.output.trans h.output,Nat.le_trans h.size hk.size,fun k hkl=>(hk.block k (Nat.lt_of_lt_of_le hkl h.size) ⟨Nat.lt_of_lt_of_le hkl h.size,by omega⟩).trans (h.block k hkl)⟩
def NQ (R:Act->World->Prop):Exit->Act->World->Prop
 | .normal,a,w=>R a w
 | _,_,_=>False
theorem wps_nq {P:Program} {c:Code} {l:List Code} {Q:Act->World->Prop} {a:Act} {w:World} (h:c.wp P (NQ fun a' w'=>a'.defers=[]/\∀ X,Twin 0 w' X->wps P l Q a' X) a w):wps P (c::l) Q a w:=by
 refine wps_cons (Code.wp_mono (fun e a' w' hq=>?_) h);cases e <;> first | exact ⟨rfl,hq.1,hq.2⟩ | exact hq.elim
section
variable {P:Program} {b:Frame} {a:Act} {w:World} {k:List Item} {cs:List Frame} {K:Frame->List Frame->World->Prop}
theorem put_at {a:Act} {j:Nat} {v:Value} (h:j < a.tmps.size):(a.put (some j) v).tmps[j]? = some v:=by
 show (a.tmps.setIfInBounds j v)[j]? = some v;simp [h]
theorem put_keep {a:Act} {j i:Nat} {v:Value} (hne:i≠j):(a.put (some j) v).tmps[i]? = a.tmps[i]? := by
 show (a.tmps.setIfInBounds j v)[i]? = a.tmps[i]?;rw [Array.getElem?_setIfInBounds_ne (by omega)]
theorem wanted_g {o ok:Oper} {ops:Array Oper} {tmps:Array Value} {m j:Nat} {want:Bool} (hg:o.guard=some (m,want)) (hk:ops[m]? = some ok) (hd:ok.dst=some j) (hA:tmps[j]? = some (.bool want)):Region.wanted o (yielded ops tmps)=true:=by
 unfold Region.wanted yielded;rw [hg];simp [hk,hd,hA]
end
section
variable {P:Program} {b:Frame} {a:Act} {w:World} {k:List Item} {cs:List Frame} {K:Frame->List Frame->World->Prop}
end
def KnL (a:Act):List (Nat × Value)->Prop
 | []=>True
 | x::l=>a.tmps[x.1]? = some x.2/\KnL a l
structure Kn (a:Act) (n:Nat) (l:List (Nat × Value)):Prop where
 sz:a.tmps.size=n
 df:a.defers=[]
 kn:KnL a l
theorem KnL.get {a:Act} {j:Nat} {v:Value}:∀ {l:List (Nat × Value)},KnL a l->l.lookup j=some v->a.tmps[j]? = some v
 | [],_,e=>by simp at e
 | (i,u)::l,h,e=>by
  rw [List.lookup_cons] at e;by_cases hji:j=i
  ·subst hji;simp at e;rw [<- e];exact h.1
  ·rw [beq_eq_false_iff_ne.2 hji] at e;exact KnL.get h.2 e
theorem KnL.put {a:Act} {j:Nat} {v:Value}:∀ {l:List (Nat × Value)},KnL a l->(l.all fun x=>x.1 != j)=true->KnL (a.put (some j) v) l
 | [],_,_=>trivial
 | x::l,h,e=>by
  simp only [List.all_cons,Bool.and_eq_true,bne_iff_ne] at e;exact ⟨(put_keep e.1).trans h.1,KnL.put h.2 e.2⟩
section
variable {P:Program} {b:Frame} {a:Act} {w:World} {k:List Item} {cs:List Frame} {K:Frame->List Frame->World->Prop} {n:Nat} {l:List (Nat × Value)}
theorem Kn.g (q:Kn a n l) (j:Nat) {v:Value} (e:l.lookup j=some v):a.tmps[j]? = some v:=q.kn.get e
theorem Kn.cons (q:Kn a n l) {j:Nat} (hj:j < n) (e:(l.all fun x=>x.1 != j)=true) (v:Value):Kn (a.put (some j) v) n ((j,v)::l):=⟨(Array.size_setIfInBounds).trans q.sz,q.df,put_at (by rw [q.sz];exact hj),q.kn.put e⟩
theorem st {ops:Array Oper} {i j:Nat} {rest:List Nat} (v:Value) (hb:b.kind=.normal) {o:Oper} (ho:ops[i]? = some o) (hd:o.dst=some j) (hw:Region.wanted o (yielded ops a.tmps)=true)
 (hx:∀ w',(execOp a.eval o).run P w'=.ok (.value v) w'/\(execOp a.eval o).events P w' #[]=#[]) (q:Kn a n l) (hj:j < n) (e:(l.all fun x=>x.1 != j)=true)
 (h:∀ a1,Kn a1 n ((j,v)::l)->LeadsA P K (b.at a1 (.inRegion ops rest::k)) cs w):LeadsA P K (b.at a (.inRegion ops (i::rest)::k)) cs w:=by
 refine all_op v hb ho hw (fun w'=>(hx w').1) (fun w'=>(hx w').2) ?_;rw [hd];exact h _ (q.cons hj e v)
theorem sc {ops:Array Oper} {i j:Nat} {rest:List Nat} (f:FuncId) (args:Array Value) (hb:b.kind=.normal) {o:Oper} (ho:ops[i]? = some o) (hd:o.dst=some j) (hw:Region.wanted o (yielded ops a.tmps)=true)
 (hx:∀ w',(execOp a.eval o).run P w'=.ok (.enter f args) w'/\(execOp a.eval o).events P w' #[]=#[]) (q:Kn a n l) (hj:j < n) (e:(l.all fun x=>x.1 != j)=true) {v:Value}
 (hc:∀ (c:Frame) (w':World),Twin 0 w w'->Leads P (fun fr' cs' w1=>∃ v',fr'=c.finish v'/\cs'=cs/\v'=v/\Old w w1) (Frame.enter P f args .normal) (c::cs) w')
 (h:∀ (a1:Act) (w1:World),Old w w1->Kn a1 n ((j,v)::l)->LeadsA P K (b.at a1 (.inRegion ops rest::k)) cs w1):LeadsA P K (b.at a (.inRegion ops (i::rest)::k)) cs w:=by
 refine all_call f args hb ho hw (fun w'=>(hx w').1) (fun w'=>(hx w').2) (Z:=fun v' w1=>v'=v/\Old w w1) hc ?_;rintro v' w1 ⟨rfl,ho1⟩;rw [hd];exact h _ _ ho1 (q.cons hj e v')
end
def sql:Code->Code
 | .seq a _=>a
 | c=>c
def sqr:Code->Code
 | .seq _ b=>b
 | c=>c
def cnd:Code->Code
 | .cond _ a _=>a
 | c=>c
def sqN:Nat->Code->Code
 | 0,c=>c
 | k+1,c=>sqN k (sqr c)
theorem fr_of {F:(Nat->Value)->Act} {a':Act} (h:a'=F fun i=>a'.tmps.getD i undef):∃ d,a'=F d:=⟨_,h⟩
theorem OldN.refl (n:Nat) (w:World):OldN n w w:=⟨rfl,rfl,Nat.le_refl _,fun _ _=>rfl⟩
theorem OldN.trans {n:Nat} {a b c:World} (h:OldN n a b) (k:OldN n b c):OldN n a c:=⟨k.os.trans h.os,k.output.trans h.output,Nat.le_trans h.size k.size,fun i hi=>(k.block i hi).trans (h.block i hi)⟩
theorem OldN.ks {n O:Nat} {w A B:World} (h:OldN n w A) (hn:n<=w.heap.size) (hO:n<=O) (hk:KS (fun k=>k≠O) A B):OldN n w B:=⟨hk.os.trans h.os,hk.output.trans h.output,Nat.le_trans h.size hk.size,fun k hkl=>(hk.block k (Nat.lt_of_lt_of_le hkl (Nat.le_trans hn h.size)) (by show k≠O;omega)).trans (h.block k hkl)⟩
section
variable {P:Program} {b:Frame} {a:Act} {w:World} {k:List Item} {cs:List Frame} {K:Frame->List Frame->World->Prop}
end
def blk:Code->Code
 | .block _ c=>c
 | c=>c
def lpc:Code->Code
 | .loop c=>c
 | c=>c
end
end Go.Proofs.YtgagoahfdnnpkaaGreatDoor
