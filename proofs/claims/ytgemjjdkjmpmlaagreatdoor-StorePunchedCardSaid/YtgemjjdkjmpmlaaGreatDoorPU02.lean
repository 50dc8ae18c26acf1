/- Leads to StorePunched of chapter 6: G12 W5 PU1 PU2 PU3 G8. -/
import Derived.Test.YtgemjjdkjmpmlaaGreatDoorPU01
set_option maxHeartbeats 16000000
set_option maxRecDepth 100000
set_option linter.all false
namespace Go.Proofs.YtgemjjdkjmpmlaaGreatDoor
open Go.RowKit Sp
theorem pun_held {b:Bk} {plan:List Int} (hl:plan.length=b.ms.length) (j:Int):heldL (plan.zip (loadsI b)) j=((punchI plan j (missI b)).length:Int):=by
 rw [show loadsI b=loadsOf plan.length (missI b) by rw [hl];rfl]
 exact held_punch plan _ _ fun p hp=>by have:=missI_part hp;rw [hl];exact ⟨this.1,this.2.1⟩
theorem pun_size {b:Bk} {plan o:List Int} (hl:plan.length=b.ms.length) (hll:(loadsI b).length=plan.length) (ho:planOk (loadsI b) plan=some o) (k:Nat) (hk:k < o.length):o[k]=((punchI plan (k:Int) (missI b)).length:Int):=by
 have h:=(planOk_inv hll ho).2.2.2.1 k
 rw [List.getD_eq_getElem?_getD,List.getElem?_eq_getElem hk,Option.getD_some] at h
 rw [h,pun_held hl]
theorem pun_on {b:Bk} {plan o:List Int} (hl:plan.length=b.ms.length) (hll:(loadsI b).length=plan.length) (ho:planOk (loadsI b) plan=some o) {p:Prt} (hp:p∈missI b):∃ j:Nat,j < o.length∧plan.getD p.1.toNat 0=(j:Int):=by
 obtain ⟨h0,h1,_⟩:=missI_part hp
 obtain ⟨q,hq⟩:∃ q:Nat,p.1=q:=⟨p.1.toNat,by omega⟩
 have hql:q < plan.length:=by omega
 have hqn:q < (loadsI b).length:=by omega
 have hf:=(planOk_inv hll ho).1 (plan[q],(loadsI b)[q]) (List.mem_iff_getElem.2 ⟨q,by rw [List.length_zip];omega,by rw [List.getElem_zip]⟩)
 have hpos:0 < (loadsI b)[q]:=by
  have e:(loadsOf b.ms.length (missI b))[q]? = some (((missI b).countP fun x=>decide (x.1=(q:Int)):Nat):Int):=by
   unfold loadsOf
   rw [List.getElem?_map,List.getElem?_range (by omega)]
   rfl
  have e2:(loadsI b)[q]? = some (loadsI b)[q]:=List.getElem?_eq_getElem hqn
  have e3:=Option.some.inj ((show (loadsI b)[q]? = _ from e).symm.trans e2)
  have h9:0 < (missI b).countP fun x=>decide (x.1=(q:Int)):=List.countP_pos_iff.2 ⟨p,hp,by simp [hq]⟩
  have e4:(loadsI b)[q]=(((missI b).countP fun x=>decide (x.1=(q:Int)):Nat):Int):=e3.symm
  rw [e4]
  omega
 have hlt:=planOk_lt ho hll plan[q] (List.getElem_mem hql)
 unfold fitP at hf
 simp only at hf
 refine ⟨plan[q].toNat,by omega,?_⟩
 rw [hq,Int.toNat_natCast,List.getD_eq_getElem?_getD,List.getElem?_eq_getElem hql,Option.getD_some]
 omega
def heldTo (plan:List Int) (l:List Prt) (k:Nat):Int:=((List.range k).map fun (j:Nat)=>((punchI plan (j:Int) l).length:Int)).sum
theorem heldTo_zero (plan:List Int) (l:List Prt):heldTo plan l 0=0:=rfl
theorem heldTo_succ (plan:List Int) (l:List Prt) (k:Nat):heldTo plan l (k+1)=heldTo plan l k+((punchI plan (k:Int) l).length:Int):=by
 unfold heldTo
 rw [List.range_succ,List.map_append,List.sum_append]
 simp
theorem countP_two {p1 p2 p3:Prt→Bool}:∀ (l:List Prt),(∀ x,(if p1 x=true then 1 else 0)+(if p2 x=true then 1 else 0)=(if p3 x=true then (1:Nat) else 0))→l.countP p1+l.countP p2=l.countP p3
 | [],_=>rfl
 | x::l,h=>by
  have ih:=countP_two l h
  have hx:=h x
  rw [List.countP_cons,List.countP_cons,List.countP_cons]
  omega
theorem heldTo_count (plan:List Int) (l:List Prt):∀ k:Nat,heldTo plan l k=((l.countP fun p=>decide (0≤plan.getD p.1.toNat 0∧plan.getD p.1.toNat 0 < (k:Int)):Nat):Int)
 | 0=>by
  rw [heldTo_zero,List.countP_eq_zero.2 fun p _=>by simp only [decide_eq_true_eq];omega]
  rfl
 | k+1=>by
  rw [heldTo_succ,heldTo_count plan l k]
  have e:(punchI plan (k:Int) l).length=l.countP (onTape plan (k:Int)):=by unfold punchI;rw [List.countP_eq_length_filter]
  have:=countP_two (p1:=fun p=>decide (0≤plan.getD p.1.toNat 0∧plan.getD p.1.toNat 0 < (k:Int))) (p2:=onTape plan (k:Int)) (p3:=fun p=>decide (0≤plan.getD p.1.toNat 0∧plan.getD p.1.toNat 0 < ((k+1:Nat):Int))) l (fun p=>by
   unfold onTape
   simp only [decide_eq_true_eq]
   split <;> split <;> split <;> omega)
  rw [e,← this]
  omega
theorem heldTo_all {plan:List Int} {l:List Prt} {K:Nat} (h:∀ p∈l,∃ j:Nat,j < K∧plan.getD p.1.toNat 0=(j:Int)):heldTo plan l K=(l.length:Int):=by
 rw [heldTo_count,List.countP_eq_length.2 fun p hp=>by obtain ⟨j,h1,h2⟩:=h p hp;rw [decide_eq_true_eq,h2];omega]
def punL (plan:List Int) (l:List Prt) (k:Nat):List (List Prt):=(List.range k).map fun (j:Nat)=>punchI plan (j:Int) l
theorem punL_len (plan:List Int) (l:List Prt) (k:Nat):(punL plan l k).length=k:=by simp [punL]
theorem punL_succ (plan:List Int) (l:List Prt) (k:Nat):punL plan l (k+1)=punL plan l k ++ [punchI plan (k:Int) l]:=by
 unfold punL
 rw [List.range_succ,List.map_append]
 rfl
theorem punL_on {b:Bk} {plan o:List Int} (hl:plan.length=b.ms.length) (hll:(loadsI b).length=plan.length) (ho:planOk (loadsI b) plan=some o):∀ p∈missI b,∃ j,∃ hj:j < (punL plan (missI b) o.length).length,(punL plan (missI b) o.length)[j]=punchI plan (j:Int) (missI b)∧plan.getD p.1.toNat 0=(j:Int):=fun p hp=>by
 obtain ⟨j,h1,h2⟩:=pun_on hl hll ho hp
 exact ⟨j,by rw [punL_len];exact h1,by simp [punL],h2⟩
theorem punch_mem {plan:List Int} {k:Nat} {l:List Prt} {p:Prt} (h:p∈punchI plan (k:Int) l):p∈l∧plan.getD p.1.toNat 0=(k:Int):=by
 unfold punchI onTape at h
 have:=List.mem_filter.1 h
 exact ⟨this.1,by simpa using this.2⟩
theorem punL_ok {b:Bk} {plan:List Int} {K:Nat} (hk:bookAl b=0) (hs:∀ j < K,(punchI plan (j:Int) (missI b)).length≤5):∀ s∈punL plan (missI b) K,s.length≤5∧(∀ p∈s,isPart b p=true)∧s.Nodup:=fun s hx=>by
 obtain ⟨j,hj,rfl⟩:=List.mem_map.1 hx
 refine ⟨hs j (List.mem_range.1 hj),fun p hp=>(missI_part (punch_mem hp).1).2.2,?_⟩
 exact (((missI_sorted b).imp fun {x y} h e=>by subst e;unfold LexLt at h;omega).filter _:(punchI plan (j:Int) (missI b)).Pairwise (·≠·))
end Go.Proofs.YtgemjjdkjmpmlaaGreatDoor
namespace Go.Proofs.YtgemjjdkjmpmlaaGreatDoor
open Go.RowKit Go.Maps Sp
section
variable {b:Bk} {vr vg vm vs vc:Value} {w:World}
theorem counts_at (hB:BookAt w b vr vg vm vs vc) (hR:b.rs.length≤20) {t:Bool} (ht:noCount b=!t) :
 Calls Tryz.prog 38 #[.agg #[vr,vg,vm,vs,vc]] w fun e w'=>e=.returned (.bool t)∧Below w.heap.size w w':=by
 obtain ⟨ra,rc,rfl,hRR,_⟩:=hB.rs
 have HRR:=Hh hRR
 have HT:=Hh ht
 clear hB hRR ht
 go_enter Tryz.func38,Tryz.ntmps38
 go_wp2
 obtain ⟨W0,hW0⟩:∃ W0,W0=w.alloc (.cells #[vr,vg,vm,vs,.slice ra b.rs.length rc] 26):=⟨_,rfl⟩
 rw [← hW0]
 have hb0:Below w.heap.size w W0:=by rw [hW0];(exact bel)
 have c4:W0.cell? ⟨w.heap.size,4,none⟩=some (.slice ra b.rs.length rc):=by rw [hW0,World.cell?_alloc_at _ _ _ _ rfl];rfl
 have hlw:w.heap.size < W0.heap.size:=by rw [hW0];simp
 have HB0:=Hh hb0
 clear hW0 hb0
 go_loopw [3] (fun i wr=>∃ k:Nat,k≤b.rs.length∧i=.int .i64 k∧Hid ((b.rs.take k).any (fun r=>decide (r.k=4) || decide (r.k=5))=false)∧Below W0.heap.size W0 wr) (fun i _=>b.rs.length - (intOf i).toNat)
 case atStart=>exact ⟨0,Nat.zero_le _,rfl,by simp [Hid],Below.refl _ _⟩
 case round =>
  obtain ⟨k,hk,rfl,HA,hW⟩:=hrel
  have hWs:=hW.size
  have d4:=(hW.cell (p:=⟨w.heap.size,4,none⟩) hlw).trans c4
  have hlr:w.heap.size < wr.heap.size:=by omega
  by_cases hlt:k < b.rs.length
  ·obtain ⟨rb,ro,rfl,hrb,e0,_,_,_⟩:=HRR.out k hlt
   have hbr:=Below.next HB0.out hW
   have d0:=(hbr.cell (p:=⟨rb,ro+k * 4,none⟩) hrb).trans e0
   have hrb2:rb < wr.heap.size:=Nat.lt_of_lt_of_le hrb hbr.size
   have hts:(b.rs.take (k+1)).any (fun r=>decide (r.k=4) || decide (r.k=5))=((b.rs.take k).any (fun r=>decide (r.k=4) || decide (r.k=5)) || (decide (b.rs[k].k=4) || decide (b.rs[k].k=5))):=by rw [List.take_succ_eq_append_getElem hlt,List.any_append];simp
   have hin:b.rs[k]∈b.rs:=List.getElem_mem hlt
   have hne:decide (b.rs[k].k=4) || decide (b.rs[k].k=5)→noCount b=false:=fun h=>by
    unfold noCount
    rw [Bool.not_eq_false',List.any_eq_true]
    exact ⟨_,hin,h⟩
   rw [HA.out,Bool.false_or] at hts
   generalize b.rs[k].k=x at d0 e0 hts hne
   have HTS:=Hh hts
   have HNE:=Hh hne
   clear e0 hts hne hbr hin
   by_cases h4:x=4
   ·subst h4
    obtain rfl:t=true:=by have:=HNE.out rfl;rw [HT.out] at this;simpa using this
    go_wp2
    go_ret
    exact ⟨rfl,Below.next HB0.out hW⟩
   ·have g4:(x == 4)=false:=by rw [beq_eq_false_iff_ne];exact h4
    by_cases h5:x=5
    ·subst h5
     obtain rfl:t=true:=by have:=HNE.out rfl;rw [HT.out] at this;simpa using this
     clear h4
     go_wp2
     go_ret
     exact ⟨rfl,Below.next HB0.out hW⟩
    ·have g5:(x == 5)=false:=by rw [beq_eq_false_iff_ne];exact h5
     have HZ:=Hh (show (b.rs.take (k+1)).any (fun r=>decide (r.k=4) || decide (r.k=5))=false by rw [HTS.out];simp [h4,h5])
     clear h4 h5
     go_wp2
     go_roundw
     case rel=>exact ⟨k+1,by omega,by go_num,HZ,hW⟩
     case measure=>simp [intOf];omega
  ·obtain rfl:k=b.rs.length:=by omega
   have ha:=HA.out
   rw [List.take_length] at ha
   obtain rfl:t=false:=by
    have:=HT.out
    unfold noCount at this
    rw [ha] at this
    simpa using this.symm
   go_wp2
   go_ret
   exact ⟨rfl,Below.next HB0.out hW⟩
theorem punch_many (hB:BookAt w b vr vg vm vs vc) (hN:∀ m∈b.ms,m.name.size≤1000000) (hK:KindsAt w) {pa:Option Addr} {pc:Nat} {plan:List Int} {pn:Nat} (hpl:pn=plan.length) (hP:IntsAt w pa plan) (tape:Int) (ht:openAl b (planAsk b.ms.length plan.length 0)=0) {o:List Int} (ho:planOk (loadsI b) plan=some o)
 (hin:inB tape 0 ((o.length:Int) - 1)=true) (hfew:5 < (punchI plan tape (missI b)).length) :
 Calls Tryz.prog 36 #[.agg #[vr,vg,vm,vs,vc],.slice pa pn pc,.int .i64 tape] w fun e w'=>e=.returned (.tuple #[.agg #[.slice none 0 0],.int .i64 2])∧Below w.heap.size w w':=by
 have HB:=Hh hB
 have HN:=Hh hN
 have HK:=Hh hK
 have HP:=Hh hP
 have HT:=Hh ht
 have HOO:=Hh ho
 have HPL:=Hh hpl
 have HIN:=Hh hin
 obtain ⟨hk,hpt,hps⟩:=openAl_ok ht
 have hbo:=(bookAl_ok hk).1
 have HO:=Hh hbo
 obtain ⟨_,hpm⟩:=planAsk_ok hpt
 have hml5:=hbo.ml
 have HPM:=Hh hpm
 have HBD:=Hh (planOk_bd ho (by omega) (loadsI_bd hk))
 have hol:=(planOk_bd ho (by omega) (loadsI_bd hk)).2
 have HPC:=Hh (fun x (hx:x∈pasts b)=>pasts_came hbo hx)
 have hple:=pasts_le hbo
 have hmi:=missI_bd hk
 have hwo:IntKind.i64.wrap ((o.length:Int) - 1)=(o.length:Int) - 1:=wrapI (by omega) (by omega)
 have HWO:=Hh hwo
 obtain ⟨rfl,rfl,⟨ma,mc,rfl,_,_⟩,⟨sa,sc,rfl,_,_⟩,ra,rc,rfl,_,_⟩:=id hB
 clear hB hN hK hP ht hpl ho hk hpt hps hbo hpm hin
 go_enter Tryz.func36,Tryz.ntmps36
 go_wp2_with (first
  | (go_at_call 77;(with_reducible refine (planned_yes (HB.out.below (bel)) HN.out (HK.out.below (bel)) HPL.out (HP.out.below (bel)) 0 HT.out HOO.out).mono ?_);rintro e w3 ⟨RB,lc,tc,lc2,ta,la,rfl,hl3,ht3,hc3,hb3⟩;have HC3:=Hh hc3;clear hl3 ht3 hc3;have hz3:=hb3.size;(try simp at hz3))
  | (go_at_call 79;(with_reducible refine (inside_at HIN.out).mono ?_);rintro e w' ⟨rfl,rfl⟩)
  | (go_at_call 68;(with_reducible refine (missing_at (HB.out.below (bel)) HO.out (HC3.out.below (bel)) HPC.out (by omega)).mono ?_);rintro e w4 ⟨v4,rfl,hr4,hb4⟩;obtain ⟨a4,c4,rfl⟩:=ownsRow_slice hr4;have HP4:=Hh (show PartsAt w4 a4 (missI b) from parts_of_row hr4);have HG4:=Hh (row_ge hr4);rw [show (missL b (pasts b) (partsL b)).length=(missI b).length from rfl];clear hr4;have hz4:=hb4.size;(try simp at hz4)))
 have x1:w4.cell? ⟨w3.heap.size+1,0,none⟩=some (.slice none 0 0):=by
  refine (hb4.cell (p:=⟨w3.heap.size+1,0,none⟩) (by simp)).trans ?_
  rw [World.cell?_alloc_at _ _ _ _ (by simp)];rfl
 have x2:w4.frozen? ⟨w3.heap.size+1,0,none⟩=false:=by
  refine (hb4.frozen (p:=⟨w3.heap.size+1,0,none⟩) (by simp)).trans ?_
  rw [World.frozen?_alloc_at _ _ _ _ (by simp)]
 have y1:w4.cell? ⟨w.heap.size+1,0,none⟩=some (.slice none 0 0):=by
  refine (hb4.cell (p:=⟨w.heap.size+1,0,none⟩) (by simp;omega)).trans ?_
  rw [World.cell?_alloc_past _ _ _ (by first | omega | (simp;done) | (simp;omega)),World.cell?_alloc_past _ _ _ (by first | omega | (simp;done) | (simp;omega))]
  refine (hb3.cell (p:=⟨w.heap.size+1,0,none⟩) (by simp)).trans ?_
  rw [World.cell?_alloc_at _ _ _ _ (by simp)];rfl
 have y2:w4.frozen? ⟨w.heap.size+1,0,none⟩=false:=by
  refine (hb4.frozen (p:=⟨w.heap.size+1,0,none⟩) (by simp;omega)).trans ?_
  rw [World.frozen?_alloc_past _ _ _ (by first | omega | (simp;done) | (simp;omega)),World.frozen?_alloc_past _ _ _ (by first | omega | (simp;done) | (simp;omega))]
  refine (hb3.frozen (p:=⟨w.heap.size+1,0,none⟩) (by simp)).trans ?_
  rw [World.frozen?_alloc_at _ _ _ _ (by simp)]
 have hbw:Below w.heap.size w w4:=bel
 have hP4:IntsAt w4 pa plan:=HP.out.below hbw
 have HPP:=Hh hP4
 have HPL2:=Hh (fun i (hi:i < plan.length)=>HP.out i hi)
 have HX:=Hh (⟨x1,x2⟩:_∧_)
 have HY:=Hh (⟨y1,y2⟩:_∧_)
 have hz9:w3.heap.size+1 < w4.heap.size:=by omega
 have hz10:w.heap.size+1 < w3.heap.size:=by omega
 obtain ⟨i0,hi,hz0,hz1,hz2⟩:=info_parts partInfo
 clear hb4 hb3 hP4 x1 x2 y1 y2 hz4 hz3
 go_loopw [39] (fun i wr=>∃ (k:Nat) (a:Option Addr) (c:Nat) (l:List Prt),k≤(missI b).length∧i=.int .i64 k∧Hid (l=punchI plan tape ((missI b).take k))∧wr.cell? ⟨w3.heap.size+1,0,none⟩=some (.slice a l.length c)∧wr.frozen? ⟨w3.heap.size+1,0,none⟩=false∧wr.ownsRow w4.heap.size 41 2 (.slice a l.length c) l.length (l.flatMap cellsQ)∧KS (fun k=>k < w4.heap.size∧k≠w3.heap.size+1) w4 wr) (fun i _=>(missI b).length - (intOf i).toNat)
 case atStart=>exact ⟨0,none,0,[],Nat.zero_le _,rfl,rfl,HX.out.1,HX.out.2,by simpa using World.ownsRow_nil _ _ _ _,KS.refl _ _⟩
 case round =>
  obtain ⟨k,a,c,l,hk,rfl,hl,hs1,hs2,hrow,hW⟩:=hrel
  have hWs:=hW.size
  have hl5:l.length≤20:=by rw [hl.out];exact Nat.le_trans (List.length_filter_le _ _) (by simp;omega)
  by_cases hlt:k < (missI b).length
  ·obtain ⟨lb,lo,rfl,hlb,e0,e1⟩:=HP4.out k hlt
   have hge:=HG4.out _ rfl
   simp at hge
   have d0:=(hW.cell (x:=⟨lb,lo+k * 2,none⟩) hlb (by simp;omega)).trans e0
   have d1:=(hW.cell (x:=⟨lb,lo+k * 2+1,none⟩) hlb (by simp;omega)).trans e1
   obtain ⟨hp0,hp1,_⟩:=missI_part (List.getElem_mem hlt)
   have hts:=List.take_succ_eq_append_getElem hlt
   have hsn:=punchI_snoc plan tape ((missI b).take k) (missI b)[k]
   rw [← hts,← hl.out] at hsn
   generalize (missI b)[k]=p at d0 d1 hp0 hp1 hsn
   obtain ⟨p1,p2⟩:=p
   simp only at d0 d1 hp0 hp1
   obtain ⟨q,rfl⟩:∃ q:Nat,p1=q:=⟨p1.toNat,by omega⟩
   have hqn:q < plan.length:=by have:=HPM.out;omega
   have hqn2:(q:Int) < (pn:Int):=by have:=HPL.out;omega
   have hq0:(0:Int)≤(q:Int):=by omega
   obtain ⟨pb,po,rfl,hpb,p0⟩:=HPL2.out q hqn
   have d2:wr.cell? ⟨pb,po+q,none⟩=some (.int .i64 plan[q]):=by
    refine (hW.cell (x:=⟨pb,po+q,none⟩) (by simp;omega) (by simp;omega)).trans ((hbw.cell (p:=⟨pb,po+q,none⟩) hpb).trans p0)
   have hon:onTape plan tape ((q:Int),p2)=decide (plan[q]=tape):=by
    unfold onTape
    simp only [Int.toNat_natCast,List.getD_eq_getElem?_getD,List.getElem?_eq_getElem hqn,Option.getD_some]
   rw [hon] at hsn
   generalize plan[q]=pq at d2 hsn
   have hlb2:lb < wr.heap.size:=by omega
   have hpb2:pb < wr.heap.size:=by omega
   have hs9:w3.heap.size+1 < wr.heap.size:=by omega
   have HROW:=Hh hrow
   have HW:=Hh hW
   have HL:=Hh hl
   clear e0 e1 hp0 hp1 hts hon hrow hW hl hge p0
   by_cases hon2:pq=tape
   ·have hd:(pq == tape)=true:=by simpa using hon2
    rw [if_pos (by simpa using hon2)] at hsn
    have HSN:=Hh hsn
    subst hon2
    clear hsn
    go_wp2_with (at_builtin;go_loud (refine wpList_append_own _ rfl _ _ 33 rfl w4.heap.size 41 i0 (.agg #[.int .i64 0,.int .i64 0]) 2 16 Tryz.underlying33 hi hz0 hz1 hz2 rfl (by decide) _ _ _ rfl ((HROW.out.alloc _).alloc _) ⟨wr.heap.size+1,0,none⟩ 1 1 [.int .i64 q,.int .i64 p2] rfl rfl (cells_new' _ _ _ (by simp)) (by simp [Value.oneCell']) (by unfold maxLen;omega) (by omega) (by simp;omega) ?_;intro v' w5 hown' hgrow _;obtain ⟨g',cap',rfl⟩:=ownsRow_succ hown';have hks:=grow_ks ((HROW.out.alloc _).alloc _) hgrow;have q1:=(hks.cell (x:=⟨w3.heap.size+1,0,none⟩) (by simp;omega) (by simp;omega));have q2:=(hks.frozen (x:=⟨w3.heap.size+1,0,none⟩) (by simp;omega) (by simp;omega));rw [World.cell?_alloc_past _ _ _ (by simp;omega),World.cell?_alloc_past _ _ _ (by omega),hs1] at q1;rw [World.frozen?_alloc_past _ _ _ (by simp;omega),World.frozen?_alloc_past _ _ _ (by omega),hs2] at q2))
    have h8:KS (fun k=>k < w4.heap.size) wr w5:=((KS.alloc (fun k=>k < w4.heap.size) wr _).trans (KS.alloc _ _ _)).trans hks
    have h9:KS (fun k=>k≠w3.heap.size+1) w5 (w5.setCell ⟨w3.heap.size+1,0,none⟩ (.slice (some ⟨g',0,none⟩) (l.length+1) cap')):=KS.setCell (by simp) _ _
    have hl8:(l ++ [((q:Int),p2)]).length=l.length+1:=by simp
    have hf8:(l ++ [((q:Int),p2)]).flatMap cellsQ=l.flatMap cellsQ ++ [.int .i64 q,.int .i64 p2]:=by rw [List.flatMap_append];rfl
    go_roundw
    case rel =>
     refine ⟨k+1,some ⟨g',0,none⟩,cap',l ++ [((q:Int),p2)],by omega,by go_num,HSN.out.symm,?_,?_,?_,?_⟩
     ·rw [hl8];exact World.cell?_setCell_same' _ _ _ (by rw [q1];rfl)
     ·rw [World.frozen?_setCell];exact q2
     ·rw [hl8,hf8];exact ownsRow_ks hown' h9 (fun k hk=>by show k≠_;omega)
     ·exact HW.out.trans ((h8.mono fun k _ h=>h.1).trans (h9.mono fun k _ h=>h.2))
    case measure=>simp [intOf];omega
   ·have hd:(pq == tape)=false:=by simpa using hon2
    rw [if_neg (by simpa using hon2),List.append_nil] at hsn
    have HSN:=Hh hsn
    clear hsn
    go_wp2
    go_roundw
    case rel =>
     have h8:=KS.alloc (fun _=>True) wr (.cells #[.int .i64 q,.int .i64 p2] 41)
     exact ⟨k+1,a,c,l,by omega,by go_num,HSN.out.symm,(h8.cell (x:=⟨w3.heap.size+1,0,none⟩) (by simp;omega) trivial).trans hs1,(h8.frozen (x:=⟨w3.heap.size+1,0,none⟩) (by simp;omega) trivial).trans hs2,ownsRow_ks HROW.out h8 (fun _ _=>trivial),HW.out.trans (h8.mono fun _ _ _=>trivial)⟩
    case measure=>simp [intOf];omega
  ·obtain rfl:k=(missI b).length:=by omega
   have hl2:=hl.out
   rw [List.take_length] at hl2
   have hlen5:5 < l.length:=by rw [hl2];exact hfew
   have hs9:w3.heap.size+1 < wr.heap.size:=by omega
   have hs10:w.heap.size+1 < wr.heap.size:=by omega
   have y1:=(hW.cell (x:=⟨w.heap.size+1,0,none⟩) (by simp;omega) (by simp;omega)).trans HY.out.1
   have y2:=(hW.frozen (x:=⟨w.heap.size+1,0,none⟩) (by simp;omega) (by simp;omega)).trans HY.out.2
   have HW:=Hh hW
   clear hrow hW hl hl2
   go_wp2
   have hB9:Below w.heap.size w (wr.setCell ⟨w.heap.size+1,0,none⟩ (.slice none 0 0)):=by
    have h1:=HW.out.toBelow (n:=w.heap.size) (by omega) (fun k hk=>by omega)
    exact Below.wr (hbw.trans h1) (by simp) _
   have hc9:(wr.setCell ⟨w.heap.size+1,0,none⟩ (.slice none 0 0)).cell? ⟨w.heap.size+1,0,none⟩=some (.slice none 0 0):=World.cell?_setCell_same' _ _ _ (by rw [y1];rfl)
   exact bodyPost_ret (v:=.tuple #[.agg #[.slice none 0 0],.int .i64 2]) (by simp [results,Tryz.results36,go_sem,hc9]) rfl ⟨rfl,hB9⟩
end
end Go.Proofs.YtgemjjdkjmpmlaaGreatDoor
namespace Go.Proofs.YtgemjjdkjmpmlaaGreatDoor
open Go.RowKit Go.Maps Sp Mt Go.Conc
variable {B O lc nc oc kc ec:Nat} {b:Bk} {u K hd:Int} {fd:Bool} {vr vg vm vs vc x:Value} {w w0:World} {la na oa ka ea:Option Addr} {ks ot o ee:List Int} {l:List Prt} {d:Nat→Value}
noncomputable def pu (k:Nat):Code:=sql (sqN k (Tryz.f6.body.getD .skip))
theorem puBody_eq:Tryz.f6.body=some (.seq (pu 0) (.seq (pu 1) (.seq (pu 2) (.seq (pu 3) (.seq (pu 4) (.seq (pu 5) (.seq (pu 6) (.seq (pu 7) (.seq (pu 8) (.seq (pu 9) (.seq (pu 10) (.seq (pu 11) (.seq (pu 12) (.seq (pu 13) (.seq (pu 14) (.seq (pu 15) (.seq (pu 16) (.seq (pu 17) .ret)))))))))))))))))):=by kernel_rfl
theorem pu1_eq:pu 1=.seq (sql (pu 1)) (.cond (.tmp 23) (cnd (sqr (pu 1))) .skip):=by kernel_rfl
theorem pu3_eq:pu 3=.seq (sql (pu 3)) (.cond (.tmp 31) (cnd (sqr (pu 3))) .skip):=by kernel_rfl
theorem pu13_eq:pu 13=.seq (sql (pu 13)) (.cond (.tmp 195) (cnd (sqr (pu 13))) .skip):=by kernel_rfl
def uI (x0 x1:Value) (d:Nat→Value):Act:={ tmps:=#[x0,x1,d 2,d 3,d 4,d 5,d 6,d 7,d 8,d 9,d 10,d 11,d 12,d 13,d 14,d 15,d 16,d 17,d 18,d 19,d 20,d 21,d 22,d 23,d 24,d 25,d 26,d 27,d 28,d 29,d 30,d 31,d 32,d 33,d 34,d 35,d 36,d 37,d 38,d 39,d 40,d 41,d 42,d 43,d 44,d 45,d 46,d 47,d 48,d 49,d 50,d 51,d 52,d 53,d 54,d 55,d 56,d 57,d 58,d 59,d 60,d 61,d 62,d 63,d 64,d 65,d 66,d 67,d 68,d 69,d 70,d 71,d 72,d 73,d 74,d 75,d 76,d 77,d 78,d 79,d 80,d 81,d 82,d 83,d 84,d 85,d 86,d 87,d 88,d 89,d 90,d 91,d 92,d 93,d 94,d 95,d 96,d 97,d 98,d 99,d 100,d 101,d 102,d 103,d 104,d 105,d 106,d 107,d 108,d 109,d 110,d 111,d 112,d 113,d 114,d 115,d 116,d 117,d 118,d 119,d 120,d 121,d 122,d 123,d 124,d 125,d 126,d 127,d 128,d 129,d 130,d 131,d 132,d 133,d 134,d 135,d 136,d 137,d 138,d 139,d 140,d 141,d 142,d 143,d 144,d 145,d 146,d 147,d 148,d 149,d 150,d 151,d 152,d 153,d 154,d 155,d 156,d 157,d 158,d 159,d 160,d 161,d 162,d 163,d 164,d 165,d 166,d 167,d 168,d 169,d 170,d 171,d 172,d 173,d 174,d 175,d 176,d 177,d 178,d 179,d 180,d 181,d 182,d 183,d 184,d 185,d 186,d 187,d 188,d 189,d 190,d 191,d 192,d 193,d 194,d 195,d 196,d 197,d 198,d 199,d 200,d 201,d 202,d 203,d 204,d 205,d 206,d 207,d 208,d 209,d 210,d 211,d 212,d 213,d 214,d 215,d 216,d 217,d 218,d 219,d 220,d 221,d 222,d 223,d 224,d 225,d 226,d 227,d 228,d 229],defers:=[] }
def uG (B:Nat) (ka:Option Addr) (ks:List Int) (kc:Nat) (x:Value) (d:Nat→Value):Act:={ tmps:=#[d 0,.slice ka ks.length kc,.pointer (some ⟨B,0,none⟩),d 3,.bool false,d 5,d 6,d 7,d 8,d 9,d 10,d 11,d 12,d 13,d 14,d 15,d 16,d 17,d 18,d 19,d 20,d 21,d 22,x,d 24,d 25,d 26,d 27,d 28,d 29,d 30,d 31,d 32,d 33,d 34,d 35,d 36,d 37,d 38,d 39,d 40,d 41,d 42,d 43,d 44,d 45,d 46,d 47,d 48,d 49,d 50,d 51,d 52,d 53,d 54,d 55,d 56,d 57,d 58,d 59,d 60,d 61,d 62,d 63,d 64,d 65,d 66,d 67,d 68,d 69,d 70,d 71,d 72,d 73,d 74,d 75,d 76,d 77,d 78,d 79,d 80,d 81,d 82,d 83,d 84,d 85,d 86,d 87,d 88,d 89,d 90,d 91,d 92,d 93,d 94,d 95,d 96,d 97,d 98,d 99,d 100,d 101,d 102,d 103,d 104,d 105,d 106,d 107,d 108,d 109,d 110,d 111,d 112,d 113,d 114,d 115,d 116,d 117,d 118,d 119,d 120,d 121,d 122,d 123,d 124,d 125,d 126,d 127,d 128,d 129,d 130,d 131,d 132,d 133,d 134,d 135,d 136,d 137,d 138,d 139,d 140,d 141,d 142,d 143,d 144,d 145,d 146,d 147,d 148,d 149,d 150,d 151,d 152,d 153,d 154,d 155,d 156,d 157,d 158,d 159,d 160,d 161,d 162,d 163,d 164,d 165,d 166,d 167,d 168,d 169,d 170,d 171,d 172,d 173,d 174,d 175,d 176,d 177,d 178,d 179,d 180,d 181,d 182,d 183,d 184,d 185,d 186,d 187,d 188,d 189,d 190,d 191,d 192,d 193,d 194,d 195,d 196,d 197,d 198,d 199,d 200,d 201,d 202,d 203,d 204,d 205,d 206,d 207,d 208,d 209,d 210,d 211,d 212,d 213,d 214,d 215,d 216,d 217,d 218,d 219,d 220,d 221,d 222,d 223,d 224,d 225,d 226,d 227,d 228,d 229],defers:=[] }
def uA (B:Nat) (ka:Option Addr) (ks:List Int) (kc:Nat) (la:Option Addr) (ln lc:Nat) (u:Int) (d:Nat→Value):Act:={ tmps:=#[d 0,.slice ka ks.length kc,.pointer (some ⟨B,0,none⟩),d 3,.bool false,.slice la ln lc,.int .i64 u,d 7,d 8,d 9,d 10,d 11,d 12,d 13,d 14,d 15,d 16,d 17,d 18,d 19,d 20,d 21,d 22,d 23,d 24,d 25,d 26,d 27,d 28,d 29,d 30,d 31,d 32,d 33,d 34,d 35,d 36,d 37,d 38,d 39,d 40,d 41,d 42,d 43,d 44,d 45,d 46,d 47,d 48,d 49,d 50,d 51,d 52,d 53,d 54,d 55,d 56,d 57,d 58,d 59,d 60,d 61,d 62,d 63,d 64,d 65,d 66,d 67,d 68,d 69,d 70,d 71,d 72,d 73,d 74,d 75,d 76,d 77,d 78,d 79,d 80,d 81,d 82,d 83,d 84,d 85,d 86,d 87,d 88,d 89,d 90,d 91,d 92,d 93,d 94,d 95,d 96,d 97,d 98,d 99,d 100,d 101,d 102,d 103,d 104,d 105,d 106,d 107,d 108,d 109,d 110,d 111,d 112,d 113,d 114,d 115,d 116,d 117,d 118,d 119,d 120,d 121,d 122,d 123,d 124,d 125,d 126,d 127,d 128,d 129,d 130,d 131,d 132,d 133,d 134,d 135,d 136,d 137,d 138,d 139,d 140,d 141,d 142,d 143,d 144,d 145,d 146,d 147,d 148,d 149,d 150,d 151,d 152,d 153,d 154,d 155,d 156,d 157,d 158,d 159,d 160,d 161,d 162,d 163,d 164,d 165,d 166,d 167,d 168,d 169,d 170,d 171,d 172,d 173,d 174,d 175,d 176,d 177,d 178,d 179,d 180,d 181,d 182,d 183,d 184,d 185,d 186,d 187,d 188,d 189,d 190,d 191,d 192,d 193,d 194,d 195,d 196,d 197,d 198,d 199,d 200,d 201,d 202,d 203,d 204,d 205,d 206,d 207,d 208,d 209,d 210,d 211,d 212,d 213,d 214,d 215,d 216,d 217,d 218,d 219,d 220,d 221,d 222,d 223,d 224,d 225,d 226,d 227,d 228,d 229],defers:=[] }
def uB (B:Nat) (la:Option Addr) (ln lc:Nat) (na oa ea:Option Addr) (mn nc oc en ec:Nat) (K:Int) (d:Nat→Value):Act:={ tmps:=#[d 0,d 1,.pointer (some ⟨B,0,none⟩),d 3,.bool false,.slice la ln lc,d 6,.slice na mn nc,.slice oa mn oc,.int .i64 K,.slice ea en ec,d 11,d 12,d 13,d 14,d 15,d 16,d 17,d 18,d 19,d 20,d 21,d 22,d 23,d 24,d 25,d 26,d 27,d 28,d 29,d 30,d 31,d 32,d 33,d 34,d 35,d 36,d 37,d 38,d 39,d 40,d 41,d 42,d 43,d 44,d 45,d 46,d 47,d 48,d 49,d 50,d 51,d 52,d 53,d 54,d 55,d 56,d 57,d 58,d 59,d 60,d 61,d 62,d 63,d 64,d 65,d 66,d 67,d 68,d 69,d 70,d 71,d 72,d 73,d 74,d 75,d 76,d 77,d 78,d 79,d 80,d 81,d 82,d 83,d 84,d 85,d 86,d 87,d 88,d 89,d 90,d 91,d 92,d 93,d 94,d 95,d 96,d 97,d 98,d 99,d 100,d 101,d 102,d 103,d 104,d 105,d 106,d 107,d 108,d 109,d 110,d 111,d 112,d 113,d 114,d 115,d 116,d 117,d 118,d 119,d 120,d 121,d 122,d 123,d 124,d 125,d 126,d 127,d 128,d 129,d 130,d 131,d 132,d 133,d 134,d 135,d 136,d 137,d 138,d 139,d 140,d 141,d 142,d 143,d 144,d 145,d 146,d 147,d 148,d 149,d 150,d 151,d 152,d 153,d 154,d 155,d 156,d 157,d 158,d 159,d 160,d 161,d 162,d 163,d 164,d 165,d 166,d 167,d 168,d 169,d 170,d 171,d 172,d 173,d 174,d 175,d 176,d 177,d 178,d 179,d 180,d 181,d 182,d 183,d 184,d 185,d 186,d 187,d 188,d 189,d 190,d 191,d 192,d 193,d 194,d 195,d 196,d 197,d 198,d 199,d 200,d 201,d 202,d 203,d 204,d 205,d 206,d 207,d 208,d 209,d 210,d 211,d 212,d 213,d 214,d 215,d 216,d 217,d 218,d 219,d 220,d 221,d 222,d 223,d 224,d 225,d 226,d 227,d 228,d 229],defers:=[] }
def uC (B:Nat) (la:Option Addr) (ln lc:Nat) (na oa ea:Option Addr) (mn nc oc en ec:Nat) (K:Int) (O:Nat) (fd:Bool) (d:Nat→Value):Act:={ tmps:=#[d 0,d 1,.pointer (some ⟨B,0,none⟩),d 3,.bool false,.slice la ln lc,d 6,.slice na mn nc,.slice oa mn oc,.int .i64 K,.slice ea en ec,.pointer (some ⟨O,0,none⟩),.int .i64 0,.bool fd,.int .i64 0,d 15,d 16,d 17,d 18,d 19,d 20,d 21,d 22,d 23,d 24,d 25,d 26,d 27,d 28,d 29,d 30,d 31,d 32,d 33,d 34,d 35,d 36,d 37,d 38,d 39,d 40,d 41,d 42,d 43,d 44,d 45,d 46,d 47,d 48,d 49,d 50,d 51,d 52,d 53,d 54,d 55,d 56,d 57,d 58,d 59,d 60,d 61,d 62,d 63,d 64,d 65,d 66,d 67,d 68,d 69,d 70,d 71,d 72,d 73,d 74,d 75,d 76,d 77,d 78,d 79,d 80,d 81,d 82,d 83,d 84,d 85,d 86,d 87,d 88,d 89,d 90,d 91,d 92,d 93,d 94,d 95,d 96,d 97,d 98,d 99,d 100,d 101,d 102,d 103,d 104,d 105,d 106,d 107,d 108,d 109,d 110,d 111,d 112,d 113,d 114,d 115,d 116,d 117,d 118,d 119,d 120,d 121,d 122,d 123,d 124,d 125,d 126,d 127,d 128,d 129,d 130,d 131,d 132,d 133,d 134,d 135,d 136,d 137,d 138,d 139,d 140,d 141,d 142,d 143,d 144,d 145,d 146,d 147,d 148,d 149,d 150,d 151,d 152,d 153,d 154,d 155,d 156,d 157,d 158,d 159,d 160,d 161,d 162,d 163,d 164,d 165,d 166,d 167,d 168,d 169,d 170,d 171,d 172,d 173,d 174,d 175,d 176,d 177,d 178,d 179,d 180,d 181,d 182,d 183,d 184,d 185,d 186,d 187,d 188,d 189,d 190,d 191,d 192,d 193,d 194,d 195,d 196,d 197,d 198,d 199,d 200,d 201,d 202,d 203,d 204,d 205,d 206,d 207,d 208,d 209,d 210,d 211,d 212,d 213,d 214,d 215,d 216,d 217,d 218,d 219,d 220,d 221,d 222,d 223,d 224,d 225,d 226,d 227,d 228,d 229],defers:=[] }
def uD (B:Nat) (la:Option Addr) (ln lc:Nat) (O:Nat) (hd:Int) (fd:Bool) (d:Nat→Value):Act:={ tmps:=#[d 0,d 1,.pointer (some ⟨B,0,none⟩),d 3,d 4,.slice la ln lc,d 6,d 7,d 8,d 9,d 10,.pointer (some ⟨O,0,none⟩),.int .i64 hd,.bool fd,d 14,d 15,d 16,d 17,d 18,d 19,d 20,d 21,d 22,d 23,d 24,d 25,d 26,d 27,d 28,d 29,d 30,d 31,d 32,d 33,d 34,d 35,d 36,d 37,d 38,d 39,d 40,d 41,d 42,d 43,d 44,d 45,d 46,d 47,d 48,d 49,d 50,d 51,d 52,d 53,d 54,d 55,d 56,d 57,d 58,d 59,d 60,d 61,d 62,d 63,d 64,d 65,d 66,d 67,d 68,d 69,d 70,d 71,d 72,d 73,d 74,d 75,d 76,d 77,d 78,d 79,d 80,d 81,d 82,d 83,d 84,d 85,d 86,d 87,d 88,d 89,d 90,d 91,d 92,d 93,d 94,d 95,d 96,d 97,d 98,d 99,d 100,d 101,d 102,d 103,d 104,d 105,d 106,d 107,d 108,d 109,d 110,d 111,d 112,d 113,d 114,d 115,d 116,d 117,d 118,d 119,d 120,d 121,d 122,d 123,d 124,d 125,d 126,d 127,d 128,d 129,d 130,d 131,d 132,d 133,d 134,d 135,d 136,d 137,d 138,d 139,d 140,d 141,d 142,d 143,d 144,d 145,d 146,d 147,d 148,d 149,d 150,d 151,d 152,d 153,d 154,d 155,d 156,d 157,d 158,d 159,d 160,d 161,d 162,d 163,d 164,d 165,d 166,d 167,d 168,d 169,d 170,d 171,d 172,d 173,d 174,d 175,d 176,d 177,d 178,d 179,d 180,d 181,d 182,d 183,d 184,d 185,d 186,d 187,d 188,d 189,d 190,d 191,d 192,d 193,d 194,d 195,d 196,d 197,d 198,d 199,d 200,d 201,d 202,d 203,d 204,d 205,d 206,d 207,d 208,d 209,d 210,d 211,d 212,d 213,d 214,d 215,d 216,d 217,d 218,d 219,d 220,d 221,d 222,d 223,d 224,d 225,d 226,d 227,d 228,d 229],defers:=[] }
def UZ0 (n:Nat) (b:Bk) (vr vg vm vs vc:Value) (ka:Option Addr) (ks:List Int) (kc:Nat) (a':Act) (w2:World):Prop:=∃ B x,(∃ d,a'=uG B ka ks kc x d)∧LawAt w2 B b [] vr vg vm vs vc none
theorem pu_0 (hR:RawAt w b vr vg vm vs vc) (hK:KindsAt w):(pu 0).wp Tryz.prog (PZ w (UZ0 w.heap.size b vr vg vm vs vc ka ks kc)) (uI (.agg #[vr,vg,vm,vs,vc]) (.slice ka ks.length kc) d) w:=by
 simp only [pu,sqN,sql,sqr,cnd,blk,lpc,Tryz.f6,Option.getD_some,uI]
 have HR:=Hh hR
 have HK:=Hh hK
 clear hR hK
 go_wp2
 have hbw:Below w.heap.size w (w.alloc (.cells #[vr,vg,vm,vs,vc] 26)):=bel
 refine ⟨rfl,⟨w.heap.size,d 23,fr_of (by kernel_rfl),⟨?_,?_,?_,?_,?_,HR.out.below hbw,HK.out.below hbw,ints_nil⟩⟩,hbw⟩ <;> (rw [World.cell?_alloc_at _ _ _ _ rfl];rfl)
def UZ1 (B:Nat) (ka:Option Addr) (ks:List Int) (kc:Nat) (x:Bool) (a':Act) (w2:World):Prop:=∃ d,a'=uG B ka ks kc (.bool x) d
theorem pu_1 {y:Bool} (hE:LawAt w B b [] vr vg vm vs vc none) (hx:y=true↔¬ (SmallB b∧bookAl b=0)):(sql (pu 1)).wp Tryz.prog (PZ w (UZ1 B ka ks kc y)) (uG B ka ks kc x d) w:=by
 simp only [pu,sqN,sql,sqr,cnd,blk,lpc,Tryz.f6,Option.getD_some,uG]
 have hrw:=hE.raw
 obtain ⟨x0,x1,x2,x3,x4,_,_,_⟩:=hE
 have HRW:=Hh hrw
 have hB0:=lt_of_cell x0
 simp only at hB0
 obtain ⟨g,hg,hgy⟩:∃ g:Bool,(g=true↔SmallB b∧bookAl b=0)∧y=!g:=by
  by_cases hs:SmallB b∧bookAl b=0
  ·exact ⟨true,by simp [hs],by cases y with
    | false=>rfl
    | true=>exact absurd hs (hx.1 rfl)⟩
  ·exact ⟨false,by simp [hs],hx.2 hs⟩
 subst hgy
 have HG:=Hh hg
 clear hg hx hrw
 go_wp2_with (go_at_call 13;(with_reducible refine (fit_at HRW.out HG.out).mono ?_);rintro e w1 ⟨rfl,hb1⟩)
 exact ⟨rfl,fr_of (by kernel_rfl),hb1⟩
def UZA (B:Nat) (b:Bk) (vr vg vm vs vc:Value) (ka:Option Addr) (ks:List Int) (kc:Nat) (l:List Prt) (u:Int) (a':Act) (w2:World):Prop:=∃ la lc,(∃ d,a'=uA B ka ks kc la l.length lc u d)∧PkSt w2 B b vr vg vm vs vc∧PartsAt w2 la l
theorem pu_A (hE:PkSt w B b vr vg vm vs vc) (hS:SmallB b) (hmi:miss b=l) (hu:openAl b 0=u) :
 wps Tryz.prog [pu 2] (fun a' w2=>UZA B b vr vg vm vs vc ka ks kc l u a' w2∧Old w w2) (uG B ka ks kc x d) w:=by
 unfold uG
 have HNM:=Hh hS.names
 have HMI:=Hh hmi
 have HU:=Hh hu
 have OO0:=Hh (Old.refl w)
 clear hS hmi hu
 refine wps_nq ?_
 obtain ⟨c9,hcc⟩:∃ c,pu 2=c:=⟨_,rfl⟩
 rw [hcc]
 simp only [pu,sqN,sql,sqr,cnd,blk,lpc,Tryz.f6,Option.getD_some] at hcc
 subst hcc
 obtain ⟨c0,c1,c2,c3,c4,_,_⟩:=id hE
 have HBx:=Hh hE.bk
 have HKx:=Hh hE.kd
 have EE:=Hh hE
 clear hE
 have hB0:=lt_of_cell c0
 simp only at hB0
 go_wp2_with (go_at_call 17;(with_reducible refine (missing2_at HBx.out HNM.out HKx.out HMI.out HU.out).mono ?_);rintro e w1 ⟨qa,qc,rfl,hx1,hb1⟩)
 refine ⟨rfl,fun X1 t1=>?_⟩
 have o1:=Old.twin0 (Old.ofBelow hb1) t1
 have E1:=EE.out.old o1
 have OO1:=Hh (OO0.out.trans o1)
 have LI:=Hh (t1.parts hx1)
 clear c0 c1 c2 c3 c4 HBx HKx EE hB0 t1 o1 hb1 OO0 hx1
 exact ⟨⟨qa,qc,fr_of (by kernel_rfl),E1,LI.out⟩,OO1.out⟩
def UZ3 (B:Nat) (ka:Option Addr) (ks:List Int) (kc:Nat) (la:Option Addr) (ln lc:Nat) (a':Act) (w2:World):Prop:=a'.tmps[31]? = some (.bool true)∧∃ d,a'=uA B ka ks kc la ln lc 10 d
theorem pu_3 {ln:Nat}:(sql (pu 3)).wp Tryz.prog (PZ w (UZ3 B ka ks kc la ln lc)) (uA B ka ks kc la ln lc 10 d) w:=by
 simp only [pu,sqN,sql,sqr,cnd,blk,lpc,Tryz.f6,Option.getD_some,uA]
 go_wp2
 exact ⟨rfl,⟨rfl,fr_of (by kernel_rfl)⟩,bel⟩
variable {B O lc nc oc kc ec:Nat} {b:Bk} {u K hd:Int} {fd:Bool} {vr vg vm vs vc x:Value} {w w0:World} {la na oa ka ea:Option Addr} {ks ot o ee:List Int} {l:List Prt} {d:Nat→Value}
def UZB (B:Nat) (b:Bk) (vr vg vm vs vc:Value) (l:List Prt) (ot o:List Int) (a':Act) (w2:World):Prop:=∃ la lc na oa ea nc oc ec,(∃ d,a'=uB B la l.length lc na oa ea b.ms.length nc oc o.length ec o.length d)∧PkSt w2 B b vr vg vm vs vc∧PartsAt w2 la l∧IntsAt w2 na (loadsI b)∧IntsAt w2 oa ot∧IntsAt w2 ea (endsI b.gap 0 o)
theorem pu_B (hE:PkSt w B b vr vg vm vs vc) (hL:PartsAt w la l) (hUs:U16sAt w ka ks) (hS:SmallB b) (hk:bookAl b=0) (hu:openAl b 0=0) (hmi:missI b=l) (hot:planP ks (loadsI b)=ot) (ho:planOk (loadsI b) ot=some o) :
 wps Tryz.prog [pu 3,pu 4,pu 5,pu 6,pu 7,pu 8,pu 9] (fun a' w2=>UZB B b vr vg vm vs vc l ot o a' w2∧Old w w2) (uA B ka ks kc la l.length lc 0 d) w:=by
 unfold uA
 have hml:b.ms.length≤20:=hS.1
 have hll:l.length≤20:=by rw [← hmi];exact missI_bd hk
 have hli:loadsI b=loadsOf b.ms.length l:=by rw [← hmi];rfl
 have hlen:(loadsI b).length=b.ms.length:=loadsI_len b
 have hotl:ot.length=b.ms.length:=by rw [← hot,planP_len,hlen]
 have HNM:=Hh hS.names
 have HGR:=Hh (bookAl_ok hk).1.groups
 have HP:=Hh (show ∀ p∈l,isPart b p=true from fun p hp=>missI_isPart (by rw [hmi];exact hp))
 have HSO:=Hh (show l.Pairwise LexLt by rw [← hmi];exact missI_sorted b)
 have HLI:=Hh hli
 have HLEN:=Hh hlen
 have HOT:=Hh hot
 have HOL:=Hh hotl
 have HO:=Hh ho
 have HPA:=Hh (plan_asked hu hotl (Int.le_refl 0) (by omega))
 have LI:=Hh hL
 have UI:=Hh hUs
 have OO0:=Hh (Old.refl w)
 clear hS hk hu hmi hot ho hL hUs hli hlen hotl
 refine wps_nq ?_
 obtain ⟨c9,hcc⟩:∃ c,pu 3=c:=⟨_,rfl⟩
 rw [hcc]
 simp only [pu,sqN,sql,sqr,cnd,blk,lpc,Tryz.f6,Option.getD_some] at hcc
 subst hcc
 have E0:=Hh hE
 clear hE
 go_wp2
 have hE:=E0.out
 clear E0
 refine ⟨rfl,fun X1 t1=>?_⟩
 have o1:=Old.twin0 (Old.refl _) t1
 have E1:=hE.old o1
 have OO1:=Hh (OO0.out.trans o1)
 replace LI:=Hh (o1.parts LI.out)
 replace UI:=Hh (UI.out.ol o1)
 clear hE t1 o1 OO0
 refine wps_nq ?_
 obtain ⟨c9,hcc⟩:∃ c,pu 4=c:=⟨_,rfl⟩
 rw [hcc]
 simp only [pu,sqN,sql,sqr,cnd,blk,lpc,Tryz.f6,Option.getD_some] at hcc
 subst hcc
 obtain ⟨c0,c1,c2,c3,c4,_,_⟩:=id E1
 have HBx:=Hh E1.bk
 have HKx:=Hh E1.kd
 have EE:=Hh E1
 clear E1
 have hB0:=lt_of_cell c0
 simp only at hB0
 go_wp2_with (go_at_call 18;(with_reducible refine (ordered_at HBx.out HGR.out LI.out rfl (by omega) HP.out HSO.out).mono ?_);rintro e w1 ⟨rfl,hb1⟩)
 refine ⟨rfl,fun X2 t1=>?_⟩
 have o1:=Old.twin0 (Old.ofBelow hb1) t1
 have E2:=EE.out.old o1
 have OO2:=Hh (OO1.out.trans o1)
 replace LI:=Hh (o1.parts LI.out)
 replace UI:=Hh (UI.out.ol o1)
 clear c0 c1 c2 c3 c4 HBx HKx EE hB0 t1 o1 hb1 OO1
 refine wps_nq ?_
 obtain ⟨c9,hcc⟩:∃ c,pu 5=c:=⟨_,rfl⟩
 rw [hcc]
 simp only [pu,sqN,sql,sqr,cnd,blk,lpc,Tryz.f6,Option.getD_some] at hcc
 subst hcc
 obtain ⟨c0,c1,c2,c3,c4,_,_⟩:=id E2
 have HBx:=Hh E2.bk
 have HKx:=Hh E2.kd
 have EE:=Hh E2
 clear E2
 have hB0:=lt_of_cell c0
 simp only at hB0
 go_wp2_with (go_at_call 32;(with_reducible refine (loads_at HBx.out hml LI.out rfl (by omega) HP.out).mono ?_);rintro e w1 ⟨na,nc,rfl,hx1,hb1⟩)
 rw [← HLI.out] at hx1 ⊢
 rw [HLEN.out]
 refine ⟨rfl,fun X3 t1=>?_⟩
 have o1:=Old.twin0 (Old.ofBelow hb1) t1
 have E3:=EE.out.old o1
 have OO3:=Hh (OO2.out.trans o1)
 replace LI:=Hh (o1.parts LI.out)
 replace UI:=Hh (UI.out.ol o1)
 have NI:=Hh (t1.ints hx1)
 clear c0 c1 c2 c3 c4 HBx HKx EE hB0 t1 o1 hb1 OO2 hx1
 refine wps_nq ?_
 obtain ⟨c9,hcc⟩:∃ c,pu 6=c:=⟨_,rfl⟩
 rw [hcc]
 simp only [pu,sqN,sql,sqr,cnd,blk,lpc,Tryz.f6,Option.getD_some] at hcc
 subst hcc
 obtain ⟨c0,c1,c2,c3,c4,_,_⟩:=id E3
 have HBx:=Hh E3.bk
 have HKx:=Hh E3.kd
 have EE:=Hh E3
 clear E3
 have hB0:=lt_of_cell c0
 simp only at hB0
 go_wp2_with (go_at_call 33;(with_reducible refine (plan_at NI.out HLEN.out.symm (by rw [HLEN.out];omega) UI.out rfl).mono ?_);rintro e w1 ⟨oa,oc,rfl,hx1,hb1⟩)
 rw [HOT.out] at hx1 ⊢
 rw [HOL.out]
 refine ⟨rfl,fun X4 t1=>?_⟩
 have o1:=Old.twin0 (Old.ofBelow hb1) t1
 have E4:=EE.out.old o1
 have OO4:=Hh (OO3.out.trans o1)
 replace LI:=Hh (o1.parts LI.out)
 replace NI:=Hh (o1.ints NI.out)
 have OI:=Hh (t1.ints hx1)
 clear c0 c1 c2 c3 c4 HBx HKx EE hB0 t1 o1 hb1 OO3 hx1 UI
 refine wps_nq ?_
 obtain ⟨c9,hcc⟩:∃ c,pu 7=c:=⟨_,rfl⟩
 rw [hcc]
 simp only [pu,sqN,sql,sqr,cnd,blk,lpc,Tryz.f6,Option.getD_some] at hcc
 subst hcc
 obtain ⟨c0,c1,c2,c3,c4,_,_⟩:=id E4
 have HBx:=Hh E4.bk
 have HKx:=Hh E4.kd
 have EE:=Hh E4
 clear E4
 have hB0:=lt_of_cell c0
 simp only at hB0
 go_wp2_with (go_at_call 34;(with_reducible refine (tapesOf_at NI.out OI.out HLEN.out.symm HOL.out.symm (by rw [HLEN.out,HOL.out]) (by rw [HOL.out];omega) HO.out).mono ?_);rintro e w1 ⟨rfl,hb1⟩)
 refine ⟨rfl,fun X5 t1=>?_⟩
 have o1:=Old.twin0 (Old.ofBelow hb1) t1
 have E5:=EE.out.old o1
 have OO5:=Hh (OO4.out.trans o1)
 replace LI:=Hh (o1.parts LI.out)
 replace NI:=Hh (o1.ints NI.out)
 replace OI:=Hh (o1.ints OI.out)
 clear c0 c1 c2 c3 c4 HBx HKx EE hB0 t1 o1 hb1 OO4
 refine wps_nq ?_
 obtain ⟨c9,hcc⟩:∃ c,pu 8=c:=⟨_,rfl⟩
 rw [hcc]
 simp only [pu,sqN,sql,sqr,cnd,blk,lpc,Tryz.f6,Option.getD_some] at hcc
 subst hcc
 obtain ⟨c0,c1,c2,c3,c4,_,_⟩:=id E5
 have HBx:=Hh E5.bk
 have HKx:=Hh E5.kd
 have EE:=Hh E5
 clear E5
 have hB0:=lt_of_cell c0
 simp only at hB0
 go_wp2_with (go_at_call 35;(with_reducible refine (times_ok HBx.out HNM.out HKx.out HOL.out.symm OI.out 0 HPA.out HO.out).mono ?_);rintro e w1 ⟨ea,ec,rfl,hx1,hb1⟩)
 rw [endsI_length]
 refine ⟨rfl,fun X6 t1=>?_⟩
 have o1:=Old.twin0 (Old.ofBelow hb1) t1
 have E6:=EE.out.old o1
 have OO6:=Hh (OO5.out.trans o1)
 replace LI:=Hh (o1.parts LI.out)
 replace NI:=Hh (o1.ints NI.out)
 replace OI:=Hh (o1.ints OI.out)
 have EI:=Hh (t1.ints hx1)
 clear c0 c1 c2 c3 c4 HBx HKx EE hB0 t1 o1 hb1 OO5 hx1
 refine wps_nq ?_
 obtain ⟨c9,hcc⟩:∃ c,pu 9=c:=⟨_,rfl⟩
 rw [hcc]
 simp only [pu,sqN,sql,sqr,cnd,blk,lpc,Tryz.f6,Option.getD_some] at hcc
 subst hcc
 have E6':=Hh E6
 clear E6
 have hne:((o.length:Int) != (o.length:Int))=false:=by simp
 go_wp2
 have E6:=E6'.out
 clear E6'
 refine ⟨rfl,fun X7 t1=>?_⟩
 have o1:=Old.twin0 (Old.refl _) t1
 have E7:=E6.old o1
 have OO7:=Hh (OO6.out.trans o1)
 replace LI:=Hh (o1.parts LI.out)
 replace NI:=Hh (o1.ints NI.out)
 replace OI:=Hh (o1.ints OI.out)
 replace EI:=Hh (o1.ints EI.out)
 clear t1 o1 OO6
 exact ⟨⟨la,lc,na,oa,ea,nc,oc,ec,fr_of (by kernel_rfl),E7,LI.out,NI.out,OI.out,EI.out⟩,OO7.out⟩
variable {B O lc nc oc kc ec:Nat} {b:Bk} {u K hd:Int} {fd:Bool} {vr vg vm vs vc x:Value} {w w0:World} {la na oa ka ea:Option Addr} {ks ot o ee:List Int} {l:List Prt} {d:Nat→Value}
def uC1 (B:Nat) (la:Option Addr) (ln lc:Nat) (na oa ea:Option Addr) (mn nc oc en ec:Nat) (K:Int) (O:Nat) (fd:Bool) (d:Nat→Value):Act:={ tmps:=#[d 0,d 1,.pointer (some ⟨B,0,none⟩),d 3,.bool false,.slice la ln lc,d 6,.slice na mn nc,.slice oa mn oc,.int .i64 K,.slice ea en ec,.pointer (some ⟨O,0,none⟩),.int .i64 0,.bool fd,d 14,d 15,d 16,d 17,d 18,d 19,d 20,d 21,d 22,d 23,d 24,d 25,d 26,d 27,d 28,d 29,d 30,d 31,d 32,d 33,d 34,d 35,d 36,d 37,d 38,d 39,d 40,d 41,d 42,d 43,d 44,d 45,d 46,d 47,d 48,d 49,d 50,d 51,d 52,d 53,d 54,d 55,d 56,d 57,d 58,d 59,d 60,d 61,d 62,d 63,d 64,d 65,d 66,d 67,d 68,d 69,d 70,d 71,d 72,d 73,d 74,d 75,d 76,d 77,d 78,d 79,d 80,d 81,d 82,d 83,d 84,d 85,d 86,d 87,d 88,d 89,d 90,d 91,d 92,d 93,d 94,d 95,d 96,d 97,d 98,d 99,d 100,d 101,d 102,d 103,d 104,d 105,d 106,d 107,d 108,d 109,d 110,d 111,d 112,d 113,d 114,d 115,d 116,d 117,d 118,d 119,d 120,d 121,d 122,d 123,d 124,d 125,d 126,d 127,d 128,d 129,d 130,d 131,d 132,d 133,d 134,d 135,d 136,d 137,d 138,d 139,d 140,d 141,d 142,d 143,d 144,d 145,d 146,d 147,d 148,d 149,d 150,d 151,d 152,d 153,d 154,d 155,d 156,d 157,d 158,d 159,d 160,d 161,d 162,d 163,d 164,d 165,d 166,d 167,d 168,d 169,d 170,d 171,d 172,d 173,d 174,d 175,d 176,d 177,d 178,d 179,d 180,d 181,d 182,d 183,d 184,d 185,d 186,d 187,d 188,d 189,d 190,d 191,d 192,d 193,d 194,d 195,d 196,d 197,d 198,d 199,d 200,d 201,d 202,d 203,d 204,d 205,d 206,d 207,d 208,d 209,d 210,d 211,d 212,d 213,d 214,d 215,d 216,d 217,d 218,d 219,d 220,d 221,d 222,d 223,d 224,d 225,d 226,d 227,d 228,d 229],defers:=[] }
theorem pu_C1 (c0:w.cell? ⟨B,0,none⟩=some vr) (c1:w.cell? ⟨B,1,none⟩=some vg) (c2:w.cell? ⟨B,2,none⟩=some vm) (c3:w.cell? ⟨B,3,none⟩=some vs) (c4:w.cell? ⟨B,4,none⟩=some vc) (hB:BookAt w b vr vg vm vs vc) (hol:o.length≤100) (hfd:decide (b.ss.length+o.length≤4∧b.rs.length+o.length≤5)=fd) :
 (sql (sqN 10 (Tryz.f6.body.getD .skip))).wp Tryz.prog (NQ fun a' w2=>(∃ d,a'=uC1 B la l.length lc na oa ea b.ms.length nc oc o.length ec o.length w.heap.size fd d)∧Below w.heap.size w w2∧Five w2 w.heap.size vr vg vm vs vc∧∀ k,w2.frozen? ⟨w.heap.size,k,none⟩=false) (uB B la l.length lc na oa ea b.ms.length nc oc o.length ec o.length d) w:=by
 simp only [pu,sqN,sql,sqr,cnd,blk,lpc,Tryz.f6,Option.getD_some,uB]
 obtain ⟨rfl,rfl,⟨ma,mc,rfl,-,h6m⟩,⟨sa,sc,rfl,-,h6s⟩,ra,rc,rfl,-,h6r⟩:=hB
 have hB0:=lt_of_cell c0
 simp only at hB0
 have hw1:IntKind.i64.wrap ((b.ss.length:Int)+(o.length:Int))=(b.ss.length:Int)+(o.length:Int):=wrapI (by omega) (by omega)
 have hw2:IntKind.i64.wrap ((b.rs.length:Int)+(o.length:Int))=(b.rs.length:Int)+(o.length:Int):=wrapI (by omega) (by omega)
 have five:=Five.new w (.int .i64 b.room) (.int .i64 b.gap) (.slice ma b.ms.length mc) (.slice sa b.ss.length sc) (.slice ra b.rs.length rc) 26
 have FN:=Hh (⟨(World.cell?_drew _ _).trans five.c0,(World.cell?_drew _ _).trans five.c1,(World.cell?_drew _ _).trans five.c2,(World.cell?_drew _ _).trans five.c3,(World.cell?_drew _ _).trans five.c4,by simp⟩:Five (w.alloc (.cells #[.int .i64 b.room,.int .i64 b.gap,.slice ma b.ms.length mc,.slice sa b.ss.length sc,.slice ra b.rs.length rc] 26)).drew w.heap.size _ _ _ _ _)
 have hw0:Below w.heap.size w (w.alloc (.cells #[.int .i64 b.room,.int .i64 b.gap,.slice ma b.ms.length mc,.slice sa b.ss.length sc,.slice ra b.rs.length rc] 26)).drew:=bel
 have HW:=Hh hw0
 clear five hw0
 by_cases h1:(b.ss.length:Int)+(o.length:Int)≤4
 ·have hd1:decide ((b.ss.length:Int)+(o.length:Int)≤4)=true:=by simpa using h1
  have hd2:decide ((b.rs.length:Int)+(o.length:Int)≤5)=fd:=by
   rw [← hfd,decide_eq_decide]
   omega
  clear hfd h1
  go_region
  all_goals exact ⟨fr_of (by kernel_rfl),HW.out,FN.out,fun k=>by rw [World.frozen?_drew,World.frozen?_alloc_at _ _ _ _ rfl]⟩
 ·have hd1:decide ((b.ss.length:Int)+(o.length:Int)≤4)=false:=by simpa using h1
  have hd2:fd=false:=by
   rw [← hfd,decide_eq_false_iff_not]
   omega
  subst hd2
  clear hfd h1
  go_region
  all_goals exact ⟨fr_of (by kernel_rfl),HW.out,FN.out,fun k=>by rw [World.frozen?_drew,World.frozen?_alloc_at _ _ _ _ rfl]⟩
end Go.Proofs.YtgemjjdkjmpmlaaGreatDoor
namespace Go.Proofs.YtgemjjdkjmpmlaaGreatDoor
open Go.RowKit Go.Maps Sp
def SesV (w:World) (vs:List Value) (l:List (List Prt)):Prop:=vs.length=l.length∧∀ (i:Nat) (v:Value) (s:List Prt),vs[i]? = some v→l[i]? = some s→∃ pa pc,v=.slice pa s.length pc∧s.length≤pc∧s.length≤1000000∧PartsAt w pa s
section
variable {w w':World}
theorem SesV.nil (w:World):SesV w [] []:=⟨rfl,fun i v l h=>by simp at h⟩
theorem SesV.snoc {vs:List Value} {l:List (List Prt)} (h:SesV w vs l) {s:List Prt} {pa:Option Addr} {pc:Nat} (h1:s.length≤pc) (h2:s.length≤1000000) (h3:PartsAt w pa s):SesV w (vs ++ [.slice pa s.length pc]) (l ++ [s]):=by
 refine ⟨by simp [h.1],fun i v t hv ht=>?_⟩
 by_cases hi:i < vs.length
 ·rw [List.getElem?_append_left hi] at hv
  rw [List.getElem?_append_left (by rw [← h.1];exact hi)] at ht
  exact h.2 i v t hv ht
 ·rw [List.getElem?_append_right (by omega)] at hv
  rw [List.getElem?_append_right (by rw [← h.1];omega),← h.1] at ht
  cases hk:i - vs.length with
  | zero =>
   rw [hk] at hv ht
   simp only [List.getElem?_cons_zero,Option.some.injEq] at hv ht
   subst hv ht
   exact ⟨pa,pc,rfl,h1,h2,h3⟩
  | succ k=>rw [hk] at hv;simp at hv
end
end Go.Proofs.YtgemjjdkjmpmlaaGreatDoor
