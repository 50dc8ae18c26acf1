/- StoreLoaded -/
import Derived.Test.YtdjnkplgllakcaaGreatDoorSL17
import Derived.Test.YtdjnkplgllakcaaGreatDoorSL18
import Derived.Test.YtdjnkplgllakcaaGreatDoorSL04
import Derived.Conc.PipeGen
import Derived.Conc.WalkWords
set_option maxHeartbeats 4000000
set_option maxRecDepth 100000
set_option linter.all false
namespace Go.Proofs.YtdjnkplgllakcaaGreatDoor
section
open Go.RowKit Sp Mt Go.Conc
theorem ev_own {own ro:Hold} {b o:Nat} {wr:Bool} (h:Mt.keyOf own b):EvOwn own ro ⟨.cell ⟨b,o,none⟩,wr,Mode.plain == Mode.atomic⟩:=⟨rfl,.inl h⟩
theorem ev_ro {own ro:Hold} {b o:Nat} (h:Mt.keyOf ro b):EvOwn own ro ⟨.cell ⟨b,o,none⟩,false,Mode.plain == Mode.atomic⟩:=⟨rfl,.inr ⟨rfl,h⟩⟩
theorem key_of {own:Hold} {r:Nat} {o:Obj} (h:own r=some o):Mt.keyOf own r:=⟨o,h⟩
theorem events_max {w:World} {es:Array Event} (x y:Int):Sem.events Tryz.prog (Builtin.max_ #[3,3] 3 #[Value.int IntKind.i64 x,Value.int IntKind.i64 y]) w es=es:=by
 simp [Builtin.max_]
 first | rfl | (unfold Builtin.max2;rfl) | (unfold Builtin.max2;simp)
structure Task (W:World) (cO cD Bl Bo Bd:Nat) (la:Option Addr) (l:List (List Int)) (lc:Nat):Prop where
 l0:W.cell? ⟨Bl,0,none⟩=some (.slice la l.length lc)
 lN:Bl≠cO/\Bl≠cD
 o0:W.cell? ⟨Bo,0,none⟩=some (.chan (some cO))
 oN:Bo≠cO/\Bo≠cD
 d0:W.cell? ⟨Bd,0,none⟩=some (.chan (some cD))
 dN:Bd≠cO/\Bd≠cD
 at_:CamesAt W la l
 off:∀ y,la=some y->y.block≠cO/\y.block≠cD
 few:l.length<=2000
section
variable {W:World} {cO cD Bl Bi Bo Bd:Nat} {la:Option Addr} {l:List (List Int)} {lc i:Nat}
def WkI (W:World) (Bl Bi Bo Bd:Nat) (la:Option Addr) (l:List (List Int)) (lc i:Nat) (m:Nat) (a:Act) (own:Hold):Prop :=
 ∃ k r4 u7 u12 u13 u14 u15 u16 u17 u18 u19 u20 u21 u22 u23 u24 u25 u26 u27 u28 u29,m=l.length - k/\k<=l.length/\a={ tmps:=#[.pointer (some ⟨Bl,0,none⟩),.pointer (some ⟨Bi,0,none⟩),.pointer (some ⟨Bo,0,none⟩),.pointer (some ⟨Bd,0,none⟩),.pointer (some ⟨r4,0,none⟩),.int .i64 (mostI (l.take k) i),U,u7,.agg #[.int .i64 0,.int .i64 0,.int .i64 0,.int .i64 0,.int .i64 0,.int .i64 0],.slice la l.length lc,.int .i64 l.length,.int .i64 k,u12,u13,u14,u15,u16,u17,u18,u19,u20,u21,u22,u23,u24,u25,u26,u27,u28,u29,U,U,U,U,U],defers:=[] }/\own r4=some (.cells (cntCells (l.take k) i) 126)/\own Bi=some (.cells #[.int .i64 i] 3)
def WkZ (W:World) (Bl Bi Bo Bd:Nat) (la:Option Addr) (l:List (List Int)) (lc i:Nat) (a:Act) (own:Hold):Prop :=
 ∃ r4 u7 u12 u13 u14 u15 u16 u17 u18 u19 u20 u21 u22 u23 u24 u25 u26 u27 u28 u29,a={ tmps:=#[.pointer (some ⟨Bl,0,none⟩),.pointer (some ⟨Bi,0,none⟩),.pointer (some ⟨Bo,0,none⟩),.pointer (some ⟨Bd,0,none⟩),.pointer (some ⟨r4,0,none⟩),.int .i64 (mostI l i),U,u7,.agg #[.int .i64 0,.int .i64 0,.int .i64 0,.int .i64 0,.int .i64 0,.int .i64 0],.slice la l.length lc,.int .i64 l.length,.int .i64 l.length,u12,u13,u14,u15,u16,u17,u18,u19,u20,u21,u22,u23,u24,u25,u26,u27,u28,u29,U,U,U,U,U],defers:=[] }/\own Bi=some (.cells #[.int .i64 i] 3)
theorem wk_first {c c1 c2 c3 c4:Code} (hc:Tryz.f68.body=some (.seq c (.seq c1 (.seq (.seq c2 c3) c4)))) {own:Hold} (hi:own Bi=some (.cells #[.int .i64 i] 3)) {N:Nat} :
 WF Tryz.prog false (roOf W cO cD) N c (fun e a' o'=>e=.normal/\∃ r4,a'={ tmps:=#[.pointer (some ⟨Bl,0,none⟩),.pointer (some ⟨Bi,0,none⟩),.pointer (some ⟨Bo,0,none⟩),.pointer (some ⟨Bd,0,none⟩),.pointer (some ⟨r4,0,none⟩),U,U,U,.agg #[.int .i64 0,.int .i64 0,.int .i64 0,.int .i64 0,.int .i64 0,.int .i64 0],U,U,U,U,U,U,U,U,U,U,U,U,U,U,U,U,U,U,U,U,U,U,U,U,U,U],defers:=[] }/\o' r4=some (.cells (cntCells [] i) 126)/\o' Bi=some (.cells #[.int .i64 i] 3)) { tmps:=#[.pointer (some ⟨Bl,0,none⟩),.pointer (some ⟨Bi,0,none⟩),.pointer (some ⟨Bo,0,none⟩),.pointer (some ⟨Bd,0,none⟩),U,U,U,U,U,U,U,U,U,U,U,U,U,U,U,U,U,U,U,U,U,U,U,U,U,U,U,U,U,U,U],defers:=[] } own:=by
 simp only [Tryz.f68,Option.some.injEq,Code.seq.injEq] at hc;obtain ⟨rfl,rfl,⟨rfl,rfl⟩,rfl⟩:=hc;refine wf_region (wr_hide fun Q1 hQ1=>?_);simp only [List.size_toArray,List.length_cons,List.length_nil,Nat.reduceAdd,Nat.zero_add,List.range,List.range.loop];refine wr_any rfl rfl (fun w hm=>by simp [go_sem]) (fun w hm K hK=>?_);go_simp;refine hK _ _ _ (.refl hm) ?_;clear hK hm w K;refine wr_any rfl rfl (fun w hm=>by simp [go_sem]) (fun w hm K hK=>?_);go_simp;refine hK _ _ _ ((Stp.refl hm).alloc _) ?_;have hn4:=(none_own hm).1;obtain ⟨r4,hr4⟩:∃ r,r=w.heap.size:=⟨_,rfl⟩;rw [<- hr4] at hn4 ⊢;obtain ⟨own1,ho1⟩:∃ x,x=own.set r4 (.cells #[.int .i64 0,.int .i64 0,.int .i64 0,.int .i64 0,.int .i64 0,.int .i64 0] 126):=⟨_,rfl⟩;rw [<- ho1];have h4:own1 r4=some (.cells #[.int .i64 0,.int .i64 0,.int .i64 0,.int .i64 0,.int .i64 0,.int .i64 0] 126):=by rw [ho1,Hold.set_same]
 have hne:Bi≠r4:=fun e=>by rw [e,hn4] at hi;cases hi
 have hi1:own1 Bi=some (.cells #[.int .i64 i] 3):=by rw [ho1,Hold.set_ne _ _ hne];exact hi
 clear hK hm hr4 ho1 hn4 hi w K;refine wr_any rfl rfl (fun w hm=>?_) (fun w hm K hK=>?_)
 ·have c0:=fun k=>own_cell (o:=k) hm h4;have f0:=fun k=>own_frozen (o:=k) hm h4;have e0:=fun (o:Nat) (wr:Bool)=>ev_own (ro:=roOf W cO cD) (o:=o) (wr:=wr) (key_of h4);simp [go_sem,c0,f0,e0]
 have c0:=fun k=>own_cell (o:=k) hm h4;have f0:=fun k=>own_frozen (o:=k) hm h4;go_simp;refine hK _ _ _ ((((((((Stp.refl hm).set h4 _).set (Hold.set_same _ _ _) _).set (Hold.set_same _ _ _) _).set (Hold.set_same _ _ _) _).set (Hold.set_same _ _ _) _).set (Hold.set_same _ _ _) _)) (wr_nil (hQ1 _ _ ⟨rfl,r4,rfl,?_,?_⟩))
 ·rw [Hold.set_same];rfl
 ·rw [Hold.set_ne _ _ hne,Hold.set_ne _ _ hne,Hold.set_ne _ _ hne,Hold.set_ne _ _ hne,Hold.set_ne _ _ hne,Hold.set_ne _ _ hne];exact hi1
theorem wk_loop (T:Task W cO cD Bl Bo Bd la l lc) {c c1 c2 c3 c4:Code} (hc:Tryz.f68.body=some (.seq c (.seq c1 (.seq (.seq c2 c3) c4)))) (hx:∀ x∈l,∃ v:Nat,v<=5/\(pad x).getD i 0=(v:Int)) (h4:∀ x∈l,(pad x).length=4) (hi3:i < 4) {r4:Nat} {own:Hold} {a:Act}
 (hr4:own r4=some (.cells (cntCells [] i) 126)) (hi:own Bi=some (.cells #[.int .i64 i] 3)) (ha:a={ tmps:=#[.pointer (some ⟨Bl,0,none⟩),.pointer (some ⟨Bi,0,none⟩),.pointer (some ⟨Bo,0,none⟩),.pointer (some ⟨Bd,0,none⟩),.pointer (some ⟨r4,0,none⟩),.int .i64 0,U,U,.agg #[.int .i64 0,.int .i64 0,.int .i64 0,.int .i64 0,.int .i64 0,.int .i64 0],.slice la l.length lc,.int .i64 l.length,.int .i64 0,U,U,U,U,U,U,U,U,U,U,U,U,U,U,U,U,U,U,U,U,U,U,U],defers:=[] }) :
 WF Tryz.prog false (roOf W cO cD) 2000 c3 (fun e a' o'=>e=.normal/\WkZ W Bl Bi Bo Bd la l lc i a' o') a own:=by
 simp only [Tryz.f68,Option.some.injEq,Code.seq.injEq] at hc;obtain ⟨rfl,rfl,⟨rfl,rfl⟩,rfl⟩:=hc;refine wf_block (wf_loop (WkI W Bl Bi Bo Bd la l lc i) T.few ⟨0,r4,U,U,U,U,U,U,U,U,U,U,U,U,U,U,U,U,U,U,U,rfl,Nat.zero_le _,ha,by simpa using hr4,hi⟩ ?_);clear ha hr4 hi a own r4;rintro m a own ⟨k,r4,u7,u12,u13,u14,u15,u16,u17,u18,u19,u20,u21,u22,u23,u24,u25,u26,u27,u28,u29,rfl,hkl,rfl,hr4,hi⟩;refine wf_seq (wf_region (wr_hide fun Q1 hQ1=>?_));simp only [List.size_toArray,List.length_cons,List.length_nil,Nat.reduceAdd,Nat.zero_add,List.range,List.range.loop];by_cases hlt:k < l.length
 ·refine wr_any rfl rfl (fun w hm=>by simp [go_sem]) (fun w hm K hK=>?_);go_simp;refine hK _ _ _ (.refl hm) (wr_nil (hQ1 _ _ ?_));clear hK hm w K hQ1 Q1;refine wf_seq (wf_cond (t:=true) rfl (wf_skip ?_));refine wf_seq (wf_block (wf_seq (wf_region (wr_hide fun Q1 hQ1=>?_))));simp only [List.size_toArray,List.length_cons,List.length_nil,Nat.reduceAdd,Nat.zero_add,List.range,List.range.loop];obtain ⟨lb,lo,rfl,hlb,e0,e1,e2,e3⟩:=T.at_ k hlt;obtain ⟨o1,o2⟩:=T.off _ rfl;simp only at o1 o2;obtain ⟨v,hv5,hxv⟩:=hx _ (List.getElem_mem hlt);have hts:=List.take_succ_eq_append_getElem hlt;have hc1:=cntCells_set (l.take k) l[k] i v hxv hv5;have hm1:=mostI_snoc (l.take k) l[k] i v hxv hv5;rw [<- hts] at hc1 hm1;have hcat:=cntCells_at (l.take k) i hv5;have hcat2:=cntCells_at (l.take (k+1)) i hv5;have hsn:=cntI_snoc (l.take k) l[k] i v;rw [<- hts,if_pos hxv] at hsn;have hb1:=cntI_bd (l.take k) i v;have hb2:=mostI_bd (l.take k) i;have hlk:(l.take k).length<=2000:=Nat.le_trans (List.length_take_le' _ _) T.few;obtain ⟨x0,x1,x2,x3,hxp⟩:=four (h4 _ (List.getElem_mem hlt));rw [hxp] at e0 e1 e2 e3 hxv;simp only [List.getD_cons_zero,List.getD_cons_succ] at e0 e1 e2 e3;have hxi:(#[Value.int .i64 x0,.int .i64 x1,.int .i64 x2,.int .i64 x3]:Array Value)[i]? = some (.int .i64 v):=by
   rcases (show i=0\/i=1\/i=2\/i=3 by omega) with rfl | rfl | rfl | rfl <;> (simp at hxv;simp [hxv])
  clear hxv hts hxp;rw [hsn] at hcat2;generalize cntI (l.take k) i v=cv at hcat hcat2 hc1 hm1 hsn hb1;generalize hmo:mostI (l.take k) i=mv at hm1 hb2 ⊢;have hv0:(0:Int)<=(v:Int):=by omega
  have hv6:(v:Int) < 6:=by omega
  have hi0:(0:Int)<=(i:Int):=by omega
  have hi4:(i:Int) < 4:=by omega
  have hcv:0<=cv/\cv<=2000:=by omega
  have hmv:0<=mv/\mv<=2000:=by omega
  obtain ⟨hcv0,hcv1⟩:=hcv;have hwc:IntKind.i64.wrap (cv+1)=cv+1:=IntWalk.i64_in _ (by omega);have hfew:=T.few;have hmax:(if mv < cv+1 then cv+1 else mv)=max mv (cv+1):=by split <;> omega
  have hk1:((k+1:Nat):Int)=(k:Int)+1:=by omega
  have HMX:=Hh hmax;have HK1:=Hh hk1;clear hmax hk1;have hwk:IntKind.i64.wrap ((k:Int)+1)=((k+1:Nat):Int):=by rw [IntWalk.i64_in _ (by omega)];simp
  obtain ⟨hmv0,hmv1⟩:=hmv;have HM:=Hh hm1;have HC:=Hh hc1;clear hm1 hc1 hsn hmo hb1 hb2 hlk;refine wr_any rfl rfl (fun w hm=>?_) (fun w hm K hK=>?_)
  ·skip
   simp [go_sem,hlt]
  go_simp;refine hK _ _ _ (.refl hm) (?_);clear hK hm w K ;refine wr_any rfl rfl (fun w hm=>?_) (fun w hm K hK=>?_)
  ·skip
   have d0:=(ro_cell (o:=lo+k * 4) hm hlb o1 o2).trans e0;have d1:=(ro_cell (o:=lo+k * 4+1) hm hlb o1 o2).trans e1;have d2:=(ro_cell (o:=lo+k * 4+2) hm hlb o1 o2).trans e2;have d3:=(ro_cell (o:=lo+k * 4+3) hm hlb o1 o2).trans e3;have ev:=fun (o:Nat)=>ev_ro (own:=own) (o:=o) (ro_key hlb o1 o2);simp [go_sem,d0,d1,d2,d3,ev,hlt]
  have d0:=(ro_cell (o:=lo+k * 4) hm hlb o1 o2).trans e0;have d1:=(ro_cell (o:=lo+k * 4+1) hm hlb o1 o2).trans e1;have d2:=(ro_cell (o:=lo+k * 4+2) hm hlb o1 o2).trans e2;have d3:=(ro_cell (o:=lo+k * 4+3) hm hlb o1 o2).trans e3;have ev:=fun (o:Nat)=>ev_ro (own:=own) (o:=o) (ro_key hlb o1 o2);go_simp;refine hK _ _ _ (.refl hm) (?_);clear hK hm w K d0 d1 d2 d3 ev;refine wr_any rfl rfl (fun w hm=>by simp [go_sem]) (fun w hm K hK=>?_);go_simp;refine hK _ _ _ ((Stp.refl hm).alloc _) (?_);have hn7:=(none_own hm).1;obtain ⟨r7,hr7⟩:∃ r,r=w.heap.size:=⟨_,rfl⟩;rw [<- hr7] at hn7 ⊢;obtain ⟨own1,ho1⟩:∃ x,x=own.set r7 (.cells #[.int .i64 0,.int .i64 0,.int .i64 0,.int .i64 0] 116):=⟨_,rfl⟩;rw [<- ho1];have h7:own1 r7=some (.cells #[.int .i64 0,.int .i64 0,.int .i64 0,.int .i64 0] 116):=by rw [ho1,Hold.set_same]
  have n1:Bi≠r7:=fun e=>by rw [e,hn7] at hi;cases hi
  have n2:r4≠r7:=fun e=>by rw [e,hn7] at hr4;cases hr4
  have hi1:own1 Bi=some (.cells #[.int .i64 i] 3):=by rw [ho1,Hold.set_ne _ _ n1];exact hi
  have hr1:own1 r4=some (.cells (cntCells (l.take k) i) 126):=by rw [ho1,Hold.set_ne _ _ n2];exact hr4
  clear hK hm hr7 ho1 hn7 hi hr4 w K own e0 e1 e2 e3;refine wr_any rfl rfl (fun w hm=>?_) (fun w hm K hK=>?_)
  ·skip
   have c7:=fun (k:Nat)=>own_cell (o:=k) hm h7;have fc7:=fun (k:Nat)=>own_frozen (o:=k) hm h7;have ec7:=fun (o:Nat) (wr:Bool)=>ev_own (ro:=roOf W cO cD) (o:=o) (wr:=wr) (key_of h7);simp [go_sem,c7,fc7,ec7]
  have c7:=fun (k:Nat)=>own_cell (o:=k) hm h7;have fc7:=fun (k:Nat)=>own_frozen (o:=k) hm h7;have ec7:=fun (o:Nat) (wr:Bool)=>ev_own (ro:=roOf W cO cD) (o:=o) (wr:=wr) (key_of h7);go_simp;refine hK _ _ _ (((((Stp.refl hm).set h7 _).set (Hold.set_same _ _ _) _).set (Hold.set_same _ _ _) _).set (Hold.set_same _ _ _) _) (wr_nil (hQ1 _ _ ?_));clear hK hm w K c7 fc7 ec7;obtain ⟨own2,ho2⟩:∃ x,x=(((own1.set r7 (.cells (#[Value.int .i64 0,.int .i64 0,.int .i64 0,.int .i64 0].setIfInBounds 0 (.int .i64 x0)) 116)).set r7 (.cells ((#[Value.int .i64 0,.int .i64 0,.int .i64 0,.int .i64 0].setIfInBounds 0 (.int .i64 x0)).setIfInBounds 1 (.int .i64 x1)) 116)).set r7 (.cells (((#[Value.int .i64 0,.int .i64 0,.int .i64 0,.int .i64 0].setIfInBounds 0 (.int .i64 x0)).setIfInBounds 1 (.int .i64 x1)).setIfInBounds 2 (.int .i64 x2)) 116)).set r7 (.cells ((((#[Value.int .i64 0,.int .i64 0,.int .i64 0,.int .i64 0].setIfInBounds 0 (.int .i64 x0)).setIfInBounds 1 (.int .i64 x1)).setIfInBounds 2 (.int .i64 x2)).setIfInBounds 3 (.int .i64 x3)) 116):=⟨_,rfl⟩;rw [<- ho2];have h7b:own2 r7=some (.cells #[.int .i64 x0,.int .i64 x1,.int .i64 x2,.int .i64 x3] 116):=by rw [ho2,Hold.set_same];rfl
  have hi2:own2 Bi=some (.cells #[.int .i64 i] 3):=by rw [ho2,Hold.set_ne _ _ n1,Hold.set_ne _ _ n1,Hold.set_ne _ _ n1,Hold.set_ne _ _ n1];exact hi1
  have hr2:own2 r4=some (.cells (cntCells (l.take k) i) 126):=by rw [ho2,Hold.set_ne _ _ n2,Hold.set_ne _ _ n2,Hold.set_ne _ _ n2,Hold.set_ne _ _ n2];exact hr1
  clear ho2 hi1 hr1 h7 hQ1 Q1 own1;refine wf_seq (wf_region (wr_hide fun Q1 hQ1=>?_));simp only [List.size_toArray,List.length_cons,List.length_nil,Nat.reduceAdd,Nat.zero_add,List.range,List.range.loop];refine wr_any rfl rfl (fun w hm=>?_) (fun w hm K hK=>?_)
  ·skip
   have ci:=fun (k:Nat)=>own_cell (o:=k) hm hi2;have fci:=fun (k:Nat)=>own_frozen (o:=k) hm hi2;have eci:=fun (o:Nat) (wr:Bool)=>ev_own (ro:=roOf W cO cD) (o:=o) (wr:=wr) (key_of hi2);simp [go_sem,ci,fci,eci]
  have ci:=fun (k:Nat)=>own_cell (o:=k) hm hi2;have fci:=fun (k:Nat)=>own_frozen (o:=k) hm hi2;have eci:=fun (o:Nat) (wr:Bool)=>ev_own (ro:=roOf W cO cD) (o:=o) (wr:=wr) (key_of hi2);go_simp;refine hK _ _ _ (.refl hm) (?_);clear hK hm w K ci fci eci;refine wr_any rfl rfl (fun w hm=>?_) (fun w hm K hK=>?_)
  ·skip
   have ea:=events_indexAt_array (P:=Tryz.prog) (w:=w) (es:=#[]) 116 3 4 ⟨r7,0,none⟩ .i64 i Tryz.underlying116 ⟨hi0,hi4⟩;simp [go_sem,ea]
  have ea:=events_indexAt_array (P:=Tryz.prog) (w:=w) (es:=#[]) 116 3 4 ⟨r7,0,none⟩ .i64 i Tryz.underlying116 ⟨hi0,hi4⟩;go_simp;refine hK _ _ _ (.refl hm) (?_);clear hK hm w K ea;refine wr_any rfl rfl (fun w hm=>?_) (fun w hm K hK=>?_)
  ·skip
   have c7:=(own_cell (o:=i) hm h7b).trans hxi;have ec7x:=fun (o:Nat) (wr:Bool)=>ev_own (ro:=roOf W cO cD) (o:=o) (wr:=wr) (key_of h7b);simp [go_sem,c7,ec7x]
  have c7:=(own_cell (o:=i) hm h7b).trans hxi;have ec7x:=fun (o:Nat) (wr:Bool)=>ev_own (ro:=roOf W cO cD) (o:=o) (wr:=wr) (key_of h7b);go_simp;refine hK _ _ _ (.refl hm) (?_);clear hK hm w K c7 ec7x;refine wr_any rfl rfl (fun w hm=>?_) (fun w hm K hK=>?_)
  ·skip
   have ea:=events_indexAt_array (P:=Tryz.prog) (w:=w) (es:=#[]) 126 3 6 ⟨r4,0,none⟩ .i64 v Tryz.underlying126 ⟨hv0,hv6⟩;simp [go_sem,ea]
  have ea:=events_indexAt_array (P:=Tryz.prog) (w:=w) (es:=#[]) 126 3 6 ⟨r4,0,none⟩ .i64 v Tryz.underlying126 ⟨hv0,hv6⟩;go_simp;refine hK _ _ _ (.refl hm) (?_);clear hK hm w K ea;refine wr_any rfl rfl (fun w hm=>?_) (fun w hm K hK=>?_)
  ·skip
   have c4:=(own_cell (o:=v) hm hr2).trans hcat;have ec4x:=fun (o:Nat) (wr:Bool)=>ev_own (ro:=roOf W cO cD) (o:=o) (wr:=wr) (key_of hr2);simp [go_sem,c4,ec4x]
  have c4:=(own_cell (o:=v) hm hr2).trans hcat;have ec4x:=fun (o:Nat) (wr:Bool)=>ev_own (ro:=roOf W cO cD) (o:=o) (wr:=wr) (key_of hr2);go_simp;refine hK _ _ _ (.refl hm) (?_);clear hK hm w K c4 ec4x;refine wr_any rfl rfl (fun w hm=>by simp [go_sem]) (fun w hm K hK=>?_);go_simp;refine hK _ _ _ (.refl hm) (?_);clear hK hm w K ;refine wr_any rfl rfl (fun w hm=>?_) (fun w hm K hK=>?_)
  ·skip
   have ea:=events_indexAt_array (P:=Tryz.prog) (w:=w) (es:=#[]) 126 3 6 ⟨r4,0,none⟩ .i64 v Tryz.underlying126 ⟨hv0,hv6⟩;simp [go_sem,ea]
  have ea:=events_indexAt_array (P:=Tryz.prog) (w:=w) (es:=#[]) 126 3 6 ⟨r4,0,none⟩ .i64 v Tryz.underlying126 ⟨hv0,hv6⟩;go_simp;refine hK _ _ _ (.refl hm) (?_);clear hK hm w K ea;refine wr_any rfl rfl (fun w hm=>?_) (fun w hm K hK=>?_)
  ·skip
   have c4:=(own_cell (o:=v) hm hr2).trans hcat;have f4:=own_frozen (o:=v) hm hr2;have ec4x:=fun (o:Nat) (wr:Bool)=>ev_own (ro:=roOf W cO cD) (o:=o) (wr:=wr) (key_of hr2);simp [go_sem,c4,f4,ec4x]
  have c4:=(own_cell (o:=v) hm hr2).trans hcat;have f4:=own_frozen (o:=v) hm hr2;have ec4x:=fun (o:Nat) (wr:Bool)=>ev_own (ro:=roOf W cO cD) (o:=o) (wr:=wr) (key_of hr2);go_simp;refine hK _ _ _ ((Stp.refl hm).set hr2 _) (wr_nil (hQ1 _ _ ?_));clear hK hm w K c4 f4 ec4x
  (try rw [hwc]);rw [HC.out]
  obtain ⟨own3,ho3⟩:∃ x,x=own2.set r4 (.cells (cntCells (l.take (k+1)) i) 126):=⟨_,rfl⟩;rw [<- ho3];have n3:r7≠r4:=Ne.symm n2;have n4:Bi≠r4:=fun e=>by rw [e,hr2] at hi2;injection hi2 with h;injection h with h _;have:=congrArg Array.size h;simp [cntCells] at this
  have h7c:own3 r7=some (.cells #[.int .i64 x0,.int .i64 x1,.int .i64 x2,.int .i64 x3] 116):=by rw [ho3,Hold.set_ne _ _ n3];exact h7b
  have hi3b:own3 Bi=some (.cells #[.int .i64 i] 3):=by rw [ho3,Hold.set_ne _ _ n4];exact hi2
  have hr3:own3 r4=some (.cells (cntCells (l.take (k+1)) i) 126):=by rw [ho3,Hold.set_same]
  clear ho3 hi2 hr2 h7b hQ1 Q1 own2 hcat;refine wf_region (wr_hide fun Q1 hQ1=>?_);simp only [List.size_toArray,List.length_cons,List.length_nil,Nat.reduceAdd,Nat.zero_add,List.range,List.range.loop];refine wr_any rfl rfl (fun w hm=>by simp [go_sem]) (fun w hm K hK=>?_);go_simp;refine hK _ _ _ (.refl hm) (?_);clear hK hm w K ;refine wr_any rfl rfl (fun w hm=>?_) (fun w hm K hK=>?_)
  ·skip
   have ci:=fun (k:Nat)=>own_cell (o:=k) hm hi3b;have fci:=fun (k:Nat)=>own_frozen (o:=k) hm hi3b;have eci:=fun (o:Nat) (wr:Bool)=>ev_own (ro:=roOf W cO cD) (o:=o) (wr:=wr) (key_of hi3b);simp [go_sem,ci,fci,eci]
  have ci:=fun (k:Nat)=>own_cell (o:=k) hm hi3b;have fci:=fun (k:Nat)=>own_frozen (o:=k) hm hi3b;have eci:=fun (o:Nat) (wr:Bool)=>ev_own (ro:=roOf W cO cD) (o:=o) (wr:=wr) (key_of hi3b);go_simp;refine hK _ _ _ (.refl hm) (?_);clear hK hm w K ci fci eci;refine wr_any rfl rfl (fun w hm=>?_) (fun w hm K hK=>?_)
  ·skip
   have ea:=events_indexAt_array (P:=Tryz.prog) (w:=w) (es:=#[]) 116 3 4 ⟨r7,0,none⟩ .i64 i Tryz.underlying116 ⟨hi0,hi4⟩;simp [go_sem,ea]
  have ea:=events_indexAt_array (P:=Tryz.prog) (w:=w) (es:=#[]) 116 3 4 ⟨r7,0,none⟩ .i64 i Tryz.underlying116 ⟨hi0,hi4⟩;go_simp;refine hK _ _ _ (.refl hm) (?_);clear hK hm w K ea;refine wr_any rfl rfl (fun w hm=>?_) (fun w hm K hK=>?_)
  ·skip
   have c7:=(own_cell (o:=i) hm h7c).trans hxi;have ec7x:=fun (o:Nat) (wr:Bool)=>ev_own (ro:=roOf W cO cD) (o:=o) (wr:=wr) (key_of h7c);simp [go_sem,c7,ec7x]
  have c7:=(own_cell (o:=i) hm h7c).trans hxi;have ec7x:=fun (o:Nat) (wr:Bool)=>ev_own (ro:=roOf W cO cD) (o:=o) (wr:=wr) (key_of h7c);go_simp;refine hK _ _ _ (.refl hm) (?_);clear hK hm w K c7 ec7x;refine wr_any rfl rfl (fun w hm=>?_) (fun w hm K hK=>?_)
  ·skip
   have ea:=events_indexAt_array (P:=Tryz.prog) (w:=w) (es:=#[]) 126 3 6 ⟨r4,0,none⟩ .i64 v Tryz.underlying126 ⟨hv0,hv6⟩;simp [go_sem,ea]
  have ea:=events_indexAt_array (P:=Tryz.prog) (w:=w) (es:=#[]) 126 3 6 ⟨r4,0,none⟩ .i64 v Tryz.underlying126 ⟨hv0,hv6⟩;go_simp;refine hK _ _ _ (.refl hm) (?_);clear hK hm w K ea;refine wr_any rfl rfl (fun w hm=>?_) (fun w hm K hK=>?_)
  ·skip
   have c4:=(own_cell (o:=v) hm hr3).trans hcat2;have ec4x:=fun (o:Nat) (wr:Bool)=>ev_own (ro:=roOf W cO cD) (o:=o) (wr:=wr) (key_of hr3);simp [go_sem,c4,ec4x]
  have c4:=(own_cell (o:=v) hm hr3).trans hcat2;have ec4x:=fun (o:Nat) (wr:Bool)=>ev_own (ro:=roOf W cO cD) (o:=o) (wr:=wr) (key_of hr3);go_simp;refine hK _ _ _ (.refl hm) (?_);clear hK hm w K c4 ec4x;refine wr_any rfl rfl (fun w hm=>?_) (fun w hm K hK=>?_)
  ·skip
   have em:=events_max mv (cv+1) (w:=w) (es:=#[]);simp [go_sem,em]
  have em:=events_max mv (cv+1) (w:=w) (es:=#[]);go_simp;refine hK _ _ _ (.refl hm) (?_);clear hK hm w K em;refine wr_any rfl rfl (fun w hm=>by simp [go_sem]) (fun w hm K hK=>?_);go_simp;refine hK _ _ _ (.refl hm) (wr_nil (hQ1 _ _ ?_));clear hK hm w K ;clear hQ1 Q1;refine wf_region (wr_hide fun Q1 hQ1=>?_);simp only [List.size_toArray,List.length_cons,List.length_nil,Nat.reduceAdd,Nat.zero_add,List.range,List.range.loop];refine wr_any rfl rfl (fun w hm=>by simp [go_sem]) (fun w hm K hK=>?_);go_simp;refine hK _ _ _ (.refl hm) (?_);clear hK hm w K ;refine wr_any rfl rfl (fun w hm=>by simp [go_sem]) (fun w hm K hK=>?_);go_simp;refine hK _ _ _ (.refl hm) (wr_nil (hQ1 _ _ ?_));clear hK hm w K ;exact ⟨_,by omega,k+1,r4,_,_,_,_,_,_,_,_,_,_,_,_,_,_,_,_,_,_,_,rfl,by omega,by rw [HM.out,<- HMX.out,HK1.out],hr3,hi3b⟩
 ·refine wr_any rfl rfl (fun w hm=>by simp [go_sem]) (fun w hm K hK=>?_);go_simp;refine hK _ _ _ (.refl hm) (wr_nil (hQ1 _ _ ?_));clear hK hm w K hQ1 Q1;refine wf_seq (wf_cond (t:=false) rfl (wf_exit ?_));obtain rfl:k=l.length:=by omega
  simp only [ThenW,BlockW,if_true];exact ⟨trivial,r4,_,_,_,_,_,_,_,_,_,_,_,_,_,_,_,_,_,_,_,by rw [List.take_length],hi⟩
end
noncomputable def bot:Frame:={ (default:Frame) with fn:=Tryz.prog.funcs.size,defers:=[],mode:=.panicking [goexitEntry] }
def bX:Frame:={ (default:Frame) with fn:=68,kind:=.deferred }
def taskD (Bl Bi Bo Bd:Nat):Deferred:={ target:=.fn (.func 68) #[.pointer (some ⟨Bl,0,none⟩),.pointer (some ⟨Bi,0,none⟩),.pointer (some ⟨Bo,0,none⟩),.pointer (some ⟨Bd,0,none⟩)],args:=#[] }
noncomputable def xSend:Code:=match Tryz.f68.body with | some (.seq _ (.seq _ (.seq _ (.seq c _))))=>c | _=>.skip
noncomputable def xSign:Code:=match Tryz.f68.body with | some (.seq _ (.seq _ (.seq _ (.seq _ c))))=>c | _=>.skip
theorem served_at {b:Frame} {a:Act} {k:List Item} {cs:List Frame} {ops:Array Oper} {i:Nat} {rest:List Nat} {v:Value} :
 Go.Conc.served (G (b.at a (.inRegion ops (i::rest)::k)) cs) v=G (b.at (a.put ((ops[i]?).bind (·.dst)) v) (.inRegion ops rest::k)) cs:=by
 unfold Go.Conc.served;rw [<- Frame.finish_at];rfl
section
variable {W:World} {cO cD Bl Bi Bo Bd:Nat} {la:Option Addr} {l:List (List Int)} {lc i:Nat}
theorem wk_mid1 {c c1 c2 c3 c4:Code} (hc:Tryz.f68.body=some (.seq c (.seq c1 (.seq (.seq c2 c3) c4)))) {own:Hold} {r4 N:Nat} {a:Act} (ha:a={ tmps:=#[.pointer (some ⟨Bl,0,none⟩),.pointer (some ⟨Bi,0,none⟩),.pointer (some ⟨Bo,0,none⟩),.pointer (some ⟨Bd,0,none⟩),.pointer (some ⟨r4,0,none⟩),U,U,U,.agg #[.int .i64 0,.int .i64 0,.int .i64 0,.int .i64 0,.int .i64 0,.int .i64 0],U,U,U,U,U,U,U,U,U,U,U,U,U,U,U,U,U,U,U,U,U,U,U,U,U,U],defers:=[] }) :
 WF Tryz.prog false (roOf W cO cD) N c1 (fun e a' o'=>e=.normal/\a'={ tmps:=#[.pointer (some ⟨Bl,0,none⟩),.pointer (some ⟨Bi,0,none⟩),.pointer (some ⟨Bo,0,none⟩),.pointer (some ⟨Bd,0,none⟩),.pointer (some ⟨r4,0,none⟩),.int .i64 0,U,U,.agg #[.int .i64 0,.int .i64 0,.int .i64 0,.int .i64 0,.int .i64 0,.int .i64 0],U,U,U,U,U,U,U,U,U,U,U,U,U,U,U,U,U,U,U,U,U,U,U,U,U,U],defers:=[] }/\o'=own) a own:=by
 subst ha;simp only [Tryz.f68,Option.some.injEq,Code.seq.injEq] at hc;obtain ⟨rfl,rfl,⟨rfl,rfl⟩,rfl⟩:=hc;refine wf_region (wr_hide fun Q1 hQ1=>?_);simp only [List.size_toArray,List.length_cons,List.length_nil,Nat.reduceAdd,Nat.zero_add,List.range,List.range.loop];refine wr_any rfl rfl (fun w hm=>by simp [go_sem]) (fun w hm K hK=>?_);go_simp;refine hK _ _ _ (.refl hm) (wr_nil (hQ1 _ _ ⟨rfl,rfl,rfl⟩))
theorem wk_mid2 (T:Task W cO cD Bl Bo Bd la l lc) {c c1 c2 c3 c4:Code} (hc:Tryz.f68.body=some (.seq c (.seq c1 (.seq (.seq c2 c3) c4)))) {own:Hold} {r4 N:Nat} {a:Act} (ha:a={ tmps:=#[.pointer (some ⟨Bl,0,none⟩),.pointer (some ⟨Bi,0,none⟩),.pointer (some ⟨Bo,0,none⟩),.pointer (some ⟨Bd,0,none⟩),.pointer (some ⟨r4,0,none⟩),.int .i64 0,U,U,.agg #[.int .i64 0,.int .i64 0,.int .i64 0,.int .i64 0,.int .i64 0,.int .i64 0],U,U,U,U,U,U,U,U,U,U,U,U,U,U,U,U,U,U,U,U,U,U,U,U,U,U],defers:=[] }) :
 WF Tryz.prog false (roOf W cO cD) N c2 (fun e a' o'=>e=.normal/\a'={ tmps:=#[.pointer (some ⟨Bl,0,none⟩),.pointer (some ⟨Bi,0,none⟩),.pointer (some ⟨Bo,0,none⟩),.pointer (some ⟨Bd,0,none⟩),.pointer (some ⟨r4,0,none⟩),.int .i64 0,U,U,.agg #[.int .i64 0,.int .i64 0,.int .i64 0,.int .i64 0,.int .i64 0,.int .i64 0],.slice la l.length lc,.int .i64 l.length,.int .i64 0,U,U,U,U,U,U,U,U,U,U,U,U,U,U,U,U,U,U,U,U,U,U,U],defers:=[] }/\o'=own) a own:=by
 subst ha;have hl0:=T.l0;have hlt:=lt_of_cell hl0;obtain ⟨n1,n2⟩:=T.lN;simp only at hlt;simp only [Tryz.f68,Option.some.injEq,Code.seq.injEq] at hc;obtain ⟨rfl,rfl,⟨rfl,rfl⟩,rfl⟩:=hc;refine wf_region (wr_hide fun Q1 hQ1=>?_);simp only [List.size_toArray,List.length_cons,List.length_nil,Nat.reduceAdd,Nat.zero_add,List.range,List.range.loop];refine wr_any rfl rfl (fun w hm=>?_) (fun w hm K hK=>?_)
 ·skip
  have c0:=(ro_cell (o:=0) hm hlt n1 n2).trans hl0;have ev:=fun (o:Nat)=>ev_ro (own:=own) (o:=o) (ro_key hlt n1 n2);simp [go_sem,c0,ev]
 have c0:=(ro_cell (o:=0) hm hlt n1 n2).trans hl0;have ev:=fun (o:Nat)=>ev_ro (own:=own) (o:=o) (ro_key hlt n1 n2);go_simp;refine hK _ _ _ (.refl hm) (?_);clear hK hm w K c0 ev;refine wr_any rfl rfl (fun w hm=>by simp [go_sem]) (fun w hm K hK=>?_);go_simp;refine hK _ _ _ (.refl hm) (?_);clear hK hm w K ;refine wr_any rfl rfl (fun w hm=>by simp [go_sem]) (fun w hm K hK=>?_);go_simp;refine hK _ _ _ (.refl hm) (wr_nil (hQ1 _ _ ⟨rfl,rfl,rfl⟩))
theorem quits (T:Array Value) (ops:Array Oper):QuitsIn Tryz.prog 4 (G (bX.at ⟨T,[]⟩ [.inRegion ops []]) [bot]):=by
 refine .inr ⟨rfl,_,fun w=>stepG_region_end,?_⟩;refine .inr ⟨rfl,_,fun w=>stepG_end,?_⟩;refine .inr ⟨rfl,G bot [],fun w=>?_,?_⟩
 ·simp [G,stepG,unwind,doReturn,results,Frame.at,bX,bot,Tryz.func68,Tryz.f68,seen,GStep.after,goexitEntry]
 refine .inr ⟨rfl,{ G bot [] with status:=.finished },fun w=>?_,rfl⟩;simp [G,stepG,unwind,bot,goexitEntry,Frame.catches];rfl
theorem wk_send (T:Task W cO cD Bl Bo Bd la l lc) {F:Farm} (hP:F.P=Tryz.prog) (hro:F.ro=roOf W cO cD) (hcO:F.cO=cO) (hcD:F.cD=cD) (hv:F.v i=.agg #[.int .i64 i,.int .i64 (mostI l i)]) (hzs:F.zs=.tuple #[]) {a:Act} {own:Hold} (h:WkZ W Bl Bi Bo Bd la l lc i a own) :
 Walk Tryz.prog false (roOf W cO cD) (S0 F i) 5 (G (bX.at a [.code xSend,.code xSign]) [bot]) own:=by
 obtain ⟨r4,u7,u12,u13,u14,u15,u16,u17,u18,u19,u20,u21,u22,u23,u24,u25,u26,u27,u28,u29,rfl,hi⟩:=h;have ho0:=T.o0;have hd0:=T.d0;have hlo:=lt_of_cell ho0;have hld:=lt_of_cell hd0;obtain ⟨n1,n2⟩:=T.oN;obtain ⟨n3,n4⟩:=T.dN;simp only at hlo hld;have hb:bX.kind≠.early:=by decide
 simp only [xSend,xSign,Tryz.f68];refine Walk.ctl (n:=4) (fun w=>stepG_region) ?_;simp only [List.size_toArray,List.length_cons,List.length_nil,Nat.reduceAdd,Nat.zero_add,List.range,List.range.loop];refine walk_any hb rfl rfl (fun w hm=>?_) (fun w hm K hK=>?_)
 ·skip
  have c0:=(ro_cell (o:=0) hm hlo n1 n2).trans ho0;have ev:=fun (o:Nat)=>ev_ro (own:=own) (o:=o) (ro_key hlo n1 n2);simp [go_sem,c0,ev]
 have c0:=(ro_cell (o:=0) hm hlo n1 n2).trans ho0;have ev:=fun (o:Nat)=>ev_ro (own:=own) (o:=o) (ro_key hlo n1 n2);go_simp;refine hK _ _ _ (.refl hm) (?_);clear hK hm w K c0 ev;refine walk_any hb rfl rfl (fun w hm=>?_) (fun w hm K hK=>?_)
 ·skip
  have ci:=fun (k:Nat)=>own_cell (o:=k) hm hi;have fci:=fun (k:Nat)=>own_frozen (o:=k) hm hi;have eci:=fun (o:Nat) (wr:Bool)=>ev_own (ro:=roOf W cO cD) (o:=o) (wr:=wr) (key_of hi);simp [go_sem,ci,fci,eci]
 have ci:=fun (k:Nat)=>own_cell (o:=k) hm hi;have fci:=fun (k:Nat)=>own_frozen (o:=k) hm hi;have eci:=fun (o:Nat) (wr:Bool)=>ev_own (ro:=roOf W cO cD) (o:=o) (wr:=wr) (key_of hi);go_simp;refine hK _ _ _ (.refl hm) (?_);clear hK hm w K ci fci eci;refine walk_any hb rfl rfl (fun w hm=>by simp [go_sem]) (fun w hm K hK=>?_);go_simp;refine hK _ _ _ (.refl hm) (?_);clear hK hm w K ;refine walk_any hb rfl rfl (fun w hm=>by simp [go_sem]) (fun w hm K hK=>?_);go_simp;refine hK _ _ _ (.refl hm) (?_);clear hK hm w K ;show S0 F i _ own;unfold S0 After0 S1 AtComm;rw [hP,hro,hcO,hcD,hv,hzs];refine ⟨⟨rfl,fun w hm=>?_⟩,?_⟩
 ·apply Exists.intro;refine ⟨stepG_comm (w':=w) rfl rfl hb ?_,?_⟩
  ·simp [go_sem,scase]
  ·simp [go_sem,listed,seen]
 rw [served_at]
 walk_nrm
 refine ⟨_,Walk.ctl (n:=1+1) (fun w=>stepG_region_end) (Walk.ctl (fun w=>stepG_region) ?_)⟩;simp only [List.size_toArray,List.length_cons,List.length_nil,Nat.reduceAdd,Nat.zero_add,List.range,List.range.loop];refine walk_any hb rfl rfl (fun w hm=>?_) (fun w hm K hK=>?_)
 ·skip
  have c0:=(ro_cell (o:=0) hm hld n3 n4).trans hd0;have ev:=fun (o:Nat)=>ev_ro (own:=own) (o:=o) (ro_key hld n3 n4);simp [go_sem,c0,ev]
 have c0:=(ro_cell (o:=0) hm hld n3 n4).trans hd0;have ev:=fun (o:Nat)=>ev_ro (own:=own) (o:=o) (ro_key hld n3 n4);go_simp;refine hK _ _ _ (.refl hm) (?_);clear hK hm w K c0 ev;refine ⟨⟨rfl,fun w hm=>?_⟩,?_⟩
 ·apply Exists.intro;refine ⟨stepG_comm (w':=w) rfl rfl hb ?_,?_⟩
  ·simp [go_sem,scase,sgn]
  ·simp [go_sem,listed,seen]
 unfold After1;rw [served_at,hP];exact ⟨4,quits _ _⟩
theorem born_step (w:World):stepG Tryz.prog false (born Tryz.prog (taskD Bl Bi Bo Bd)) w=.go (G (bX.at { tmps:=#[.pointer (some ⟨Bl,0,none⟩),.pointer (some ⟨Bi,0,none⟩),.pointer (some ⟨Bo,0,none⟩),.pointer (some ⟨Bd,0,none⟩),U,U,U,U,U,U,U,U,U,U,U,U,U,U,U,U,U,U,U,U,U,U,U,U,U,U,U,U,U,U,U],defers:=[] } [.code (Tryz.f68.body.getD .skip)]) [bot]) w #[]:=by
 simp [born,taskD,stepG,unwind,callDeferred,invoke,callFunc,Tryz.func68,Tryz.f68,seen,GStep.after,G,Frame.enter,Frame.at,bX,bot]
theorem wk_all (T:Task W cO cD Bl Bo Bd la l lc) (hx:∀ x∈l,∃ v:Nat,v<=5/\(pad x).getD i 0=(v:Int)) (h4:∀ x∈l,(pad x).length=4) (hi3:i < 4)
 {F:Farm} (hP:F.P=Tryz.prog) (hro:F.ro=roOf W cO cD) (hcO:F.cO=cO) (hcD:F.cD=cD) (hv:F.v i=.agg #[.int .i64 i,.int .i64 (mostI l i)]) (hzs:F.zs=.tuple #[]) {own:Hold} (hi:own Bi=some (.cells #[.int .i64 i] 3)) :
 ∃ k,Walk Tryz.prog false (roOf W cO cD) (S0 F i) k (born Tryz.prog (taskD Bl Bi Bo Bd)) own:=by
 have hb:bX.kind≠.early:=by decide
 obtain ⟨c,c1,c2,c3,hc⟩:∃ c c1 c2 c3,Tryz.f68.body=some (.seq c (.seq c1 (.seq (.seq c2 c3) (.seq xSend xSign)))):=⟨_,_,_,_,rfl⟩;have e5:∀ a o,WkZ W Bl Bi Bo Bd la l lc i a o->Walk Tryz.prog false (roOf W cO cD) (S0 F i) (5+1) (G (bX.at a [.code (.seq xSend xSign)]) [bot]) o:=fun a o h=>Walk.ctl (fun w=>stepG_seq) (wk_send T hP hro hcO hcD hv hzs h);have e4:∀ a o,(∃ r4,a={ tmps:=#[.pointer (some ⟨Bl,0,none⟩),.pointer (some ⟨Bi,0,none⟩),.pointer (some ⟨Bo,0,none⟩),.pointer (some ⟨Bd,0,none⟩),.pointer (some ⟨r4,0,none⟩),.int .i64 0,U,U,.agg #[.int .i64 0,.int .i64 0,.int .i64 0,.int .i64 0,.int .i64 0,.int .i64 0],.slice la l.length lc,.int .i64 l.length,.int .i64 0,U,U,U,U,U,U,U,U,U,U,U,U,U,U,U,U,U,U,U,U,U,U,U],defers:=[] }/\o r4=some (.cells (cntCells [] i) 126)/\o Bi=some (.cells #[.int .i64 i] 3))->Walk Tryz.prog false (roOf W cO cD) (S0 F i) (5+1+fuel 2000 c3) (G (bX.at a [.code c3,.code (.seq xSend xSign)]) [bot]) o :=
  fun a o ⟨r4,h1,h2,h3⟩=>walk_code hb (wk_loop T hc hx h4 hi3 h2 h3 h1) e5
 have e3:∀ a o,(∃ r4,a={ tmps:=#[.pointer (some ⟨Bl,0,none⟩),.pointer (some ⟨Bi,0,none⟩),.pointer (some ⟨Bo,0,none⟩),.pointer (some ⟨Bd,0,none⟩),.pointer (some ⟨r4,0,none⟩),.int .i64 0,U,U,.agg #[.int .i64 0,.int .i64 0,.int .i64 0,.int .i64 0,.int .i64 0,.int .i64 0],U,U,U,U,U,U,U,U,U,U,U,U,U,U,U,U,U,U,U,U,U,U,U,U,U,U],defers:=[] }/\o r4=some (.cells (cntCells [] i) 126)/\o Bi=some (.cells #[.int .i64 i] 3))->Walk Tryz.prog false (roOf W cO cD) (S0 F i) (5+1+fuel 2000 c3+fuel 2000 c2+1+1) (G (bX.at a [.code (.seq (.seq c2 c3) (.seq xSend xSign))]) [bot]) o :=
  fun a o ⟨r4,h1,h2,h3⟩=>Walk.ctl (fun w=>stepG_seq) (Walk.ctl (fun w=>stepG_seq) (walk_code hb (wf_mono (wk_mid2 T hc h1) fun e a' o' ⟨h5,h6,h7⟩=>⟨h5,⟨r4,h6,by rw [h7];exact h2,by rw [h7];exact h3⟩⟩) e4))
 have e2:∀ a o,(∃ r4,a={ tmps:=#[.pointer (some ⟨Bl,0,none⟩),.pointer (some ⟨Bi,0,none⟩),.pointer (some ⟨Bo,0,none⟩),.pointer (some ⟨Bd,0,none⟩),.pointer (some ⟨r4,0,none⟩),U,U,U,.agg #[.int .i64 0,.int .i64 0,.int .i64 0,.int .i64 0,.int .i64 0,.int .i64 0],U,U,U,U,U,U,U,U,U,U,U,U,U,U,U,U,U,U,U,U,U,U,U,U,U,U],defers:=[] }/\o r4=some (.cells (cntCells [] i) 126)/\o Bi=some (.cells #[.int .i64 i] 3))->Walk Tryz.prog false (roOf W cO cD) (S0 F i) (5+1+fuel 2000 c3+fuel 2000 c2+1+1+fuel 2000 c1+1) (G (bX.at a [.code (.seq c1 (.seq (.seq c2 c3) (.seq xSend xSign)))]) [bot]) o :=
  fun a o ⟨r4,h1,h2,h3⟩=>Walk.ctl (fun w=>stepG_seq) (walk_code hb (wf_mono (wk_mid1 hc h1) fun e a' o' ⟨h5,h6,h7⟩=>⟨h5,⟨r4,h6,by rw [h7];exact h2,by rw [h7];exact h3⟩⟩) e3)
 refine ⟨(5+1+fuel 2000 c3+fuel 2000 c2+1+1+fuel 2000 c1+1+fuel 2000 c+1)+1,.inr ⟨rfl,fun w hm=>⟨_,w,#[],own,born_step w,.idle hm,?_⟩⟩⟩;rw [hc];exact Walk.ctl (fun w=>stepG_seq) (walk_code hb (wk_first hc hi) e2)
end
end
end Go.Proofs.YtdjnkplgllakcaaGreatDoor
