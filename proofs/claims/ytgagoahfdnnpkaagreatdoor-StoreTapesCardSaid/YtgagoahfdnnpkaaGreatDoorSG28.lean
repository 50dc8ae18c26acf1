/- StoreTapes -/
import Derived.Test.YtgagoahfdnnpkaaGreatDoorSG27
import Derived.Test.YtgagoahfdnnpkaaGreatDoorRows
import Derived.LaidMore
import Derived.ProofKit
import Derived.Conc.Holds
import Derived.SevenTiedAt
set_option maxHeartbeats 8000000
set_option maxRecDepth 100000
set_option linter.all false
namespace Go.Proofs.YtgagoahfdnnpkaaGreatDoor
section
open Go.RowKit Go.Maps Sp
def tapesV (loads plan:List Int):Int:=match planOk loads plan with
 | some o=>(o.length:Int)
 | none=>-1
theorem planOk_miss {loads plan:List Int} (hl:loads.length=plan.length) (h0:∀ x∈loads,0<=x) (h:planOk loads plan=none) (hf:∀ x∈plan.zip loads,fitP plan.length x):∃ k:Nat,(k:Int)<=mostL (-1) plan/\(k:Int) ∉ plan:=by
 apply Classical.byContradiction;intro hc;obtain ⟨o,ho⟩:=planOk_mk hl h0 hf fun k hk=>Classical.byContradiction fun hn=>hc ⟨k,hk,hn⟩;rw [ho] at h;cases h
theorem fit_none {n:Nat} {k x:Int} (h:¬ fitP n (k,x)):decide (k < -1)=true\/(decide (k < -1)=false/\decide ((n:Int)<=k)=true)\/(decide (k < -1)=false/\decide ((n:Int)<=k)=false/\(!(decide (k < 0) == (x == 0)))=true):=by
 unfold fitP at h;simp only [Classical.not_not] at h;by_cases h1:k < -1
 ·exact .inl (decide_eq_true h1)
 ·by_cases h2:(n:Int)<=k
  ·exact .inr (.inl ⟨by simpa using h1,decide_eq_true h2⟩)
  ·refine .inr (.inr ⟨by simpa using h1,by simpa using h2,?_⟩);have h3:=(h.resolve_left h1).resolve_left h2;by_cases hx:x=0
   ·have:¬ k < 0:=fun hk=>h3 (by constructor <;> intro <;> omega);simp [hx,this]
   ·have:k < 0:=by
     apply Classical.byContradiction;intro hk;exact h3 (by constructor <;> intro <;> omega)
    simp [hx,this]
section
variable {w:World} {la pa:Option Addr} {lc pc n m:Nat} {loads plan o:List Int}
theorem tapesOf_no (hL:IntsAt w la loads) (hP:IntsAt w pa plan) (hn:n=loads.length) (hm:m=plan.length) (hl:loads.length=plan.length) (hpl:plan.length<=1000) (h0:∀ x∈loads,0<=x) (ho:planOk loads plan=none) :
 Calls Tryz.prog 43 #[.slice la n lc,.slice pa m pc] w fun e w'=>e=.returned (.int .i64 (-1))/\Below w.heap.size w w':=by
 subst hn hm;have HNO:=Hh (planOk_miss hl h0 ho);have HL:=Hh hL;have HP:=Hh hP;have HLN:=Hh hl;have hlb:∀ k,k<=plan.length->(∀ x∈(plan.take k).zip (loads.take k),fitP plan.length x)->-1<=mostL (-1) (plan.take k)/\mostL (-1) (plan.take k)<=(plan.length:Int):=fun k hk hf=>by
  refine ⟨mostL_le _ _,?_⟩;rcases mostL_in (-1) (plan.take k) with h | h
  ·omega
  ·obtain ⟨i,hi,e⟩:=List.mem_iff_getElem.1 h;have hi2:i < k:=by rw [List.length_take] at hi;omega
   have hz:((plan.take k)[i],(loads.take k)[i]'(by rw [List.length_take];omega))∈(plan.take k).zip (loads.take k):=List.mem_iff_getElem.2 ⟨i,by rw [List.length_zip,List.length_take,List.length_take];omega,by simp⟩;have:=hf _ hz;unfold fitP at this;simp only at this;omega
 have HLB:=Hh hlb;clear hL hP h0 ho hlb hl
 go_enter Tryz.func43,Tryz.ntmps43
 go_wp2;go_loopw [5,6] (fun v i wr=>∃ k:Nat,k<=plan.length/\i=.int .i64 k/\v=.int .i64 (mostL (-1) (plan.take k))/\Hid (∀ x∈(plan.take k).zip (loads.take k),fitP plan.length x)/\Below w.heap.size w wr) (fun _ i _=>plan.length - (intOf i).toNat)
 case atStart=>exact ⟨0,Nat.zero_le _,rfl,rfl,(fun x hx=>by simp at hx),Below.refl _ _⟩
 case round =>
  obtain ⟨k,hk,rfl,rfl,HF,hW⟩:=hrel;have hWs:=hW.size;by_cases hlt:k < plan.length
  ·have hlt2:k < loads.length:=by rw [HLN.out];exact hlt
   obtain ⟨lb,lo,rfl,hlb,e0⟩:=HL.out k hlt2;obtain ⟨pb,po,rfl,hpb,f0⟩:=HP.out k hlt;have d0:=(hW.cell hlb).trans e0;have d1:=(hW.cell hpb).trans f0;have hlb2:lb < wr.heap.size:=Nat.lt_of_lt_of_le hlb hWs;have hpb2:pb < wr.heap.size:=Nat.lt_of_lt_of_le hpb hWs;have hsn:mostL (-1) (plan.take (k+1))=max (mostL (-1) (plan.take k)) plan[k]:=by rw [List.take_succ_eq_append_getElem hlt,mostL_snoc]
   have hzs:(plan.take (k+1)).zip (loads.take (k+1))=(plan.take k).zip (loads.take k) ++ [(plan[k],loads[k])]:=by
    rw [List.take_succ_eq_append_getElem hlt,List.take_succ_eq_append_getElem hlt2,List.zip_append (by simp only [List.length_take];omega)];rfl
   generalize loads[k]=x at d0 hzs e0;generalize plan[k]=y at d1 hsn hzs f0;have HSN:=Hh hsn;have HZS:=Hh hzs;clear e0 f0 hsn hzs;generalize mostL (-1) (plan.take k)=z at HSN;by_cases hfit:fitP plan.length (y,x)
   ·obtain ⟨q1,q2,q3⟩:=fit_parts hfit;have HFIT:=Hh hfit;clear hfit;go_wp2;go_quiet (fail);go_wp2;go_roundw
    case rel =>
     refine ⟨k+1,by omega,by go_num,by rw [HSN.out],?_,bel⟩;show ∀ x∈_,_;rw [HZS.out];intro p hp;rcases List.mem_append.1 hp with hp | hp
     ·exact HF.out p hp
     ·rw [List.mem_singleton.1 hp];exact HFIT.out
    case measure=>simp [intOf];omega
   ·rcases fit_none hfit with q1 | ⟨q1,q2⟩ | ⟨q1,q2,q3⟩
    ·clear hfit;go_wp2;go_quiet (fail);go_wp2;go_ret;exact ⟨rfl,bel⟩
    ·clear hfit;go_wp2;go_quiet (fail);go_wp2;go_ret;exact ⟨rfl,bel⟩
    ·clear hfit;go_wp2;go_quiet (fail);go_wp2;go_ret;exact ⟨rfl,bel⟩
  ·obtain rfl:k=plan.length:=by omega
   have hf:=HF.out;have hbd:=HLB.out plan.length (Nat.le_refl _) hf;rw [List.take_length] at hbd hf ⊢;rw [<- HLN.out,List.take_length] at hf;obtain ⟨q,hq1,hq2⟩:=HNO.out (by rw [<- HLN.out];exact hf);have HQ:=Hh hq2;generalize mostL (-1) plan=z at hbd hq1;clear hf hq2 HF;go_wp2;go_loopw [7] (fun i wr=>∃ k:Nat,k<=q/\i=.int .i64 k/\Below w.heap.size w wr) (fun i _=>(q+1 - (intOf i).toNat))
   case atStart=>exact ⟨0,by omega,rfl,hW⟩
   case round =>
    obtain ⟨k,hk,rfl,hW⟩:=hrel;have hWs:=hW.size;have hlt:(k:Int)<=z:=by omega
    by_cases hkin:(k:Int)∈plan
    ·have hin:=Hh (show decide ((k:Int)∈plan)=true by rw [decide_eq_true_iff];exact hkin);have hkq:k≠q:=fun e=>HQ.out (e ▸ hkin);clear hkin;go_wp2_with (go_at_call 78;(with_reducible refine (hasNum_at (HP.out.below hW) rfl (by omega) hin.out).mono ?_);rintro e w1 ⟨rfl,rfl⟩);go_roundw
     case rel=>exact ⟨k+1,by omega,by go_num,hW⟩
     case measure=>simp [intOf];omega
    ·have hin:=Hh (show decide ((k:Int)∈plan)=false by rw [decide_eq_false_iff_not];exact hkin);clear hkin;go_wp2_with (go_at_call 78;(with_reducible refine (hasNum_at (HP.out.below hW) rfl (by omega) hin.out).mono ?_);rintro e w1 ⟨rfl,rfl⟩);go_ret;exact ⟨rfl,hW⟩
theorem tapesOf_v (hL:IntsAt w la loads) (hP:IntsAt w pa plan) (hn:n=loads.length) (hm:m=plan.length) (hl:loads.length=plan.length) (hpl:plan.length<=1000) (h0:∀ x∈loads,0<=x) {v:Int} (hv:tapesV loads plan=v) :
 Calls Tryz.prog 43 #[.slice la n lc,.slice pa m pc] w fun e w'=>e=.returned (.int .i64 v)/\Below w.heap.size w w':=by
 subst hv;unfold tapesV;split
 ·rename_i o ho
  exact tapesOf_at hL hP hn hm hl hpl ho
 ·rename_i ho
  exact tapesOf_no hL hP hn hm hl hpl h0 ho
theorem rIsTime_at (t:Int):Calls Tryz.prog 38 #[.int .i64 t] w fun e w'=>e=.returned (.bool (inB t 0 999))/\Below w.heap.size w w':=by
 have H:=Hh (rfl:inB t 0 999=inB t 0 999)
 go_enter Tryz.func38,Tryz.ntmps38
 go_wp2_with (go_at_call 51;(with_reducible refine (rin_at H.out).mono ?_);rintro e w' ⟨rfl,rfl⟩);go_ret;exact ⟨rfl,bel⟩
end
end
section
open Go.RowKit Go.Maps Sp Mt Go.Conc
end
section
open Go.RowKit Sp
theorem cellsStr:Tryz.prog.cellsOf 9=1:=by kernel_rfl
theorem cellsInt:Tryz.prog.cellsOf 3=1:=by kernel_rfl
theorem cellsKd:Tryz.prog.cellsOf 68=1:=by kernel_rfl
theorem cellsBook:Tryz.prog.cellsOf 26=5:=by kernel_rfl
theorem cellsMsg:Tryz.prog.cellsOf 48=3:=by kernel_rfl
theorem cellsSes:Tryz.prog.cellsOf 40=1:=by kernel_rfl
theorem cellsPart:Tryz.prog.cellsOf 75=2:=by kernel_rfl
theorem cellsRec:Tryz.prog.cellsOf 70=4:=by kernel_rfl
theorem cellsParts:Tryz.prog.cellsOf 38=1:=by kernel_rfl
theorem cellsMsgs:Tryz.prog.cellsOf 22=1:=by kernel_rfl
theorem cellsSess:Tryz.prog.cellsOf 23=1:=by kernel_rfl
theorem cellsRecs:Tryz.prog.cellsOf 24=1:=by kernel_rfl
theorem addr_plus (b o k:Nat):Addr.add ⟨b,o,none⟩ k=⟨b,o+k,none⟩:=by
 unfold Addr.add;split
 ·rename_i h;subst h;rfl
 ·rfl
theorem spot_of {w:World} {base:Nat} {a:Addr} {k q:Nat} {cs:List Value} (h:w.cells? base (a.add (0 * q)) k=some cs) (hk:0 < k):a.spot=none:=by
 obtain ⟨_,hl,hc⟩:=World.cells?_some h;have:=hc 0 hk;rw [List.getElem?_eq_getElem (by omega)] at this;simpa [Addr.add] using World.cell?_spot this
section
variable {H:Type} {enc:TypeId × Value->H} {w:World} {base:Nat} {sp:Nat->Bool} {held:Bool} {n:Nat} {cs:List Value} {y:DataW H × List MemPlace}
theorem open_msg (h:DataW.trod enc Tryz.prog w base sp held n 48 cs=some y):∃ m:Msg,cs=[.string m.name,.int .i64 m.groups,.int .i64 m.due]:=by
 obtain ⟨xs,k,_,_,hl,hx,hf⟩:=DataW.trod_struct Tryz.underlying48 h;rw [cellsMsg] at hl;have hx3:xs.length=3:=hx;have h0:=hf 0 _ rfl;have h1:=hf 1 _ rfl;have h2:=hf 2 _ rfl
 match cs,hl,xs,hx3 with
 | [a,b,c],_,[x0,x1,x2],_ =>
  simp [cellsStr,cellsInt] at h0 h1 h2;obtain ⟨s,e0,_⟩:=DataW.trod_string Tryz.underlying9 h0;obtain ⟨g,e1,_⟩:=DataW.trod_int Tryz.underlying3 h1;obtain ⟨d,e2,_⟩:=DataW.trod_int Tryz.underlying3 h2;cases e0;cases e1;cases e2;exact ⟨⟨s,g,d⟩,rfl⟩
theorem open_part (h:DataW.trod enc Tryz.prog w base sp held n 75 cs=some y):∃ m:Prt,cs=[.int .i64 m.1,.int .i64 m.2]:=by
 obtain ⟨xs,k,_,_,hl,hx,hf⟩:=DataW.trod_struct Tryz.underlying75 h;rw [cellsPart] at hl;have hx3:xs.length=2:=hx;have h0:=hf 0 _ rfl;have h1:=hf 1 _ rfl
 match cs,hl,xs,hx3 with
 | [a,b],_,[x0,x1],_ =>
  simp [cellsInt] at h0 h1;obtain ⟨g,e1,_⟩:=DataW.trod_int Tryz.underlying3 h0;obtain ⟨d,e2,_⟩:=DataW.trod_int Tryz.underlying3 h1;cases e1;cases e2;exact ⟨(g,d),rfl⟩
theorem open_rec (h:DataW.trod enc Tryz.prog w base sp held n 70 cs=some y):∃ m:Rec,cs=[.int .i64 m.k,.int .i64 m.a,.int .i64 m.b,.int .i64 m.m]:=by
 obtain ⟨xs,k,_,_,hl,hx,hf⟩:=DataW.trod_struct Tryz.underlying70 h;rw [cellsRec] at hl;have hx3:xs.length=4:=hx;have h0:=hf 0 _ rfl;have h1:=hf 1 _ rfl;have h2:=hf 2 _ rfl;have h3:=hf 3 _ rfl
 match cs,hl,xs,hx3 with
 | [a,b,c,d],_,[x0,x1,x2,x3],_ =>
  simp [cellsInt,cellsKd] at h0 h1 h2 h3;obtain ⟨q0,e0,_⟩:=DataW.trod_int Tryz.underlying68 h0;obtain ⟨q1,e1,_⟩:=DataW.trod_int Tryz.underlying3 h1;obtain ⟨q2,e2,_⟩:=DataW.trod_int Tryz.underlying3 h2;obtain ⟨q3,e3,_⟩:=DataW.trod_int Tryz.underlying3 h3;cases e0;cases e1;cases e2;cases e3;exact ⟨⟨q0,q1,q2,q3⟩,rfl⟩
instance : Inhabited Msg := ⟨⟨ByteArray.empty, 0, 0⟩⟩
instance : Inhabited Rec := ⟨⟨0, 0, 0, 0⟩⟩
theorem open_msgs (h:DataW.trod enc Tryz.prog w base (fun _=>true) held n 22 cs=some y):∃ a l c,cs=[.slice a (List.length l) c]/\MsgsAt w a l:=by
 rcases Deep.open_slice Tryz.underlying22 h with ⟨hcs,_⟩ | ⟨a,len,cap,m,k,D,Pl,hcs,hb,hl,hm,hmm,_,hx⟩
 ·exact ⟨none,[],0,hcs,fun i hi=>absurd hi (Nat.not_lt_zero _)⟩
 ·rw [cellsMsg] at hx;simp only [if_true] at hmm;obtain ⟨M,hM⟩:=Deep.choose_lt (α:=Msg) (p:=fun i m=>w.cells? base (a.add (i * 3)) 3=some [.string m.name,.int .i64 m.groups,.int .i64 m.due]) (fun i hi=>by
   obtain ⟨cs',h1,h2⟩:=hx i (show i < m from hi)
   obtain ⟨q,rfl⟩:=open_msg h2
   exact ⟨q,h1⟩)
  refine ⟨some a,(List.range len).map M,cap,by rw [hcs];simp,fun i hi=>?_⟩;have hi2:i < len:=by simpa using hi
  have hs:=spot_of (hM 0 (by omega)) (by decide);obtain ⟨b,o,spot⟩:=a;simp only at hs;subst hs;obtain ⟨_,_,hc⟩:=World.cells?_some (hM i (by omega));have c0:=hc 0 (by decide);have c1:=hc 1 (by decide);have c2:=hc 2 (by decide);simp only [addr_plus,Nat.add_zero,List.getElem?_cons_zero,List.getElem?_cons_succ] at c0 c1 c2;refine ⟨b,o,rfl,lt_of_cell c0,?_,?_,?_⟩ <;> simp only [List.getElem_map,List.getElem_range] <;> assumption
theorem open_parts (h:DataW.trod enc Tryz.prog w base (fun _=>true) held n 38 cs=some y):∃ a l c,cs=[.slice a (List.length l) c]/\List.length l<=c/\PartsAt w a l:=by
 rcases Deep.open_slice Tryz.underlying38 h with ⟨hcs,_⟩ | ⟨a,len,cap,m,k,D,Pl,hcs,hb,hl,hm,hmm,_,hx⟩
 ·exact ⟨none,[],0,hcs,Nat.le_refl _,fun i hi=>absurd hi (Nat.not_lt_zero _)⟩
 ·rw [cellsPart] at hx;simp only [if_true] at hmm;obtain ⟨M,hM⟩:=Deep.choose_lt (α:=Prt) (p:=fun i m=>w.cells? base (a.add (i * 2)) 2=some [.int .i64 m.1,.int .i64 m.2]) (fun i hi=>by
   obtain ⟨cs',h1,h2⟩:=hx i (show i < m from hi)
   obtain ⟨q,rfl⟩:=open_part h2
   exact ⟨q,h1⟩)
  refine ⟨some a,(List.range len).map M,cap,by rw [hcs];simp,by simpa using hl,fun i hi=>?_⟩;have hi2:i < len:=by simpa using hi
  have hs:=spot_of (hM 0 (by omega)) (by decide);obtain ⟨b,o,spot⟩:=a;simp only at hs;subst hs;obtain ⟨_,_,hc⟩:=World.cells?_some (hM i (by omega));have c0:=hc 0 (by decide);have c1:=hc 1 (by decide);simp only [addr_plus,Nat.add_zero,List.getElem?_cons_zero,List.getElem?_cons_succ] at c0 c1;refine ⟨b,o,rfl,lt_of_cell c0,?_,?_⟩ <;> simp only [List.getElem_map,List.getElem_range] <;> assumption
theorem open_recs (h:DataW.trod enc Tryz.prog w base (fun _=>true) held n 24 cs=some y):∃ a l c,cs=[.slice a (List.length l) c]/\RecsAt w a l:=by
 rcases Deep.open_slice Tryz.underlying24 h with ⟨hcs,_⟩ | ⟨a,len,cap,m,k,D,Pl,hcs,hb,hl,hm,hmm,_,hx⟩
 ·exact ⟨none,[],0,hcs,fun i hi=>absurd hi (Nat.not_lt_zero _)⟩
 ·rw [cellsRec] at hx;simp only [if_true] at hmm;obtain ⟨M,hM⟩:=Deep.choose_lt (α:=Rec) (p:=fun i m=>w.cells? base (a.add (i * 4)) 4=some [.int .i64 m.k,.int .i64 m.a,.int .i64 m.b,.int .i64 m.m]) (fun i hi=>by
   obtain ⟨cs',h1,h2⟩:=hx i (show i < m from hi)
   obtain ⟨q,rfl⟩:=open_rec h2
   exact ⟨q,h1⟩)
  refine ⟨some a,(List.range len).map M,cap,by rw [hcs];simp,fun i hi=>?_⟩;have hi2:i < len:=by simpa using hi
  have hs:=spot_of (hM 0 (by omega)) (by decide);obtain ⟨b,o,spot⟩:=a;simp only at hs;subst hs;obtain ⟨_,_,hc⟩:=World.cells?_some (hM i (by omega));have c0:=hc 0 (by decide);have c1:=hc 1 (by decide);have c2:=hc 2 (by decide);have c3:=hc 3 (by decide);simp only [addr_plus,Nat.add_zero,List.getElem?_cons_zero,List.getElem?_cons_succ] at c0 c1 c2 c3;refine ⟨b,o,rfl,lt_of_cell c0,?_,?_,?_,?_⟩ <;> simp only [List.getElem_map,List.getElem_range] <;> assumption
theorem open_sess (h:DataW.trod enc Tryz.prog w base (fun _=>true) held n 23 cs=some y):∃ a l c,cs=[.slice a (List.length l) c]/\SesRaw w a l:=by
 rcases Deep.open_slice Tryz.underlying23 h with ⟨hcs,_⟩ | ⟨a,len,cap,m,k,D,Pl,hcs,hb,hl,hm,hmm,_,hx⟩
 ·exact ⟨none,[],0,hcs,fun i hi=>absurd hi (Nat.not_lt_zero _)⟩
 ·rw [cellsSes] at hx;simp only [if_true] at hmm;obtain ⟨M,hM⟩:=Deep.choose_lt (α:=List Prt) (p:=fun i m=>∃ pa pc,w.cells? base (a.add (i * 1)) 1=some [.slice pa m.length pc]/\m.length<=pc/\PartsAt w pa m) (fun i hi=>by
   obtain ⟨cs',h1,h2⟩:=hx i (show i < m from hi)
   obtain ⟨xs,k',_,_,hl2,hx2,hf⟩:=DataW.trod_struct Tryz.underlying40 h2
   rw [cellsSes] at hl2
   have hx3:xs.length=1:=hx2
   have h0:=hf 0 _ rfl
   match cs',hl2,xs,hx3 with
   | [v],_,[x0],_ =>
    simp [cellsParts] at h0
    obtain ⟨pa,q,pc,e,hq,hp⟩:=open_parts h0
    cases e
    exact ⟨q,pa,pc,h1,hq,hp⟩)
  refine ⟨some a,(List.range len).map M,cap,by rw [hcs];simp,fun i hi=>?_⟩;have hi2:i < len:=by simpa using hi
  obtain ⟨_,_,hM0,_⟩:=hM 0 (by omega);have hs:=spot_of hM0 (by decide);obtain ⟨b,o,spot⟩:=a;simp only at hs;subst hs;obtain ⟨pa,pc,hMi,hq,hp⟩:=hM i (by omega);obtain ⟨_,_,hc⟩:=World.cells?_some hMi;have c0:=hc 0 (by decide);simp only [addr_plus,Nat.add_zero,Nat.mul_one,List.getElem?_cons_zero] at c0;refine ⟨b,o,rfl,lt_of_cell c0,pa,pc,?_,?_,?_⟩ <;> simp only [List.getElem_map,List.getElem_range] <;> assumption
theorem open_nums (h:DataW.trod enc Tryz.prog w base (fun _=>true) held n 27 cs=some y):∃ a l c,cs=[.slice a (List.length l) c]/\IntsAt w a l:=by
 rcases Deep.open_slice1 Tryz.underlying27 cellsInt h with ⟨hcs,_⟩ | ⟨a,len,cap,m,k,V,D,Pl,hcs,hb,hl,hm,hmm,_,hx⟩
 ·exact ⟨none,[],0,hcs,fun i hi=>absurd hi (Nat.not_lt_zero _)⟩
 ·simp only [if_true] at hmm;obtain ⟨M,hM⟩:=Deep.choose_lt (α:=Int) (p:=fun i m=>w.cell? (a.add i)=some (.int .i64 m)) (fun i hi=>by
   obtain ⟨h1,h2⟩:=hx i (show i < m from hi)
   obtain ⟨q,e,_⟩:=DataW.trod_int Tryz.underlying3 h2
   exact ⟨q,h1.trans (congrArg some (List.cons.inj e).1)⟩)
  refine ⟨some a,(List.range len).map M,cap,by rw [hcs];simp,fun i hi=>?_⟩;have hi2:i < len:=by simpa using hi
  have hs:a.spot=none:=by simpa [Addr.add] using World.cell?_spot (hM 0 (by omega))
  obtain ⟨b,o,spot⟩:=a;simp only at hs;subst hs;have c0:=hM i (by omega);simp only [addr_plus] at c0;refine ⟨b,o,rfl,lt_of_cell c0,?_⟩;simp only [List.getElem_map,List.getElem_range];exact c0
theorem open_book {v:Value} (h:DataW.trod enc Tryz.prog w base (fun _=>true) held n 26 v.cells.toList=some y):∃ b vr vg vm vs vc,v=.agg #[vr,vg,vm,vs,vc]/\RawAt w b vr vg vm vs vc:=by
 obtain ⟨xs,k,_,_,hl,hx,hf⟩:=DataW.trod_struct Tryz.underlying26 h;rw [cellsBook] at hl;obtain ⟨c,rfl⟩:∃ c,v=.agg c:=by
  cases v <;> first | exact ⟨_,rfl⟩ | (simp [Value.cells] at hl)
 simp only [Value.cells] at hl hf;have hx3:xs.length=5:=hx;have h0:=hf 0 _ rfl;have h1:=hf 1 _ rfl;have h2:=hf 2 _ rfl;have h3:=hf 3 _ rfl;have h4:=hf 4 _ rfl;obtain ⟨c⟩:=c;simp only at hl h0 h1 h2 h3 h4
 match c,hl,xs,hx3 with
 | [a0,a1,a2,a3,a4],_,[x0,x1,x2,x3,x4],_ =>
  simp [cellsInt,cellsMsgs,cellsSess,cellsRecs] at h0 h1 h2 h3 h4;obtain ⟨q0,e0,_⟩:=DataW.trod_int Tryz.underlying3 h0;obtain ⟨q1,e1,_⟩:=DataW.trod_int Tryz.underlying3 h1;obtain ⟨ma,ml,mc,e2,hm⟩:=open_msgs h2;obtain ⟨sa,sl,sc,e3,hs⟩:=open_sess h3;obtain ⟨ra,rl,rc,e4,hr⟩:=open_recs h4;cases e0;cases e1;cases e2;cases e3;cases e4;exact ⟨⟨q0,q1,ml,sl,rl⟩,_,_,_,_,_,rfl,rfl,rfl,⟨_,_,rfl,hm⟩,⟨_,_,rfl,hs⟩,_,_,rfl,hr⟩
end
theorem trod_array {H:Type} {enc:TypeId × Value->H} {P:Program} {w:World} {base:Nat} {spare:Nat->Bool} {held:Bool} {fuel n:Nat} {t e:TypeId} {cs:List Value} {x:DataW H × List MemPlace} (ht:P.underlying t=some (.array n e)) (h:DataW.trod enc P w base spare held fuel t cs=some x) :
 ∃ (xs:List (DataW H × List MemPlace)) (m:Nat),x=(.agg (xs.map (·.1)),xs.flatMap (·.2))/\cs.length=P.cellsOf t/\xs.length=n /\
  ∀ (i:Nat),i < n->DataW.trod enc P w base spare held m e ((cs.drop (i * P.cellsOf e)).take (P.cellsOf e))=xs[i]? := by
 cases fuel with
 | zero=>simp [DataW.trod] at h
 | succ m =>
  unfold DataW.trod at h;rw [ht] at h;split at h <;> simp_all;obtain ⟨hl,xs,hp,hd⟩:=h;exact ⟨xs,hd.symm,by simpa using mapM_some_length hp,m,fun i hi=>mapM_some_get hp i i (List.getElem?_range hi)⟩
theorem cellsKindRow:Tryz.prog.cellsOf 174=5:=by kernel_rfl
theorem cellsW:Tryz.prog.cellsOf 9=1:=by kernel_rfl
theorem cellsB:Tryz.prog.cellsOf 4=1:=by kernel_rfl
theorem cellsF1:Tryz.prog.cellsOf 171=1:=by kernel_rfl
theorem cellsF2:Tryz.prog.cellsOf 172=1:=by kernel_rfl
theorem kind_row {w:World} {sp:Nat->Bool} {n:Nat} {cs:List Value} {wd:List UInt8} {ub um:Bool} {b1 b2:UInt8} {r1 r2:List UInt8} {f1 f2:FuncId} {q:List MemPlace}
 (h:DataW.trod (funcToken Tryz.prog) Tryz.prog w 0 sp true n 174 cs=some (.agg [.lit (.string wd),.lit (.bool ub),.lit (.bool um),.held (b1::r1),.held (b2::r2)],q))
 (h1:((List.range Tryz.prog.funcs.size).filter fun f=>(Tryz.prog.funcs[f]?).any (·.name.toUTF8.data.toList == b1::r1))=[f1])
 (h2:((List.range Tryz.prog.funcs.size).filter fun f=>(Tryz.prog.funcs[f]?).any (·.name.toUTF8.data.toList == b2::r2))=[f2]) :
 ∃ s:ByteArray,s.data.toList=wd/\cs=[.string s,.bool ub,.bool um,.func (.func f1) #[] #[],.func (.func f2) #[] #[]]:=by
 obtain ⟨xs,k,_,he,hl,hx,hf⟩:=DataW.trod_struct Tryz.underlying174 h;rw [cellsKindRow] at hl;have hx3:xs.length=5:=hx;have g0:=hf 0 _ rfl;have g1:=hf 1 _ rfl;have g2:=hf 2 _ rfl;have g3:=hf 3 _ rfl;have g4:=hf 4 _ rfl
 match cs,hl,xs,hx3 with
 | [a0,a1,a2,a3,a4],_,[⟨x0,p0⟩,⟨x1,p1⟩,⟨x2,p2⟩,⟨x3,p3⟩,⟨x4,p4⟩],_ =>
  simp only [List.map_cons,List.map_nil,Prod.mk.injEq,DataW.agg.injEq,List.cons.injEq,and_true] at he;obtain ⟨⟨e0,e1,e2,e3,e4⟩,_⟩:=he;subst e0 e1 e2 e3 e4;simp [cellsW,cellsB,cellsF1,cellsF2] at g0 g1 g2 g3 g4;obtain ⟨s,c0,d0,_⟩:=DataW.trod_string Tryz.underlying9 g0;obtain ⟨u,c1,d1⟩:=DataW.trod_bool Tryz.underlying4 g1;obtain ⟨v,c2,d2⟩:=DataW.trod_bool Tryz.underlying4 g2;have c3:=func_of_trod Tryz.underlying171 h1 g3;have c4:=func_of_trod Tryz.underlying172 h2 g4;cases c0;cases c1;cases c2;simp only [Prod.mk.injEq,DataW.lit.injEq,Lit.string.injEq,Lit.bool.injEq,and_true] at d0 d1 d2;obtain ⟨rfl,_⟩:=d1;obtain ⟨rfl,_⟩:=d2;subst c3;subst c4;exact ⟨s,d0.1.symm,rfl⟩
theorem five_at {l:List Value} {k:Nat} {a b c d e:Value} (h:(l.drop k).take 5=[a,b,c,d,e]):l[k]? = some a/\l[k+1]? = some b/\l[k+2]? = some c/\l[k+3]? = some d/\l[k+4]? = some e:=by
 have g:∀ j,j < 5->l[k+j]? = [a,b,c,d,e][j]? := fun j hj=>by
  rw [<- h,List.getElem?_take,if_pos hj,List.getElem?_drop]
 exact ⟨g 0 (by decide),g 1 (by decide),g 2 (by decide),g 3 (by decide),g 4 (by decide)⟩
theorem gKinds:Tryz.prog.globalNamed "baudot/store.kinds"=some 0:=by kernel_rfl
theorem tKinds:(Tryz.prog.globals[0]?).map (·.type)=some 175:=by kernel_rfl
theorem kinds_of_laid {W:World} (h:laidMetH Tryz.prog [("baudot/store.kinds",Rows.laid_baudot_store_kinds)] W):KindsAt W:=by
 obtain ⟨g,t,cs,fuel,p,hg,ht,hv,hd⟩:=h.funcs (List.mem_singleton.2 rfl);obtain rfl:=Option.some.inj (gKinds.symm.trans hg);obtain rfl:=Option.some.inj (tKinds.symm.trans ht);obtain ⟨xs,m,he,_,hx,hel⟩:=trod_array Tryz.underlying175 hd;have hcell:∀ i,W.cell? ⟨0,i,none⟩=cs.toList[i]? := fun i=>by
  rw [World.var?_cell hg hv i];simp
 rw [cellsKindRow] at hel;have e0:=hel 0 (by decide);have e1:=hel 1 (by decide);have e2:=hel 2 (by decide);have e3:=hel 3 (by decide);have e4:=hel 4 (by decide);have e5:=hel 5 (by decide)
 match xs,hx with
 | [⟨x0,p0⟩,⟨x1,p1⟩,⟨x2,p2⟩,⟨x3,p3⟩,⟨x4,p4⟩,⟨x5,p5⟩],_ =>
  have hes:[x0,x1,x2,x3,x4,x5]=_:=(DataW.agg.inj (congrArg Prod.fst he)).symm;simp only [List.getElem?_cons_zero,List.getElem?_cons_succ] at e0 e1 e2 e3 e4 e5;injection hes with h0 hes;injection hes with h1 hes;injection hes with h2 hes;injection hes with h3 hes;injection hes with h4 hes;injection hes with h5 hes;subst h0 h1 h2 h3 h4 h5;obtain ⟨s0,w0,c0⟩:=kind_row (f1:=kindMost 0) (f2:=kindRight 0) e0 (by kernel_rfl) (by kernel_rfl);obtain ⟨s1,w1,c1⟩:=kind_row (f1:=kindMost 1) (f2:=kindRight 1) e1 (by kernel_rfl) (by kernel_rfl);obtain ⟨s2,w2,c2⟩:=kind_row (f1:=kindMost 2) (f2:=kindRight 2) e2 (by kernel_rfl) (by kernel_rfl);obtain ⟨s3,w3,c3⟩:=kind_row (f1:=kindMost 3) (f2:=kindRight 3) e3 (by kernel_rfl) (by kernel_rfl);obtain ⟨s4,w4,c4⟩:=kind_row (f1:=kindMost 4) (f2:=kindRight 4) e4 (by kernel_rfl) (by kernel_rfl);obtain ⟨s5,w5,c5⟩:=kind_row (f1:=kindMost 5) (f2:=kindRight 5) e5 (by kernel_rfl) (by kernel_rfl);have z0:=five_at c0;have z1:=five_at c1;have z2:=five_at c2;have z3:=five_at c3;have z4:=five_at c4;have z5:=five_at c5;refine ⟨lt_of_cell ((hcell 0).trans z0.1),fun i hi=>?_⟩
  match i,hi with
  | 0,_=>exact ⟨⟨s0,w0,(hcell _).trans z0.1⟩,(hcell _).trans z0.2.1,(hcell _).trans z0.2.2.1,(hcell _).trans z0.2.2.2.1,(hcell _).trans z0.2.2.2.2⟩
  | 1,_=>exact ⟨⟨s1,w1,(hcell _).trans z1.1⟩,(hcell _).trans z1.2.1,(hcell _).trans z1.2.2.1,(hcell _).trans z1.2.2.2.1,(hcell _).trans z1.2.2.2.2⟩
  | 2,_=>exact ⟨⟨s2,w2,(hcell _).trans z2.1⟩,(hcell _).trans z2.2.1,(hcell _).trans z2.2.2.1,(hcell _).trans z2.2.2.2.1,(hcell _).trans z2.2.2.2.2⟩
  | 3,_=>exact ⟨⟨s3,w3,(hcell _).trans z3.1⟩,(hcell _).trans z3.2.1,(hcell _).trans z3.2.2.1,(hcell _).trans z3.2.2.2.1,(hcell _).trans z3.2.2.2.2⟩
  | 4,_=>exact ⟨⟨s4,w4,(hcell _).trans z4.1⟩,(hcell _).trans z4.2.1,(hcell _).trans z4.2.2.1,(hcell _).trans z4.2.2.2.1,(hcell _).trans z4.2.2.2.2⟩
  | 5,_=>exact ⟨⟨s5,w5,(hcell _).trans z5.1⟩,(hcell _).trans z5.2.1,(hcell _).trans z5.2.2.1,(hcell _).trans z5.2.2.2.1,(hcell _).trans z5.2.2.2.2⟩
  | i+6,h=>omega
end
section
open Go.ChangeShapes Go.WideShapes Go.ChangeAt Go.RowKit Go.Conc
theorem ownNone:ownKnob Tryz.prog.godebug=none:=by kernel_rfl
theorem laidOutAll:laidOutB Tryz.prog=true:=by kernel_rfl
theorem door_met (os:Os) (args:Array Value):laidMetH Tryz.prog [("baudot/store.kinds",Rows.laid_baudot_store_kinds)] ((World.doorLaid Tryz.prog 20 os).forCall (fun _ _=>0) ⟨#[],args,[]⟩).memory :=
 laidMetH_of_parts3 (fuel:=8) (laidMet_of_run' 8 (by kernel_rfl) (by kernel_rfl)) (by kernel_rfl) (by kernel_rfl)
theorem arg_stays {H:Type} {enc:TypeId × Value->H} {t:TypeId} (hr:Tryz.prog.readableRec t=true) (hrow:t < Tryz.prog.types.size) {W W':World} {v:Value} {d:DataW H} {ps:List MemPlace}
 (h:DataW.Trod enc Tryz.prog W 0 (fun _=>true) true t v d ps) (ho:Old W W') (hlt:∀ x∈ps,x.block < W.heap.size) :
 DataW.Trod enc Tryz.prog W' 0 (fun b=>decide (b < W.heap.size)) true t v d ps :=
 DataW.Trod.of_heap (w:=W'.on W.tape 0) (by rfl) (Below.trod laidOutAll hr hrow h ho.below hlt)
theorem kept_old {W W':World} (ho:Old W W') (may:MemPlace->Prop):W.keptBut W' may:=ho.below.frame may
end
section
open Go.RowKit Sp Mt Go.Conc
def wps (P:Program):List Code->(Act->World->Prop)->Act->World->Prop
 | [],Q,a,w=>Q a w
 | c::l,Q,a,w=>c.wp P (fun e a' w'=>e=.normal/\a'.defers=[]/\∀ t,wps P l Q a' (w'.on t 0)) a w
theorem wps_mono {P:Program} {Q Q':Act->World->Prop} (hq:∀ a w,Q a w->Q' a w):∀ (l:List Code) {a:Act} {w:World},wps P l Q a w->wps P l Q' a w
 | [],_,_,h=>hq _ _ h
 | c::l,_,_,h=>Code.wp_mono (fun e a' w' ⟨h1,h2,h3⟩=>⟨h1,h2,fun t=>wps_mono hq l (h3 t)⟩) h
def seqs:List Code->Code->Code
 | [],R=>R
 | c::l,R=>.seq c (seqs l R)
section
variable {P:Program} {b:Frame} {k:List Item} {cs:List Frame} {S:Mute} {R:Code}
theorem Like.unat {w w':World} {d:Nat} (h:Like P S w w'):Like P S (w.at d) w':=⟨⟨rfl,rfl,0,rfl,rfl⟩,h.os,h.output,h.size,h.block,h.mute,h.heapOk⟩
theorem wps_leads (hP:ProgOk P) (hb:b.kind=.normal) {Q:Act->World->Prop}:∀ (l:List Code) {a:Act} {w w':World},Like P S w w'->(∀ c∈l,codeOk P c=true)->a.defers=[]->(∀ t,wps P l Q a (w'.on t 0)) ->
 Leads P (fun fr' cs' w1=>∃ a' w1',fr'=b.at a' (.code R::k)/\cs'=cs/\Like P S w1 w1'/\∀ t,Q a' (w1'.on t 0)) (b.at a (.code (seqs l R)::k)) cs w
 | [],a,w,w',hl,_,_,h=>.done ⟨a,w',rfl,rfl,hl,h⟩
 | c::l,a,w,w',hl,hc,hd,h=>by
  refine leads_seq fun d=>?_;refine (wp_leads (Z:=fun a' W=>a'.defers=[]/\∀ t,wps P l Q a' (W.on t 0)) hP (Like.unat (d:=d) hl) (hc c (List.mem_cons_self ..)) hb (by rw [hd];exact fun x hx=>(by cases hx)) fun t=>?_).trans ?_
  ·refine Code.wp_mono ?_ (h t);rintro e a' w2 ⟨he,h1,h2⟩;exact ⟨he,w2.tape,w2.drawn,h1,h2⟩
  ·rintro fr' cs' w1 ⟨a',w1',e1,e2,hl1,t,d,h1,h2⟩;rw [e1,e2];exact wps_leads hP hb l hl1 (fun c hm=>hc c (List.mem_cons_of_mem _ hm)) h1 h2
end
theorem pieces_co {b:Frame} {a:Act} {w:World} {k:List Item} {cs:List Frame} {R:Code} (l:List Code) (hc:∀ c∈l,codeOk Tryz.prog c=true) (hb:b.kind=.normal) (hd:a.defers=[]) {Z:Act->World->Prop} (hZ:∀ a w1 w2,Twin w.heap.size w1 w2->Z a w1->Z a w2)
 (h:∀ W,Twin w.heap.size w W->wps Tryz.prog l (fun a' w2=>Z a' w2/\Old W w2) a W) {K:Frame->List Frame->World->Prop} (hk:∀ a' w',Z a' w'->Old w w'->Leads Tryz.prog K (b.at a' (.code R::k)) cs w') :
 Leads Tryz.prog K (b.at a (.code (seqs l R)::k)) cs w:=by
 have hl:=muted_like Tryz.prog w;refine (wps_leads (Q:=fun a' W2=>Z a' W2/\Old (muted w) W2) progOk hb l hl hc hd fun t=>?_).trans ?_
 ·refine wps_mono ?_ l (h _ (muted_twin w t));rintro a' w2 ⟨h1,h2⟩;exact ⟨h1,h2.os,h2.output,h2.size,h2.block⟩
 ·rintro fr' cs' w1 ⟨a',w1',e1,e2,h3,hq⟩;rw [e1,e2];obtain ⟨hz,ho⟩:=hq w1'.tape;exact hk a' w1 (hZ _ _ _ (like_twin hl h3 w1'.tape 0) hz) (like_old hl h3 (d2:=0) (t:=w1'.tape) (t2:=w1'.tape) ⟨ho.os,rfl,ho.output,ho.size,ho.block⟩)
end
section
open Go.RowKit Go.Maps Sp
section
variable {b:Bk} {vr vg vm vs vc:Value} {w:World}
end
end
section
open Go.RowKit Go.Maps Sp Mt Go.Conc
variable {B pl iN mN pc xc dc P Q C ec wn:Nat} {b:Bk} {s s2 s3 g u c lo hi gr:Int} {vr vg vm vs vc x:Value} {w w0:World} {pa xa da ea:Option Addr} {q dq sn:List Int} {d:Nat->Value}
section
variable {b:Bk} {vr vg vm vs vc:Value} {w:World}
end
def ListI (w:World) (a:Option Addr) (ls:List (List Int)):Prop:=∀ i (h:i < ls.length),∃ b o xa xc,a=some ⟨b,o,none⟩/\b < w.heap.size/\w.cell? ⟨b,o+i,none⟩=some (.slice xa ls[i].length xc)/\IntsAt w xa ls[i]
theorem ListI.of {w:World} {a:Option Addr} {ls:List (List Int)} (h:ListsAt w a ls):ListI w a ls:=fun i hi=>by
 obtain ⟨b,o,e,hlt,v,hc,hv⟩:=h i hi;obtain ⟨xa,xc,rfl,hx,_⟩:=hv.form;exact ⟨b,o,xa,xc,e,hlt,hc,hx⟩
theorem ListI.old {w w1:World} {a:Option Addr} {ls:List (List Int)} (h:ListI w a ls) (t:Old w w1):ListI w1 a ls:=fun i hi=>by
 obtain ⟨b,o,xa,xc,e,hlt,hc,hx⟩:=h i hi;exact ⟨b,o,xa,xc,e,Nat.lt_of_lt_of_le hlt t.size,t.cell2 hc,t.ints hx⟩
theorem ListI.twin {n:Nat} {w w1:World} {a:Option Addr} {ls:List (List Int)} (h:ListI w a ls) (t:Twin n w w1):ListI w1 a ls:=fun i hi=>by
 obtain ⟨b,o,xa,xc,e,hlt,hc,hx⟩:=h i hi;exact ⟨b,o,xa,xc,e,by rw [t.size];exact hlt,(t.cell _).trans hc,t.ints hx⟩
end
section
open Go.RowKit Go.Maps Sp
section
variable {b:Bk} {vr vg vm vs vc:Value} {w:World} {la:Option Addr} {lc n:Nat} {l:List Prt}
end
def PartsAll (w:World) (l:List Prt) (e:Ending) (w':World):Prop:=∃ a c,e=.returned (.slice a l.length c)/\PartsAt w' a l/\Below w.heap.size w w'
section
variable {b:Bk} {vr vg vm vs vc:Value} {w:World}
theorem rPartsOf_all (hB:BookAt w b vr vg vm vs vc) (hO:BkOk b) (hms:b.ms.length<=20) :
 Calls Tryz.prog 82 #[.agg #[vr,vg,vm,vs,vc]] w (PartsAll w (partsL b)):=by
 obtain ⟨ma,mc,rfl,hM,_⟩:=hB.ms;have HM:=Hh hM;have HBD:=Hh (parts_bd hO);have HG:=Hh hO.groups;clear hM hB hO;obtain ⟨i0,hi,hz0,hz1,hz2⟩:=info_parts partInfo
 go_enter Tryz.func82,Tryz.ntmps82
 go_wp2;obtain ⟨W0,hW0⟩:∃ W0,W0=w.alloc (.cells #[vr,vg,.slice ma b.ms.length mc,vs,vc] 26):=⟨_,rfl⟩;rw [<- hW0];have hb0:Below w.heap.size w W0:=by rw [hW0];(exact bel)
 have hsz:W0.heap.size=w.heap.size+1:=by rw [hW0];simp
 have c2:W0.cell? ⟨w.heap.size,2,none⟩=some (.slice ma b.ms.length mc):=by rw [hW0,World.cell?_alloc_at _ _ _ _ rfl];rfl
 have HB0:=Hh hb0;have hlw:w.heap.size < W0.heap.size:=by omega
 clear hW0 hb0;go_loopw [3,4] (fun v t wr=>∃ (k:Nat) (a:Option Addr) (c n:Nat),k<=b.ms.length/\t=.int .i64 k/\v=.slice a n c/\Hid (n=(partsTo b k).length)/\Hid (wr.ownsRow W0.heap.size 75 2 (.slice a n c) n ((partsTo b k).flatMap cellsQ))/\Below W0.heap.size W0 wr) (fun _ t _=>b.ms.length - (intOf t).toNat)
 case atStart=>exact ⟨0,none,0,0,Nat.zero_le _,rfl,rfl,rfl,by show World.ownsRow _ _ _ _ _ _ _;simpa [partsTo] using World.ownsRow_nil _ _ _ _,Below.refl _ _⟩
 case round =>
  obtain ⟨k,a,c,n,hk,rfl,rfl,HN,HROW,hW⟩:=hrel;have hWs:=hW.size;have d2:=(hW.cell (p:=⟨w.heap.size,2,none⟩) hlw).trans c2;have hlr:w.heap.size < wr.heap.size:=by omega
  by_cases hlt:k < b.ms.length
  ·obtain ⟨mb,mo,rfl,hmb,_,eg,_⟩:=HM.out k hlt;have hmb0:mb < W0.heap.size:=by omega
   have fg:=(HB0.out.cell (p:=⟨mb,mo+k * 3+1,none⟩) hmb).trans eg;obtain ⟨hg0,hg1⟩:=HG.out _ (List.getElem_mem hlt);have hsu:=partsTo_succ b k;have hnx:=fun g (h:g < ((b.ms[k]?).elim 0 Msg.groups).toNat)=>parts_next b hlt h;have hge:(b.ms[k]?).elim 0 Msg.groups=b.ms[k].groups:=by rw [List.getElem?_eq_getElem hlt];rfl
   rw [hge] at hsu hnx;generalize b.ms[k].groups=gr at fg hg0 hg1 hsu hnx eg;obtain ⟨m,rfl⟩:∃ m:Nat,gr=m:=⟨gr.toNat,by omega⟩;rw [Int.toNat_natCast] at hsu hnx;have HSU:=Hh hsu;have HNX:=Hh hnx;clear hsu hnx hge eg;go_wp2;go_loopw [3,5] (fun v t wo=>∃ (g:Nat) (a:Option Addr) (c n:Nat),g<=m/\t=.int .i64 g/\v=.slice a n c/\Hid (n=(partsTo b k ++ partsOf k g).length)/\Hid (wo.ownsRow W0.heap.size 75 2 (.slice a n c) n ((partsTo b k ++ partsOf k g).flatMap cellsQ))/\Below W0.heap.size W0 wo) (fun _ t _=>m - (intOf t).toNat)
   case atStart=>exact ⟨0,a,c,n,Nat.zero_le _,rfl,rfl,by show n=_;rw [HN.out];simp [partsOf],by simpa [Hid,partsOf] using HROW.out,hW⟩
   case round =>
    obtain ⟨g,a2,c2',n2,hg,rfl,rfl,HN2,HROW2,hW2⟩:=hrel;have hWs2:=hW2.size;have x2:=(hW2.cell (p:=⟨w.heap.size,2,none⟩) hlw).trans c2;have xg:=(hW2.cell (p:=⟨mb,mo+k * 3+1,none⟩) hmb0).trans fg;by_cases hlg:g < m
    ·obtain ⟨suf,hsuf⟩:=HNX.out g hlg;have hbd:=HBD.out;rw [hsuf,List.length_append,<- HN2.out,List.length_cons] at hbd;have hn5:n2<=5000:=by omega
     have hne:partsTo b k ++ partsOf k (g+1)=(partsTo b k ++ partsOf k g) ++ [((k:Int),(g:Int))]:=by rw [partsOf_succ,List.append_assoc]
     have HNE:=Hh hne;clear hsuf hbd hne;go_wp2_with (at_builtin;go_loud (refine wpList_append_own _ rfl _ _ 38 rfl W0.heap.size 75 i0 (.agg #[.int .i64 0,.int .i64 0]) 2 16 Tryz.underlying38 hi hz0 hz1 hz2 rfl (by decide) _ _ _ rfl (HROW2.out.alloc _) ⟨wr.heap.size,0,none⟩ 1 1 [.int .i64 (k:Int),.int .i64 (g:Int)] rfl rfl (cells_new _ _ _) (by simp [Value.oneCell']) (by unfold maxLen;omega) (by omega) (by simp;omega) ?_;intro v' w5 hown' hgrow _;obtain ⟨g',cap',rfl⟩:=ownsRow_succ hown';have hb5:=below_own (HROW2.out.alloc (.cells #[.int .i64 (k:Int),.int .i64 (g:Int)] 75)) hgrow (by simp;omega)));have hb6:Below W0.heap.size W0 w5:=(hW2.alloc (by omega) _).trans hb5;have HO:=Hh hown';have HB6:=Hh hb6;clear hb5 hb6 hown' hgrow;go_roundw
     case rel=>exact ⟨g+1,some ⟨g',0,none⟩,cap',n2+1,by omega,by go_num,rfl,by show n2+1=_;rw [HNE.out,List.length_append,<- HN2.out];rfl,by rw [HNE.out,List.flatMap_append];exact HO.out,HB6.out⟩
     case measure=>simp [intOf];omega
    ·obtain rfl:g=m:=by omega
     go_wp2;go_roundw
     case rel=>exact ⟨k+1,a2,c2',n2,by omega,by go_num,rfl,by show n2=_;rw [HSU.out];exact HN2.out,by rw [HSU.out];exact HROW2,hW2⟩
     case measure=>simp [intOf];omega
  ·obtain rfl:k=b.ms.length:=by omega
   go_wp2;go_ret;exact ⟨a,c,by rw [HN.out];rfl,parts_of_row (by have:=HROW.out;rwa [HN.out] at this),Below.next HB0.out hW⟩
end
theorem ListI.below {w w':World} {a:Option Addr} {l:List (List Int)} (h:ListI w a l) (hb:Below w.heap.size w w'):ListI w' a l:=fun i hi=>by
 obtain ⟨b,o,xa,xc,e,hlt,hc,hx⟩:=h i hi;exact ⟨b,o,xa,xc,e,Nat.lt_of_lt_of_le hlt hb.size,(hb.cell hlt).trans hc,hx.below hb⟩
theorem countI_snoc (l:List Int) (m x:Int):countI (l ++ [x]) m=countI l m+if m<=x then 1 else 0:=by
 unfold countI;rw [List.filter_append];by_cases h:m<=x <;> simp [h]
theorem oftenI_take (b:Bk) (l:List (List Int)) (p:Prt) {k:Nat} (h:k < l.length):oftenI b (l.take (k+1)) p=oftenI b (l.take k) p ++ [copies b l[k] p]:=by
 unfold oftenI;rw [List.take_succ_eq_append_getElem h,List.map_append];rfl
section
variable {b:Bk} {vr vg vm vs vc:Value} {w:World} {la:Option Addr} {lc n:Nat} {l:List (List Int)}
theorem rTimes_at (hB:BookAt w b vr vg vm vs vc) (hO:BkOk b) (hL:ListI w la l) (hn:n=l.length) (hl:∀ x∈l,x.length=b.ss.length/\Came b x) (hll:l.length<=2000) (p:Prt) (m:Int) {t:Int} (ht:countI (oftenI b l p) m=t) :
 Calls Tryz.prog 83 #[.agg #[vr,vg,vm,vs,vc],.slice la n lc,.agg #[.int .i64 p.1,.int .i64 p.2],.int .i64 m] w fun e w'=>e=.returned (.int .i64 t)/\Below w.heap.size w w':=by
 subst hn;obtain ⟨pm,pg⟩:=p;have HB:=Hh hB;have HO:=Hh hO;have HL:=Hh hL;have HLL:=Hh hl;have HT:=Hh ht;clear hB hO hL hl ht
 go_enter Tryz.func83,Tryz.ntmps83
 go_wp2;obtain ⟨W0,hW0⟩:∃ W0,W0=((w.alloc (.cells #[vr,vg,vm,vs,vc] 26)).alloc (.cells #[.int .i64 pm,.int .i64 pg] 75)):=⟨_,rfl⟩;rw [<- hW0];have hb0:Below w.heap.size w W0:=by rw [hW0];(exact bel)
 have hs0:W0.heap.size=w.heap.size+1+1:=by rw [hW0];simp
 have nn:∀ k u,(#[vr,vg,vm,vs,vc]:Array Value)[k]? = some u->W0.cell? ⟨w.heap.size,k,none⟩=some u:=fun k u hk=>by
  rw [hW0,World.cell?_alloc_past _ _ _ (by simp),World.cell?_alloc_at _ _ _ _ rfl];exact hk
 have pp:∀ k u,(#[.int .i64 pm,.int .i64 pg]:Array Value)[k]? = some u->W0.cell? ⟨w.heap.size+1,k,none⟩=some u:=fun k u hk=>by
  rw [hW0,World.cell?_alloc_at _ _ _ _ (by simp)];exact hk
 have c0:=nn 0 _ rfl;have c1:=nn 1 _ rfl;have c2:=nn 2 _ rfl;have c3:=nn 3 _ rfl;have c4:=nn 4 _ rfl;have p0:=pp 0 _ rfl;have p1:=pp 1 _ rfl;have HB0:=Hh hb0;have hl1:w.heap.size < W0.heap.size:=by omega
 have hl2:w.heap.size+1 < W0.heap.size:=by omega
 clear hW0 nn pp hb0 hs0;go_loopw [9,10] (fun v i wr=>∃ (k:Nat) (s:Int),k<=l.length/\i=.int .i64 k/\v=.int .i64 s/\Hid (s=countI (oftenI b (l.take k) (pm,pg)) m)/\0<=s/\s<=k/\Below W0.heap.size W0 wr) (fun _ i _=>l.length - (intOf i).toNat)
 case atStart=>exact ⟨0,0,Nat.zero_le _,rfl,rfl,(by simp [oftenI,countI]:(0:Int)=_),by omega,by omega,Below.refl _ _⟩
 case round =>
  obtain ⟨k,s,hk,rfl,rfl,HS,hsa,hsb,hW⟩:=hrel;have hWs:=hW.size;by_cases hlt:k < l.length
  ·obtain ⟨lb,lo,xa,xc,rfl,hlb,e0,hx⟩:=HL.out k hlt;have hbr:=Below.next HB0.out hW;have d:=(hbr.cell (p:=⟨lb,lo+k,none⟩) hlb).trans e0;have x0:=(hW.cell (p:=⟨w.heap.size,0,none⟩) hl1).trans c0;have x1:=(hW.cell (p:=⟨w.heap.size,1,none⟩) hl1).trans c1;have x2:=(hW.cell (p:=⟨w.heap.size,2,none⟩) hl1).trans c2;have x3:=(hW.cell (p:=⟨w.heap.size,3,none⟩) hl1).trans c3;have x4:=(hW.cell (p:=⟨w.heap.size,4,none⟩) hl1).trans c4;have y0:=(hW.cell (p:=⟨w.heap.size+1,0,none⟩) hl2).trans p0;have y1:=(hW.cell (p:=⟨w.heap.size+1,1,none⟩) hl2).trans p1;have hlb2:lb < wr.heap.size:=Nat.lt_of_lt_of_le hlb hbr.size;have ha1:w.heap.size < wr.heap.size:=by omega
   have ha2:w.heap.size+1 < wr.heap.size:=by omega
   obtain ⟨q1,q2⟩:=HLL.out _ (List.getElem_mem hlt);have hsn:=oftenI_take b l (pm,pg) hlt;have hcs:countI (oftenI b (l.take (k+1)) (pm,pg)) m=s+if m<=copies b l[k] (pm,pg) then 1 else 0:=by rw [hsn,countI_snoc,HS.out]
   have HBr:=Hh (HB.out.below hbr);have HX:=Hh (hx.below hbr);generalize hct:copies b l[k] (pm,pg)=ct at hcs;have HCT:=Hh hct;clear hsn hct;generalize l[k]=x at d e0 q1 q2 HCT HX hx;have Q1:=Hh q1;have Q2:=Hh q2;have HCS:=Hh hcs;clear hx e0 c0 c1 c2 c3 c4 p0 p1 q1 q2 hcs hbr;by_cases hge:m<=ct
   ·have hg1:decide (m<=ct)=true:=by simp [hge]
    have HG:=Hh hge;clear hge;have hws:IntKind.i64.wrap (s+1)=s+1:=wrapI (by omega) (by omega);go_wp2
    (refine wp_region_bel (by kernel_rfl) (by kernel_rfl) ?_;(repeat (go_big_quiet_step ((go_at_call 103;with_reducible exact Calls.bel_of (rCopies_at (HBr.out.below (later_below _ _)) HO.out (HX.out.below (later_below _ _)) rfl Q1.out Q2.out (pm,pg) HCT.out)))));refine wpQuiet_nil ?_;rintro _ ⟨xq,rfl⟩)
    go_wp2;go_roundw
    case rel=>exact ⟨k+1,s+1,by omega,by go_num,rfl,(by rw [HCS.out,if_pos HG.out]:s+1=_),by omega,by omega,Below.next hW (later_below _ _)⟩
    case measure=>simp [intOf];omega
   ·have hg1:decide (m<=ct)=false:=by simp [hge]
    have HG:=Hh hge;clear hge;go_wp2
    (refine wp_region_bel (by kernel_rfl) (by kernel_rfl) ?_;(repeat (go_big_quiet_step ((go_at_call 103;with_reducible exact Calls.bel_of (rCopies_at (HBr.out.below (later_below _ _)) HO.out (HX.out.below (later_below _ _)) rfl Q1.out Q2.out (pm,pg) HCT.out)))));refine wpQuiet_nil ?_;rintro _ ⟨xq,rfl⟩)
    go_wp2;go_roundw
    case rel=>exact ⟨k+1,s,by omega,by go_num,rfl,(by have hg:=HG.out;rw [HCS.out,if_neg (by omega)];omega:s=_),by omega,by omega,Below.next hW (later_below _ _)⟩
    case measure=>simp [intOf];omega
  ·obtain rfl:k=l.length:=by omega
   have hs:=HS.out;rw [List.take_length,HT.out] at hs;subst hs;go_wp2;go_ret;exact ⟨rfl,Below.next HB0.out hW⟩
def missTo (b:Bk) (l:List (List Int)) (ps:List Prt) (k:Nat):List Prt:=missL b l (ps.take k)
theorem missTo_succ (b:Bk) (l:List (List Int)) (ps:List Prt) {k:Nat} (h:k < ps.length):missTo b l ps (k+1)=missTo b l ps k ++ if isMiss b l ps[k]=true then [ps[k]] else []:=by
 unfold missTo missL;rw [List.take_succ_eq_append_getElem h,List.filter_append];cases hm:isMiss b l ps[k] <;> simp [hm]
theorem rMissingOf_new (hB:BookAt w b vr vg vm vs vc) (hO:BkOk b) (hms:b.ms.length<=20) (hL:ListI w la l) (hn:n=l.length) (hl:∀ x∈l,x.length=b.ss.length/\Came b x) (hll:l.length<=2000) :
 Calls Tryz.prog 52 #[.agg #[vr,vg,vm,vs,vc],.slice la n lc] w fun e w'=>∃ a c,e=.returned (.slice a (missL b l (partsL b)).length c)/\PartsAt w' a (missL b l (partsL b))/\(∀ ad,a=some ad->w.heap.size<=ad.block)/\Below w.heap.size w w':=by
 subst hn;have HB:=Hh hB;have HO:=Hh hO;have HL:=Hh hL;have HLL:=Hh hl;have hpb:=parts_bd hO;obtain ⟨i0,hi,hz0,hz1,hz2⟩:=info_parts partInfo;clear hB hO hL hl
 go_enter Tryz.func52,Tryz.ntmps52
 go_wp2_with (fail);obtain ⟨W0,hW0⟩:∃ W0,W0=(w.alloc (.cells #[vr,vg,vm,vs,vc] 26)):=⟨_,rfl⟩;rw [<- hW0];have hb0:Below w.heap.size w W0:=by rw [hW0];(exact bel)
 have hl0:w.heap.size < W0.heap.size:=by rw [hW0];simp
 have nn:∀ k u,(#[vr,vg,vm,vs,vc]:Array Value)[k]? = some u->W0.cell? ⟨w.heap.size,k,none⟩=some u:=fun k u hk=>by
  rw [hW0,World.cell?_alloc_at _ _ _ _ rfl];exact hk
 have c0:=nn 0 _ rfl;have c1:=nn 1 _ rfl;have c2:=nn 2 _ rfl;have c3:=nn 3 _ rfl;have c4:=nn 4 _ rfl;have HB0:=Hh hb0;clear hW0 nn hb0;go_wp2_with (go_at_call 82;(with_reducible refine (rPartsOf_all (HB.out.below HB0.out) HO.out hms).mono ?_);rintro e w1 ⟨pa,pc,rfl,hp1,hb1⟩);have HP:=Hh hp1;have HB1:=Hh (Below.next HB0.out hb1);have hl1:w.heap.size < w1.heap.size:=Nat.lt_of_lt_of_le hl0 hb1.size;replace c0:=(hb1.cell (p:=⟨w.heap.size,0,none⟩) hl0).trans c0;replace c1:=(hb1.cell (p:=⟨w.heap.size,1,none⟩) hl0).trans c1;replace c2:=(hb1.cell (p:=⟨w.heap.size,2,none⟩) hl0).trans c2;replace c3:=(hb1.cell (p:=⟨w.heap.size,3,none⟩) hl0).trans c3;replace c4:=(hb1.cell (p:=⟨w.heap.size,4,none⟩) hl0).trans c4;clear hp1 hb1 hl0;have hsz1:w.heap.size<=w1.heap.size:=by omega
 go_wp2;generalize hps:partsL b=ps at HP hpb;go_loopw [6,7] (fun v t wr=>∃ (k:Nat) (a:Option Addr) (c n:Nat),k<=ps.length/\t=.int .i64 k/\v=.slice a n c/\Hid (n=(missTo b l ps k).length)/\n<=k/\Hid (wr.ownsRow w1.heap.size 75 2 (.slice a n c) n ((missTo b l ps k).flatMap cellsQ))/\Below w1.heap.size w1 wr) (fun _ t _=>ps.length - (intOf t).toNat)
 case atStart=>exact ⟨0,none,0,0,Nat.zero_le _,rfl,rfl,rfl,Nat.le_refl _,by show World.ownsRow _ _ _ _ _ _ _;simpa [missTo,missL] using World.ownsRow_nil _ _ _ _,Below.refl _ _⟩
 case round =>
  obtain ⟨k,a,c,n,hk,rfl,rfl,HN,hnk,HROW,hW⟩:=hrel;have hWs:=hW.size;by_cases hlt:k < ps.length
  ·obtain ⟨pb,po,rfl,hpb2,e0,e1⟩:=HP.out k hlt;have hbr:=Below.next HB1.out hW;have x0:=(hW.cell (p:=⟨w.heap.size,0,none⟩) hl1).trans c0;have x1:=(hW.cell (p:=⟨w.heap.size,1,none⟩) hl1).trans c1;have x2:=(hW.cell (p:=⟨w.heap.size,2,none⟩) hl1).trans c2;have x3:=(hW.cell (p:=⟨w.heap.size,3,none⟩) hl1).trans c3;have x4:=(hW.cell (p:=⟨w.heap.size,4,none⟩) hl1).trans c4;have d0:=(hW.cell (p:=⟨pb,po+k * 2,none⟩) hpb2).trans e0;have d1:=(hW.cell (p:=⟨pb,po+k * 2+1,none⟩) hpb2).trans e1;have hpr:pb < wr.heap.size:=Nat.lt_of_lt_of_le hpb2 hWs;have ha1:w.heap.size < wr.heap.size:=by omega
   have hsu:=missTo_succ b l ps hlt;have HBr:=Hh (HB.out.below hbr);have HLr:=Hh (HL.out.below hbr);generalize ps[k]=p at d0 d1 e0 e1 hsu;obtain ⟨pm,pg⟩:=p;simp only at d0 d1;obtain ⟨t,ht⟩:∃ t,countI (oftenI b l (pm,pg)) 1=t:=⟨_,rfl⟩;have HT:=Hh ht;have him:isMiss b l (pm,pg)=decide (t < (l.length:Int)):=by rw [<- ht];rfl
   rw [him] at hsu;clear e0 e1 ht him hbr;by_cases hm:t < (l.length:Int)
   ·have hm1:decide (t < (l.length:Int))=true:=by simp [hm]
    rw [hm1,if_pos rfl] at hsu;have HSU:=Hh hsu;clear hsu hm;go_wp2
    (refine wp_region_bel (by kernel_rfl) (by kernel_rfl) ?_;(repeat (go_big_quiet_step ((go_at_call 83;with_reducible exact Calls.bel_of (rTimes_at (HBr.out.below (later_below _ _)) HO.out (HLr.out.below (later_below _ _)) rfl HLL.out hll (pm,pg) 1 HT.out)))));refine wpQuiet_nil ?_;rintro _ ⟨xq,rfl⟩)
    obtain ⟨X,hX⟩:∃ X,later wr xq=X:=⟨_,rfl⟩;have hbX:Below wr.heap.size wr X:=hX ▸ later_below wr xq;rw [hX];have f0:=(hbX.cell (p:=⟨pb,po+k * 2,none⟩) hpr).trans d0;have f1:=(hbX.cell (p:=⟨pb,po+k * 2+1,none⟩) hpr).trans d1;have hpx:pb < X.heap.size:=Nat.lt_of_lt_of_le hpr hbX.size;have HROWX:=Hh (ownsRow_below HROW.out hbX);have hXs:=hbX.size;have HBX:=Hh (Below.next hW hbX);clear hX hbX;go_wp2_with (at_builtin;go_loud (refine wpList_append_own _ rfl _ _ 38 rfl w1.heap.size 75 i0 (.agg #[.int .i64 0,.int .i64 0]) 2 16 Tryz.underlying38 hi hz0 hz1 hz2 rfl (by decide) _ _ _ rfl (HROWX.out.alloc _) ⟨X.heap.size,0,none⟩ 1 1 [.int .i64 pm,.int .i64 pg] rfl rfl (cells_new _ _ _) (by simp [Value.oneCell']) (by unfold maxLen;omega) (by omega) (by simp;omega) ?_;intro v' w5 hown' hgrow _;obtain ⟨g',cap',rfl⟩:=ownsRow_succ hown';have hb5:=below_own (HROWX.out.alloc (.cells #[.int .i64 pm,.int .i64 pg] 75)) hgrow (by simp;omega)));have hb6:Below w1.heap.size w1 w5:=(HBX.out.alloc (by omega) _).trans hb5;have HOW:=Hh hown';have HB6:=Hh hb6;clear hb5 hb6 hown' hgrow;go_roundw
    case rel=>exact ⟨k+1,some ⟨g',0,none⟩,cap',n+1,by omega,by go_num,rfl,(by show n+1=_;rw [HSU.out,List.length_append,<- HN.out];rfl),by omega,(by rw [HSU.out,List.flatMap_append];exact HOW),HB6.out⟩
    case measure=>simp [intOf];omega
   ·have hm1:decide (t < (l.length:Int))=false:=by simp [hm]
    rw [hm1,if_neg (by simp)] at hsu;have HSU:=Hh hsu;clear hsu hm;go_wp2
    (refine wp_region_bel (by kernel_rfl) (by kernel_rfl) ?_;(repeat (go_big_quiet_step ((go_at_call 83;with_reducible exact Calls.bel_of (rTimes_at (HBr.out.below (later_below _ _)) HO.out (HLr.out.below (later_below _ _)) rfl HLL.out hll (pm,pg) 1 HT.out)))));refine wpQuiet_nil ?_;rintro _ ⟨xq,rfl⟩)
    go_wp2;go_roundw
    case rel=>exact ⟨k+1,a,c,n,by omega,by go_num,rfl,(by show n=_;rw [HSU.out,List.append_nil];exact HN.out),by omega,(by rw [HSU.out,List.append_nil];exact Hh (ownsRow_below HROW.out (later_below _ _))),Below.next hW (later_below _ _)⟩
    case measure=>simp [intOf];omega
  ·obtain rfl:k=ps.length:=by omega
   have e:missTo b l ps ps.length=missL b l (partsL b):=by rw [hps];unfold missTo;rw [List.take_length]
   have hn2:=HN.out;have hrow2:=HROW.out;rw [e] at hn2 hrow2;have HN2:=Hh hn2;have HR2:=Hh hrow2;clear hn2 hrow2 HROW HN e;go_wp2;go_ret;exact ⟨a,c,by rw [HN2.out];rfl,parts_of_row (by have:=HR2.out;rwa [HN2.out] at this),fun ad h=>Nat.le_trans (by omega) (ownBlock_row HR2.out ad.block (by rw [h];rfl)).1,Below.next HB1.out hW⟩
end
end
section
open Go.RowKit Sp
end
section
open Go.RowKit Go.Maps Sp
theorem intsV_parts {w:World} {a:Option Addr} {n c:Nat} {l:List Int} (h:IntsV w (.slice a n c) l):n=l.length/\IntsAt w a l/\(a=none->c=0)/\l.length<=c:=by
 obtain ⟨a',c',e,h1,h2,h3⟩:=h.form;cases e;exact ⟨rfl,h1,h2,h3⟩
def NumsV (w:World) (l:List Int) (e:Ending) (w':World):Prop:=∃ a c,e=.returned (.slice a l.length c)/\IntsV w' (.slice a l.length c) l/\Below w.heap.size w w'
theorem made_zero (n:Nat):(madeCells (Value.int .i64 0).cells (n * 1)).toList=(List.replicate n (0:Int)).map (Value.int .i64):=by
 unfold madeCells;rw [Array.toList_map,Array.toList_range,Nat.mul_one];apply List.ext_getElem
 ·simp
 ·intro i h1 h2;simp [Value.cells,Nat.mod_one]
def noughts (n:Nat):Array Value:=((List.replicate n (0:Int)).map (Value.int .i64)).toArray
theorem make_ints {n:Nat} (hn:n<=1000) (w:World):(Instr.makeSlice 27 (.int .i64 (n:Int)) (.int .i64 (n:Int))).run Tryz.prog w=.ok (.slice (some ⟨w.heap.size,0,none⟩) n n) (w.alloc (.cells (noughts n) 3)):=by
 obtain ⟨i0,hi,hz,hsz,hb⟩:=info_parts intInfo;have h:=run_makeSlice (P:=Tryz.prog) w 27 3 i0 (.int .i64 0) Tryz.underlying27 hi hz .i64 .i64 n n (by omega) (Int.le_refl _) (by rw [hsz];simp;omega) (by rw [hb];omega) (by omega);rw [hsz] at h;simp only [Int.toNat_natCast] at h;have e:madeCells (Value.int .i64 0).cells (n * 1)=noughts n:=by
  unfold noughts;rw [<- made_zero]
 rw [e] at h;exact h
theorem made_row {n:Nat} (hn:n<=1000) {w:World}:(w.alloc (.cells (noughts n) 3)).ownsRow w.heap.size 3 1 (.slice (some ⟨w.heap.size,0,none⟩) n n) n ((List.replicate n (0:Int)).map (Value.int .i64)):=by
 have h:=World.ownsRow_lit (base:=w.heap.size) (e:=3) (size:=1) w (noughts n) n (Nat.le_refl _) (by unfold maxLen;omega) (by simp [noughts]);simpa [noughts] using h
section
variable {b:Bk} {vr vg vm vs vc:Value} {w:World} {la:Option Addr} {lc n:Nat}
theorem rLoads_at (hB:BookAt w b vr vg vm vs vc) (hk:bookAl b=0) {L:List (List Int)} (hLp:L=pasts b) (hL:ListI w la L) (hn:n=L.length) :
 Calls Tryz.prog 40 #[.agg #[vr,vg,vm,vs,vc],.slice la n lc] w (NumsV w (loadsI b)):=by
 subst hn;have hO:=(bookAl_ok hk).1;have hml:=hO.ml;have HB:=Hh hB;have HO:=Hh hO;have HL:=Hh hL;have HPA:=Hh (show ∀ x∈L,x.length=b.ss.length/\Came b x by rw [hLp];exact fun x hx=>⟨past_len hx,past_came hx⟩);have hle:L.length<=2000:=by rw [hLp];have:=pasts_le hO;omega
 have HMI:=Hh (show missL b L (partsL b)=missI b by rw [hLp];rfl);have HIP:=Hh (show ∀ p∈missI b,0<=p.1/\p.1 < (b.ms.length:Int) from fun p hp=>by have:=missI_isPart hp;unfold isPart inB at this;simp at this;omega);have hmb:=missI_bd hk;have HMS:=Hh (fun W=>make_ints (n:=b.ms.length) (by omega) W);have hms:=HMS.out;obtain ⟨rfl,rfl,⟨ma,mc,rfl,_,_⟩,⟨sa,sc,rfl,_,_⟩,ra,rc,rfl,_,_⟩:=id hB;clear hB hO hL hLp hk
 go_enter Tryz.func40,Tryz.ntmps40
 go_wp2_with (go_at_call 52;(with_reducible refine (rMissingOf_new (HB.out.below (bel)) HO.out (by omega) (HL.out.below (bel)) rfl HPA.out hle).mono ?_);rintro e w1 ⟨pa,pc,rfl,hp1,hnew,hb1⟩);rw [HMI.out] at hp1 ⊢;have hrow1:w1.ownsRow w.heap.size 3 1 (.slice (some ⟨w.heap.size+1,0,none⟩) b.ms.length b.ms.length) b.ms.length ((List.replicate b.ms.length (0:Int)).map (Value.int .i64)):=by
  have h:=made_row (n:=b.ms.length) (w:=w.alloc (.cells #[.int .i64 b.room,.int .i64 b.gap,.slice ma b.ms.length mc,.slice sa b.ss.length sc,.slice ra b.rs.length rc] 26)) (by omega);simp only [World.size_alloc] at h;exact ownsRow_below (h.mono (by omega)) hb1
 have hs1:w.heap.size+1 < w1.heap.size:=by have:=hb1.size;simp at this;omega
 have hbw:Below w.heap.size w w1:=bel;have HNW:=Hh (show ∀ ad,pa=some ad->w.heap.size+2<=ad.block from fun ad e=>by have:=hnew ad e;simp at this;omega);have HP:=Hh hp1;have HROW1:=Hh hrow1;have HBW:=Hh hbw;clear hp1 hnew hb1 hrow1 hbw HL HPA HMI HMS hms HB HO;have HLI:=Hh (show loadsOf b.ms.length (missI b)=loadsI b from rfl);generalize missI b=l at HP HIP hmb HLI ⊢;generalize b.ms.length=n at *;go_loopw [7] (fun i wr=>∃ k:Nat,k<=l.length/\i=.int .i64 k/\wr.ownsRow w.heap.size 3 1 (.slice (some ⟨w.heap.size+1,0,none⟩) n n) n ((loadsOf n (l.take k)).map (Value.int .i64))/\KS (fun i=>i≠w.heap.size+1) w1 wr) (fun i _=>l.length - (intOf i).toNat)
 case atStart=>exact ⟨0,Nat.zero_le _,rfl,by rw [List.take_zero,loadsOf_nil];exact HROW1.out,KS.refl _ _⟩
 case round =>
  obtain ⟨k,hk,rfl,hrow,hW⟩:=hrel;have hWs:=hW.size;by_cases hlt:k < l.length
  ·obtain ⟨pb,po,rfl,hpb,e0,_⟩:=HP.out k hlt;have hpn:=HNW.out _ rfl;simp only at hpn;have d0:=(hW.cell (x:=⟨pb,po+k * 2,none⟩) hpb (by show pb≠_;omega)).trans e0;have hpr:pb < wr.heap.size:=Nat.lt_of_lt_of_le hpb hWs;obtain ⟨hx0,hx1⟩:=HIP.out _ (List.getElem_mem hlt);have hts:=List.take_succ_eq_append_getElem hlt;generalize l[k]=p at d0 hx0 hx1 hts e0;obtain ⟨pm,pg⟩:=p;simp only at d0 hx0 hx1;obtain ⟨q,rfl⟩:∃ q:Nat,pm=q:=⟨pm.toNat,by omega⟩;have hqn:q < n:=by omega
   have hql:q < (loadsOf n (l.take k)).length:=by rw [loadsOf_length];exact hqn
   have hsn:=loadsOf_snoc n (l.take k) ((q:Int),pg) rfl hqn;rw [<- hts] at hsn;have hxb:0<=(loadsOf n (l.take k))[q]/\(loadsOf n (l.take k))[q]<=20:=by
    rw [loadsOf_at];have:=List.countP_le_length (p:=fun p:Prt=>decide (p.1=(q:Int))) (l:=l.take k);rw [List.length_take] at this;omega
   obtain ⟨g,eg,_,hg2,hcq⟩:=row_cell hrow q (by rw [List.length_map];exact hql);cases eg;rw [List.getElem?_map,List.getElem?_eq_getElem hql] at hcq;simp only [Option.map_some] at hcq;have hfz:=hrow.frozenAt q;generalize hv:(loadsOf n (l.take k))[q]=v at hcq hxb hsn;have hwv:IntKind.i64.wrap (v+1)=v+1:=wrapI (by omega) (by omega);have hrow2:=ownsRow_put hrow (k:=q) (Value.int .i64 (v+1));rw [<- List.map_set,<- hsn] at hrow2;have HR2:=Hh hrow2;have HW:=Hh hW;clear e0 hts hsn hrow hrow2 hW hv;go_wp2;go_roundw
   case rel=>exact ⟨k+1,by omega,by go_num,HR2.out,HW.out.trans (KS.setCell (by simp) _ _)⟩
   case measure=>simp [intOf];omega
  ·obtain rfl:k=l.length:=by omega
   rw [List.take_length] at hrow;have hbX:Below w.heap.size w wr:=HBW.out.trans (hW.toBelow (n:=w.heap.size) (by omega) (fun i hi=>by show i≠_;omega));have HR:=Hh hrow;clear hrow hW;go_wp2;go_ret;refine ⟨some ⟨w.heap.size+1,0,none⟩,n,?_,?_,hbX⟩
   ·rw [<- HLI.out,loadsOf_length];rfl
   ·rw [<- HLI.out,loadsOf_length];exact IntsV.of HR.out
end
end
end Go.Proofs.YtgagoahfdnnpkaaGreatDoor
