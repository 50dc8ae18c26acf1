/- Leads to StoreReal of chapter 6: G9 Ord D0 D1. -/
import Derived.Test.YtjdmplhdebgbjaaGreatDoorJ39
set_option maxHeartbeats 2000000
set_option maxRecDepth 100000
set_option linter.all false
namespace Go.Proofs.YtjdmplhdebgbjaaGreatDoor
open Go.RowKit Sp
theorem groups_pos {b:Bk} (h:bookAl b=0):∀ m∈b.ms,1<=m.groups/\m.groups<=4:=by
 obtain ⟨_,h1,_,_⟩:=bookAl_parts h;unfold msgsAl at h1;split at h1
 ·cases h1
 ·have:∀ (l:List Msg) (seen:List (List UInt8)),goM seen l=0->∀ m∈l,1<=m.groups/\m.groups<=4:=by
   intro l
   induction l with
   | nil=>intro _ _ m hm;cases hm
   | cons x l ih =>
    intro seen hg m hm;unfold goM at hg;split at hg
    ·cases hg
    ·split at hg
     ·cases hg
     ·split at hg
      ·cases hg
      ·rename_i hx
       rcases List.mem_cons.1 hm with rfl | hm
       ·simp only [not_or,Bool.not_eq_false,inB,decide_eq_true_eq] at hx;omega
       ·exact ih _ hg m hm
  exact this _ _ h1
theorem past_hist {b:Bk} (h:bookAl b=0) {x:List Int} (hx:x∈pasts b):isHistAl b x=0/\isHist b x=true:=by
 obtain ⟨h1,h2,h3⟩:=mem_pasts.1 hx;have h0:isHistAl b x=0:=by unfold isHistAl;rw [if_neg (by simp [h]),if_neg (by simp [h1])]
 refine ⟨h0,?_⟩;unfold isHist inRange;rw [h0,h3];simp only [decide_true,Bool.true_and,Bool.and_true,List.all_eq_true,List.mem_range];intro i hi;obtain ⟨k1,k2,k3⟩:=h2 i hi;simp only [List.getD_eq_getElem?_getD,List.getElem?_eq_getElem hi,Option.getD_some,List.getElem?_eq_getElem k2,Option.elim];simp [inB];omega
theorem past_len {b:Bk} {x:List Int} (hx:x∈pasts b):x.length=b.ss.length:=(mem_pasts.1 hx).1
theorem past_came {b:Bk} {x:List Int} (hx:x∈pasts b):Came b x:=by
 obtain ⟨h1,h2,_⟩:=mem_pasts.1 hx;intro i hi;obtain ⟨k1,k2,k3⟩:=h2 i (by omega);simp only [List.getD_eq_getElem?_getD,List.getElem?_eq_getElem (show i < x.length by omega),Option.getD_some];exact ⟨k1,k3⟩
theorem thr_is {b:Bk} {s:Int} (h:throughAl b s=0):thr b s=throughI b s:=by
 unfold thr;rw [if_pos h,through_same h]
theorem thr_mem {b:Bk} {s:Int} (h:throughAl b s=0) (v:Int):v∈thr b s↔v∈(pasts b).map fun x=>x.getD s.toNat 0:=by
 rw [thr_is h];unfold throughI;rw [mem_compact (sortI_sorted _)];unfold sortI;rw [List.mem_mergeSort]
theorem copies_nn (b:Bk) (x:List Int) (p:Prt):0<=copies b x p:=by unfold copies;exact Int.natCast_nonneg _
theorem mem_miss {b:Bk} {p:Prt}:p∈missI b↔p∈partsL b/\∃ x∈pasts b,copies b x p=0:=by
 unfold missI missL;rw [List.mem_filter];refine and_congr_right fun _=>?_;unfold isMiss;rw [decide_eq_true_iff];have hle:countI (oftenI b (pasts b) p) 1<=((pasts b).length:Int):=by
  have:=List.length_filter_le (fun k=>decide ((1:Int)<=k)) (oftenI b (pasts b) p);rw [often_len] at this;unfold countI;omega
 have h:=count_all (oftenI b (pasts b) p);rw [often_len] at h;constructor
 ·intro hlt;refine Classical.byContradiction fun hc=>?_;have:=h.2 fun y hy=>by
   obtain ⟨x,hx,rfl⟩:=List.mem_map.1 hy;have h0:=copies_nn b x p;have h1:copies b x p≠0:=fun e=>hc ⟨x,hx,e⟩;omega
  omega
 ·rintro ⟨x,hx,e⟩;have:countI (oftenI b (pasts b) p) 1≠((pasts b).length:Int):=fun e2=>by
   have:=h.1 e2 _ (List.mem_map.2 ⟨x,hx,rfl⟩);omega
  omega
def wholeK (b:Bk) (m k:Nat):Nat:=((pasts b).take k).countP fun x=>decide (haveOf b x m=(b.ms[m]?).elim 0 Msg.groups)
theorem wholeK_all (b:Bk) (m:Nat):(wholeK b m (pasts b).length:Int)=wholeI b (pasts b) m:=by
 unfold wholeK wholeI;rw [List.take_length];congr 1;refine List.countP_congr fun x hx=>?_;unfold isWhole;have e:haveOf b (pad x) m=haveOf b x m:=by
  unfold haveOf;simp only [copies_pad (past_len hx)]
 rw [e]
theorem delivered_at2 {b:Bk} {m:Nat} (h:m < (deliveredI b).length):(deliveredI b)[m]=sayI (wholeI b (pasts b) m) ((pasts b).length:Int):=by
 have e:∀ (f:Nat->Int) (n m:Nat) (h:m < ((List.range n).map f).length),((List.range n).map f)[m]=f m:=fun f n m h=>by simp
 exact e _ _ _ h
end Go.Proofs.YtjdmplhdebgbjaaGreatDoor
namespace Go.Proofs.YtjdmplhdebgbjaaGreatDoor
open Go
section
variable {P:Program} {md:Region.Mode} {ops:Array Oper} {Q:Exit->Act->World->Prop} {S T:World->Prop} {d:Nat}
def wpAnyD (P:Program) (md:Region.Mode) (ops:Array Oper) (Q:Exit->Act->World->Prop) (S T:World->Prop) (d:Nat):Nat->Array Bool->Act->World->Prop
 | 0,listed,a,w=>Region.ready md ops listed=[]/\Q .normal a w
 | fuel+1,listed,a,w =>
  (Region.ready md ops listed=[]->Q .normal a w) /\
  ∀ i∈Region.ready md ops listed,wpOp P ops Q i (fun a' w'=>(S w'/\((listed.setIfInBounds i true).getD d true=false->T w'))/\wpAnyD P md ops Q S T d fuel (listed.setIfInBounds i true) a' w') a w
theorem wpAny_of_D:∀ (fuel:Nat) (listed:Array Bool) (a:Act) (w:World),wpAnyD P md ops Q S T d fuel listed a w->wpAny P md ops Q fuel listed a w
 | 0,_,_,_,h=>h
 | fuel+1,_,_,_,h=>⟨h.1,fun i hi=>wpOp_mono (fun a' w' h'=>wpAny_of_D fuel _ a' w' h'.2) (h.2 i hi)⟩
def Down (md:Region.Mode) (ops:Array Oper) (listed:Array Bool):Prop:=∀ (k:Nat) (ok:Oper),ops[k]? = some ok->listed.getD k false=true->∀ e∈ok.after,Region.binds md e=true->listed.getD e.on false=true
def downB (md:Region.Mode) (ops:Array Oper) (listed:Array Bool):Bool:=(List.range ops.size).all fun k=>match ops[k]? with
 | some ok=>!(listed.getD k false) || ok.after.all fun e=>!(Region.binds md e) || listed.getD e.on false
 | none=>true
theorem downB_spec {listed:Array Bool} (h:downB md ops listed=true):Down md ops listed:=fun k ok hk hl e he hb=>by
 unfold downB at h;rw [List.all_eq_true] at h;have hlt:k < ops.size:=(Array.getElem?_eq_some_iff.1 hk).1;have h2:=h k (List.mem_range.2 hlt);rw [hk] at h2;simp only [hl,Bool.not_true,Bool.false_or] at h2;rw [Array.all_eq_true'] at h2;have h3:=h2 e he;rw [hb] at h3;simpa using h3
theorem Down.set {listed:Array Bool} (h:Down md ops listed) {j:Nat} (hj:j∈Region.ready md ops listed):Down md ops (listed.setIfInBounds j true):=fun k ok hk hl e he hb=>by
 by_cases hjk:j=k
 ·subst hjk;obtain ⟨_,oj,hoj,hall⟩:=mem_ready.1 hj;rw [hoj] at hk;cases hk;exact getD_set_true (hall e he hb)
 ·rw [getD_set_ne false hjk] at hl;exact getD_set_true (h k ok hk hl e he hb)
theorem getD_two {listed:Array Bool} {i:Nat} (h:listed.getD i true=false):listed.getD i false=false:=by
 rcases Nat.lt_or_ge i listed.size with h' | h'
 ·simp [h'] at h ⊢;exact h
 ·simp [Array.getElem?_eq_none h'] at h
theorem wpAnyD_first {i:Nat} {oi:Oper} {v:Value} (hi:ops[i]? = some oi) (hsel:∀ (j:Nat) (o:Oper) cs b,ops[j]? = some o->o.op≠.select cs b)
 (hQ:∀ c a w,Q (.panic c) (a.put oi.dst v) w->Q (.panic c) a w) (hid:i≠d) (hdw:∀ L,Down md ops L->d∈Region.ready md ops L->L.getD i false=true) :
 ∀ (fuel:Nat) (listed:Array Bool) (a:Act) (w:World),Down md ops listed ->
  (∀ j oj,ops[j]? = some oj->j≠i->listed.getD j true=false->(∀ e∈oj.after,Region.binds md e=true->e.on≠i)->oi.apart ops oj=true) ->
  i∈Region.ready md ops listed->listed.getD d true=false->YieldsIf P ops (fun w=>S w/\T w) oi v a->S w->T w ->
  wpAnyD P md ops Q S T d fuel (listed.setIfInBounds i true) (a.put oi.dst v) w->wpAnyD P md ops Q S T d (fuel+1) listed a w:=by
 intro fuel
 induction fuel with
 | zero =>
  intro listed a w _ _ hr hld hy hS hT H;refine ⟨fun h=>(by rw [h] at hr;cases hr),fun j hj=>?_⟩;by_cases hji:j=i
  ·subst hji;exact hy.wpOp hi ⟨hS,hT⟩ ⟨⟨hS,fun _=>hT⟩,H⟩
  ·have:=ready_mono hj hji;rw [H.1] at this;cases this
 | succ fuel ih =>
  intro listed a w hdc hfree hr hld hy hS hT H;refine ⟨fun h=>(by rw [h] at hr;cases hr),fun j hj=>?_⟩;by_cases hji:j=i
  ·subst hji;exact hy.wpOp hi ⟨hS,hT⟩ ⟨⟨hS,fun _=>hT⟩,H⟩
  ·have h1:=H.2 j (ready_mono hj hji);obtain ⟨hjun,oj,hoj,hall⟩:=mem_ready.1 hj;have hnot:∀ e∈oj.after,Region.binds md e=true->e.on≠i:=fun e he hb heq=>by
    have h1:=hall e he hb;have h0:=(mem_ready.1 hr).1;rw [heq] at h1;rcases Nat.lt_or_ge i listed.size with h' | h'
    ·simp [h'] at h0 h1;rw [h0] at h1;cases h1
    ·simp [Array.getElem?_eq_none h'] at h1
   have hjd:j≠d:=fun e=>by
    subst e;have h1:=hdw listed hdc hj;rw [getD_two (mem_ready.1 hr).1] at h1;cases h1
   have h2:=wpOp_putIf hoj (hfree j oj hoj hji hjun hnot) (fun cs b=>hsel i oi cs b hi) (fun cs b=>hsel j oj cs b hoj) hQ hy h1;have hfree':∀ k ok,ops[k]? = some ok->k≠i->(listed.setIfInBounds j true).getD k true=false ->
    (∀ e∈ok.after,Region.binds md e=true->e.on≠i)->oi.apart ops ok=true:=fun k ok hk hki hun hno=>by
    refine hfree k ok hk hki ?_ hno;by_cases hjk:j=k
    ·subst hjk;exact hjun
    ·rw [getD_set_ne true hjk] at hun;exact hun
   have hld2:(listed.setIfInBounds j true).getD d true=false:=by rw [getD_set_ne true hjd];exact hld
   refine wpOp_mono (fun a' w' h3=>?_) h2;have hT':=h3.2.1.2 (by rw [getD_set_ne true hjd,getD_set_ne true hid];exact hld);refine ⟨⟨h3.2.1.1,fun _=>hT'⟩,ih (listed.setIfInBounds j true) a' w' (hdc.set hj) hfree' (ready_mono hr (Ne.symm hji)) hld2 h3.1 h3.2.1.1 hT' ?_⟩;rw [Array.setIfInBounds_comm _ _ hji];exact h3.2.2
def waits1 (md:Region.Mode) (ops:Array Oper) (d i:Nat):Bool:=match ops[d]? with
 | some od=>od.after.any fun e=>Region.binds md e && e.on == i
 | none=>true
def waits (md:Region.Mode) (ops:Array Oper) (d i:Nat):Bool:=i != d && (waits1 md ops d i || (List.range ops.size).any fun k=>waits1 md ops d k && waits1 md ops k i)
theorem waits1_ready {L:Array Bool} {d i:Nat} (h:waits1 md ops d i=true) (hr:d∈Region.ready md ops L):L.getD i false=true:=by
 obtain ⟨_,od,hod,hall⟩:=mem_ready.1 hr;unfold waits1 at h;rw [hod] at h;simp only [Array.any_eq_true'] at h;obtain ⟨e,he,h3⟩:=h;simp only [Bool.and_eq_true,beq_iff_eq] at h3;rw [← h3.2];exact hall e he h3.1
theorem waits_ready {L:Array Bool} {d i:Nat} (h:waits md ops d i=true) (hL:Down md ops L) (hr:d∈Region.ready md ops L):L.getD i false=true:=by
 unfold waits at h;rw [Bool.and_eq_true,Bool.or_eq_true] at h;rcases h.2 with h | h
 ·exact waits1_ready h hr
 ·rw [List.any_eq_true] at h;obtain ⟨k,hk,h⟩:=h;rw [Bool.and_eq_true] at h;have hkl:=waits1_ready h.1 hr;have hlt:=List.mem_range.1 hk;have h2:=h.2;unfold waits1 at h2;rw [Array.getElem?_eq_getElem hlt] at h2;simp only [Array.any_eq_true'] at h2;obtain ⟨e,he,h3⟩:=h2;simp only [Bool.and_eq_true,beq_iff_eq] at h3;rw [← h3.2];exact hL k _ (Array.getElem?_eq_getElem hlt) hkl e he h3.1
theorem wpAnyD_take {i:Nat} {oi:Oper} {v:Value} {fuel:Nat} {listed:Array Bool} {a:Act} {w:World} (hi:ops[i]? = some oi)
 (hc:(Region.noSelect ops && Region.free md ops listed i && (Region.ready md ops listed).contains i && waits md ops d i && !(listed.getD d true) && downB md ops listed)=true)
 (hQ:∀ c a w,Q (.panic c) (a.put oi.dst v) w->Q (.panic c) a w) (hy:YieldsIf P ops (fun w=>S w/\T w) oi v a) (hS:S w) (hT:T w)
 (h:wpAnyD P md ops Q S T d fuel (listed.setIfInBounds i true) (a.put oi.dst v) w):wpAnyD P md ops Q S T d (fuel+1) listed a w:=by
 simp only [Bool.and_eq_true] at hc;obtain ⟨⟨⟨⟨⟨hs,hf⟩,hr⟩,hw⟩,hld⟩,hdn⟩:=hc;have hid:i≠d:=by
  unfold waits at hw;rw [Bool.and_eq_true,bne_iff_ne] at hw;exact hw.1
 exact wpAnyD_first hi (Region.noSelect_spec hs) hQ hid (fun L hL hr=>waits_ready hw hL hr) fuel listed a w (downB_spec hdn) (Region.free_spec hi hf) (by simpa using hr) (by simpa using hld) hy hS hT h
theorem wpAnyD_done {listed:Array Bool} {a:Act} {w:World} (hr:Region.ready md ops listed=[]) (h:Q .normal a w):∀ fuel,wpAnyD P md ops Q S T d fuel listed a w
 | 0=>⟨hr,h⟩
 | _+1=>⟨fun _=>h,by rw [hr];simp⟩
def AllReadyD (P:Program) (md:Region.Mode) (ops:Array Oper) (Q:Exit->Act->World->Prop) (S T:World->Prop) (d:Nat) (fuel:Nat) (listed:Array Bool) (a:Act) (w:World) (rs:List Nat):Prop :=
 ∀ i∈rs,wpOp P ops Q i (fun a' w'=>(S w'/\((listed.setIfInBounds i true).getD d true=false->T w'))/\wpAnyD P md ops Q S T d fuel (listed.setIfInBounds i true) a' w') a w
theorem AllReadyD.nil {fuel:Nat} {listed:Array Bool} {a:Act} {w:World}:AllReadyD P md ops Q S T d fuel listed a w []:=fun _ h=>by cases h
theorem AllReadyD.pre {fuel:Nat} {listed:Array Bool} {a:Act} {w:World} (i:Nat) {o:Oper} {rs:List Nat} (ho:ops[i]? = some o)
 (h:∀ K':Act->World->Prop,Shut (∀ a w,S w->T w->(S w->T w->wpAnyD P md ops Q S T d fuel (listed.setIfInBounds i true) a w)->K' a w)->if Region.wanted o (yielded ops a.tmps)=true then Oper.wp P o a w K' Q else K' (a.put o.dst undef) w)
 (hs:AllReadyD P md ops Q S T d fuel listed a w rs):AllReadyD P md ops Q S T d fuel listed a w (i::rs):=fun j hj=>by
 rcases List.mem_cons.1 hj with rfl | hj
 ·exact wpOp_step ho (fun K' hK=>h K' (fun a w hS hT hW=>hK a w ⟨⟨hS,fun _=>hT⟩,hW hS hT⟩))
 ·exact hs j hj
theorem AllReadyD.post {fuel:Nat} {listed:Array Bool} {a:Act} {w:World} (i:Nat) {o:Oper} {rs:List Nat} (ho:ops[i]? = some o) (hd:(listed.setIfInBounds i true).getD d true=true)
 (h:∀ K':Act->World->Prop,Shut (∀ a w,S w->(S w->wpAnyD P md ops Q S T d fuel (listed.setIfInBounds i true) a w)->K' a w)->if Region.wanted o (yielded ops a.tmps)=true then Oper.wp P o a w K' Q else K' (a.put o.dst undef) w)
 (hs:AllReadyD P md ops Q S T d fuel listed a w rs):AllReadyD P md ops Q S T d fuel listed a w (i::rs):=fun j hj=>by
 rcases List.mem_cons.1 hj with rfl | hj
 ·exact wpOp_step ho (fun K' hK=>h K' (fun a w hS hW=>hK a w ⟨⟨hS,fun hf=>by rw [hd] at hf;cases hf⟩,hW hS⟩))
 ·exact hs j hj
theorem wpAnyD_ready (rs:List Nat) {fuel:Nat} {listed:Array Bool} {a:Act} {w:World} (hr:Region.ready md ops listed=rs) (hne:rs≠[])
 (h:AllReadyD P md ops Q S T d fuel listed a w rs):wpAnyD P md ops Q S T d (fuel+1) listed a w:=⟨fun h0=>absurd (hr ▸ h0) hne,hr ▸ h⟩
end
section
variable {P:Program} {md:Region.Mode} {ops:Array Oper} {Q:Exit->Act->World->Prop} {l:Nat}
def noDefer (ops:Array Oper):Bool:=ops.all fun o=>match o.op with
 | .defer _=>false
 | _=>true
theorem noDefer_at (h:noDefer ops=true) {i:Nat} {o:Oper} (ho:ops[i]? = some o):∀ c,o.op≠.defer c:=fun c hc=>by
 unfold noDefer at h;rw [Array.all_eq_true'] at h;have:=h o (Array.mem_of_getElem? ho);rw [hc] at this;cases this
theorem rows_round {row:String} {args:Array Value} {w:World} {R:Value->World->Prop} (h:Rows P row args w R):RowsIn (Fence.wide.inRound l) 0 P row args w R:=fun c cs _ =>
 let ⟨v,w',r,s⟩:=h c cs
 ⟨v,w',r,stepsIn_wide.2 s⟩
theorem wpOpIn_of {i:Nat} {K:Act->World->Prop} {a:Act} {w:World} (hn:noDefer ops=true) (hL:¬ LetsOut Q) (h:wpOp P ops Q i K a w):wpOpIn (Fence.wide.inRound l) 0 P ops Q i K a w:=by
 unfold wpOp at h;unfold wpOpIn
 cases ho:ops[i]? with
 | none=>rw [ho] at h;exact h
 | some o =>
  rw [ho] at h;simp only at h ⊢;split
  ·rename_i hw
   rw [if_pos hw] at h;rcases h with h | ⟨_,h⟩
   ·refine ⟨fun f _=>trivial,?_⟩;have hs:o.semAt (Fence.wide.inRound l).round a.eval=execOp a.eval o:=Oper.semAt_some l _ _ (noDefer_at hn ho);rw [hs];unfold Oper.wp at h;generalize (execOp a.eval o).run P w=r at h
    cases r with
    | ok x w' =>
     have hdp:(Fence.wide.inRound l).depth.isSome=true->1<=0:=fun hh=>by simp [Fence.inRound,Fence.wide] at hh
     cases x <;> simp only [Oper.upon,Oper.uponIn] at h ⊢ <;> first
      | exact h
      | exact ⟨hdp,(callsIn_wide (n:=0)).2 h⟩
      | exact ⟨hdp,rows_round h⟩
    | halt x w'=>cases x <;> simp only [Oper.upon,Oper.uponIn] at h ⊢ <;> exact h
   ·exact absurd h hL
  ·rename_i hw
   rw [if_neg hw] at h;exact ⟨fun f _=>trivial,h⟩
theorem wpAnyIn_of (hn:noDefer ops=true) (hL:¬ LetsOut Q):∀ (fuel:Nat) (listed:Array Bool) (a:Act) (w:World),wpAny P md ops Q fuel listed a w->wpAnyIn (Fence.wide.inRound l) 0 P md ops Q fuel listed a w
 | 0,_,_,_,h=>h
 | fuel+1,_,_,_,h=>⟨h.1,fun i hi=>wpOpIn_mono (fun a' w' h'=>wpAnyIn_of hn hL fuel _ a' w' h') (wpOpIn_of hn hL (h.2 i hi))⟩
theorem wpIn_region_D (S T:World->Prop) (d:Nat) {id:Nat} {a:Act} {w:World} (hm:P.follows .mixedOrders=true) (hn:noDefer ops=true) (hL:¬ LetsOut Q) (hS:S w.drew) (hT:T w.drew)
 (h:S w.drew->T w.drew->wpAnyD P .any ops Q S T d ops.size (Array.replicate ops.size false) a w.drew):(Code.region id ops true).wpIn (Fence.wide.inRound l) 0 P Q a w :=
 wpIn_region_any hm (wpAnyIn_of hn hL _ _ _ _ (wpAny_of_D _ _ _ _ (h hS hT)))
end
end Go.Proofs.YtjdmplhdebgbjaaGreatDoor
namespace Go.Proofs.YtjdmplhdebgbjaaGreatDoor
open Go.RowKit Go.Maps Sp
structure Two (A:World) (B Bx:Nat) (e:TypeId) (r2:Value) (n2:Nat) (x2:List Value) (r3:Value) (n3:Nat) (x3:List Value) (w:World):Prop where
 ks:KS (fun k=>k < B∨k=Bx) A w
 base:B<=w.heap.size
 o2:w.ownsRow B e 2 r2 n2 x2
 o3:w.ownsRow B e 2 r3 n3 x3
 ap:∀ g,r2.ownBlock=some g->r3.ownBlock≠some g
 b2:∀ g,r2.ownBlock=some g->g≠Bx
 b3:∀ g,r3.ownBlock=some g->g≠Bx
 box:Bx < w.heap.size
structure Lit (B:Nat) (r2 r3:Value) (cs:List Value) (g:Nat) (w:World):Prop where
 lt:g < w.heap.size
 src:∀ j u,cs[j]? = some u->w.cell? (Addr.add ⟨g,0,none⟩ j)=some u
 a2:r2.ownBlock≠some g
 a3:r3.ownBlock≠some g
section
variable {A w w':World} {B Bx n2 n3 m:Nat} {e:TypeId} {r2 r3 v:Value} {x2 x3 xs cs:List Value} {g h:Nat}
theorem Two.lit (t:Two A B Bx e r2 n2 x2 r3 n3 x3 w) (ty:TypeId):Two A B Bx e r2 n2 x2 r3 n3 x3 (w.alloc (.cells cs.toArray ty))/\Lit B r2 r3 cs w.heap.size (w.alloc (.cells cs.toArray ty)):=by
 have hk:KS (fun _=>True) w (w.alloc (.cells cs.toArray ty)):=KS.alloc _ _ _;have hs:(w.alloc (.cells cs.toArray ty)).heap.size=w.heap.size+1:=by simp
 refine ⟨⟨t.ks.trans (KS.alloc _ _ _),by have:=t.base;omega,row_keep' t.o2 hk fun _ _=>trivial,row_keep' t.o3 hk fun _ _=>trivial,t.ap,t.b2,t.b3,by have:=t.box;omega⟩,by omega,cells_new w cs ty,fun e=>?_,fun e=>?_⟩
 ·have:=(ownBlock_row t.o2 _ e).2;omega
 ·have:=(ownBlock_row t.o3 _ e).2;omega
theorem Lit.alloc (k:Lit B r2 r3 cs g w) (o:Obj):Lit B r2 r3 cs g (w.alloc o):=by
 refine ⟨by have:=k.lt;simp;omega,fun j u hj=>?_,k.a2,k.a3⟩;have hb:(Addr.add ⟨g,0,none⟩ j).block=g:=by unfold Addr.add;split <;> rfl
 exact (World.cell?_alloc_lt w o _ (by rw [hb];exact k.lt)).trans (k.src j u hj)
theorem Two.app2 (t:Two A B Bx e r2 n2 x2 r3 n3 x3 w) (ho:w'.ownsRow B e 2 v m xs) (hg:w.grownBy w' r2.ownBlock) (hv:v.ownBlock=some g) (hat:r2.ownBlock=some g∨g=w.heap.size):Two A B Bx e v m xs r3 n3 x3 w':=by
 have hk:KS (fun k=>r2.ownBlock≠some k) w w':=KS.own hg fun g hg=>by simp [hg]
 have hs:=hg.size;have hb:=t.base;have hx:=t.box;refine ⟨t.ks.trans (hk.mono fun k hkA hk2 e=>?_),by omega,ho,row_keep' t.o3 hk fun g hg e=>t.ap g e hg,fun g' hg' e=>?_,fun g' hg'=>?_,t.b3,by omega⟩
 ·rcases hk2 with h | h
  ·have:=(ownBlock_row t.o2 _ e).1;omega
  ·exact t.b2 _ e h
 ·rw [hv] at hg';cases hg';rcases hat with h | h
  ·exact t.ap _ h e
  ·have:=(ownBlock_row t.o3 _ e).2;omega
 ·rw [hv] at hg';cases hg';rcases hat with h | h
  ·exact t.b2 _ h
  ·omega
theorem Lit.app2 (k:Lit B r2 r3 cs h w) (hg:w.grownBy w' r2.ownBlock) (hv:v.ownBlock=some g) (hat:r2.ownBlock=some g∨g=w.heap.size):Lit B v r3 cs h w':=by
 have hk:KS (fun k=>r2.ownBlock≠some k) w w':=KS.own hg fun g hg=>by simp [hg]
 have hs:=hg.size;have hl:=k.lt;refine ⟨by omega,fun j u hj=>?_,fun e=>?_,k.a3⟩
 ·have hb:(Addr.add ⟨h,0,none⟩ j).block=h:=by unfold Addr.add;split <;> rfl
  exact (hk.cell (x:=Addr.add ⟨h,0,none⟩ j) (by rw [hb];exact hl) (by rw [hb];exact k.a2)).trans (k.src j u hj)
 ·rw [hv] at e;cases e;rcases hat with h' | h'
  ·exact k.a2 h'
  ·omega
theorem Two.swap (t:Two A B Bx e r2 n2 x2 r3 n3 x3 w):Two A B Bx e r3 n3 x3 r2 n2 x2 w:=⟨t.ks,t.base,t.o3,t.o2,fun g h k=>t.ap g k h,t.b3,t.b2,t.box⟩
theorem Two.app3 (t:Two A B Bx e r2 n2 x2 r3 n3 x3 w) (ho:w'.ownsRow B e 2 v m xs) (hg:w.grownBy w' r3.ownBlock) (hv:v.ownBlock=some g) (hat:r3.ownBlock=some g∨g=w.heap.size):Two A B Bx e r2 n2 x2 v m xs w':=(t.swap.app2 ho hg hv hat).swap
end
attribute [local go_sem] Oper.semAt_some
def sayD (b:Bk) (l:List (List Int)) (p:Prt):Int:=sayI (countI (oftenI b l p) 2) (l.length:Int)
theorem dBody_eq:∃ r0 r1 r2 r3 r4 r5 r6 r7 r8 r9 r10 r11,Tryz.f15.body=some (.seq r0 (.seq r1 (.seq (.seq r2 (.cond (.tmp 15) (.seq r3 .ret) .skip)) (.seq (.seq r4 (.block 0 (.rangeFunc (.tmp 18) #[19] r5 (.block 1 (.seq r6 (.block 2 (.seq r7 (.cond (.tmp 28) r8 (.seq r9 (.cond (.tmp 38) r10 .skip)))))))))) (.seq r11 .ret))))):=⟨_,_,_,_,_,_,_,_,_,_,_,_,rfl⟩
theorem wpIn_region_H {P:Program} {ops:Array Oper} {Q:Exit->Act->World->Prop} {l:Nat} (S:World->Prop) {id:Nat} {a:Act} {w:World} (hm:P.follows .mixedOrders=true) (hn:noDefer ops=true) (hL:¬ LetsOut Q) (hS:S w.drew)
 (h:S w.drew->wpAnyH P .any ops Q S ops.size (Array.replicate ops.size false) a w.drew):(Code.region id ops true).wpIn (Fence.wide.inRound l) 0 P Q a w :=
 wpIn_region_any hm (wpAnyIn_of hn hL _ _ _ _ (wpAny_of_held _ _ _ _ (h hS)))
section
variable {b:Bk} {vr vg vm vs vc:Value}
theorem dbl_6 {r0 r1 r2 r3 r4 r5 r6 r7 r8 r9 r10 r11:Code} (hc:Tryz.f15.body=some (.seq r0 (.seq r1 (.seq (.seq r2 (.cond (.tmp 15) (.seq r3 .ret) .skip)) (.seq (.seq r4 (.block 0 (.rangeFunc (.tmp 18) #[19] r5 (.block 1 (.seq r6 (.block 2 (.seq r7 (.cond (.tmp 28) r8 (.seq r9 (.cond (.tmp 38) r10 .skip)))))))))) (.seq r11 .ret)))))) {w0 A:World} (hB:BookAt w0 b vr vg vm vs vc) (hO:BkOk b) {la:Option Addr} {lc:Nat} {l:List (List Int)} (hL:CamesAt w0 la l) (hl:∀ x∈l,Came b (pad x)/\(pad x).length=4/\x.length=b.ss.length) (hll:l.length<=2000) (hw:Below w0.heap.size w0 A)
 {x1 x2:Int} (hpx:isPart b (x1,x2)=true) {X5 X6 Bx L:Nat} (h5:Five A X5 vr vg vm vs vc) (h6:A.cell? ⟨X6,0,none⟩=some (.slice la l.length lc)) (h6l:X6 < A.heap.size) (p0:A.cell? ⟨Bx,0,none⟩=some (.int .i64 x1)) (p1:A.cell? ⟨Bx,1,none⟩=some (.int .i64 x2)) (hbx:Bx < A.heap.size) {u0 u1 u2 u3 u4 u8 u9 u10 u11 u12 u13 u14 u15 u16 u17 u18 u19 u20 u21 u22 u23 u24 u25 u26 u27 u28 u29 u30 u31 u32 u33 u34 u35 u36 u37 u38 u39 u40 u41 u42 u43 u44 u45:Value} :
 r6.wpIn (Fence.wide.inRound L) 0 Tryz.prog (fun e a' w'=>e=.normal/\Below A.heap.size A w'/\∃ v20 v21 v22 v23 v24 v25 v26,a'={ tmps:=#[u0,u1,u2,u3,u4,.pointer (some ⟨X5,0,none⟩),.pointer (some ⟨X6,0,none⟩),.pointer (some ⟨Bx,0,none⟩),u8,u9,u10,u11,u12,u13,u14,u15,u16,u17,u18,u19,v20,v21,v22,v23,v24,v25,v26,.int .i64 (sayD b l (x1,x2)),u28,u29,u30,u31,u32,u33,u34,u35,u36,u37,u38,u39,u40,u41,u42,u43,u44,u45],defers:=[] }) { tmps:=#[u0,u1,u2,u3,u4,.pointer (some ⟨X5,0,none⟩),.pointer (some ⟨X6,0,none⟩),.pointer (some ⟨Bx,0,none⟩),u8,u9,u10,u11,u12,u13,u14,u15,u16,u17,u18,u19,u20,u21,u22,u23,u24,u25,u26,u27,u28,u29,u30,u31,u32,u33,u34,u35,u36,u37,u38,u39,u40,u41,u42,u43,u44,u45],defers:=[] } A:=by
 simp only [Tryz.f15,Option.some.injEq,Code.seq.injEq,Code.cond.injEq,Code.block.injEq,Code.rangeFunc.injEq] at hc;obtain ⟨rfl,rfl,⟨rfl,-,⟨rfl,-⟩,-⟩,⟨rfl,-,-,-,rfl,-,rfl,-,rfl,-,rfl,rfl,-,rfl,-⟩,rfl,-⟩:=hc;have HB:=Hh (hB.below hw);have HO:=Hh hO;have HL:=Hh (hL.below hw);have HLL:=Hh hl;have HPX:=Hh hpx;have hlc:=hll;have hall:∀ w':World,Below A.heap.size A w'->(Below A.heap.size A w'/\w'.cell? ⟨X5,0,none⟩=some vr/\w'.cell? ⟨X5,1,none⟩=some vg/\w'.cell? ⟨X5,2,none⟩=some vm/\w'.cell? ⟨X5,3,none⟩=some vs/\w'.cell? ⟨X5,4,none⟩=some vc/\w'.cell? ⟨X6,0,none⟩=some (.slice la l.length lc)/\w'.cell? ⟨Bx,0,none⟩=some (.int .i64 x1)/\w'.cell? ⟨Bx,1,none⟩=some (.int .i64 x2)):=fun w' h =>
  ⟨h,(h.cell (p:=⟨X5,0,none⟩) h5.lt).trans h5.c0,(h.cell (p:=⟨X5,1,none⟩) h5.lt).trans h5.c1,(h.cell (p:=⟨X5,2,none⟩) h5.lt).trans h5.c2,(h.cell (p:=⟨X5,3,none⟩) h5.lt).trans h5.c3,(h.cell (p:=⟨X5,4,none⟩) h5.lt).trans h5.c4,(h.cell (p:=⟨X6,0,none⟩) h6l).trans h6,(h.cell (p:=⟨Bx,0,none⟩) hbx).trans p0,(h.cell (p:=⟨Bx,1,none⟩) hbx).trans p1⟩
 have HALL:=Hh hall;clear hall hB hO hL hl hpx h5 h6 p0 p1;refine wpIn_region_H (S:=(fun w'=>Below A.heap.size A w'/\w'.cell? ⟨X5,0,none⟩=some vr/\w'.cell? ⟨X5,1,none⟩=some vg/\w'.cell? ⟨X5,2,none⟩=some vm/\w'.cell? ⟨X5,3,none⟩=some vs/\w'.cell? ⟨X5,4,none⟩=some vc/\w'.cell? ⟨X6,0,none⟩=some (.slice la l.length lc)/\w'.cell? ⟨Bx,0,none⟩=some (.int .i64 x1)/\w'.cell? ⟨Bx,1,none⟩=some (.int .i64 x2))) (by kernel_rfl) (by kernel_rfl) (fun ⟨_,_,h,_⟩=>by cases h) (HALL.out _ (bel)) (fun hHeld=>?_);refine wpAnyH_take (i:=0) (v:=.agg #[vr,vg,vm,vs,vc]) rfl (by kernel_rfl) (by kernel_rfl) (by kernel_rfl) (fun _ _ _ h=>by cases h.1) (Or.inl ⟨by rfl,?_⟩) (by assumption) ?_
 ·intro w5 hSw;(try dsimp only at hSw);obtain ⟨s0,s1,s2,s3,s4,s5,s6,s7,s8⟩:=hSw;go_simp
 simp only [Act.put,List.setIfInBounds_toArray,List.set_cons_zero,List.set_cons_succ];refine wpAnyH_take (i:=1) (v:=.slice la l.length lc) rfl (by kernel_rfl) (by kernel_rfl) (by kernel_rfl) (fun _ _ _ h=>by cases h.1) (Or.inl ⟨by rfl,?_⟩) (by assumption) ?_
 ·intro w5 hSw;(try dsimp only at hSw);obtain ⟨s0,s1,s2,s3,s4,s5,s6,s7,s8⟩:=hSw;go_simp
 simp only [Act.put,List.setIfInBounds_toArray,List.set_cons_zero,List.set_cons_succ];refine wpAnyH_take (i:=2) (v:=.agg #[.int .i64 x1,.int .i64 x2]) rfl (by kernel_rfl) (by kernel_rfl) (by kernel_rfl) (fun _ _ _ h=>by cases h.1) (Or.inl ⟨by rfl,?_⟩) (by assumption) ?_
 ·intro w5 hSw;(try dsimp only at hSw);obtain ⟨s0,s1,s2,s3,s4,s5,s6,s7,s8⟩:=hSw;go_simp
 simp only [Act.put,List.setIfInBounds_toArray,List.set_cons_zero,List.set_cons_succ];refine wpAnyH_take (i:=5) (v:=.slice la l.length lc) rfl (by kernel_rfl) (by kernel_rfl) (by kernel_rfl) (fun _ _ _ h=>by cases h.1) (Or.inl ⟨by rfl,?_⟩) (by assumption) ?_
 ·intro w5 hSw;(try dsimp only at hSw);obtain ⟨s0,s1,s2,s3,s4,s5,s6,s7,s8⟩:=hSw;go_simp
 simp only [Act.put,List.setIfInBounds_toArray,List.set_cons_zero,List.set_cons_succ];refine wpAnyH_take (i:=6) (v:=.int .i64 (l.length:Int)) rfl (by kernel_rfl) (by kernel_rfl) (by kernel_rfl) (fun _ _ _ h=>by cases h.1) (Or.inl ⟨by rfl,?_⟩) (by assumption) ?_
 ·intro w5 hSw;(try dsimp only at hSw);obtain ⟨s0,s1,s2,s3,s4,s5,s6,s7,s8⟩:=hSw;go_simp
 simp only [Act.put,List.setIfInBounds_toArray,List.set_cons_zero,List.set_cons_succ];refine wpAnyH_ready (rs:=[3]) (by decide +kernel) (by simp) ?_;refine AllReadyH.cons (i:=3) rfl (fun K hK=>?_) AllReadyH.nil;go_simp;go_at_call 47;refine (often_at (p:=(x1,x2)) (HB.out.below (bel)) HO.out (HL.out.below (bel)) HLL.out hll HPX.out).mono ?_;rintro e w4 ⟨ia,ic,rfl,hir,hb4⟩;have HIR:=Hh hir;clear hir;refine hK.out _ _ (HALL.out _ (bel)) (fun hHeld=>?_);clear hK K;refine wpAnyH_ready (rs:=[4]) (by decide +kernel) (by simp) ?_;refine AllReadyH.cons (i:=4) rfl (fun K hK=>?_) AllReadyH.nil;go_simp;go_at_call 46;refine (count_at 2 (ints_of_row HIR.out) (by simp [oftenI];omega) rfl).mono ?_;rintro e w5 ⟨rfl,rfl⟩;refine hK.out _ _ (HALL.out _ (bel)) (fun hHeld=>?_);clear hK K;refine wpAnyH_ready (rs:=[7]) (by decide +kernel) (by simp) ?_;refine AllReadyH.cons (i:=7) rfl (fun K hK=>?_) AllReadyH.nil;go_simp;go_at_call 45;refine (say_any _ _ _).mono ?_;rintro e w6 ⟨rfl,rfl⟩;refine hK.out _ _ (HALL.out _ (bel)) (fun hHeld=>?_);clear hK K;refine wpAnyH_done (by decide +kernel) ?_ _;exact ⟨rfl,bel,_,_,_,_,_,_,_,rfl⟩
end
end Go.Proofs.YtjdmplhdebgbjaaGreatDoor

