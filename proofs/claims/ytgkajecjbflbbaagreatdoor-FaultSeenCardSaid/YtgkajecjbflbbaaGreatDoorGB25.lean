/- the fault laws -/
import Derived.Test.YtgkajecjbflbbaaGreatDoorGB24
set_option maxHeartbeats 4000000
set_option maxRecDepth 100000
set_option linter.all false
namespace Go.Proofs.YtgkajecjbflbbaaGreatDoor
section
open Go
section
variable {P:Program} {md:Region.Mode} {ops:Array Oper} {Q:Exit->Act->World->Prop} {S T:World->Prop} {d:Nat}
def wpAnyD (P:Program) (md:Region.Mode) (ops:Array Oper) (Q:Exit->Act->World->Prop) (S T:World->Prop) (d:Nat):Nat->Array Bool->Act->World->Prop
 | 0,listed,a,w=>Region.ready md ops listed=[]/\Q .normal a w
 | fuel+1,listed,a,w =>
  (Region.ready md ops listed=[]->Q .normal a w) /\
  ∀ i∈Region.ready md ops listed,wpOp P ops Q i (fun a' w'=>(S w'/\((listed.setIfInBounds i true).getD d true=false->T w'))/\wpAnyD P md ops Q S T d fuel (listed.setIfInBounds i true) a' w') a w
theorem wpAny_of_D:∀ (fuel:Nat) (listed:Array Bool) (a:Act) (w:World),wpAnyD P md ops Q S T d fuel listed a w->wpAny P md ops Q fuel listed a w
 | 0,_,_,_,h=>h
 | fuel+1,_,_,_,h=>⟨h.1,fun i hi=>wpOp_mono (fun a' w' h'=>wpAny_of_D fuel _ a' w' h'.2) (h.2 i hi)⟩
def Down (md:Region.Mode) (ops:Array Oper) (listed:Array Bool):Prop:=∀ (k:Nat) (ok:Oper),ops[k]? = some ok->listed.getD k false=true->∀ e∈ok.after,Region.binds md e=true->listed.getD e.on false=true
def downB (md:Region.Mode) (ops:Array Oper) (listed:Array Bool):Bool:=(List.range ops.size).all fun k=>match ops[k]? with
 | some ok=>!(listed.getD k false) || ok.after.all fun e=>!(Region.binds md e) || listed.getD e.on false
 | none=>true
theorem downB_spec {listed:Array Bool} (h:downB md ops listed=true):Down md ops listed:=fun k ok hk hl e he hb=>by
 unfold downB at h;rw [List.all_eq_true] at h;have hlt:k < ops.size:=(Array.getElem?_eq_some_iff.1 hk).1;have h2:=h k (List.mem_range.2 hlt);rw [hk] at h2;simp only [hl,Bool.not_true,Bool.false_or] at h2;rw [Array.all_eq_true'] at h2;have h3:=h2 e he;rw [hb] at h3;simpa using h3
theorem Down.set {listed:Array Bool} (h:Down md ops listed) {j:Nat} (hj:j∈Region.ready md ops listed):Down md ops (listed.setIfInBounds j true):=fun k ok hk hl e he hb=>by
 by_cases hjk:j=k
 ·subst hjk;obtain ⟨_,oj,hoj,hall⟩:=mem_ready.1 hj;rw [hoj] at hk;cases hk;exact getD_set_true (hall e he hb)
 ·rw [getD_set_ne false hjk] at hl;exact getD_set_true (h k ok hk hl e he hb)
theorem getD_two {listed:Array Bool} {i:Nat} (h:listed.getD i true=false):listed.getD i false=false:=by
 rcases Nat.lt_or_ge i listed.size with h' | h'
 ·simp [h'] at h ⊢;exact h
 ·simp [Array.getElem?_eq_none h'] at h
theorem wpAnyD_first {i:Nat} {oi:Oper} {v:Value} (hi:ops[i]? = some oi) (hsel:∀ (j:Nat) (o:Oper) cs b,ops[j]? = some o->o.op≠.select cs b)
 (hQ:∀ c a w,Q (.panic c) (a.put oi.dst v) w->Q (.panic c) a w) (hid:i≠d) (hdw:∀ L,Down md ops L->d∈Region.ready md ops L->L.getD i false=true) :
 ∀ (fuel:Nat) (listed:Array Bool) (a:Act) (w:World),Down md ops listed ->
  (∀ j oj,ops[j]? = some oj->j≠i->listed.getD j true=false->(∀ e∈oj.after,Region.binds md e=true->e.on≠i)->oi.apart ops oj=true) ->
  i∈Region.ready md ops listed->listed.getD d true=false->YieldsIf P ops (fun w=>S w/\T w) oi v a->S w->T w ->
  wpAnyD P md ops Q S T d fuel (listed.setIfInBounds i true) (a.put oi.dst v) w->wpAnyD P md ops Q S T d (fuel+1) listed a w:=by
 intro fuel
 induction fuel with
 | zero =>
  intro listed a w _ _ hr hld hy hS hT H;refine ⟨fun h=>(by rw [h] at hr;cases hr),fun j hj=>?_⟩;by_cases hji:j=i
  ·subst hji;exact hy.wpOp hi ⟨hS,hT⟩ ⟨⟨hS,fun _=>hT⟩,H⟩
  ·have:=ready_mono hj hji;rw [H.1] at this;cases this
 | succ fuel ih =>
  intro listed a w hdc hfree hr hld hy hS hT H;refine ⟨fun h=>(by rw [h] at hr;cases hr),fun j hj=>?_⟩;by_cases hji:j=i
  ·subst hji;exact hy.wpOp hi ⟨hS,hT⟩ ⟨⟨hS,fun _=>hT⟩,H⟩
  ·have h1:=H.2 j (ready_mono hj hji);obtain ⟨hjun,oj,hoj,hall⟩:=mem_ready.1 hj;have hnot:∀ e∈oj.after,Region.binds md e=true->e.on≠i:=fun e he hb heq=>by
    have h1:=hall e he hb;have h0:=(mem_ready.1 hr).1;rw [heq] at h1;rcases Nat.lt_or_ge i listed.size with h' | h'
    ·simp [h'] at h0 h1;rw [h0] at h1;cases h1
    ·simp [Array.getElem?_eq_none h'] at h1
   have hjd:j≠d:=fun e=>by
    subst e;have h1:=hdw listed hdc hj;rw [getD_two (mem_ready.1 hr).1] at h1;cases h1
   have h2:=wpOp_putIf hoj (hfree j oj hoj hji hjun hnot) (fun cs b=>hsel i oi cs b hi) (fun cs b=>hsel j oj cs b hoj) hQ hy h1;have hfree':∀ k ok,ops[k]? = some ok->k≠i->(listed.setIfInBounds j true).getD k true=false ->
    (∀ e∈ok.after,Region.binds md e=true->e.on≠i)->oi.apart ops ok=true:=fun k ok hk hki hun hno=>by
    refine hfree k ok hk hki ?_ hno;by_cases hjk:j=k
    ·subst hjk;exact hjun
    ·rw [getD_set_ne true hjk] at hun;exact hun
   have hld2:(listed.setIfInBounds j true).getD d true=false:=by rw [getD_set_ne true hjd];exact hld
   refine wpOp_mono (fun a' w' h3=>?_) h2;have hT':=h3.2.1.2 (by rw [getD_set_ne true hjd,getD_set_ne true hid];exact hld);refine ⟨⟨h3.2.1.1,fun _=>hT'⟩,ih (listed.setIfInBounds j true) a' w' (hdc.set hj) hfree' (ready_mono hr (Ne.symm hji)) hld2 h3.1 h3.2.1.1 hT' ?_⟩;rw [Array.setIfInBounds_comm _ _ hji];exact h3.2.2
def waits1 (md:Region.Mode) (ops:Array Oper) (d i:Nat):Bool:=match ops[d]? with
 | some od=>od.after.any fun e=>Region.binds md e && e.on == i
 | none=>true
def waits (md:Region.Mode) (ops:Array Oper) (d i:Nat):Bool:=i != d && (waits1 md ops d i || (List.range ops.size).any fun k=>waits1 md ops d k && waits1 md ops k i)
theorem waits1_ready {L:Array Bool} {d i:Nat} (h:waits1 md ops d i=true) (hr:d∈Region.ready md ops L):L.getD i false=true:=by
 obtain ⟨_,od,hod,hall⟩:=mem_ready.1 hr;unfold waits1 at h;rw [hod] at h;simp only [Array.any_eq_true'] at h;obtain ⟨e,he,h3⟩:=h;simp only [Bool.and_eq_true,beq_iff_eq] at h3;rw [<- h3.2];exact hall e he h3.1
theorem waits_ready {L:Array Bool} {d i:Nat} (h:waits md ops d i=true) (hL:Down md ops L) (hr:d∈Region.ready md ops L):L.getD i false=true:=by
 unfold waits at h;rw [Bool.and_eq_true,Bool.or_eq_true] at h;rcases h.2 with h | h
 ·exact waits1_ready h hr
 ·rw [List.any_eq_true] at h;obtain ⟨k,hk,h⟩:=h;rw [Bool.and_eq_true] at h;have hkl:=waits1_ready h.1 hr;have hlt:=List.mem_range.1 hk;have h2:=h.2;unfold waits1 at h2;rw [Array.getElem?_eq_getElem hlt] at h2;simp only [Array.any_eq_true'] at h2;obtain ⟨e,he,h3⟩:=h2;simp only [Bool.and_eq_true,beq_iff_eq] at h3;rw [<- h3.2];exact hL k _ (Array.getElem?_eq_getElem hlt) hkl e he h3.1
theorem wpAnyD_take {i:Nat} {oi:Oper} {v:Value} {fuel:Nat} {listed:Array Bool} {a:Act} {w:World} (hi:ops[i]? = some oi)
 (hc:(Region.noSelect ops && Region.free md ops listed i && (Region.ready md ops listed).contains i && waits md ops d i && !(listed.getD d true) && downB md ops listed)=true)
 (hQ:∀ c a w,Q (.panic c) (a.put oi.dst v) w->Q (.panic c) a w) (hy:YieldsIf P ops (fun w=>S w/\T w) oi v a) (hS:S w) (hT:T w)
 (h:wpAnyD P md ops Q S T d fuel (listed.setIfInBounds i true) (a.put oi.dst v) w):wpAnyD P md ops Q S T d (fuel+1) listed a w:=by
 simp only [Bool.and_eq_true] at hc;obtain ⟨⟨⟨⟨⟨hs,hf⟩,hr⟩,hw⟩,hld⟩,hdn⟩:=hc;have hid:i≠d:=by
  unfold waits at hw;rw [Bool.and_eq_true,bne_iff_ne] at hw;exact hw.1
 exact wpAnyD_first hi (Region.noSelect_spec hs) hQ hid (fun L hL hr=>waits_ready hw hL hr) fuel listed a w (downB_spec hdn) (Region.free_spec hi hf) (by simpa using hr) (by simpa using hld) hy hS hT h
theorem wpAnyD_done {listed:Array Bool} {a:Act} {w:World} (hr:Region.ready md ops listed=[]) (h:Q .normal a w):∀ fuel,wpAnyD P md ops Q S T d fuel listed a w
 | 0=>⟨hr,h⟩
 | _+1=>⟨fun _=>h,by rw [hr];simp⟩
def AllReadyD (P:Program) (md:Region.Mode) (ops:Array Oper) (Q:Exit->Act->World->Prop) (S T:World->Prop) (d:Nat) (fuel:Nat) (listed:Array Bool) (a:Act) (w:World) (rs:List Nat):Prop :=
 ∀ i∈rs,wpOp P ops Q i (fun a' w'=>(S w'/\((listed.setIfInBounds i true).getD d true=false->T w'))/\wpAnyD P md ops Q S T d fuel (listed.setIfInBounds i true) a' w') a w
theorem AllReadyD.nil {fuel:Nat} {listed:Array Bool} {a:Act} {w:World}:AllReadyD P md ops Q S T d fuel listed a w []:=fun _ h=>by cases h
theorem AllReadyD.pre {fuel:Nat} {listed:Array Bool} {a:Act} {w:World} (i:Nat) {o:Oper} {rs:List Nat} (ho:ops[i]? = some o)
 (h:∀ K':Act->World->Prop,Shut (∀ a w,S w->T w->(S w->T w->wpAnyD P md ops Q S T d fuel (listed.setIfInBounds i true) a w)->K' a w)->if Region.wanted o (yielded ops a.tmps)=true then Oper.wp P o a w K' Q else K' (a.put o.dst undef) w)
 (hs:AllReadyD P md ops Q S T d fuel listed a w rs):AllReadyD P md ops Q S T d fuel listed a w (i::rs):=fun j hj=>by
 rcases List.mem_cons.1 hj with rfl | hj
 ·exact wpOp_step ho (fun K' hK=>h K' (fun a w hS hT hW=>hK a w ⟨⟨hS,fun _=>hT⟩,hW hS hT⟩))
 ·exact hs j hj
theorem AllReadyD.post {fuel:Nat} {listed:Array Bool} {a:Act} {w:World} (i:Nat) {o:Oper} {rs:List Nat} (ho:ops[i]? = some o) (hd:(listed.setIfInBounds i true).getD d true=true)
 (h:∀ K':Act->World->Prop,Shut (∀ a w,S w->(S w->wpAnyD P md ops Q S T d fuel (listed.setIfInBounds i true) a w)->K' a w)->if Region.wanted o (yielded ops a.tmps)=true then Oper.wp P o a w K' Q else K' (a.put o.dst undef) w)
 (hs:AllReadyD P md ops Q S T d fuel listed a w rs):AllReadyD P md ops Q S T d fuel listed a w (i::rs):=fun j hj=>by
 rcases List.mem_cons.1 hj with rfl | hj
 ·exact wpOp_step ho (fun K' hK=>h K' (fun a w hS hW=>hK a w ⟨⟨hS,fun hf=>by rw [hd] at hf;cases hf⟩,hW hS⟩))
 ·exact hs j hj
theorem wpAnyD_ready (rs:List Nat) {fuel:Nat} {listed:Array Bool} {a:Act} {w:World} (hr:Region.ready md ops listed=rs) (hne:rs≠[])
 (h:AllReadyD P md ops Q S T d fuel listed a w rs):wpAnyD P md ops Q S T d (fuel+1) listed a w:=⟨fun h0=>absurd (hr ▸ h0) hne,hr ▸ h⟩
theorem wp_region_D (S T:World->Prop) (d:Nat) {id:Nat} {a:Act} {w:World} (hm:P.follows .mixedOrders=true) (hS:S w.drew) (hT:T w.drew)
 (h:S w.drew->T w.drew->wpAnyD P .any ops Q S T d ops.size (Array.replicate ops.size false) a w.drew):(Code.region id ops true).wp P Q a w :=
 wp_region_any hm (wpAny_of_D _ _ _ _ (h hS hT))
end
section
variable {P:Program} {md:Region.Mode} {ops:Array Oper} {Q:Exit->Act->World->Prop} {l:Nat}
end
end
namespace Mt
open Go Go.RowKit Go.Maps
attribute [local go_sem] Oper.semAt_some
structure Bst where
 v:Int
 c:Int
 f:Bool
abbrev Bst.val (x:Bst):Value:=.agg #[.int .i64 x.v,.int .i64 x.c,.bool x.f]
theorem best_cost (z:Bool) (v c:Int) (w:World):Sem.run Mz.prog (Instr.field 138 (.agg #[.int .i64 v,.int .i64 c,.bool z]) 1) w=.ok (.int .i64 c) w:=by kernel_rfl
noncomputable def betterI (x y:Bst):Bst:=if x.f=false\/y.c < x.c then y else x
section
variable {w:World}
theorem betterB_at (x y:Bst) (hy:y.f=true):Calls Mz.prog 94 #[x.val,y.val] w fun e w'=>e=.returned (betterI x y).val/\Below w.heap.size w w':=by
 obtain ⟨v1,c1,f1⟩:=x;obtain ⟨v2,c2,f2⟩:=y;obtain rfl:f2=true:=hy;cases f1
 ·show Calls Mz.prog _ #[.agg #[.int .i64 v1,.int .i64 c1,.bool false],.agg #[.int .i64 v2,.int .i64 c2,.bool true]] w _
  go_enter (mz_func (i:=94) rfl Tryz.func94),Tryz.ntmps94
  go_wp2;generalize hw2:(w.alloc (.cells #[.int .i64 v1,.int .i64 c1,.bool false] 138)).alloc (.cells #[.int .i64 v2,.int .i64 c2,.bool true] 138)=W2;have hs2:W2.heap.size=w.heap.size+1+1:=by rw [<- hw2];simp
  have hb2:Below w.heap.size w W2:=by rw [<- hw2];(exact bel)
  have y:∀ k u,(#[.int .i64 v2,.int .i64 c2,.bool true]:Array Value)[k]? = some u->(W2.alloc (.cells #[.int .i64 v2,.int .i64 c2,.bool true] 138)).cell? ⟨w.heap.size+1+1,k,none⟩=some u:=fun k u h=>by rw [World.cell?_alloc_at _ _ _ _ hs2.symm];exact h
  have y0:=y 0 _ rfl;have y1:=y 1 _ rfl;have y2:=y 2 _ rfl;exact bodyPost_ret (v:=.agg #[.int .i64 v2,.int .i64 c2,.bool true]) (by simp [results,Tryz.results94,go_sem,y0,y1,y2]) rfl ⟨by simp [betterI],Below.al hb2 _⟩
 ·obtain ⟨v,c,hvc⟩:∃ v c,(if c2 < c1 then (v2,c2) else (v1,c1))=(v,c):=⟨_,_,rfl⟩;refine (better_at hvc).mono ?_;rintro e w' ⟨rfl,hb⟩;refine ⟨?_,hb⟩;by_cases h:c2 < c1
  ·rw [if_pos h] at hvc;cases hvc;simp [betterI,h]
  ·rw [if_neg h] at hvc;cases hvc;simp [betterI,h]
end
noncomputable def depthStep (D:List R6->Int) (rows:List R6) (out:Bst) (t:Int):Bst:=if passL rows t.toNat=[]\/failL rows t.toNat=[] then out else betterI out ⟨t,1+max (D (passL rows t.toNat)) (D (failL rows t.toNat)),true⟩
theorem depthStep_eq (D:List R6->Int) (rows:List R6) (out:Bst) (t:Nat):depthStep D rows out (t:Int)=if passL rows t=[]\/failL rows t=[] then out else betterI out ⟨(t:Int),1+max (D (passL rows t)) (D (failL rows t)),true⟩:=by
 unfold depthStep;rw [Int.toNat_natCast]
noncomputable def depthR (un:List Int):Nat->List R6->Bst
 | 0,_=>⟨-1,0,true⟩
 | n+1,rows=>if rows.length < 2 then ⟨-1,0,true⟩ else un.foldl (depthStep (fun r=>(depthR un n r).c) rows) ⟨0,0,false⟩
theorem depthR_short (un:List Int) (n:Nat) {rows:List R6} (h:rows.length < 2):depthR un n rows=⟨-1,0,true⟩:=by
 cases n
 ·rfl
 ·simp [depthR,h]
theorem step_bd {D:List R6->Int} {rows:List R6} {n:Nat} (hD:∀ r,0<=D r/\D r<=n):∀ (l:List Int) (out:Bst),0<=out.c/\out.c<=(n:Int)+1->0<=(l.foldl (depthStep D rows) out).c/\(l.foldl (depthStep D rows) out).c<=(n:Int)+1
 | [],out,h=>h
 | t::l,out,h=>by
  rw [List.foldl_cons];refine step_bd hD l _ ?_;unfold depthStep;split
  ·exact h
  ·have h1:=hD (passL rows t.toNat);have h2:=hD (failL rows t.toNat);unfold betterI;split
   ·show 0<=1+max _ _/\1+max _ _<=_;omega
   ·exact h
theorem depthR_bd (un:List Int):∀ (n:Nat) (rows:List R6),0<=(depthR un n rows).c/\(depthR un n rows).c<=n
 | 0,rows=>by simp [depthR]
 | n+1,rows=>by
  unfold depthR;split
  ·exact ⟨by decide,by show (0:Int)<=_;omega⟩
  ·have:=step_bd (rows:=rows) (fun r=>depthR_bd un n r) un ⟨0,0,false⟩ ⟨by decide,by show (0:Int)<=_;omega⟩;exact ⟨this.1,by have:=this.2;omega⟩
theorem unmade_lt {l:List Tst}:∀ x∈unmadeI l,0<=x/\x < l.length:=fun x hx=>by
 unfold unmadeI unmadeTo at hx;obtain ⟨i,hi,rfl⟩:=List.mem_map.1 hx;have:=List.mem_range.1 (List.mem_filter.1 hi).1;omega
theorem split_lt {rows:List R6} {t:Nat}:(failL rows t≠[]->(passL rows t).length < rows.length)/\(passL rows t≠[]->(failL rows t).length < rows.length):=by
 have h:(passL rows t).length+(failL rows t).length=rows.length:=by
  unfold passL failL
  induction rows with
  | nil=>rfl
  | cons r l ih=>cases hr:r.get t <;> simp [List.filter,hr] <;> omega
 exact ⟨fun hf=>by have:=List.length_pos_iff.2 hf;omega,fun hf=>by have:=List.length_pos_iff.2 hf;omega⟩
section
variable {b:Fbk} {vm vd vt:Value}
theorem set3 {W:World} {B:Nat} {a b c x y z:Value} (h0:W.cell? ⟨B,0,none⟩=some a) (h1:W.cell? ⟨B,1,none⟩=some b) (h2:W.cell? ⟨B,2,none⟩=some c) :
 (((W.setCell ⟨B,0,none⟩ x).setCell ⟨B,1,none⟩ y).setCell ⟨B,2,none⟩ z).cell? ⟨B,0,none⟩=some x/\(((W.setCell ⟨B,0,none⟩ x).setCell ⟨B,1,none⟩ y).setCell ⟨B,2,none⟩ z).cell? ⟨B,1,none⟩=some y /\
 (((W.setCell ⟨B,0,none⟩ x).setCell ⟨B,1,none⟩ y).setCell ⟨B,2,none⟩ z).cell? ⟨B,2,none⟩=some z/\(∀ k,(((W.setCell ⟨B,0,none⟩ x).setCell ⟨B,1,none⟩ y).setCell ⟨B,2,none⟩ z).frozen? ⟨B,k,none⟩=W.frozen? ⟨B,k,none⟩) /\
 KS (fun k=>k≠B) W (((W.setCell ⟨B,0,none⟩ x).setCell ⟨B,1,none⟩ y).setCell ⟨B,2,none⟩ z):=by
 refine ⟨?_,?_,?_,fun k=>by simp only [World.frozen?_setCell],((KS.setCell (by simp) _ _).trans (KS.setCell (by simp) _ _)).trans (KS.setCell (by simp) _ _)⟩
 ·rw [World.cell?_setCell_other (h:=by simp),World.cell?_setCell_other (h:=by simp),World.cell?_setCell_same' _ _ _ (by rw [h0];rfl)]
 ·rw [World.cell?_setCell_other (h:=by simp),World.cell?_setCell_same' _ _ _ (by rw [World.cell?_setCell_other (h:=by simp),h1];rfl)]
 ·rw [World.cell?_setCell_same' _ _ _ (by rw [World.cell?_setCell_other (h:=by simp),World.cell?_setCell_other (h:=by simp),h2];rfl)]
theorem depth_short {w:World} {a:Option Addr} {c:Nat} {rows:List R6} (hB:FBookAt w b vm vd vt) (h:rows.length < 2) :
 Calls Mz.prog 97 #[.agg #[vm,vd,vt],.slice a rows.length c] w fun e w'=>e=.returned (.agg #[.int .i64 (-1),.int .i64 0,.bool true])/\Below w.heap.size w w':=by
 have h2:(rows.length:Int) < 2:=by omega
 obtain ⟨rfl,⟨da,dc,rfl,_,_⟩,ta,tc,rfl,_,_⟩:=hB
 go_enter (mz_func (i:=97) rfl Tryz.func97),Tryz.ntmps97
 go_wp2;exact bodyPost_ret (v:=.agg #[.int .i64 (-1),.int .i64 0,.bool true]) (by simp [results,Tryz.results97,go_sem, *]) rfl ⟨rfl,bel⟩
theorem depth_at (h6:b.tests.length<=6):∀ (n:Nat) (w:World) (a:Option Addr) (c:Nat) (rows:List R6),FBookAt w b vm vd vt->RowsAt w a rows->rows.length<=n->n<=1000 ->
 Calls Mz.prog 97 #[.agg #[vm,vd,vt],.slice a rows.length c] w fun e w'=>e=.returned (depthR (unmadeI b.tests) n rows).val/\Below w.heap.size w w':=by
 intro n
 induction n with
 | zero =>
  intro w a c rows hB _ hn _;rw [depthR_short _ _ (by omega)];exact depth_short hB (by omega)
 | succ n ih =>
  intro w a c rows hB hR hn h1000;by_cases hsh:rows.length < 2
  ·rw [depthR_short _ _ hsh];exact depth_short hB hsh
  ·have hD:depthR (unmadeI b.tests) (n+1) rows=(unmadeI b.tests).foldl (depthStep (fun r=>(depthR (unmadeI b.tests) n r).c) rows) ⟨0,0,false⟩:=by simp [depthR,hsh]
   have hbd:=fun r=>depthR_bd (unmadeI b.tests) n r;rw [hD];have hul:∀ x∈unmadeI b.tests,0<=x/\x < 6:=fun x hx=>by have:=unmade_lt x hx;omega
   have hunl:(unmadeI b.tests).length<=6:=Nat.le_trans (unmadeTo_le _ _) h6;generalize hDD:(fun r=>(depthR (unmadeI b.tests) n r).c)=D;have hDb:∀ r,0<=D r/\D r<=n:=fun r=>by rw [<- hDD];exact hbd r
   have hDe:∀ r,(depthR (unmadeI b.tests) n r).c=D r:=fun r=>by rw [<- hDD]
   have HB:=Hh hB;have HR:=Hh hR;have IH:=Hh ih;have HUL:=Hh hul;have HDB:=Hh hDb;have HDE:=Hh hDe;have hsh2:¬ (rows.length:Int) < 2:=by omega
   obtain ⟨rfl,⟨da,dc,rfl,_,_⟩,ta,tc,rfl,_,_⟩:=hB;clear hR ih hul hDb hDe hD hbd hDD
   go_enter (mz_func (i:=97) rfl Tryz.func97),Tryz.ntmps97
   go_wp2_with (go_at_call 87;(with_reducible refine (unmade_own (HB.out.below (bel))).mono ?_);rintro e w1 ⟨ua,uc,rfl,hui,hb1⟩);have hs1:w.heap.size+1+1 < w1.heap.size:=by have:=hb1.size;simp at this;omega
   have q:∀ k u,(#[.int .i64 b.most,.slice da b.devs.length dc,.slice ta b.tests.length tc]:Array Value)[k]? = some u->w1.cell? ⟨w.heap.size,k,none⟩=some u:=fun k u hk=>(hb1.cell (p:=⟨w.heap.size,k,none⟩) (by simp;omega)).trans (by rw [World.cell?_alloc_past _ _ _ (by first | (simp;done) | (simp;omega)),World.cell?_alloc_past _ _ _ (by simp),World.cell?_alloc_at _ _ _ _ rfl];exact hk);have z:∀ k u,(#[.int .i64 0,.int .i64 0,.bool false]:Array Value)[k]? = some u->w1.cell? ⟨w.heap.size+1,k,none⟩=some u:=fun k u hk=>(hb1.cell (p:=⟨w.heap.size+1,k,none⟩) (by simp)).trans (by rw [World.cell?_alloc_past _ _ _ (by simp),World.cell?_alloc_at _ _ _ _ (by simp)];exact hk);have zf:∀ k,w1.frozen? ⟨w.heap.size+1,k,none⟩=false:=fun k=>(hb1.frozen (p:=⟨w.heap.size+1,k,none⟩) (by simp)).trans (by rw [World.frozen?_alloc_past _ _ _ (by simp),World.frozen?_alloc_at _ _ _ _ (by simp)]);have y:∀ k u,(#[.int .i64 0,.int .i64 0,.bool false]:Array Value)[k]? = some u->w1.cell? ⟨w.heap.size+1+1,k,none⟩=some u:=fun k u hk=>(hb1.cell (p:=⟨w.heap.size+1+1,k,none⟩) (by simp)).trans (by rw [World.cell?_alloc_at _ _ _ _ (by simp)];exact hk);have yf:∀ k,w1.frozen? ⟨w.heap.size+1+1,k,none⟩=false:=fun k=>(hb1.frozen (p:=⟨w.heap.size+1+1,k,none⟩) (by simp)).trans (by rw [World.frozen?_alloc_at _ _ _ _ (by simp)]);have q0:=q 0 _ rfl;have q1:=q 1 _ rfl;have q2:=q 2 _ rfl;have z0:=z 0 _ rfl;have z1:=z 1 _ rfl;have z2:=z 2 _ rfl;have HY:=Hh y;have HYF:=Hh yf;have HZF:=Hh zf;have HB1:=Hh (show Below w.heap.size w w1 from bel);have HUI:=Hh hui;clear q z y yf zf hb1 hui;generalize hun:unmadeI b.tests=un at hunl HUL HUI IH HDE;go_loopw [17] (fun i wr=>∃ (k:Nat) (out:Bst),k<=un.length/\i=.int .i64 k/\Hid ((un.take k).foldl (depthStep D rows) ⟨0,0,false⟩=out)/\wr.cell? ⟨w.heap.size+1+1,0,none⟩=some (.int .i64 out.v)/\wr.cell? ⟨w.heap.size+1+1,1,none⟩=some (.int .i64 out.c)/\wr.cell? ⟨w.heap.size+1+1,2,none⟩=some (.bool out.f)/\(∀ k,wr.frozen? ⟨w.heap.size+1+1,k,none⟩=false)/\KS (fun k=>k≠w.heap.size+1+1) w1 wr) (fun i _=>un.length - (intOf i).toNat)
   case atStart=>exact ⟨0,⟨0,0,false⟩,Nat.zero_le _,rfl,rfl,HY.out 0 _ rfl,HY.out 1 _ rfl,HY.out 2 _ rfl,HYF.out,KS.refl _ _⟩
   case round =>
    obtain ⟨k,out,hk,rfl,hout,e0,e1,e2,ef,hW⟩:=hrel;have hWs:=hW.size;obtain ⟨wo,rfl⟩:∃ x,x=wr:=⟨_,rfl⟩;have hl0:w.heap.size < wo.heap.size:=by omega
    have hl1:w.heap.size+1 < wo.heap.size:=by omega
    have hl2:w.heap.size+1+1 < wo.heap.size:=by omega
    have b0:=(hW.cell (x:=⟨w.heap.size,0,none⟩) (by simp;omega) (by simp <;> omega)).trans q0;have b1:=(hW.cell (x:=⟨w.heap.size,1,none⟩) (by simp;omega) (by simp <;> omega)).trans q1;have b2:=(hW.cell (x:=⟨w.heap.size,2,none⟩) (by simp;omega) (by simp <;> omega)).trans q2;have x0:=(hW.cell (x:=⟨w.heap.size+1,0,none⟩) (by simp;omega) (by simp)).trans z0;have x1:=(hW.cell (x:=⟨w.heap.size+1,1,none⟩) (by simp;omega) (by simp)).trans z1;have x2:=(hW.cell (x:=⟨w.heap.size+1,2,none⟩) (by simp;omega) (by simp)).trans z2;have xf0:=(hW.frozen (x:=⟨w.heap.size+1,0,none⟩) (by simp;omega) (by simp)).trans (HZF.out 0);have xf1:=(hW.frozen (x:=⟨w.heap.size+1,1,none⟩) (by simp;omega) (by simp)).trans (HZF.out 1);have xf2:=(hW.frozen (x:=⟨w.heap.size+1,2,none⟩) (by simp;omega) (by simp)).trans (HZF.out 2);have HBW:=Hh (show Below w.heap.size w wo from ⟨hW.os.trans HB1.out.os,hW.tape.trans HB1.out.tape,hW.output.trans HB1.out.output,Nat.le_trans HB1.out.size hW.size,fun k hk=>(hW.block k (by have:=HB1.out.size;omega) (by omega)).trans (HB1.out.block k hk)⟩);have HW:=Hh hW;have HOUT:=Hh hout;have HEF:=Hh ef;clear hW hout ef;obtain ⟨ov,oc,of⟩:=out;simp only at e0 e1 e2;by_cases hlt:k < un.length
    ·obtain ⟨ub,rfl,hub1,hub,hu0⟩:=row_cell HUI.out k (by simpa using hlt);rw [List.getElem?_map,List.getElem?_eq_getElem hlt] at hu0;obtain ⟨t,ht⟩:∃ t,un[k]=t:=⟨_,rfl⟩;rw [ht] at hu0;have htb:=HUL.out un[k] (List.getElem_mem hlt);rw [ht] at htb;obtain ⟨tn,rfl⟩:∃ tn:Nat,t=(tn:Int):=⟨t.toNat,by omega⟩;have htn:tn < 6:=by omega
     have hst:(un.take (k+1)).foldl (depthStep D rows) ⟨0,0,false⟩=depthStep D rows ⟨ov,oc,of⟩ (tn:Int):=by rw [List.take_succ_eq_append_getElem hlt,List.foldl_append,HOUT.out.out,ht];rfl
     have u0:wo.cell? ⟨ub,k,none⟩=some (.int .i64 (tn:Int)):=(HW.out.cell (x:=⟨ub,k,none⟩) hub (by simp at hub1 ⊢;omega)).trans hu0;have hub2:ub < wo.heap.size:=by omega
     have HST:=Hh hst;have HSP:=Hh (split_lt (rows:=rows) (t:=tn));clear hst ht hu0;have HRW:=Hh (HR.out.below HBW.out);have htnI:(tn:Int) < 6:=by omega
     obtain ⟨P,hP⟩:∃ P,passL rows tn=P:=⟨_,rfl⟩;obtain ⟨F,hF⟩:∃ F,failL rows tn=F:=⟨_,rfl⟩;have hspl:=split_at (c:=c) HRW.out (by omega) htn;have hst:=HST.out;rw [depthStep_eq] at hst;have hsl:=HSP.out;rw [hP,hF] at hspl hst hsl;have HSPL:=Hh hspl;have HS2:=Hh hst;clear hspl hst hP hF HST HSP;by_cases hp0:P.length=0
     ·have hst:(un.take (k+1)).foldl (depthStep D rows) ⟨0,0,false⟩=⟨ov,oc,of⟩:=by rw [HS2.out,if_pos (.inl (List.eq_nil_of_length_eq_zero hp0))]
      have HS3:=Hh hst;clear hst HS2 hsl;go_wp2_with (go_at_call 148;(with_reducible refine HSPL.out.mono ?_);rintro e w3 ⟨a1,c1,a2,c2,rfl,hr1,hr2,hb3⟩;have HR1:=Hh hr1;have HR2:=Hh hr2;have e30:=(hb3.cell (p:=⟨w.heap.size+1+1,0,none⟩) hl2).trans e0;have e31:=(hb3.cell (p:=⟨w.heap.size+1+1,1,none⟩) hl2).trans e1;have e32:=(hb3.cell (p:=⟨w.heap.size+1+1,2,none⟩) hl2).trans e2;have b30:=(hb3.cell (p:=⟨w.heap.size,0,none⟩) hl0).trans b0;have b31:=(hb3.cell (p:=⟨w.heap.size,1,none⟩) hl0).trans b1;have b32:=(hb3.cell (p:=⟨w.heap.size,2,none⟩) hl0).trans b2;have hl30:=Nat.lt_of_lt_of_le hl0 hb3.size;have hl32:=Nat.lt_of_lt_of_le hl2 hb3.size;have HB3:=Hh (show Below w.heap.size w w3 from Below.next HBW.out hb3);have HKS3:=Hh (show KS (fun k=>k≠w.heap.size+1+1) w1 w3 from HW.out.trans (KS.all hb3 _));have HEF3:=Hh (show ∀ k,w3.frozen? ⟨w.heap.size+1+1,k,none⟩=false from fun k=>(hb3.frozen (p:=⟨w.heap.size+1+1,k,none⟩) hl2).trans (HEF.out k));clear hr1 hr2);go_roundw
      case rel=>exact ⟨k+1,⟨ov,oc,of⟩,hlt,by go_num,HS3.out,e30,e31,e32,HEF3.out,HKS3.out⟩
      case measure=>simp [intOf];omega
     ·have hp0I:¬ (P.length:Int)=0:=by omega
      have hp0n:P≠[]:=fun e=>hp0 (by rw [e];rfl);by_cases hf0:F.length=0
      ·have hst:(un.take (k+1)).foldl (depthStep D rows) ⟨0,0,false⟩=⟨ov,oc,of⟩:=by rw [HS2.out,if_pos (.inr (List.eq_nil_of_length_eq_zero hf0))]
       have HS3:=Hh hst;clear hst HS2 hsl;go_wp2_with (go_at_call 148;(with_reducible refine HSPL.out.mono ?_);rintro e w3 ⟨a1,c1,a2,c2,rfl,hr1,hr2,hb3⟩;have HR1:=Hh hr1;have HR2:=Hh hr2;have e30:=(hb3.cell (p:=⟨w.heap.size+1+1,0,none⟩) hl2).trans e0;have e31:=(hb3.cell (p:=⟨w.heap.size+1+1,1,none⟩) hl2).trans e1;have e32:=(hb3.cell (p:=⟨w.heap.size+1+1,2,none⟩) hl2).trans e2;have b30:=(hb3.cell (p:=⟨w.heap.size,0,none⟩) hl0).trans b0;have b31:=(hb3.cell (p:=⟨w.heap.size,1,none⟩) hl0).trans b1;have b32:=(hb3.cell (p:=⟨w.heap.size,2,none⟩) hl0).trans b2;have hl30:=Nat.lt_of_lt_of_le hl0 hb3.size;have hl32:=Nat.lt_of_lt_of_le hl2 hb3.size;have HB3:=Hh (show Below w.heap.size w w3 from Below.next HBW.out hb3);have HKS3:=Hh (show KS (fun k=>k≠w.heap.size+1+1) w1 w3 from HW.out.trans (KS.all hb3 _));have HEF3:=Hh (show ∀ k,w3.frozen? ⟨w.heap.size+1+1,k,none⟩=false from fun k=>(hb3.frozen (p:=⟨w.heap.size+1+1,k,none⟩) hl2).trans (HEF.out k));clear hr1 hr2);go_roundw
       case rel=>exact ⟨k+1,⟨ov,oc,of⟩,hlt,by go_num,HS3.out,e30,e31,e32,HEF3.out,HKS3.out⟩
       case measure=>simp [intOf];omega
      ·have hf0I:¬ (F.length:Int)=0:=by omega
       have hf0n:F≠[]:=fun e=>hf0 (by rw [e];rfl);have hfld:=best_cost;have hp0b:((P.length:Int) == 0)=false:=by simpa using hp0n
       have hf0b:((F.length:Int) == 0)=false:=by simpa using hf0n
       have hpn:P.length<=n:=by have:=hsl.1 hf0n;omega
       have hfn:F.length<=n:=by have:=hsl.2 hp0n;omega
       obtain ⟨⟨pv,DP,pf⟩,hDP⟩:∃ x,depthR un n P=x:=⟨_,rfl⟩;obtain ⟨⟨fv,DF,ff⟩,hDF⟩:∃ x,depthR un n F=x:=⟨_,rfl⟩;have hpb:=HDB.out P;have hfb:=HDB.out F;rw [<- HDE.out,hDP] at hpb;rw [<- HDE.out,hDF] at hfb;have hst:=HS2.out;rw [if_neg (fun h=>h.elim hp0n hf0n),<- HDE.out,<- HDE.out,hDP,hDF] at hst;simp only at hpb hfb hst;obtain ⟨⟨nv,nc,nf⟩,hbi⟩:∃ x,betterI ⟨ov,oc,of⟩ ⟨(tn:Int),1+max DP DF,true⟩=x:=⟨_,rfl⟩;rw [hbi] at hst;have hwr:IntKind.i64.wrap (1+max DP DF)=1+max DP DF:=IntWalk.i64_in _ (by omega);have HS3:=Hh hst;have HDP:=Hh hDP;have HDF:=Hh hDF;have HBI:=Hh (show ∀ W,Calls Mz.prog 94 #[.agg #[.int .i64 ov,.int .i64 oc,.bool of],.agg #[.int .i64 (tn:Int),.int .i64 (1+max DP DF),.bool true]] W fun e w'=>e=.returned (.agg #[.int .i64 nv,.int .i64 nc,.bool nf])/\Below W.heap.size W w' from fun W=>by
        have:=betterB_at (w:=W) (⟨ov,oc,of⟩:Bst) ⟨(tn:Int),1+max DP DF,true⟩ rfl
        rw [hbi] at this
        exact this)
       clear hst hbi HS2 hsl hDP hDF;go_wp2_with (go_at_call 148;(with_reducible refine HSPL.out.mono ?_);rintro e w3 ⟨a1,c1,a2,c2,rfl,hr1,hr2,hb3⟩;have HR1:=Hh hr1;have HR2:=Hh hr2;have e30:=(hb3.cell (p:=⟨w.heap.size+1+1,0,none⟩) hl2).trans e0;have e31:=(hb3.cell (p:=⟨w.heap.size+1+1,1,none⟩) hl2).trans e1;have e32:=(hb3.cell (p:=⟨w.heap.size+1+1,2,none⟩) hl2).trans e2;have b30:=(hb3.cell (p:=⟨w.heap.size,0,none⟩) hl0).trans b0;have b31:=(hb3.cell (p:=⟨w.heap.size,1,none⟩) hl0).trans b1;have b32:=(hb3.cell (p:=⟨w.heap.size,2,none⟩) hl0).trans b2;have hl30:=Nat.lt_of_lt_of_le hl0 hb3.size;have hl32:=Nat.lt_of_lt_of_le hl2 hb3.size;have HB3:=Hh (show Below w.heap.size w w3 from Below.next HBW.out hb3);have HKS3:=Hh (show KS (fun k=>k≠w.heap.size+1+1) w1 w3 from HW.out.trans (KS.all hb3 _));have HEF3:=Hh (show ∀ k,w3.frozen? ⟨w.heap.size+1+1,k,none⟩=false from fun k=>(hb3.frozen (p:=⟨w.heap.size+1+1,k,none⟩) hl2).trans (HEF.out k));clear hr1 hr2);have HIP:=Hh (show ∀ W,Below w3.heap.size w3 W->Calls Mz.prog 97 #[.agg #[.int .i64 b.most,.slice da b.devs.length dc,.slice ta b.tests.length tc],.slice a1 P.length c1] W fun e w'=>e=.returned (.agg #[.int .i64 pv,.int .i64 DP,.bool pf])/\Below W.heap.size W w' from fun W hb=>by
        have:=IH.out W a1 c1 P (HB.out.below (Below.next HB3.out hb)) (HR1.out.below hb) hpn (by omega)
        rw [HDP.out] at this
        exact this)
       have HIF:=Hh (show ∀ W,Below w3.heap.size w3 W->Calls Mz.prog 97 #[.agg #[.int .i64 b.most,.slice da b.devs.length dc,.slice ta b.tests.length tc],.slice a2 F.length c2] W fun e w'=>e=.returned (.agg #[.int .i64 fv,.int .i64 DF,.bool ff])/\Below W.heap.size W w' from fun W hb=>by
        have:=IH.out W a2 c2 F (HB.out.below (Below.next HB3.out hb)) (HR2.out.below hb) hfn (by omega)
        rw [HDF.out] at this
        exact this)
       have HT:=Hh (show ∀ w':World,Below w3.heap.size w3 w'->w'.cell? ⟨w.heap.size,0,none⟩=some (.int .i64 b.most)/\w'.cell? ⟨w.heap.size,1,none⟩=some (.slice da b.devs.length dc)/\w'.cell? ⟨w.heap.size,2,none⟩=some (.slice ta b.tests.length tc)/\w'.cell? ⟨w.heap.size+1+1,0,none⟩=some (.int .i64 ov)/\w'.cell? ⟨w.heap.size+1+1,1,none⟩=some (.int .i64 oc)/\w'.cell? ⟨w.heap.size+1+1,2,none⟩=some (.bool of) from fun w' hb=>⟨(hb.cell hl30).trans b30,(hb.cell hl30).trans b31,(hb.cell hl30).trans b32,(hb.cell hl32).trans e30,(hb.cell hl32).trans e31,(hb.cell hl32).trans e32⟩);have HZ:=Hh (show ∀ w':World,Below w3.heap.size w3 w'->∀ k,w'.frozen? ⟨w.heap.size+1+1,k,none⟩=false from fun w' hb k=>(hb.frozen hl32).trans (HEF3.out k));refine wp_region_D (S:=fun _=>True) (T:=fun w'=>w'.cell? ⟨w.heap.size,0,none⟩=some (.int .i64 b.most)/\w'.cell? ⟨w.heap.size,1,none⟩=some (.slice da b.devs.length dc)/\w'.cell? ⟨w.heap.size,2,none⟩=some (.slice ta b.tests.length tc)/\w'.cell? ⟨w.heap.size+1+1,0,none⟩=some (.int .i64 ov)/\w'.cell? ⟨w.heap.size+1+1,1,none⟩=some (.int .i64 oc)/\w'.cell? ⟨w.heap.size+1+1,2,none⟩=some (.bool of)) (d:=14) (by kernel_rfl) trivial (HT.out _ (bel)) (fun _ hTd=>?_);refine wpAnyD_take (i:=0) (v:=.agg #[.int .i64 ov,.int .i64 oc,.bool of]) rfl (by decide +kernel) (fun _ _ _ h=>h) (Or.inl ⟨by rfl,?_⟩) trivial hTd ?_
       ·rintro w9 ⟨_,s0,s1,s2,s3,s4,s5⟩;go_simp
       refine wpAnyD_take (i:=1) (v:=.int .i64 (tn:Int)) rfl (by decide +kernel) (fun _ _ _ h=>h) (Or.inl ⟨by rfl,?_⟩) trivial hTd ?_
       ·rintro w9 ⟨_,s0,s1,s2,s3,s4,s5⟩;go_simp
       refine wpAnyD_take (i:=2) (v:=.agg #[.int .i64 b.most,.slice da b.devs.length dc,.slice ta b.tests.length tc]) rfl (by decide +kernel) (fun _ _ _ h=>h) (Or.inl ⟨by rfl,?_⟩) trivial hTd ?_
       ·rintro w9 ⟨_,s0,s1,s2,s3,s4,s5⟩;go_simp
       refine wpAnyD_take (i:=3) (v:=.slice a1 P.length c1) rfl (by decide +kernel) (fun _ _ _ h=>h) (Or.inl ⟨by rfl,?_⟩) trivial hTd ?_
       ·rintro w9 ⟨_,s0,s1,s2,s3,s4,s5⟩;go_simp
       refine wpAnyD_take (i:=6) (v:=.agg #[.int .i64 b.most,.slice da b.devs.length dc,.slice ta b.tests.length tc]) rfl (by decide +kernel) (fun _ _ _ h=>h) (Or.inl ⟨by rfl,?_⟩) trivial hTd ?_
       ·rintro w9 ⟨_,s0,s1,s2,s3,s4,s5⟩;go_simp
       refine wpAnyD_take (i:=7) (v:=.slice a2 F.length c2) rfl (by decide +kernel) (fun _ _ _ h=>h) (Or.inl ⟨by rfl,?_⟩) trivial hTd ?_
       ·rintro w9 ⟨_,s0,s1,s2,s3,s4,s5⟩;go_simp
       refine wpAnyD_ready [4] (by decide +kernel) (by simp) ?_;refine AllReadyD.pre 4 rfl (fun K9 hK=>?_) AllReadyD.nil;go_simp;refine (HIP.out _ (bel)).mono ?_;rintro e w4 ⟨rfl,hb4⟩
       try go_simp
       refine hK.out _ _ trivial (HT.out _ (bel)) (fun _ hTd=>?_);refine wpAnyD_take (i:=5) (v:=.int .i64 DP) rfl (by decide +kernel) (fun _ _ _ h=>h) (Or.inl ⟨by rfl,?_⟩) trivial hTd ?_
       ·rintro w9 ⟨_,s0,s1,s2,s3,s4,s5⟩;go_simp
       refine wpAnyD_ready [8] (by decide +kernel) (by simp) ?_;refine AllReadyD.pre 8 rfl (fun K9 hK=>?_) AllReadyD.nil;go_simp;refine (HIF.out _ (bel)).mono ?_;rintro e w5 ⟨rfl,hb5⟩
       try go_simp
       refine hK.out _ _ trivial (HT.out _ (bel)) (fun _ hTd=>?_);refine wpAnyD_take (i:=9) (v:=.int .i64 DF) rfl (by decide +kernel) (fun _ _ _ h=>h) (Or.inl ⟨by rfl,?_⟩) trivial hTd ?_
       ·rintro w9 ⟨_,s0,s1,s2,s3,s4,s5⟩;go_simp
       refine wpAnyD_take (i:=10) (v:=.int .i64 (max DP DF)) rfl (by decide +kernel) (fun _ _ _ h=>h) (Or.inl ⟨by rfl,?_⟩) trivial hTd ?_
       ·rintro w9 ⟨_,s0,s1,s2,s3,s4,s5⟩;(have e:max DP DF=(if DP < DF then DF else DP):=by split <;> omega);rw [e];go_simp
       refine wpAnyD_take (i:=11) (v:=.int .i64 (1+max DP DF)) rfl (by decide +kernel) (fun _ _ _ h=>h) (Or.inl ⟨by rfl,?_⟩) trivial hTd ?_
       ·rintro w9 ⟨_,s0,s1,s2,s3,s4,s5⟩;go_simp
       refine wpAnyD_take (i:=12) (v:=.agg #[.int .i64 (tn:Int),.int .i64 (1+max DP DF),.bool true]) rfl (by decide +kernel) (fun _ _ _ h=>h) (Or.inl ⟨by rfl,?_⟩) trivial hTd ?_
       ·rintro w9 ⟨_,s0,s1,s2,s3,s4,s5⟩;go_simp
       refine wpAnyD_ready [13] (by decide +kernel) (by simp) ?_;refine AllReadyD.pre 13 rfl (fun K9 hK=>?_) AllReadyD.nil;go_simp;refine (HBI.out _).mono ?_;rintro e w6 ⟨rfl,hb6⟩
       try go_simp
       refine hK.out _ _ trivial (HT.out _ (bel)) (fun _ hTd=>?_);have hb36:Below w3.heap.size w3 w6:=bel;have f60:=HZ.out _ hb36 0;have f61:=HZ.out _ hb36 1;have f62:=HZ.out _ hb36 2;obtain ⟨_,_,_,u0,u1,u2⟩:=hTd;refine wpAnyD_ready [14] (by decide +kernel) (by simp) ?_;refine AllReadyD.post 14 rfl (by rfl) (fun K9 hK=>?_) AllReadyD.nil;go_simp;refine hK.out _ _ trivial (fun _=>?_);refine wpAnyD_done (by decide +kernel) ?_ _;obtain ⟨g0,g1,g2,gf,gk⟩:=set3 (x:=.int .i64 nv) (y:=.int .i64 nc) (z:=.bool nf) u0 u1 u2;have GF:=Hh (fun k=>(gf k).trans (HZ.out _ hb36 k));have GK:=Hh (HKS3.out.trans ((KS.all hb36 _).trans gk));clear gf gk;go_wp2;go_roundw
       case rel=>exact ⟨k+1,⟨nv,nc,nf⟩,hlt,by go_num,HS3.out,g0,g1,g2,GF.out,GK.out⟩
       case measure=>simp [intOf];omega
    ·obtain rfl:k=un.length:=by omega
     have hout2:=HOUT.out.out;rw [List.take_length] at hout2;have HO2:=Hh hout2;clear hout2 HOUT;go_wp2;obtain ⟨g0,g1,g2,_,gk⟩:=set3 (x:=.int .i64 ov) (y:=.int .i64 oc) (z:=.bool of) x0 x1 x2;refine bodyPost_ret (v:=.agg #[.int .i64 ov,.int .i64 oc,.bool of]) (by simp [results,Tryz.results97,go_sem,g0,g1,g2]) rfl ⟨by rw [hun,HO2.out],?_⟩;exact ⟨gk.os.trans HBW.out.os,gk.tape.trans HBW.out.tape,gk.output.trans HBW.out.output,Nat.le_trans HBW.out.size gk.size,fun k hkk=>(gk.block k (Nat.lt_of_lt_of_le hkk HBW.out.size) (by omega)).trans (HBW.out.block k hkk)⟩
end
attribute [local go_sem] Oper.semAt_some
section
variable {b:Fbk} {vm vd vt:Value} {w:World}
theorem drew_frozen (w:World) (a:Addr):w.drew.frozen? a=w.frozen? a:=rfl
noncomputable def dpFr (B:Nat) (d:Nat->Value):Act:={ tmps:=#[d 0,d 1,d 2,d 3,d 4,d 5,d 6,.pointer (some ⟨B,0,none⟩),d 8,d 9,d 10,d 11,d 12,d 13,d 14,d 15,d 16,d 17,d 18,d 19,d 20,d 21,d 22,d 23,d 24,d 25],defers:=[] }
noncomputable def depthI (b:Fbk):Bst:=depthR (unmadeI b.tests) (rowsI b (histsI b)).length (rowsI b (histsI b))
theorem depthApi_ok (hB:FBookAt w b vm vd vt) (hN:∀ m∈b.devs,m.name.size<=1000000) (hA:ActsAt w) (h:openAl b 0=0) :
 Calls Mz.prog 28 #[.agg #[vm,vd,vt]] w fun e w'=>e=.returned (.tuple #[.int .i64 (depthI b).c,.int .i64 (depthI b).v,.int .i64 0])/\Below w.heap.size w w':=by
 have HB:=Hh hB;have HN:=Hh hN;have HA:=Hh hA;have H:=Hh h;obtain ⟨hd6,hle⟩:=bk6 (openAl_ok h).1;have g1:=(openAl_ok h).1;have h6:=(testsAl_ok (bookAl_ok g1).2).1;have HP:=Hh (paths_in g1);have hrl:(rowsI b (histsI b)).length<=1000:=by
  have:=rowsTo_len b (histsI b) (histsI b).length;rw [List.take_length] at this;omega
 have HDI:=Hh (show depthR (unmadeI b.tests) (rowsI b (histsI b)).length (rowsI b (histsI b))=depthI b from rfl);generalize depthI b=D at HDI;obtain ⟨dv,dcost,df⟩:=D;obtain ⟨rfl,⟨da,dc,rfl,_,_⟩,ta,tc,rfl,_,_⟩:=hB;clear hN h hA g1
 go_enter (mz_func (i:=28) rfl Tryz.func28),Tryz.ntmps28
 go_wp2_with (go_at_call 64;(with_reducible refine (open_ok (HB.out.below (bel)) HN.out (HA.out.below (bel)) (fun _ _=>mz_call84 _ _) nothingC H.out).mono ?_);rintro e w1 ⟨la,lc,rfl,hst,hb1⟩;have HST:=Hh hst;clear hst);obtain ⟨W2,hW2⟩:∃ W2,W2=w1.alloc (.cells #[.int .i64 b.most,.slice da b.devs.length dc,.slice ta b.tests.length tc] 88):=⟨_,rfl⟩;rw [<- hW2];have q:∀ k u,(#[.int .i64 b.most,.slice da b.devs.length dc,.slice ta b.tests.length tc]:Array Value)[k]? = some u->W2.cell? ⟨w1.heap.size,k,none⟩=some u:=fun k u hk=>by rw [hW2,World.cell?_alloc_at _ _ _ _ rfl];exact hk
 have hs2:w1.heap.size < W2.heap.size:=by rw [hW2];simp
 have HB2:=Hh (show Below w.heap.size w W2 by rw [hW2];(exact bel));have HST2:=Hh (show StatesAt W2 la (histsI b) by rw [hW2];exact HST.out.below (Below.al (Below.refl _ _) _));have HQ:=Hh (show ∀ w':World,Below W2.heap.size W2 w'->Below W2.heap.size W2 w'/\w'.cell? ⟨w1.heap.size,0,none⟩=some (.int .i64 b.most)/\w'.cell? ⟨w1.heap.size,1,none⟩=some (.slice da b.devs.length dc)/\w'.cell? ⟨w1.heap.size,2,none⟩=some (.slice ta b.tests.length tc) from fun w' hb=>⟨hb,(hb.cell hs2).trans (q 0 _ rfl),(hb.cell hs2).trans (q 1 _ rfl),(hb.cell hs2).trans (q 2 _ rfl)⟩);clear q hW2 hb1;refine wp_mono (Q:=fun e a' w'=>match e with | .normal=>∃ B,(∃ d,a'=dpFr B d)/\w'.cell? ⟨B,0,none⟩=some (.int .i64 dv)/\w'.cell? ⟨B,1,none⟩=some (.int .i64 dcost)/\B < w'.heap.size/\Below w.heap.size w w' | _=>False) ?_ ?_
 ·have HT:=Hh (show ∀ w':World,Below W2.heap.size W2 w'->w'.cell? ⟨w1.heap.size,0,none⟩=some (.int .i64 b.most)/\w'.cell? ⟨w1.heap.size,1,none⟩=some (.slice da b.devs.length dc)/\w'.cell? ⟨w1.heap.size,2,none⟩=some (.slice ta b.tests.length tc) from fun w' hb=>(HQ.out w' hb).2);refine wp_region_D (S:=fun _=>True) (T:=fun w'=>w'.cell? ⟨w1.heap.size,0,none⟩=some (.int .i64 b.most)/\w'.cell? ⟨w1.heap.size,1,none⟩=some (.slice da b.devs.length dc)/\w'.cell? ⟨w1.heap.size,2,none⟩=some (.slice ta b.tests.length tc)) (d:=6) (by kernel_rfl) trivial (HT.out _ (bel)) (fun _ hTd=>?_);refine wpAnyD_take (i:=0) (v:=.agg #[.int .i64 b.most,.slice da b.devs.length dc,.slice ta b.tests.length tc]) rfl (by decide +kernel) (fun _ _ _ h=>h) (Or.inl ⟨by rfl,?_⟩) trivial hTd ?_
  ·rintro w9 ⟨_,s0,s1,s2⟩;go_simp
  refine wpAnyD_take (i:=1) (v:=.agg #[.int .i64 b.most,.slice da b.devs.length dc,.slice ta b.tests.length tc]) rfl (by decide +kernel) (fun _ _ _ h=>h) (Or.inl ⟨by rfl,?_⟩) trivial hTd ?_
  ·rintro w9 ⟨_,s0,s1,s2⟩;go_simp
  refine wpAnyD_take (i:=2) (v:=.slice la (histsI b).length lc) rfl (by decide +kernel) (fun _ _ _ h=>h) (Or.inl ⟨by rfl,?_⟩) trivial hTd ?_
  ·rintro w9 ⟨_,s0,s1,s2⟩;go_simp
  refine wpAnyD_ready [3,5] (by decide +kernel) (by simp) ?_;refine AllReadyD.pre 3 rfl (fun K9 hK=>?_) ?_
  ·go_simp;refine (rows_at (HB.out.below (by have:=HB2.out;(exact bel))) (HA.out.below (by have:=HB2.out;(exact bel))) (HST2.out.below (bel)) (fun s hs=>hists_lt hs) HP.out h6 hle).mono ?_;rintro e w4 ⟨a2,c2,rfl,hi2,hb4⟩;have HI:=Hh hi2;clear hi2
   try go_simp
   refine hK.out _ _ trivial (HT.out _ (bel)) (fun _ _=>?_);refine wpAnyD_ready [4,5] (by decide +kernel) (by simp) ?_;refine AllReadyD.pre 4 rfl (fun K9 hK=>?_) ?_
   ·go_simp;refine (depth_at h6 _ _ _ _ _ (HB.out.below (by have:=HB2.out;(exact bel))) (HI.out.below (bel)) (Nat.le_refl _) hrl).mono ?_;rintro e w5 ⟨rfl,hb5⟩;rw [HDI.out]
    try go_simp
    refine hK.out _ _ trivial (HT.out _ (bel)) (fun _ _=>?_);refine wpAnyD_ready [5] (by decide +kernel) (by simp) ?_;refine AllReadyD.pre 5 rfl (fun K9 hK=>?_) AllReadyD.nil;go_simp;refine hK.out _ _ trivial (HT.out _ (bel)) (fun _ _=>?_);refine wpAnyD_ready [6] (by decide +kernel) (by simp) ?_;refine AllReadyD.post 6 rfl (by rfl) (fun K9 hK=>?_) AllReadyD.nil;go_simp;refine hK.out _ _ trivial (fun _=>?_);refine wpAnyD_done (by decide +kernel) ?_ _;refine ⟨w5.heap.size,fr_of (by kernel_rfl),?_,?_,by simp,by have:=HB2.out;(exact bel)⟩
    ·rw [World.cell?_alloc_at _ _ _ _ rfl];rfl
    ·rw [World.cell?_alloc_at _ _ _ _ rfl];rfl
   refine AllReadyD.pre 5 rfl (fun K9 hK=>?_) AllReadyD.nil;go_simp;refine hK.out _ _ trivial (HT.out _ (bel)) (fun _ _=>?_);refine wpAnyD_ready [4] (by decide +kernel) (by simp) ?_;refine AllReadyD.pre 4 rfl (fun K9 hK=>?_) AllReadyD.nil;go_simp;refine (depth_at h6 _ _ _ _ _ (HB.out.below (by have:=HB2.out;(exact bel))) (HI.out.below (bel)) (Nat.le_refl _) hrl).mono ?_;rintro e w5 ⟨rfl,hb5⟩;rw [HDI.out]
   try go_simp
   refine hK.out _ _ trivial (HT.out _ (bel)) (fun _ _=>?_);have hw4:W2.heap.size<=w4.heap.size:=(show Below W2.heap.size W2 w4 from bel).size;have hlB:w4.heap.size < w5.heap.size:=by have:=hb5.size;simp at this;omega
   have v:=fun j u (hj:(#[.int .i64 0,.int .i64 0,.bool false]:Array Value)[j]? = some u)=>((hb5.cell (p:=⟨w4.heap.size,j,none⟩) (by simp)).trans (by rw [World.cell?_alloc_at _ _ _ _ rfl];exact hj:_=some u));have vf:=fun j=>((hb5.frozen (p:=⟨w4.heap.size,j,none⟩) (by simp)).trans (by rw [World.frozen?_alloc_at _ _ _ _ rfl]));have v0:=v 0 _ rfl;have vf0:=vf 0;have v1:=v 1 _ rfl;have vf1:=vf 1;have v2:=v 2 _ rfl;have vf2:=vf 2;clear v vf;refine wpAnyD_ready [6] (by decide +kernel) (by simp) ?_;refine AllReadyD.post 6 rfl (by rfl) (fun K9 hK=>?_) AllReadyD.nil;go_simp;refine hK.out _ _ trivial (fun _=>?_);refine wpAnyD_done (by decide +kernel) ?_ _;obtain ⟨g0,g1,_,_,gk⟩:=set3 (x:=.int .i64 dv) (y:=.int .i64 dcost) (z:=.bool df) v0 v1 v2;have hb5':Below w.heap.size w w5:=by have:=HB2.out;(exact bel)
   have hwz:w.heap.size<=w4.heap.size:=by have:=HB2.out.size;first | omega | (simp at *;omega)
   exact ⟨w4.heap.size,fr_of (by kernel_rfl),g0,g1,Nat.lt_of_lt_of_le hlB gk.size,⟨gk.os.trans hb5'.os,gk.tape.trans hb5'.tape,gk.output.trans hb5'.output,Nat.le_trans hb5'.size gk.size,fun k hkk=>(gk.block k (Nat.lt_of_lt_of_le hkk hb5'.size) (by omega)).trans (hb5'.block k hkk)⟩⟩
  refine AllReadyD.pre 5 rfl (fun K9 hK=>?_) AllReadyD.nil;go_simp;refine hK.out _ _ trivial (HT.out _ (bel)) (fun _ _=>?_);refine wpAnyD_ready [3] (by decide +kernel) (by simp) ?_;refine AllReadyD.pre 3 rfl (fun K9 hK=>?_) AllReadyD.nil;go_simp;refine (rows_at (HB.out.below (by have:=HB2.out;(exact bel))) (HA.out.below (by have:=HB2.out;(exact bel))) (HST2.out.below (bel)) (fun s hs=>hists_lt hs) HP.out h6 hle).mono ?_;rintro e w4 ⟨a2,c2,rfl,hi2,hb4⟩;have HI:=Hh hi2;clear hi2
  try go_simp
  refine hK.out _ _ trivial (HT.out _ (bel)) (fun _ _=>?_);refine wpAnyD_ready [4] (by decide +kernel) (by simp) ?_;refine AllReadyD.pre 4 rfl (fun K9 hK=>?_) AllReadyD.nil;go_simp;refine (depth_at h6 _ _ _ _ _ (HB.out.below (by have:=HB2.out;(exact bel))) (HI.out.below (bel)) (Nat.le_refl _) hrl).mono ?_;rintro e w5 ⟨rfl,hb5⟩;rw [HDI.out]
  try go_simp
  refine hK.out _ _ trivial (HT.out _ (bel)) (fun _ _=>?_);have hl4:W2.heap.size < w4.heap.size:=by have:=hb4.size;simp at this;omega
  have hlB:W2.heap.size < w5.heap.size:=Nat.lt_of_lt_of_le hl4 hb5.size;have v:=fun j u (hj:(#[.int .i64 0,.int .i64 0,.bool false]:Array Value)[j]? = some u)=>((hb5.cell (p:=⟨W2.heap.size,j,none⟩) hl4).trans ((hb4.cell (p:=⟨W2.heap.size,j,none⟩) (by simp)).trans (by rw [drew_cell,World.cell?_alloc_at _ _ _ _ rfl];exact hj:_=some u)));have vf:=fun j=>((hb5.frozen (p:=⟨W2.heap.size,j,none⟩) hl4).trans ((hb4.frozen (p:=⟨W2.heap.size,j,none⟩) (by simp)).trans (by rw [drew_frozen,World.frozen?_alloc_at _ _ _ _ rfl])));have v0:=v 0 _ rfl;have vf0:=vf 0;have v1:=v 1 _ rfl;have vf1:=vf 1;have v2:=v 2 _ rfl;have vf2:=vf 2;clear v vf;refine wpAnyD_ready [6] (by decide +kernel) (by simp) ?_;refine AllReadyD.post 6 rfl (by rfl) (fun K9 hK=>?_) AllReadyD.nil;go_simp;refine hK.out _ _ trivial (fun _=>?_);refine wpAnyD_done (by decide +kernel) ?_ _;obtain ⟨g0,g1,_,_,gk⟩:=set3 (x:=.int .i64 dv) (y:=.int .i64 dcost) (z:=.bool df) v0 v1 v2;have hb5':Below w.heap.size w w5:=by have:=HB2.out;(exact bel)
  have hwz:w.heap.size<=W2.heap.size:=by have:=HB2.out.size;first | omega | (simp at *;omega)
  exact ⟨W2.heap.size,fr_of (by kernel_rfl),g0,g1,Nat.lt_of_lt_of_le hlB gk.size,⟨gk.os.trans hb5'.os,gk.tape.trans hb5'.tape,gk.output.trans hb5'.output,Nat.le_trans hb5'.size gk.size,fun k hkk=>(gk.block k (Nat.lt_of_lt_of_le hkk hb5'.size) (by omega)).trans (hb5'.block k hkk)⟩⟩
 ·rintro e a' w6 hR;cases e
  case normal =>
   obtain ⟨B,⟨d,rfl⟩,c0,c1,hlB,hb6⟩:=hR;unfold dpFr;go_wp2
   go_region
   go_wp2;exact bodyPost_ret (v:=.tuple #[.int .i64 dcost,.int .i64 dv,.int .i64 0]) (by simp [results,Tryz.results28,go_sem, *]) rfl ⟨rfl,bel⟩
  all_goals exact hR.elim
end
attribute [local go_sem] Oper.semAt_some
def partR (r:R6) (ts:List Int):R6:=R6.of fun i=>decide ((i:Int)∈ts) && r.get i
def goTl (ts:List Int):List R6->List R6->Bool
 | _,[]=>true
 | seen,r::l=>if partR r ts∈seen then false else goTl ts (partR r ts::seen) l
def tellsI (rows:List R6) (ts:List Int):Bool:=goTl ts [] rows
theorem of_get (g:Nat->Bool) {j:Nat} (h:j < 6):(R6.of g).get j=g j:=by
 have:j=0\/j=1\/j=2\/j=3\/j=4\/j=5:=by omega
 rcases this with rfl | rfl | rfl | rfl | rfl | rfl <;> rfl
theorem partR_snoc (r:R6) (l:List Int) (t:Nat) {j:Nat} (h:j < 6):(partR r (l ++ [(t:Int)])).get j=if j=t then r.get t else (partR r l).get j:=by
 unfold partR;rw [of_get _ h,of_get _ h];by_cases e:j=t
 ·subst e;simp
 ·have:¬ (j:Int)=(t:Int):=by omega
  simp [e,this]
theorem r6v_inj {x y:R6} (h:x.v=y.v):x=y:=by
 obtain ⟨a,b,c,d,e,f⟩:=x;obtain ⟨a',b',c',d',e',f'⟩:=y;simpa [R6.v] using h
theorem mem_r6v {x:R6} {l:List R6}:x.v∈l.map R6.v↔x∈l:=by
 constructor
 ·intro h;obtain ⟨y,hy,e⟩:=List.mem_map.1 h;rw [<- r6v_inj e];exact hy
 ·exact fun h=>List.mem_map_of_mem h
section
variable {w:World} {a pa:Option Addr} {rows:List R6} {ts:List Int} {c pc:Nat}
theorem tells_at (hR:RowsAt w a rows) (hl:rows.length<=1000) (hT:IntsAt w pa ts) (htl:ts.length<=1000) (ht6:∀ x∈ts,0<=x/\x < 6) {t:Bool} (h:tellsI rows ts=t) :
 Calls Mz.prog 101 #[.slice a rows.length c,.slice pa ts.length pc] w fun e w'=>e=.returned (.bool t)/\Below w.heap.size w w':=by
 have HR:=Hh hR;have HT:=Hh hT;have H6:=Hh ht6;have H:=Hh h;clear hR hT ht6 h;have hmm:=@run_makeMap Mz.prog
 go_enter (mz_func (i:=101) rfl Tryz.func101),Tryz.ntmps101
 go_wp2;obtain ⟨W0,hW0⟩:∃ W0,W0=w.alloc (.map #[] 0):=⟨_,rfl⟩;rw [<- hW0];have hb0:Below w.heap.size w W0:=by rw [hW0];(exact bel)
 have hs0:W0.heap.size=w.heap.size+1:=by rw [hW0];simp
 have hm0:SetAt W0 Mz.prog 111 4 w.heap.size 0 []:=by rw [hW0];exact SetAt.made w _ _ _
 have HB0:=Hh hb0;have HM0:=Hh hm0;clear hW0 hb0 hm0 hmm;go_loopw [14] (fun i wr=>∃ (k:Nat) (seen:List R6),k<=rows.length/\i=.int .i64 k/\Hid (goTl ts seen (rows.drop k)=t)/\SetAt wr Mz.prog 111 4 w.heap.size k (seen.map R6.v)/\KS (fun k=>k≠w.heap.size) W0 wr) (fun i _=>rows.length - (intOf i).toNat)
 case atStart=>exact ⟨0,[],Nat.zero_le _,rfl,by simpa [Hid,tellsI] using H.out,HM0.out,KS.refl _ _⟩
 case round =>
  obtain ⟨k,seen,hk,rfl,hG,hM,hW⟩:=hrel;have hWs:=hW.size;obtain ⟨wo,rfl⟩:∃ x,x=wr:=⟨_,rfl⟩;have hlw:w.heap.size < wo.heap.size:=by omega
  have HBW:=Hh (show Below w.heap.size w wo from ⟨hW.os.trans HB0.out.os,hW.tape.trans HB0.out.tape,hW.output.trans HB0.out.output,Nat.le_trans HB0.out.size hW.size,fun k hk=>(hW.block k (by omega) (by omega)).trans (HB0.out.block k hk)⟩);have HW:=Hh hW;have HM:=Hh hM;clear hW hM;by_cases hlt:k < rows.length
  ·obtain ⟨rb,ro,rfl,hrb,hrc⟩:=(HR.out.below HBW.out) k hlt;have hG':=hG.out;rw [List.drop_eq_getElem_cons hlt,goTl] at hG';generalize rows[k]=r at hrc hG';have y0:=hrc 0 (by omega);have y1:=hrc 1 (by omega);have y2:=hrc 2 (by omega);have y3:=hrc 3 (by omega);have y4:=hrc 4 (by omega);have y5:=hrc 5 (by omega);obtain ⟨r0,r1,r2,r3,r4,r5⟩:=r;simp only [R6.get,Nat.add_zero] at y0 y1 y2 y3 y4 y5;have HG:=Hh hG';clear hrc hG hG';go_wp2;obtain ⟨W1,hW1⟩:∃ W1,W1=(wo.alloc (.cells #[.bool r0,.bool r1,.bool r2,.bool r3,.bool r4,.bool r5] 111)).alloc (.cells #[.bool false,.bool false,.bool false,.bool false,.bool false,.bool false] 111):=⟨_,rfl⟩;rw [<- hW1];have hs1:W1.heap.size=wo.heap.size+1+1:=by rw [hW1];simp
   have HB1:=Hh (show Below wo.heap.size wo W1 by rw [hW1];(exact bel));have HRB:=Hh (show ∀ j,j < 6->W1.cell? ⟨wo.heap.size,j,none⟩=some (.bool (R6.get ⟨r0,r1,r2,r3,r4,r5⟩ j)) from fun j hj=>by
    rw [hW1,World.cell?_alloc_past _ _ _ (by simp),World.cell?_alloc_at _ _ _ _ rfl]
    have:j=0\/j=1\/j=2\/j=3\/j=4\/j=5:=by omega
    rcases this with rfl | rfl | rfl | rfl | rfl | rfl <;> rfl)
   have HPB:=Hh (show ∀ j,j < 6->W1.cell? ⟨wo.heap.size+1,j,none⟩=some (.bool ((partR ⟨r0,r1,r2,r3,r4,r5⟩ []).get j)) from fun j hj=>by
    rw [hW1,World.cell?_alloc_at _ _ _ _ (by simp)]
    have:j=0\/j=1\/j=2\/j=3\/j=4\/j=5:=by omega
    rcases this with rfl | rfl | rfl | rfl | rfl | rfl <;> rfl)
   have HPF:=Hh (show ∀ j,W1.frozen? ⟨wo.heap.size+1,j,none⟩=false from fun j=>by rw [hW1,World.frozen?_alloc_at _ _ _ _ (by simp)]);clear hW1;go_loopw [20] (fun i wr=>∃ m:Nat,m<=ts.length/\i=.int .i64 m/\(∀ j,j < 6->wr.cell? ⟨wo.heap.size+1,j,none⟩=some (.bool ((partR ⟨r0,r1,r2,r3,r4,r5⟩ (ts.take m)).get j)))/\(∀ j,wr.frozen? ⟨wo.heap.size+1,j,none⟩=false)/\KS (fun k=>k≠wo.heap.size+1) W1 wr) (fun i _=>ts.length - (intOf i).toNat)
   case atStart=>exact ⟨0,Nat.zero_le _,rfl,by simpa using HPB.out,HPF.out,KS.refl _ _⟩
   case round =>
    obtain ⟨m,hm,rfl,hc,hf,hK⟩:=hrel;have hKs:=hK.size;obtain ⟨wi,rfl⟩:∃ x,x=wr:=⟨_,rfl⟩;have hbi:Below wo.heap.size wo wi:=⟨hK.os.trans HB1.out.os,hK.tape.trans HB1.out.tape,hK.output.trans HB1.out.output,Nat.le_trans HB1.out.size hK.size,fun k hk=>(hK.block k (by omega) (by omega)).trans (HB1.out.block k hk)⟩;have hrbx:∀ j,j < 6->wi.cell? ⟨wo.heap.size,j,none⟩=some (.bool (R6.get ⟨r0,r1,r2,r3,r4,r5⟩ j)):=fun j hj=>(hK.cell (x:=⟨wo.heap.size,j,none⟩) (by simp;omega) (by simp)).trans (HRB.out j hj);have hlo:wo.heap.size < wi.heap.size:=by omega
    have hlp:wo.heap.size+1 < wi.heap.size:=by omega
    have HC:=Hh hc;have HF:=Hh hf;have HK:=Hh hK;have HBI:=Hh hbi;have HRX:=Hh hrbx;clear hc hf hK hbi hrbx;by_cases hmt:m < ts.length
    ·obtain ⟨ib,io,rfl,hib,hi0⟩:=(HT.out.below (Below.next HBW.out HBI.out)) m hmt;obtain ⟨tv,htv⟩:∃ tv,ts[m]=tv:=⟨_,rfl⟩;rw [htv] at hi0;have htb:=H6.out ts[m] (List.getElem_mem hmt);rw [htv] at htb;obtain ⟨tn,rfl⟩:∃ tn:Nat,tv=(tn:Int):=⟨tv.toNat,by omega⟩;have htn:tn < 6:=by omega
     have htI:(tn:Int) < 6:=by omega
     have hst:ts.take (m+1)=ts.take m ++ [(tn:Int)]:=by rw [List.take_succ_eq_append_getElem hmt,htv]
     have u0:=HRX.out tn htn;have u1:=HC.out tn htn;have u2:=HF.out tn;have HST:=Hh hst;clear hst htv;go_wp2;go_roundw
     case rel =>
      refine ⟨m+1,hmt,by go_num,fun j hj=>?_,fun j=>by rw [World.frozen?_setCell];exact HF.out j,HK.out.trans (KS.setCell (by simp) _ _)⟩;rw [HST.out,partR_snoc _ _ _ hj];by_cases e:j=tn
      ·subst e;rw [if_pos rfl,World.cell?_setCell_same' _ _ _ (by rw [u1];rfl)]
      ·rw [if_neg e,World.cell?_setCell_other (h:=fun h=>e (by injection h with _ h _;exact h.symm))];exact HC.out j hj
     case measure=>simp [intOf];omega
    ·obtain rfl:m=ts.length:=by omega
     have hc:=HC.out;rw [List.take_length] at hc;obtain ⟨x,hx⟩:∃ x,partR ⟨r0,r1,r2,r3,r4,r5⟩ ts=x:=⟨_,rfl⟩;rw [hx] at hc;have hG:=HG.out;rw [hx] at hG;have z0:=hc 0 (by omega);have z1:=hc 1 (by omega);have z2:=hc 2 (by omega);have z3:=hc 3 (by omega);have z4:=hc 4 (by omega);have z5:=hc 5 (by omega);obtain ⟨kl,hkl⟩:=resKey x;have hS:=HM.out.below HBI.out;have HS:=Hh hS;have HKL:=Hh hkl;obtain ⟨x0,x1,x2,x3,x4,x5⟩:=x;simp only [R6.get] at z0 z1 z2 z3 z4 z5;clear hc hx hS hkl HC;by_cases hmem:(⟨x0,x1,x2,x3,x4,x5⟩:R6)∈seen
     ·rw [if_pos hmem] at hG;subst hG;have HIN:=Hh (mem_r6v.2 hmem);clear hmem;go_wp2_with (at_lookup;refine wpList_lookup_set_yes rfl _ _ 196 rfl resKeyed (mzu Tryz.underlying196) (mzu Tryz.underlying4) (mz_zeroBool _) rfl HS.out HKL.out HIN.out rfl ?_);go_ret;exact ⟨rfl,Below.next HBW.out HBI.out⟩
     ·rw [if_neg hmem] at hG;have HIN:=Hh (show R6.v ⟨x0,x1,x2,x3,x4,x5⟩ ∉ seen.map R6.v from fun h=>hmem (mem_r6v.1 h));have HG2:=Hh hG;clear hmem hG;go_wp2_with (first
       | (at_lookup;refine wpList_lookup_set_no rfl _ _ 196 rfl resKeyed (mzu Tryz.underlying196) (mzu Tryz.underlying4) (mz_zeroBool _) rfl HS.out HKL.out HIN.out rfl ?_)
       | (at_mapUpdate;refine wpList_put_set rfl _ _ _ 196 rfl resKeyed (mzu Tryz.underlying196) (mzu Tryz.underlying4) (by unfold maxLen;omega) rfl HS.out HKL.out rfl rfl ?_;intro w2 hS2 hg2;have HS2:=Hh hS2;have HG3:=Hh (KS.grown (p:=fun k=>k≠w.heap.size) hg2 (by simp));clear hS2 hg2))
      go_roundw
      case rel=>exact ⟨k+1,⟨x0,x1,x2,x3,x4,x5⟩::seen,hlt,by go_num,HG2.out,HS2.out,HW.out.trans ((KS.all HBI.out _).trans HG3.out)⟩
      case measure=>simp [intOf];omega
  ·have hG':=hG.out;rw [List.drop_eq_nil_of_le (by omega),goTl] at hG';subst hG';go_wp2;go_ret;exact ⟨rfl,HBW.out⟩
end
end Mt
end Go.Proofs.YtgkajecjbflbbaaGreatDoor
