/- Leads to StorePacked of chapter 6: G10 Ord D0 W2 W3 W4. -/
import Derived.Test.YtgemjjdkjmpmlaaGreatDoorPK00
set_option maxHeartbeats 8000000
set_option maxRecDepth 100000
set_option linter.all false
namespace Go.Proofs.YtgemjjdkjmpmlaaGreatDoor
open Go.RowKit Sp
def fitP (n:Int) (x:Int × Int):Prop:=¬ (x.1 < -1∨n≤x.1∨¬ (x.1=-1↔x.2=0))
def heldL:List (Int × Int)→Int→Int
 | [],_=>0
 | x::l,j=>(if x.1=j then x.2 else 0)+heldL l j
def mostL (m:Int):List Int→Int
 | []=>m
 | x::l=>mostL (max m x) l
theorem mostL_le (m:Int):∀ l:List Int,m≤mostL m l:=fun l=>by
 induction l generalizing m with
 | nil=>exact Int.le_refl _
 | cons x l ih=>exact Int.le_trans (by omega) (ih (max m x))
theorem mostL_in (m:Int):∀ (l:List Int),mostL m l=m∨mostL m l∈l:=fun l=>by
 induction l generalizing m with
 | nil=>exact .inl rfl
 | cons x l ih =>
  show mostL (max m x) l=m∨mostL (max m x) l∈x::l
  rcases ih (max m x) with h | h
  ·rw [h]
   by_cases hx:x≤m
   ·exact .inl (by omega)
   ·exact .inr (by rw [show max m x=x by omega];simp)
  ·exact .inr (by simp [h])
theorem mostL_snoc (m:Int) (l:List Int) (x:Int):mostL m (l ++ [x])=max (mostL m l) x:=by
 induction l generalizing m with
 | nil=>rfl
 | cons y l ih=>exact ih _
theorem heldL_none:∀ {l:List (Int × Int)} {j:Int},(∀ x∈l,x.1≠j)→heldL l j=0
 | [],_,_=>rfl
 | x::l,j,h=>by
  unfold heldL
  rw [if_neg (h x (by simp)),heldL_none fun y hy=>h y (by simp [hy])]
  rfl
theorem heldL_nn:∀ {l:List (Int × Int)} {j:Int},(∀ x∈l,0≤x.2)→0≤heldL l j
 | [],_,_=>Int.le_refl _
 | x::l,j,h=>by
  unfold heldL
  have h1:=heldL_nn (l:=l) (j:=j) fun y hy=>h y (by simp [hy])
  have h2:=h x (by simp)
  split <;> omega
theorem heldL_pos:∀ {l:List (Int × Int)} {j:Int} {x:Int × Int},(∀ x∈l,0≤x.2)→x∈l→x.1=j→x.2≠0→0 < heldL l j
 | y::l,j,x,h,hx,e,h0=>by
  unfold heldL
  have h1:=heldL_nn (l:=l) (j:=j) fun y hy=>h y (by simp [hy])
  have h2:=h y (by simp)
  rcases List.mem_cons.1 hx with rfl | hx
  ·rw [if_pos e];omega
  ·have:=heldL_pos (fun y hy=>h y (by simp [hy])) hx e h0
   split <;> omega
theorem getD_set {l:List Int} {k:Nat} (h:k < l.length) (v:Int) (j:Nat):(l.set k v).getD j 0=if k=j then v else l.getD j 0:=by
 simp only [List.getD_eq_getElem?_getD,List.getElem?_set]
 by_cases e:k=j
 ·subst e;simp [h]
 ·simp [e]
theorem getD_fill (l:List Int) (n j:Nat):(l ++ List.replicate n 0).getD j 0=l.getD j 0:=by
 simp only [List.getD_eq_getElem?_getD]
 by_cases h:j < l.length
 ·rw [List.getElem?_append_left h]
 ·rw [List.getElem?_append_right (by omega),List.getElem?_eq_none (l:=l) (by omega)]
  cases hg:(List.replicate n (0:Int))[j - l.length]? with
  | none=>rfl
  | some y =>
   have:=List.eq_of_mem_replicate (List.mem_of_getElem? hg)
   simp [this]
theorem tapeStep_char {n:Int} {out:List Int} {k ld:Int} (h:fitP n (k,ld)):∃ o,tapeStep n out k ld=some o∧(o.length:Int)=max (out.length:Int) (k+1)∧∀ j:Nat,o.getD j 0=out.getD j 0+if k=(j:Int) then ld else 0:=by
 unfold fitP at h
 simp only at h
 unfold tapeStep
 rw [if_neg h]
 by_cases h0:k < 0
 ·rw [if_pos h0]
  exact ⟨out,rfl,by omega,fun j=>by rw [if_neg (by omega)];omega⟩
 ·rw [if_neg h0]
  refine ⟨_,rfl,?_,fun j=>?_⟩
  ·rw [List.length_set,List.length_append,List.length_replicate];omega
  ·rw [getD_set (by rw [List.length_append,List.length_replicate];omega),getD_fill,getD_fill]
   by_cases e:k.toNat=j
   ·rw [if_pos e,if_pos (by omega),e]
   ·rw [if_neg e,if_neg (by omega)];omega
theorem tapesGo_char {n:Int}:∀ (l:List (Int × Int)) (out:List Int),(∀ x∈l,fitP n x)→∃ o,tapesGo n out l=some o∧(o.length:Int)=mostL ((out.length:Int) - 1) (l.map Prod.fst)+1∧∀ j:Nat,o.getD j 0=out.getD j 0+heldL l j
 | [],out,_=>⟨out,rfl,by simp [mostL],fun j=>by simp [heldL]⟩
 | (k,ld)::l,out,h=>by
  obtain ⟨o1,e1,h1,h2⟩:=tapeStep_char (out:=out) (h (k,ld) (by simp))
  obtain ⟨o,e2,h3,h4⟩:=tapesGo_char l o1 fun x hx=>h x (by simp [hx])
  refine ⟨o,?_,?_,fun j=>?_⟩
  ·show (tapeStep n out k ld).bind _=_
   rw [e1];exact e2
  ·rw [h3,h1]
   show mostL _ _+1=mostL (max _ k) _+1
   rw [show max (out.length:Int) (k+1) - 1=max ((out.length:Int) - 1) k by omega]
  ·rw [h4,h2]
   show _=_+((if k=(j:Int) then ld else 0)+heldL l j)
   omega
theorem tapesGo_fit {n:Int}:∀ (l:List (Int × Int)) (out o:List Int),tapesGo n out l=some o→∀ x∈l,fitP n x
 | [],_,_,_,x,hx=>by cases hx
 | (k,ld)::l,out,o,h,x,hx=>by
  have h:(tapeStep n out k ld).bind (fun o=>tapesGo n o l)=some o:=h
  cases e:tapeStep n out k ld with
  | none=>rw [e] at h;cases h
  | some o1 =>
   rw [e] at h
   rcases List.mem_cons.1 hx with rfl | hx
   ·intro hc
    unfold tapeStep at e
    rw [if_pos hc] at e
    cases e
   ·exact tapesGo_fit l o1 o h x hx
theorem zip_fst {l m:List Int} (h:l.length=m.length):(l.zip m).map Prod.fst=l:=List.map_fst_zip (by omega)
theorem mem_of_held {l:List (Int × Int)} {j:Int} (h:heldL l j≠0):∃ x∈l,x.1=j:=Classical.byContradiction fun hc=>h (heldL_none fun x hx e=>hc ⟨x,hx,e⟩)
theorem planOk_mk {loads plan:List Int} (hl:loads.length=plan.length) (h0:∀ x∈loads,0≤x) (h:∀ x∈plan.zip loads,fitP plan.length x) (ha:∀ k:Nat,(k:Int)≤mostL (-1) plan→(k:Int)∈plan):∃ o,planOk loads plan=some o:=by
 obtain ⟨o,e,h1,h2⟩:=tapesGo_char (plan.zip loads) [] h
 rw [zip_fst hl.symm] at h1
 refine ⟨o,?_⟩
 unfold planOk tapesI
 rw [e]
 show (if 0∈o then none else some o)=some o
 rw [if_neg fun hm=>?_]
 obtain ⟨j,hj,ej⟩:=List.mem_iff_getElem.1 hm
 have h3:=h2 j
 rw [List.getD_eq_getElem?_getD,List.getElem?_eq_getElem hj,Option.getD_some,ej] at h3
 have hin:=ha j (by rw [show ((([]:List Int).length:Int) - 1)=-1 from rfl] at h1;omega)
 obtain ⟨i,hi,ei⟩:=List.mem_iff_getElem.1 hin
 have hz:(plan[i],loads[i]'(by omega))∈plan.zip loads:=List.mem_iff_getElem.2 ⟨i,by rw [List.length_zip];omega,by simp⟩
 have hf:=h _ hz
 have:=heldL_pos (j:=(j:Int)) (fun x hx=>h0 _ (List.of_mem_zip hx).2) hz ei (fun hc=>hf (.inr (.inr fun hb=>by have:=hb.2 hc;omega)))
 simp at h3
 omega
theorem planOk_inv {loads plan o:List Int} (hl:loads.length=plan.length) (h:planOk loads plan=some o) :
 (∀ x∈plan.zip loads,fitP plan.length x)∧(o.length:Int)=mostL (-1) plan+1∧(∀ k:Nat,k < o.length→(k:Int)∈plan)∧(∀ k:Nat,o.getD k 0=heldL (plan.zip loads) k)∧0 ∉ o:=by
 unfold planOk tapesI at h
 cases e:tapesGo plan.length [] (plan.zip loads) with
 | none=>rw [e] at h;cases h
 | some o1 =>
  rw [e] at h
  have h:(if 0∈o1 then none else some o1)=some o:=h
  split at h
  ·cases h
  ·rename_i hz
   cases h
   have hf:=tapesGo_fit _ _ _ e
   obtain ⟨o2,e2,h1,h2⟩:=tapesGo_char (plan.zip loads) [] hf
   rw [e] at e2
   cases e2
   rw [zip_fst hl.symm] at h1
   have h3:∀ k:Nat,o.getD k 0=heldL (plan.zip loads) k:=fun k=>by rw [h2 k];simp
   refine ⟨hf,h1,fun k hk=>?_,h3,hz⟩
   have hne:heldL (plan.zip loads) k≠0:=fun hc=>hz (by
    rw [← h3,List.getD_eq_getElem?_getD,List.getElem?_eq_getElem hk,Option.getD_some] at hc
    rw [← hc];exact List.getElem_mem hk)
   obtain ⟨x,hx,ex⟩:=mem_of_held hne
   rw [← ex]
   exact (List.of_mem_zip hx).1
theorem plansFrom_in {loads:List Int}:∀ (rest pre suf o:List Int),suf.length=rest.length→planOk loads (pre ++ suf)=some o→(∀ x∈suf.zip rest,fitP loads.length x)→(pre ++ suf,o)∈plansFrom loads pre rest
 | [],pre,suf,o,hl,h,_=>by
  have:suf=[]:=List.length_eq_zero_iff.1 hl
  subst this
  rw [List.append_nil] at h ⊢
  unfold plansFrom
  rw [h]
  simp
 | ld::rest,pre,[],o,hl,h,_=>by simp at hl
 | ld::rest,pre,k::suf,o,hl,h,hf=>by
  have hk:=hf (k,ld) (by simp)
  unfold plansFrom
  refine List.mem_flatMap.2 ⟨k,?_,?_⟩
  ·unfold fitP at hk
   simp only at hk
   by_cases h0:ld=0
   ·rw [if_pos h0]
    have:k=-1:=by omega
    simp [this]
   ·rw [if_neg h0]
    refine List.mem_map.2 ⟨k.toNat,List.mem_range.2 (by omega),by omega⟩
  ·have:=plansFrom_in rest (pre ++ [k]) suf o (by simpa using hl) (by simpa using h) fun x hx=>hf x (by simp [hx])
   simpa using this
theorem plansI_in {loads plan o:List Int} (hl:loads.length=plan.length) (h:planOk loads plan=some o):(plan,o)∈plansI loads:=by
 have hf:=(planOk_inv hl h).1
 have:=plansFrom_in (loads:=loads) loads [] plan o hl.symm (by simpa using h) (by rw [hl];exact hf)
 simpa [plansI] using this
theorem lesser_pre:∀ (p a b:List Int),lesserI (p ++ a) (p ++ b)=lesserI a b
 | [],_,_=>rfl
 | x::p,a,b=>by
  have:lesserI (x::(p ++ a)) (x::(p ++ b))=lesserI (p ++ a) (p ++ b):=by rw [lesserI,if_pos rfl]
  exact this.trans (lesser_pre p a b)
theorem plansFrom_pre {loads:List Int}:∀ (rest pre:List Int) (x:List Int × List Int),x∈plansFrom loads pre rest→∃ s,x.1=pre ++ s
 | [],pre,x,h=>by
  unfold plansFrom at h
  split at h
  ·simp at h;exact ⟨[],by rw [h];simp⟩
  ·cases h
 | ld::rest,pre,x,h=>by
  unfold plansFrom at h
  obtain ⟨k,_,hx⟩:=List.mem_flatMap.1 h
  obtain ⟨s,e⟩:=plansFrom_pre rest (pre ++ [k]) x hx
  exact ⟨k::s,by rw [e];simp⟩
theorem plansFrom_sorted {loads:List Int}:∀ (rest pre:List Int),(plansFrom loads pre rest).Pairwise fun x y=>lesserI x.1 y.1=true
 | [],pre=>by
  unfold plansFrom
  split
  ·exact List.pairwise_singleton _ _
  ·exact List.Pairwise.nil
 | ld::rest,pre=>by
  unfold plansFrom
  rw [List.pairwise_flatMap]
  refine ⟨fun k _=>plansFrom_sorted rest (pre ++ [k]),?_⟩
  refine List.Pairwise.imp (R:=fun (a b:Int)=>a < b) (fun {a b} hab x hx y hy=>?_) ?_
  ·obtain ⟨s,e⟩:=plansFrom_pre rest _ x hx
   obtain ⟨t,e2⟩:=plansFrom_pre rest _ y hy
   rw [e,e2,List.append_assoc,List.append_assoc,lesser_pre]
   show lesserI (a::s) (b::t)=true
   unfold lesserI
   rw [if_neg (by omega)]
   simp [hab]
  ·split
   ·exact List.pairwise_singleton _ _
   ·rw [List.pairwise_map]
    exact List.pairwise_lt_range.imp fun {a b} h=>by omega
theorem plansI_sorted (loads:List Int):(plansI loads).Pairwise fun x y=>lesserI x.1 y.1=true:=plansFrom_sorted loads []
theorem lesser_asymm {a b:List Int} (h:lesserI a b=true):lesserI b a=false:=by
 cases e:lesserI b a with
 | false=>rfl
 | true=>have:=lesser_trans h e;rw [lesser_irrefl] at this;cases this
def PackInv (b:Bk) (now:Int) (l:List (List Int × List Int)):Option (List Int × List Int)→Prop
 | none=>∀ x∈l,goodI b x.1 x.2 now=false
 | some y=>∃ l1 l2,l=l1 ++ y::l2∧goodI b y.1 y.2 now=true∧(∀ x∈l1,goodI b x.1 x.2 now=true→y.2.length < x.2.length)∧(∀ x∈l2,goodI b x.1 x.2 now=true→y.2.length≤x.2.length)
theorem pack_step {b:Bk} {now:Int} {l:List (List Int × List Int)} {st:Option (List Int × List Int)} (x:List Int × List Int) (h:PackInv b now l st):PackInv b now (l ++ [x]) (packStep b now st x):=by
 unfold packStep
 cases st with
 | none =>
  cases hg:goodI b x.1 x.2 now with
  | false =>
   simp only [Bool.false_and,Bool.false_eq_true,if_false]
   intro y hy
   rcases List.mem_append.1 hy with hy | hy
   ·exact h y hy
   ·rw [List.mem_singleton.1 hy];exact hg
  | true =>
   simp only [Bool.and_true,if_true]
   exact ⟨l,[],rfl,hg,fun y hy hc=>(by rw [h y hy] at hc;cases hc),fun y hy=>(by cases hy)⟩
 | some y =>
  obtain ⟨l1,l2,rfl,h1,h2,h3⟩:=h
  by_cases hc:goodI b x.1 x.2 now=true∧x.2.length < y.2.length
  ·rw [if_pos (by simp [hc.1,hc.2])]
   refine ⟨l1 ++ y::l2,[],rfl,hc.1,fun z hz hg=>?_,fun z hz=>(by cases hz)⟩
   rcases List.mem_append.1 hz with hz | hz
   ·have:=h2 z hz hg;omega
   ·rcases List.mem_cons.1 hz with rfl | hz
    ·exact hc.2
    ·have:=h3 z hz hg;omega
  ·rw [if_neg (by simpa using hc)]
   refine ⟨l1,l2 ++ [x],by simp,h1,h2,fun z hz hg=>?_⟩
   rcases List.mem_append.1 hz with hz | hz
   ·exact h3 z hz hg
   ·rw [List.mem_singleton.1 hz] at hg ⊢
    have:¬ x.2.length < y.2.length:=fun h=>hc ⟨hg,h⟩
    omega
theorem pack_inv_go (b:Bk) (now:Int):∀ (m l:List (List Int × List Int)) (st:Option (List Int × List Int)),PackInv b now l st→PackInv b now (l ++ m) (m.foldl (packStep b now) st)
 | [],l,st,h=>by simpa using h
 | x::m,l,st,h=>by
  have:=pack_inv_go b now m (l ++ [x]) _ (pack_step x h)
  simpa using this
theorem pack_inv (b:Bk) (loads:List Int) (now:Int):PackInv b now (plansI loads) (packI b loads now):=by
 have:=pack_inv_go b now (plansI loads) [] none (fun x hx=>by cases hx)
 simpa [packI] using this
theorem pack_law {b:Bk} {loads:List Int} {now:Int} {y:List Int × List Int} (h:packI b loads now=some y) :
 y∈plansI loads∧goodI b y.1 y.2 now=true∧∀ x∈plansI loads,goodI b x.1 x.2 now=true→y.2.length < x.2.length∨y.2.length=x.2.length∧lesserI x.1 y.1=false:=by
 have hi:=pack_inv b loads now
 have hs:=plansI_sorted loads
 rw [h] at hi
 obtain ⟨l1,l2,e,h1,h2,h3⟩:=hi
 rw [e] at hs ⊢
 refine ⟨by simp,h1,fun x hx hg=>?_⟩
 rcases List.mem_append.1 hx with hx | hx
 ·exact .inl (h2 x hx hg)
 ·rcases List.mem_cons.1 hx with rfl | hx
  ·exact .inr ⟨rfl,lesser_irrefl _⟩
  ·have h4:=h3 x hx hg
   have h5:=(List.pairwise_cons.1 (List.pairwise_append.1 hs).2.1).1 x hx
   by_cases hl:y.2.length=x.2.length
   ·exact .inr ⟨hl,lesser_asymm h5⟩
   ·exact .inl (by omega)
theorem pack_none {b:Bk} {loads:List Int} {now:Int} (h:packI b loads now=none):∀ x∈plansI loads,goodI b x.1 x.2 now=false:=by
 have hi:=pack_inv b loads now
 rw [h] at hi
 exact hi
def planGo (p loads:List Int):Nat→List Int × Nat
 | 0=>([],0)
 | k+1=>if loads.getD k 0=0 then ((planGo p loads k).1 ++ [-1],(planGo p loads k).2)
  else ((planGo p loads k).1 ++ [choiceI p k % (((planGo p loads k).2:Int)+1)],if choiceI p k % (((planGo p loads k).2:Int)+1)=((planGo p loads k).2:Int) then (planGo p loads k).2+1 else (planGo p loads k).2)
def turnK (f:Nat) (k:Int):Int:=if 0≤k then (f:Int) - 1 - k else k
def planP (p loads:List Int):List Int:=if choiceI p loads.length % 2=1 then (planGo p loads loads.length).1.map (turnK (planGo p loads loads.length).2) else (planGo p loads loads.length).1
structure PlanV (loads out:List Int) (f:Nat) (k:Nat):Prop where
 len:out.length=k
 few:f≤k
 at':∀ i (h:i < out.length),(loads.getD i 0=0→out[i]=-1)∧(loads.getD i 0≠0→0≤out[i]∧out[i] < (f:Int))
 all:∀ j:Nat,j < f→(j:Int)∈out
theorem planGo_v (p loads:List Int):∀ k,PlanV loads (planGo p loads k).1 (planGo p loads k).2 k
 | 0=>⟨rfl,Nat.le_refl _,fun i h=>absurd h (by simp [planGo]),fun j h=>absurd h (by simp [planGo])⟩
 | k+1=>by
  have ih:=planGo_v p loads k
  unfold planGo
  obtain ⟨h1,h2,h3,h4⟩:=ih
  generalize (planGo p loads k).1=out at *
  generalize (planGo p loads k).2=f at *
  by_cases h0:loads.getD k 0=0
  ·rw [if_pos h0]
   refine ⟨by simp [h1],by simp only;omega,fun i hi=>?_,fun j hj=>by simp [h4 j hj]⟩
   by_cases hk:i < out.length
   ·simp only [List.getElem_append_left hk];exact h3 i hk
   ·have:i=k:=by simp at hi;omega
    subst this
    simp only [List.getElem_append_right (Nat.le_of_not_lt hk),List.getElem_singleton]
    exact ⟨fun _=>trivial,fun h=>absurd h0 h⟩
  ·rw [if_neg h0]
   have hc0:=Int.emod_nonneg (choiceI p k) (show ((f:Int)+1)≠0 by omega)
   have hc1:=Int.emod_lt_of_pos (choiceI p k) (show 0 < ((f:Int)+1) by omega)
   generalize choiceI p k % ((f:Int)+1)=c at hc0 hc1
   by_cases hc:c=(f:Int)
   ·rw [if_pos hc]
    refine ⟨by simp [h1],by simp only;omega,fun i hi=>?_,fun j hj=>?_⟩
    ·by_cases hk:i < out.length
     ·simp only [List.getElem_append_left hk]
      exact ⟨(h3 i hk).1,fun h=>by have:=(h3 i hk).2 h;omega⟩
     ·have:i=k:=by simp at hi;omega
      subst this
      simp only [List.getElem_append_right (Nat.le_of_not_lt hk),List.getElem_singleton]
      exact ⟨fun h=>absurd h h0,fun _=>by omega⟩
    ·by_cases hj2:j < f
     ·simp [h4 j hj2]
     ·have:j=f:=by simp only at hj;omega
      subst this
      simp [hc]
   ·rw [if_neg hc]
    refine ⟨by simp [h1],by simp only;omega,fun i hi=>?_,fun j hj=>by simp [h4 j hj]⟩
    by_cases hk:i < out.length
    ·simp only [List.getElem_append_left hk];exact h3 i hk
    ·have:i=k:=by simp at hi;omega
     subst this
     simp only [List.getElem_append_right (Nat.le_of_not_lt hk),List.getElem_singleton]
     exact ⟨fun h=>absurd h h0,fun _=>by omega⟩
theorem PlanV.turn {loads out:List Int} {f k:Nat} (h:PlanV loads out f k):PlanV loads (out.map (turnK f)) f k:=by
 obtain ⟨h1,h2,h3,h4⟩:=h
 refine ⟨by simp [h1],h2,fun i hi=>?_,fun j hj=>?_⟩
 ·have hk:i < out.length:=by simpa using hi
  rw [List.getElem_map]
  obtain ⟨h5,h6⟩:=h3 i hk
  refine ⟨fun h=>?_,fun h=>?_⟩
  ·rw [h5 h];rfl
  ·have:=h6 h
   unfold turnK
   rw [if_pos this.1]
   omega
 ·refine List.mem_map.2 ⟨((f - 1 - j:Nat):Int),h4 _ (by omega),?_⟩
  unfold turnK
  rw [if_pos (by omega)]
  omega
theorem planP_v (p loads:List Int):PlanV loads (planP p loads) (planGo p loads loads.length).2 loads.length:=by
 unfold planP
 split
 ·exact (planGo_v p loads _).turn
 ·exact planGo_v p loads _
theorem planP_len (p loads:List Int):(planP p loads).length=loads.length:=(planP_v p loads).len
theorem PlanV.ok {loads out:List Int} {f:Nat} (h:PlanV loads out f loads.length) (h0:∀ x∈loads,0≤x):∃ o,planOk loads out=some o:=by
 obtain ⟨h1,h2,h3,h4⟩:=h
 have hlt:∀ x∈out,x < (f:Int):=fun x hx=>by
  obtain ⟨i,hi,rfl⟩:=List.mem_iff_getElem.1 hx
  obtain ⟨h5,h6⟩:=h3 i hi
  by_cases hz:loads.getD i 0=0
  ·rw [h5 hz];omega
  ·exact (h6 hz).2
 refine planOk_mk h1.symm h0 (fun x hx=>?_) (fun k hk=>h4 k ?_)
 ·obtain ⟨i,hi,e⟩:=List.mem_iff_getElem.1 hx
  have hi1:i < out.length:=by rw [List.length_zip] at hi;omega
  have hi2:i < loads.length:=by omega
  rw [List.getElem_zip] at e
  subst e
  obtain ⟨h5,h6⟩:=h3 i hi1
  have e2:loads.getD i 0=loads[i]:=by rw [List.getD_eq_getElem?_getD,List.getElem?_eq_getElem hi2,Option.getD_some]
  rw [e2] at h5 h6
  unfold fitP
  simp only
  by_cases hz:loads[i]=0
  ·have:=h5 hz;omega
  ·have:=h6 hz;omega
 ·rcases mostL_in (-1) out with h7 | h7
  ·omega
  ·have:=hlt _ h7;omega
theorem planP_ok (p:List Int) {loads:List Int} (h0:∀ x∈loads,0≤x):∃ o,planOk loads (planP p loads)=some o:=(planP_v p loads).ok h0
end Go.Proofs.YtgemjjdkjmpmlaaGreatDoor
namespace Go.Proofs.YtgemjjdkjmpmlaaGreatDoor
open Go
section
variable {P:Program} {md:Region.Mode} {ops:Array Oper} {Q:Exit→Act→World→Prop} {S T:World→Prop} {d:Nat}
def wpAnyD (P:Program) (md:Region.Mode) (ops:Array Oper) (Q:Exit→Act→World→Prop) (S T:World→Prop) (d:Nat):Nat→Array Bool→Act→World→Prop
 | 0,listed,a,w=>Region.ready md ops listed=[]∧Q .normal a w
 | fuel+1,listed,a,w =>
  (Region.ready md ops listed=[]→Q .normal a w) ∧
  ∀ i∈Region.ready md ops listed,wpOp P ops Q i (fun a' w'=>(S w'∧((listed.setIfInBounds i true).getD d true=false→T w'))∧wpAnyD P md ops Q S T d fuel (listed.setIfInBounds i true) a' w') a w
def Down (md:Region.Mode) (ops:Array Oper) (listed:Array Bool):Prop:=∀ (k:Nat) (ok:Oper),ops[k]? = some ok→listed.getD k false=true→∀ e∈ok.after,Region.binds md e=true→listed.getD e.on false=true
theorem Down.set {listed:Array Bool} (h:Down md ops listed) {j:Nat} (hj:j∈Region.ready md ops listed):Down md ops (listed.setIfInBounds j true):=fun k ok hk hl e he hb=>by
 by_cases hjk:j=k
 ·subst hjk
  obtain ⟨_,oj,hoj,hall⟩:=mem_ready.1 hj
  rw [hoj] at hk
  cases hk
  exact getD_set_true (hall e he hb)
 ·rw [getD_set_ne false hjk] at hl
  exact getD_set_true (h k ok hk hl e he hb)
def AllReadyD (P:Program) (md:Region.Mode) (ops:Array Oper) (Q:Exit→Act→World→Prop) (S T:World→Prop) (d:Nat) (fuel:Nat) (listed:Array Bool) (a:Act) (w:World) (rs:List Nat):Prop :=
 ∀ i∈rs,wpOp P ops Q i (fun a' w'=>(S w'∧((listed.setIfInBounds i true).getD d true=false→T w'))∧wpAnyD P md ops Q S T d fuel (listed.setIfInBounds i true) a' w') a w
theorem AllReadyD.nil {fuel:Nat} {listed:Array Bool} {a:Act} {w:World}:AllReadyD P md ops Q S T d fuel listed a w []:=fun _ h=>by cases h
theorem AllReadyD.pre {fuel:Nat} {listed:Array Bool} {a:Act} {w:World} (i:Nat) {o:Oper} {rs:List Nat} (ho:ops[i]? = some o)
 (h:∀ K':Act→World→Prop,Shut (∀ a w,S w→T w→(S w→T w→wpAnyD P md ops Q S T d fuel (listed.setIfInBounds i true) a w)→K' a w)→if Region.wanted o (yielded ops a.tmps)=true then Oper.wp P o a w K' Q else K' (a.put o.dst undef) w)
 (hs:AllReadyD P md ops Q S T d fuel listed a w rs):AllReadyD P md ops Q S T d fuel listed a w (i::rs):=fun j hj=>by
 rcases List.mem_cons.1 hj with rfl | hj
 ·exact wpOp_step ho (fun K' hK=>h K' (fun a w hS hT hW=>hK a w ⟨⟨hS,fun _=>hT⟩,hW hS hT⟩))
 ·exact hs j hj
theorem AllReadyD.post {fuel:Nat} {listed:Array Bool} {a:Act} {w:World} (i:Nat) {o:Oper} {rs:List Nat} (ho:ops[i]? = some o) (hd:(listed.setIfInBounds i true).getD d true=true)
 (h:∀ K':Act→World→Prop,Shut (∀ a w,S w→(S w→wpAnyD P md ops Q S T d fuel (listed.setIfInBounds i true) a w)→K' a w)→if Region.wanted o (yielded ops a.tmps)=true then Oper.wp P o a w K' Q else K' (a.put o.dst undef) w)
 (hs:AllReadyD P md ops Q S T d fuel listed a w rs):AllReadyD P md ops Q S T d fuel listed a w (i::rs):=fun j hj=>by
 rcases List.mem_cons.1 hj with rfl | hj
 ·exact wpOp_step ho (fun K' hK=>h K' (fun a w hS hW=>hK a w ⟨⟨hS,fun hf=>by rw [hd] at hf;cases hf⟩,hW hS⟩))
 ·exact hs j hj
end
section
variable {P:Program} {md:Region.Mode} {ops:Array Oper} {Q:Exit→Act→World→Prop} {l:Nat}
end
end Go.Proofs.YtgemjjdkjmpmlaaGreatDoor
namespace Go.Proofs.YtgemjjdkjmpmlaaGreatDoor
open Go.RowKit Go.Maps Sp
structure Two (A:World) (B Bx:Nat) (e:TypeId) (r2:Value) (n2:Nat) (x2:List Value) (r3:Value) (n3:Nat) (x3:List Value) (w:World):Prop where
 ks:KS (fun k=>k < B∨k=Bx) A w
 base:B≤w.heap.size
 o2:w.ownsRow B e 2 r2 n2 x2
 o3:w.ownsRow B e 2 r3 n3 x3
 ap:∀ g,r2.ownBlock=some g→r3.ownBlock≠some g
 b2:∀ g,r2.ownBlock=some g→g≠Bx
 b3:∀ g,r3.ownBlock=some g→g≠Bx
 box:Bx < w.heap.size
structure Lit (B:Nat) (r2 r3:Value) (cs:List Value) (g:Nat) (w:World):Prop where
 lt:g < w.heap.size
 src:∀ j u,cs[j]? = some u→w.cell? (Addr.add ⟨g,0,none⟩ j)=some u
 a2:r2.ownBlock≠some g
 a3:r3.ownBlock≠some g
section
variable {A w w':World} {B Bx n2 n3 m:Nat} {e:TypeId} {r2 r3 v:Value} {x2 x3 xs cs:List Value} {g h:Nat}
theorem Two.lit (t:Two A B Bx e r2 n2 x2 r3 n3 x3 w) (ty:TypeId):Two A B Bx e r2 n2 x2 r3 n3 x3 (w.alloc (.cells cs.toArray ty))∧Lit B r2 r3 cs w.heap.size (w.alloc (.cells cs.toArray ty)):=by
 have hk:KS (fun _=>True) w (w.alloc (.cells cs.toArray ty)):=KS.alloc _ _ _
 have hs:(w.alloc (.cells cs.toArray ty)).heap.size=w.heap.size+1:=by simp
 refine ⟨⟨t.ks.trans (KS.alloc _ _ _),by have:=t.base;omega,row_keep' t.o2 hk fun _ _=>trivial,row_keep' t.o3 hk fun _ _=>trivial,t.ap,t.b2,t.b3,by have:=t.box;omega⟩,by omega,cells_new w cs ty,fun e=>?_,fun e=>?_⟩
 ·have:=(ownBlock_row t.o2 _ e).2;omega
 ·have:=(ownBlock_row t.o3 _ e).2;omega
theorem Lit.alloc (k:Lit B r2 r3 cs g w) (o:Obj):Lit B r2 r3 cs g (w.alloc o):=by
 refine ⟨by have:=k.lt;simp;omega,fun j u hj=>?_,k.a2,k.a3⟩
 have hb:(Addr.add ⟨g,0,none⟩ j).block=g:=by unfold Addr.add;split <;> rfl
 exact (World.cell?_alloc_lt w o _ (by rw [hb];exact k.lt)).trans (k.src j u hj)
theorem Two.app2 (t:Two A B Bx e r2 n2 x2 r3 n3 x3 w) (ho:w'.ownsRow B e 2 v m xs) (hg:w.grownBy w' r2.ownBlock) (hv:v.ownBlock=some g) (hat:r2.ownBlock=some g∨g=w.heap.size):Two A B Bx e v m xs r3 n3 x3 w':=by
 have hk:KS (fun k=>r2.ownBlock≠some k) w w':=KS.own hg fun g hg=>by simp [hg]
 have hs:=hg.size
 have hb:=t.base
 have hx:=t.box
 refine ⟨t.ks.trans (hk.mono fun k hkA hk2 e=>?_),by omega,ho,row_keep' t.o3 hk fun g hg e=>t.ap g e hg,fun g' hg' e=>?_,fun g' hg'=>?_,t.b3,by omega⟩
 ·rcases hk2 with h | h
  ·have:=(ownBlock_row t.o2 _ e).1;omega
  ·exact t.b2 _ e h
 ·rw [hv] at hg';cases hg'
  rcases hat with h | h
  ·exact t.ap _ h e
  ·have:=(ownBlock_row t.o3 _ e).2;omega
 ·rw [hv] at hg';cases hg'
  rcases hat with h | h
  ·exact t.b2 _ h
  ·omega
theorem Lit.app2 (k:Lit B r2 r3 cs h w) (hg:w.grownBy w' r2.ownBlock) (hv:v.ownBlock=some g) (hat:r2.ownBlock=some g∨g=w.heap.size):Lit B v r3 cs h w':=by
 have hk:KS (fun k=>r2.ownBlock≠some k) w w':=KS.own hg fun g hg=>by simp [hg]
 have hs:=hg.size
 have hl:=k.lt
 refine ⟨by omega,fun j u hj=>?_,fun e=>?_,k.a3⟩
 ·have hb:(Addr.add ⟨h,0,none⟩ j).block=h:=by unfold Addr.add;split <;> rfl
  exact (hk.cell (x:=Addr.add ⟨h,0,none⟩ j) (by rw [hb];exact hl) (by rw [hb];exact k.a2)).trans (k.src j u hj)
 ·rw [hv] at e;cases e
  rcases hat with h' | h'
  ·exact k.a2 h'
  ·omega
theorem Two.swap (t:Two A B Bx e r2 n2 x2 r3 n3 x3 w):Two A B Bx e r3 n3 x3 r2 n2 x2 w:=⟨t.ks,t.base,t.o3,t.o2,fun g h k=>t.ap g k h,t.b3,t.b2,t.box⟩
theorem Lit.swap (k:Lit B r2 r3 cs h w):Lit B r3 r2 cs h w:=⟨k.lt,k.src,k.a3,k.a2⟩
end
structure Pair (B:Nat) (e:TypeId) (v1:Value) (n1:Nat) (x1:List Value) (v2:Value) (n2:Nat) (x2:List Value) (w:World):Prop where
 o1:w.ownsRow B e 1 v1 n1 x1
 o2:w.ownsRow B e 1 v2 n2 x2
 ap:∀ g,v1.ownBlock=some g→v2.ownBlock≠some g
section
variable {w w':World} {B n1 n2 m:Nat} {e:TypeId} {v1 v2 v:Value} {x1 x2 xs:List Value}
theorem Pair.swap (t:Pair B e v1 n1 x1 v2 n2 x2 w):Pair B e v2 n2 x2 v1 n1 x1 w:=⟨t.o2,t.o1,fun g h k=>t.ap g k h⟩
theorem Pair.ks (t:Pair B e v1 n1 x1 v2 n2 x2 w) (hk:KS (fun _=>True) w w'):Pair B e v1 n1 x1 v2 n2 x2 w':=⟨row_keep' t.o1 hk fun _ _=>trivial,row_keep' t.o2 hk fun _ _=>trivial,t.ap⟩
theorem Pair.app2 (t:Pair B e v1 n1 x1 v2 n2 x2 w) (ho:w'.ownsRow B e 1 v m xs) (hg:w.grownBy w' v2.ownBlock) (hat:v.ownBlock=v2.ownBlock∨v.ownBlock=some w.heap.size):Pair B e v1 n1 x1 v m xs w':=by
 have hk:KS (fun k=>v2.ownBlock≠some k) w w':=KS.own hg fun g hg=>by simp [hg]
 refine ⟨row_keep' t.o1 hk fun g hg e=>t.ap g hg e,ho,fun g hg e=>?_⟩
 rcases hat with h | h
 ·rw [h] at e;exact t.ap g hg e
 ·rw [h] at e
  cases e
  have:=(ownBlock_row t.o1 _ hg).2
  omega
theorem wpl_pair {P:Program} {w:World} {ops:Array Oper} {rest:List Oper} {o:Oper} {a:Act} {Q:Exit→Act→World→Prop} (hgd:o.guard=none) (s x:Operand) (t:TypeId)
 (ho:o.op=.call { callee:=.builtin .append,args:=#[s,x],argTypes:=#[t,t] })
 (base:Nat) (e:TypeId) {z:Value} {bytes:Nat} (ht:P.underlying t=some (.slice e)) (hi:(P.info? e).map (fun i=>(i.zero,i.size,i.bytes))=some (some z,1,bytes)) (hzs:z.cells.size=1) (hby:bytes≤100)
 (v:Value) (k:Nat) (xs:List Value) (hs:a.eval s=v) {v1:Value} {n1:Nat} {x1:List Value} (hP:Pair base e v1 n1 x1 v k xs w) (hbase:base≤w.heap.size) (hk:k≤1000000) (u:Value)
 {n:Nat} (hn:n=w.heap.size) (hx:a.eval x=.slice (some ⟨n,0,none⟩) 1 1) (h1:u.oneCell'=true)
 (h:∀ g cap w',Pair base e v1 n1 x1 (.slice (some ⟨g,0,none⟩) (k+1) cap) (k+1) (xs ++ [u]) w'→Below base w w'→wpList P ops Q rest (a.put o.dst (.slice (some ⟨g,0,none⟩) (k+1) cap)) w') :
 wpList P ops Q (o::rest) a (w.alloc (.cells #[u] e)):=by
 subst hn
 obtain ⟨i,hi,hz,hsz,hb⟩:=info_parts hi
 have hp2:Pair base e v1 n1 x1 v k xs (w.alloc (.cells #[u] e)):=hP.ks (KS.alloc _ _ _)
 have hle:base≤(w.alloc (.cells #[u] e)).heap.size:=by simp;omega
 refine wpList_append_own_at (w.alloc (.cells #[u] e)) hgd s x t ho base e i z 1 bytes ht hi hz hsz hb hzs (by decide) v k xs hs hp2.o2 ⟨w.heap.size,0,none⟩ 1 1 [u] hx rfl (cells_new w [u] e) (by simpa using h1) (by unfold maxLen;omega) (by have:=Nat.mul_le_mul (show k+1≤1000001 by omega) hby;omega) hle ?_
 intro v' w' hown' hg _ hat
 have hp3:=hp2.app2 hown' hg hat
 obtain ⟨g',cap',rfl⟩:=ownsRow_succ hown'
 exact h g' cap' w' hp3 (((Below.refl base w).alloc hbase _).trans (below_own hp2.o2 hg hle))
end
def mapTo (f:Int→Int) (k:Nat) (l:List Int):List Int:=(l.take k).map f ++ l.drop k
theorem mapTo_length (f:Int→Int) (k:Nat) (l:List Int):(mapTo f k l).length=l.length:=by simp [mapTo];omega
theorem mapTo_at (f:Int→Int) (l:List Int) (k:Nat) (h:k < l.length):((mapTo f k l).map (Value.int .i64))[k]? = some (.int .i64 l[k]):=by
 unfold mapTo
 rw [List.map_append,List.getElem?_append_right (by simp;omega)]
 simp [List.length_take,Nat.min_eq_left (Nat.le_of_lt h),h]
theorem mapTo_succ (f:Int→Int) (l:List Int) (k:Nat) (h:k < l.length):mapTo f (k+1) l=(l.take k).map f ++ (f l[k]::l.drop (k+1)):=by
 unfold mapTo
 rw [List.take_succ_eq_append_getElem h,List.map_append,List.append_assoc]
 rfl
theorem mapTo_set (f:Int→Int) (l:List Int) (k:Nat) (h:k < l.length):((mapTo f k l).map (Value.int .i64)).set k (.int .i64 (f l[k]))=(mapTo f (k+1) l).map (Value.int .i64):=by
 rw [← List.map_set]
 congr 1
 unfold mapTo
 rw [List.take_succ_eq_append_getElem h,List.map_append,List.set_append_right _ _ (by simp;omega)]
 simp only [List.length_map,List.length_take,Nat.min_eq_left (Nat.le_of_lt h),Nat.sub_self,List.append_assoc,List.map_cons,List.map_nil,List.singleton_append]
 rw [List.drop_eq_getElem_cons h]
 rfl
theorem mapTo_same (f:Int→Int) (l:List Int) (k:Nat) (h:k < l.length) (e:f l[k]=l[k]):mapTo f (k+1) l=mapTo f k l:=by
 rw [mapTo_succ f l k h,e,← List.drop_eq_getElem_cons h]
 rfl
theorem planGo_few (p loads:List Int) (k:Nat):(planGo p loads k).1.length=k∧(planGo p loads k).2≤k:=⟨(planGo_v p loads k).len,(planGo_v p loads k).few⟩
section
variable {w:World} {la ka:Option Addr} {lc kc n m:Nat} {l p:List Int}
theorem plan_at (hL:IntsAt w la l) (hn:n=l.length) (hl:l.length≤1000) (hU:U16sAt w ka p) (hm:m=p.length) :
 Calls Tryz.prog 33 #[.slice la n lc,.slice ka m kc] w (NumsRet w (planP p l)):=by
 subst hn hm
 have HL:=Hh hL
 have HU:=Hh hU
 clear hL hU
 go_enter Tryz.func33,Tryz.ntmps33
 go_wp2
 go_loopw [5,6,7,8] (fun v f i _ wr=>∃ (k q:Nat) (a fa:Option Addr) (c fc:Nat) (xs:List Value),k≤l.length∧i=.int .i64 k∧q=(planGo p l k).2∧v=.slice a k c∧f=.slice fa q fc∧Hid (Pair w.heap.size 3 (.slice a k c) k ((planGo p l k).1.map (Value.int .i64)) (.slice fa q fc) q xs wr)∧Below w.heap.size w wr) (fun _ _ i _ _=>l.length - (intOf i).toNat)
 case atStart=>exact ⟨0,0,none,none,0,0,[],Nat.zero_le _,rfl,rfl,rfl,rfl,(⟨World.ownsRow_nil _ _ _ _,World.ownsRow_nil _ _ _ _,fun g h=>by cases h⟩:Pair _ _ _ _ _ _ _ _ _),Below.refl _ _⟩
 case round =>
  obtain ⟨k,q,a,fa,c,fc,xs,hk,rfl,hq,rfl,rfl,HPR,hW⟩:=hrel
  have hWs:=hW.size
  have hqk:q≤k:=by rw [hq];exact (planGo_few p l k).2
  by_cases hlt:k < l.length
  ·obtain ⟨lb,lo,rfl,hlb,e0⟩:=HL.out k hlt
   have d0:=(hW.cell hlb).trans e0
   have hlb2:lb < wr.heap.size:=Nat.lt_of_lt_of_le hlb hWs
   have hld:l.getD k 0=l[k]:=by rw [List.getD_eq_getElem?_getD,List.getElem?_eq_getElem hlt,Option.getD_some]
   have hsn:planGo p l (k+1)=if l[k]=0 then ((planGo p l k).1 ++ [-1],q) else ((planGo p l k).1 ++ [choiceI p k % ((q:Int)+1)],if choiceI p k % ((q:Int)+1)=(q:Int) then q+1 else q):=by
    rw [← hld,hq];rfl
   generalize l[k]=x at d0 hsn e0
   have HQ:=Hh hq
   clear e0 hld hq
   by_cases hx:x=0
   ·subst hx
    rw [if_pos rfl] at hsn
    have HSN:=Hh hsn
    clear hsn
    go_wp2_with (at_builtin;go_loud (refine wpl_pair rfl _ _ 30 rfl w.heap.size 3 Tryz.underlying30 intInfo rfl (by decide) (.slice a k c) k _ rfl HPR.out.swap hWs (by omega) (.int .i64 (-1)) rfl rfl rfl ?_;intro g' cap' w5 hp5 hb5))
    have HP5:=Hh hp5.swap
    have HB5:=Hh (hW.trans hb5)
    clear hp5 hb5
    go_roundw
    case rel=>exact ⟨k+1,q,some ⟨g',0,none⟩,fa,cap',fc,xs,by omega,by go_num,by rw [HSN.out],rfl,rfl,by rw [HSN.out,List.map_append];exact HP5,HB5.out⟩
    case measure=>simp [intOf];omega
   ·have hx0:(x == 0)=false:=by rw [beq_eq_false_iff_ne];exact hx
    rw [if_neg hx] at hsn
    obtain ⟨hc0,hc1⟩:=choiceI_bd HU.out k
    have hm0:=Int.emod_nonneg (choiceI p k) (show ((q:Int)+1)≠0 by omega)
    have hm1:=Int.emod_lt_of_pos (choiceI p k) (show 0 < ((q:Int)+1) by omega)
    have htm:(choiceI p k).tmod ((q:Int)+1)=choiceI p k % ((q:Int)+1):=Int.tmod_eq_emod_of_nonneg hc0
    have HCH:Hid (∀ w',Below w.heap.size w w'→Calls Tryz.prog 65 #[.slice ka p.length kc,.int .i64 k] w' fun e w2=>e=.returned (.int .i64 (choiceI p k))∧w2=w'):=fun w' h=>choice_at (HU.out.below h) rfl k rfl
    generalize choiceI p k=cv at hc0 hc1 hm0 hm1 htm hsn HCH
    have hw1:IntKind.i64.wrap ((q:Int)+1)=(q:Int)+1:=wrapI (by omega) (by omega)
    have hw2:IntKind.i64.wrap (cv % ((q:Int)+1))=cv % ((q:Int)+1):=wrapI (by omega) (by omega)
    have hnz:((q:Int)+1 == 0)=false:=by rw [beq_eq_false_iff_ne];omega
    have hnz2:¬ ((q:Int)+1=0):=by omega
    by_cases hcq:cv % ((q:Int)+1)=(q:Int)
    ·have hcq1:(cv % ((q:Int)+1) == (q:Int))=true:=by rw [beq_iff_eq];exact hcq
     rw [if_pos hcq] at hsn
     have HSN:=Hh hsn
     have HCQ:=Hh hcq
     clear hsn hcq hx
     go_wp2_with (first
      | (go_at_call 65;(with_reducible refine (HCH.out _ (by assumption)).mono ?_);rintro e w1 ⟨rfl,rfl⟩)
      | (at_builtin;go_loud (refine wpl_pair rfl _ _ 30 rfl w.heap.size 3 Tryz.underlying30 intInfo rfl (by decide) (.slice fa q fc) q xs rfl HPR.out hWs (by omega) (.int .i64 (cv % ((q:Int)+1))) rfl rfl rfl ?_;intro g1 cap1 w5 hp9 hb5;have HP5:=Hh hp9;have HP5s:=hb5.size;clear hp9))
      | (at_builtin;go_loud (refine wpl_pair rfl _ _ 30 rfl w.heap.size 3 Tryz.underlying30 intInfo rfl (by decide) (.slice a k c) k _ rfl HP5.out.swap (by omega) (by omega) (.int .i64 (cv % ((q:Int)+1))) rfl rfl rfl ?_;intro g2 cap2 w6 hp9 hb6;have HP6:=Hh hp9;have HP6s:=hb6.size;clear hp9)))
     have HB6:=Hh ((hW.trans hb5).trans hb6)
     clear hb5 hb6
     go_roundw
     case rel=>exact ⟨k+1,q+1,some ⟨g2,0,none⟩,some ⟨g1,0,none⟩,cap2,cap1,_,by omega,by go_num,by rw [HSN.out],rfl,rfl,by rw [HSN.out,List.map_append];exact HP6.out.swap,HB6.out⟩
     case measure=>simp [intOf];omega
    ·have hcq1:(cv % ((q:Int)+1) == (q:Int))=false:=by rw [beq_eq_false_iff_ne];exact hcq
     rw [if_neg hcq] at hsn
     have HSN:=Hh hsn
     have HCQ:=Hh hcq
     clear hsn hcq hx
     go_wp2_with (first
      | (go_at_call 65;(with_reducible refine (HCH.out _ (by assumption)).mono ?_);rintro e w1 ⟨rfl,rfl⟩)
      | (at_builtin;go_loud (refine wpl_pair rfl _ _ 30 rfl w.heap.size 3 Tryz.underlying30 intInfo rfl (by decide) (.slice a k c) k _ rfl HPR.out.swap hWs (by omega) (.int .i64 (cv % ((q:Int)+1))) rfl rfl rfl ?_;intro g2 cap2 w6 hp9 hb6;have HP6:=Hh hp9;have HP6s:=hb6.size;clear hp9)))
     have HB6:=Hh (hW.trans hb6)
     clear hb6
     go_roundw
     case rel=>exact ⟨k+1,q,some ⟨g2,0,none⟩,fa,cap2,fc,xs,by omega,by go_num,by rw [HSN.out],rfl,rfl,by rw [HSN.out,List.map_append];exact HP6.out.swap,HB6.out⟩
     case measure=>simp [intOf];omega
  ·obtain rfl:k=l.length:=by omega
   obtain ⟨hc0,hc1⟩:=choiceI_bd HU.out l.length
   have htm:(choiceI p l.length).tmod 2=choiceI p l.length % 2:=Int.tmod_eq_emod_of_nonneg hc0
   have HCH:Hid (∀ w',Below w.heap.size w w'→Calls Tryz.prog 65 #[.slice ka p.length kc,.int .i64 (l.length:Int)] w' fun e w2=>e=.returned (.int .i64 (choiceI p l.length))∧w2=w'):=fun w' h=>choice_at (HU.out.below h) rfl l.length rfl
   have hpv:=planGo_v p l l.length
   have hpp:planP p l=if choiceI p l.length % 2=1 then (planGo p l l.length).1.map (turnK q) else (planGo p l l.length).1:=by rw [hq];rfl
   have hbd:∀ x∈(planGo p l l.length).1,-1≤x∧x < (q:Int):=fun x hx=>by
    obtain ⟨i,hi,rfl⟩:=List.mem_iff_getElem.1 hx
    obtain ⟨h5,h6⟩:=hpv.at' i hi
    rw [← hq] at h6
    by_cases hz:l.getD i 0=0
    ·rw [h5 hz];omega
    ·have:=h6 hz;omega
   have hol:=hpv.len
   have HROW:=Hh HPR.out.o1
   generalize (planGo p l l.length).1=out at HROW hpp hbd hol
   generalize choiceI p l.length=cv at hc0 hc1 htm HCH hpp
   have hm0:=Int.emod_nonneg cv (show (2:Int)≠0 by omega)
   have hm1:=Int.emod_lt_of_pos cv (show (0:Int) < 2 by omega)
   have hw2:IntKind.i64.wrap (cv % 2)=cv % 2:=wrapI (by omega) (by omega)
   have HPP:=Hh hpp
   have HBD:=Hh hbd
   have HOL:=Hh hol
   clear hq hpv hpp hbd hol HPR
   by_cases h2:cv % 2=1
   ·have h21:(cv % 2 == 1)=true:=by rw [beq_iff_eq];exact h2
    have HPP2:=Hh (HPP.out.trans (if_pos h2))
    clear h2
    go_wp2_with (go_at_call 65;(with_reducible refine (HCH.out _ (by assumption)).mono ?_);rintro e w1 ⟨rfl,rfl⟩)
    go_loopw [9] (fun i wr=>∃ k:Nat,k≤l.length∧i=.int .i64 k∧wr.ownsRow w.heap.size 3 1 (.slice a l.length c) l.length ((mapTo (turnK q) k out).map (Value.int .i64))∧Below w.heap.size w wr) (fun i _=>l.length - (intOf i).toNat)
    case atStart=>exact ⟨0,Nat.zero_le _,rfl,by simpa [mapTo] using HROW.out,hW⟩
    case round =>
     obtain ⟨k,hk,rfl,hrow,hW⟩:=hrel
     by_cases hlt:k < l.length
     ·have hko:k < out.length:=by rw [HOL.out];exact hlt
      obtain ⟨g,rfl,hg,hgl,hc0⟩:=row_cell hrow k (by rw [List.length_map,mapTo_length];exact hko)
      rw [mapTo_at _ out k hko] at hc0
      have hfr:=row_free hrow k
      have hset:=ownsRow_put hrow (k:=k) (.int .i64 (turnK q out[k]))
      rw [mapTo_set _ out k hko] at hset
      have hbx:=HBD.out _ (List.getElem_mem hko)
      by_cases hx:0≤out[k]
      ·have HSET:=Hh hset
       have htu:turnK q out[k]=(q:Int) - 1 - out[k]:=by unfold turnK;rw [if_pos hx]
       rw [htu] at HSET
       generalize out[k]=x at hc0 hbx HSET hx
       have hge:decide ((0:Int)≤x)=true:=by simp [hx]
       have hwa:IntKind.i64.wrap ((q:Int) - 1)=(q:Int) - 1:=wrapI (by omega) (by omega)
       have hwb:IntKind.i64.wrap ((q:Int) - 1 - x)=(q:Int) - 1 - x:=wrapI (by omega) (by omega)
       clear hset hrow htu
       go_wp2
       go_roundw
       case rel=>exact ⟨k+1,by omega,by go_num,HSET.out,by refine Below.setCell hW ?_ _;exact hg⟩
       case measure=>simp [intOf];omega
      ·have hsame:=mapTo_same (turnK q) out k hko (by unfold turnK;rw [if_neg hx])
       rw [← hsame] at hrow
       have HR:=Hh hrow
       generalize out[k]=x at hc0 hx
       have hge:decide ((0:Int)≤x)=false:=by simp [hx]
       clear hset hrow hsame
       go_wp2
       go_roundw
       case rel=>exact ⟨k+1,by omega,by go_num,HR.out,hW⟩
       case measure=>simp [intOf];omega
     ·obtain rfl:k=l.length:=by omega
      have e:mapTo (turnK q) l.length out=planP p l:=by rw [HPP2.out];unfold mapTo;rw [← HOL.out];simp
      rw [e] at hrow
      have HR:=Hh hrow
      clear hrow e
      go_wp2
      go_ret
      exact ⟨a,c,by rw [planP_len];rfl,ints_of_row (show wr.ownsRow w.heap.size 3 1 (.slice a (planP p l).length c) (planP p l).length ((planP p l).map (Value.int .i64)) by rw [planP_len];exact HR.out),hW⟩
   ·have h21:(cv % 2 == 1)=false:=by rw [beq_eq_false_iff_ne];exact h2
    have HPP2:=Hh (HPP.out.trans (if_neg h2))
    clear h2
    go_wp2_with (go_at_call 65;(with_reducible refine (HCH.out _ (by assumption)).mono ?_);rintro e w1 ⟨rfl,rfl⟩)
    go_ret
    exact ⟨a,c,by rw [planP_len];rfl,ints_of_row (show World.ownsRow _ w.heap.size 3 1 (.slice a (planP p l).length c) (planP p l).length ((planP p l).map (Value.int .i64)) by rw [planP_len,HPP2.out];exact HROW.out),hW⟩
end
section
variable {w:World} {la pa:Option Addr} {lc pc n m:Nat} {loads plan o:List Int}
theorem fit_parts {n:Nat} {k x:Int} (h:fitP n (k,x)):decide (k < -1)=false∧decide ((n:Int)≤k)=false∧(!(decide (k < 0) == (x == 0)))=false:=by
 unfold fitP at h
 simp only at h
 refine ⟨by rw [decide_eq_false_iff_not];omega,by rw [decide_eq_false_iff_not];omega,?_⟩
 by_cases hx:x=0
 ·have:k=-1:=by omega
  simp [hx,this]
 ·have:¬ k < 0:=by omega
  simp [hx,this]
theorem tapesOf_at (hL:IntsAt w la loads) (hP:IntsAt w pa plan) (hn:n=loads.length) (hm:m=plan.length) (hl:loads.length=plan.length) (hpl:plan.length≤1000) (ho:planOk loads plan=some o) :
 Calls Tryz.prog 34 #[.slice la n lc,.slice pa m pc] w fun e w'=>e=.returned (.int .i64 o.length)∧Below w.heap.size w w':=by
 subst hn hm
 obtain ⟨hf,ho1,ho2,_,_⟩:=planOk_inv hl ho
 have HF:=Hh hf
 have HO2:=Hh ho2
 have HO1:=Hh ho1
 have HL:=Hh hL
 have HP:=Hh hP
 have hlb:∀ k,k≤plan.length→-1≤mostL (-1) (plan.take k)∧mostL (-1) (plan.take k)≤(plan.length:Int):=fun k hk=>by
  refine ⟨mostL_le _ _,?_⟩
  rcases mostL_in (-1) (plan.take k) with h | h
  ·omega
  ·have hx:=List.mem_of_mem_take h
   obtain ⟨i,hi,e⟩:=List.mem_iff_getElem.1 hx
   have hz:(plan[i],loads[i]'(by omega))∈plan.zip loads:=List.mem_iff_getElem.2 ⟨i,by rw [List.length_zip];omega,by simp⟩
   have:=hf _ hz
   unfold fitP at this
   simp only at this
   omega
 have HLB:=Hh hlb
 have HLN:=Hh hl
 clear hL hP hf ho ho1 ho2 hlb hl
 go_enter Tryz.func34,Tryz.ntmps34
 go_wp2
 go_loopw [5,6] (fun v i wr=>∃ k:Nat,k≤plan.length∧i=.int .i64 k∧v=.int .i64 (mostL (-1) (plan.take k))∧Below w.heap.size w wr) (fun _ i _=>plan.length - (intOf i).toNat)
 case atStart=>exact ⟨0,Nat.zero_le _,rfl,rfl,Below.refl _ _⟩
 case round =>
  obtain ⟨k,hk,rfl,rfl,hW⟩:=hrel
  have hWs:=hW.size
  by_cases hlt:k < plan.length
  ·have hlt2:k < loads.length:=by rw [HLN.out];exact hlt
   obtain ⟨lb,lo,rfl,hlb,e0⟩:=HL.out k hlt2
   obtain ⟨pb,po,rfl,hpb,f0⟩:=HP.out k hlt
   have d0:=(hW.cell hlb).trans e0
   have d1:=(hW.cell hpb).trans f0
   have hlb2:lb < wr.heap.size:=Nat.lt_of_lt_of_le hlb hWs
   have hpb2:pb < wr.heap.size:=Nat.lt_of_lt_of_le hpb hWs
   have hz:(plan[k],loads[k])∈plan.zip loads:=List.mem_iff_getElem.2 ⟨k,by rw [List.length_zip,HLN.out,Nat.min_self];exact hlt,by simp⟩
   obtain ⟨q1,q2,q3⟩:=fit_parts (HF.out _ hz)
   have hsn:mostL (-1) (plan.take (k+1))=max (mostL (-1) (plan.take k)) plan[k]:=by rw [List.take_succ_eq_append_getElem hlt,mostL_snoc]
   generalize loads[k]=x at d0 q3 e0
   generalize plan[k]=y at d1 q1 q2 q3 hsn f0
   have HSN:=Hh hsn
   clear e0 f0 hsn hz
   generalize mostL (-1) (plan.take k)=z at HSN
   go_wp2
   go_quiet (fail)
   go_wp2
   go_roundw
   case rel=>exact ⟨k+1,by omega,by go_num,by rw [HSN.out],bel⟩
   case measure=>simp [intOf];omega
  ·obtain rfl:k=plan.length:=by omega
   have hbd:=HLB.out plan.length (Nat.le_refl _)
   rw [List.take_length] at hbd ⊢
   have ho1:=HO1.out
   generalize mostL (-1) plan=z at hbd ho1
   go_wp2
   go_loopw [7] (fun i wr=>∃ k:Nat,(k:Int)≤z+1∧i=.int .i64 k∧Below w.heap.size w wr) (fun i _=>(z+1 - intOf i).toNat)
   case atStart=>exact ⟨0,by omega,rfl,hW⟩
   case round =>
    obtain ⟨k,hk,rfl,hW⟩:=hrel
    have hWs:=hW.size
    by_cases hlt:(k:Int)≤z
    ·have hin:=Hh (show decide ((k:Int)∈plan)=true by rw [decide_eq_true_iff];exact HO2.out k (by omega))
     go_wp2_with (go_at_call 61;(with_reducible refine (hasNum_at (HP.out.below hW) rfl (by omega) hin.out).mono ?_);rintro e w1 ⟨rfl,rfl⟩)
     go_roundw
     case rel=>exact ⟨k+1,by omega,by go_num,hW⟩
     case measure=>simp [intOf];omega
    ·have hkz:(k:Int)=z+1:=by omega
     have hw:IntKind.i64.wrap (z+1)=(o.length:Int):=by rw [wrapI (by omega) (by omega)];omega
     go_wp2
     go_ret
     exact ⟨rfl,hW⟩
end
section
variable {b:Bk} {vr vg vm vs vc:Value} {w:World}
theorem pack_no (hB:BookAt w b vr vg vm vs vc) (hN:∀ m∈b.ms,m.name.size≤1000000) (hK:KindsAt w) (now:Int) {t:Int} (ht:openAl b (timedAsk now)=t) (h0:t≠0) :
 Calls Tryz.prog 43 #[.agg #[vr,vg,vm,vs,vc],.int .i64 now] w fun e w'=>e=.returned (.tuple #[.slice none 0 0,.bool false,.int .i64 t])∧Below w.heap.size w w':=by
 have HB:=Hh hB
 have HN:=Hh hN
 have HK:=Hh hK
 have HT:=Hh ht
 have HH0:=Hh h0
 have hz3:(t != 0)=true:=by simpa using h0
 obtain ⟨rfl,rfl,⟨ma,mc,rfl,_,_⟩,⟨sa,sc,rfl,_,_⟩,ra,rc,rfl,_,_⟩:=id hB
 clear hB hN hK ht
 go_enter Tryz.func43,Tryz.ntmps43
 go_wp2
 obtain ⟨W0,hW0⟩:∃ W0,W0=(((w.alloc (.cells #[.int .i64 b.room,.int .i64 b.gap,.slice ma b.ms.length mc,.slice sa b.ss.length sc,.slice ra b.rs.length rc] 26)).alloc (.cells #[.int .i64 now] 3)).alloc (.cells #[.slice none 0 0] 30)).alloc (.cells #[.bool false] 4):=⟨_,rfl⟩
 rw [← hW0]
 have hb0:Below w.heap.size w W0:=by rw [hW0];(exact bel)
 have hs0:W0.heap.size=w.heap.size+1+1+1+1:=by rw [hW0];simp
 have c5:∀ k u,(#[.int .i64 b.room,.int .i64 b.gap,.slice ma b.ms.length mc,.slice sa b.ss.length sc,.slice ra b.rs.length rc]:Array Value)[k]? = some u→W0.cell? ⟨w.heap.size,k,none⟩=some u:=fun k u hk=>by
  rw [hW0,World.cell?_alloc_past _ _ _ (by first | (simp;done) | (simp;omega)),World.cell?_alloc_past _ _ _ (by first | (simp;done) | (simp;omega)),World.cell?_alloc_past _ _ _ (by first | (simp;done) | (simp;omega)),World.cell?_alloc_at _ _ _ _ rfl];exact hk
 have q5:W0.cell? ⟨w.heap.size+1,0,none⟩=some (.int .i64 now):=by rw [hW0,World.cell?_alloc_past _ _ _ (by first | omega | (simp;done) | (simp;omega)),World.cell?_alloc_past _ _ _ (by first | omega | (simp;done) | (simp;omega)),World.cell?_alloc_at _ _ _ _ (by first | omega | (simp;done) | (simp;omega))];rfl
 have q6:W0.cell? ⟨w.heap.size+1+1,0,none⟩=some (.slice none 0 0):=by rw [hW0,World.cell?_alloc_past _ _ _ (by first | omega | (simp;done) | (simp;omega)),World.cell?_alloc_at _ _ _ _ (by first | omega | (simp;done) | (simp;omega))];rfl
 have q7:W0.cell? ⟨w.heap.size+1+1+1,0,none⟩=some (.bool false):=by rw [hW0,World.cell?_alloc_at _ _ _ _ (by first | omega | (simp;done) | (simp;omega))];rfl
 have q8:W0.frozen? ⟨w.heap.size+1+1,0,none⟩=false:=by rw [hW0];simp [go_sem]
 have q9:W0.frozen? ⟨w.heap.size+1+1+1,0,none⟩=false:=by rw [hW0];simp [go_sem]
 have HALL:=Hh (fun (w':World) (h:Below W0.heap.size W0 w')=>(⟨h,(h.cell (by simp;omega)).trans (c5 0 _ rfl),(h.cell (by simp;omega)).trans (c5 1 _ rfl),(h.cell (by simp;omega)).trans (c5 2 _ rfl),(h.cell (by simp;omega)).trans (c5 3 _ rfl),(h.cell (by simp;omega)).trans (c5 4 _ rfl),(h.cell (by simp;omega)).trans q5⟩:Below W0.heap.size W0 w'∧w'.cell? ⟨w.heap.size,0,none⟩=some (.int .i64 b.room)∧w'.cell? ⟨w.heap.size,1,none⟩=some (.int .i64 b.gap)∧w'.cell? ⟨w.heap.size,2,none⟩=some (.slice ma b.ms.length mc)∧w'.cell? ⟨w.heap.size,3,none⟩=some (.slice sa b.ss.length sc)∧w'.cell? ⟨w.heap.size,4,none⟩=some (.slice ra b.rs.length rc)∧w'.cell? ⟨w.heap.size+1,0,none⟩=some (.int .i64 now)))
 have HQ0:=Hh (⟨q6,q7,q8,q9⟩:_∧_∧_∧_)
 have hs0a:w.heap.size+1+1+1+1≤W0.heap.size:=by omega
 clear hs0 hW0 c5 q5 q6 q7 q8 q9
 have HTM:=Hh (fun (w':World)=>timed_at now w')
 refine Code.wp_mono (Q:=fun e a' w'=>e=.normal∧Below W0.heap.size W0 w'∧∃ v7 v8 v13 v14 v15 v16 v17 v18 v19 v20,a'={ tmps:=#[.agg #[.int .i64 b.room,.int .i64 b.gap,.slice ma b.ms.length mc,.slice sa b.ss.length sc,.slice ra b.rs.length rc],.int .i64 now,.pointer (some ⟨w.heap.size,0,none⟩),.pointer (some ⟨w.heap.size+1,0,none⟩),.pointer (some ⟨w.heap.size+1+1,0,none⟩),.pointer (some ⟨w.heap.size+1+1+1,0,none⟩),.int .i64 t,v7,v8,U,U,U,U,v13,v14,v15,v16,v17,v18,v19,v20,U,U,U,U,U,U,U,U,U,U,U,U,U,U,U,U,U,U,U,U,U,U,U,U,U,U,U,U,U,U,U],defers:=[] }) ?_ ?_
 rotate_left
 ·go_region_held3 (fun w'=>Below W0.heap.size W0 w'∧w'.cell? ⟨w.heap.size,0,none⟩=some (.int .i64 b.room)∧w'.cell? ⟨w.heap.size,1,none⟩=some (.int .i64 b.gap)∧w'.cell? ⟨w.heap.size,2,none⟩=some (.slice ma b.ms.length mc)∧w'.cell? ⟨w.heap.size,3,none⟩=some (.slice sa b.ss.length sc)∧w'.cell? ⟨w.heap.size,4,none⟩=some (.slice ra b.rs.length rc)∧w'.cell? ⟨w.heap.size+1,0,none⟩=some (.int .i64 now))
   ((go_split_ands;exact HALL.out _ (bel)))
   (first
     | (go_at_call 85;(with_reducible refine (HTM.out _).mono ?_);rintro e w2 ⟨B,rfl,hB1,r0,hb2⟩;have hq:∀ W,Below w2.heap.size w2 W→W.cell? ⟨B,0,none⟩=some (.int .i64 now):=(fun W h=>(h.cell hB1).trans r0);have HQ:=Hh hq;clear hq r0;obtain ⟨hc2,hf2⟩:=bcell hb2;have hz2:=hb2.size;(try simp at hz2);(try (have hy2:W0.heap.size < w2.heap.size:=by omega)))
     | (go_at_call 66;go_split_ands;have hX:=Below.next hb0 ‹Below W0.heap.size W0 _›;(with_reducible refine (open_timed_no (HB.out.below hX) HN.out (HK.out.below hX) _ (al:=timedAsk now) (fun hk W hW=>timed1_at _ _ _ _ _ (HQ.out W (Below.next (by first | exact Below.refl _ _ | exact bal _ _) hW))) HT.out HH0.out).mono ?_);rintro e w3 ⟨rfl,hb3⟩;obtain ⟨hc3,hf3⟩:=bcell hb3;have hz3':=hb3.size;(try simp at hz3');(try (have hy3:W0.heap.size < w3.heap.size:=by omega)))
     | fail "no arm")
  all_goals exact ⟨rfl,bel,_,_,_,_,_,_,_,_,_,_,rfl⟩
 rintro e a' X ⟨rfl,hbX,v7,v8,v13,v14,v15,v16,v17,v18,v19,v20,rfl⟩
 obtain ⟨q6,q7,q8,q9⟩:=HQ0.out
 have hXs:=hbX.size
 have x1:=(hbX.cell (p:=⟨w.heap.size+1+1,0,none⟩) (by simp;omega)).trans q6
 have x2:=(hbX.frozen (p:=⟨w.heap.size+1+1,0,none⟩) (by simp;omega)).trans q8
 have x3:=(hbX.cell (p:=⟨w.heap.size+1+1+1,0,none⟩) (by simp;omega)).trans q7
 have x4:=(hbX.frozen (p:=⟨w.heap.size+1+1+1,0,none⟩) (by simp;omega)).trans q9
 have hbw:=Below.next hb0 hbX
 have hlt1:w.heap.size+1+1 < X.heap.size:=by omega
 have hlt2:w.heap.size+1+1+1 < X.heap.size:=by omega
 clear q6 q7 q8 q9
 go_wp2
 have c1:((X.setCell ⟨w.heap.size+1+1,0,none⟩ (.slice none 0 0)).setCell ⟨w.heap.size+1+1+1,0,none⟩ (.bool false)).cell? ⟨w.heap.size+1+1,0,none⟩=some (.slice none 0 0):=by
  rw [World.cell?_setCell_other (h:=fun e=>by injection e with e _ _;omega),World.cell?_setCell_same' _ _ _ (by rw [x1];rfl)]
 have c2:((X.setCell ⟨w.heap.size+1+1,0,none⟩ (.slice none 0 0)).setCell ⟨w.heap.size+1+1+1,0,none⟩ (.bool false)).cell? ⟨w.heap.size+1+1+1,0,none⟩=some (.bool false):=by
  rw [World.cell?_setCell_same' _ _ _ (by rw [World.cell?_setCell_other (h:=fun e=>by injection e with e _ _;omega),x3];rfl)]
 exact bodyPost_ret (v:=.tuple #[.slice none 0 0,.bool false,.int .i64 t]) (by simp [results,Tryz.results43,go_sem,c1,c2]) rfl ⟨rfl,(hbw.setCell (by simp;omega) _).setCell (by simp;omega) _⟩
end
end Go.Proofs.YtgemjjdkjmpmlaaGreatDoor
