/- Leads to StoreClaims of chapter 6: Ord D0 D1 D2. -/
import Derived.Test.YtgemjjdkjmpmlaaGreatDoorCZ00
set_option maxHeartbeats 2000000
set_option maxRecDepth 100000
set_option linter.all false
namespace Go.Proofs.YtgemjjdkjmpmlaaGreatDoor
open Go
section
variable {P:Program} {md:Region.Mode} {ops:Array Oper} {Q:Exit->Act->World->Prop} {S T:World->Prop} {d:Nat}
def wpAnyD (P:Program) (md:Region.Mode) (ops:Array Oper) (Q:Exit->Act->World->Prop) (S T:World->Prop) (d:Nat):Nat->Array Bool->Act->World->Prop
 | 0,listed,a,w=>Region.ready md ops listed=[]/\Q .normal a w
 | fuel+1,listed,a,w =>
  (Region.ready md ops listed=[]->Q .normal a w) /\
  ∀ i∈Region.ready md ops listed,wpOp P ops Q i (fun a' w'=>(S w'/\((listed.setIfInBounds i true).getD d true=false->T w'))/\wpAnyD P md ops Q S T d fuel (listed.setIfInBounds i true) a' w') a w
theorem wpAny_of_D:∀ (fuel:Nat) (listed:Array Bool) (a:Act) (w:World),wpAnyD P md ops Q S T d fuel listed a w->wpAny P md ops Q fuel listed a w
 | 0,_,_,_,h=>h
 | fuel+1,_,_,_,h=>⟨h.1,fun i hi=>wpOp_mono (fun a' w' h'=>wpAny_of_D fuel _ a' w' h'.2) (h.2 i hi)⟩
def Down (md:Region.Mode) (ops:Array Oper) (listed:Array Bool):Prop:=∀ (k:Nat) (ok:Oper),ops[k]? = some ok->listed.getD k false=true->∀ e∈ok.after,Region.binds md e=true->listed.getD e.on false=true
def downB (md:Region.Mode) (ops:Array Oper) (listed:Array Bool):Bool:=(List.range ops.size).all fun k=>match ops[k]? with
 | some ok=>!(listed.getD k false) || ok.after.all fun e=>!(Region.binds md e) || listed.getD e.on false
 | none=>true
theorem downB_spec {listed:Array Bool} (h:downB md ops listed=true):Down md ops listed:=fun k ok hk hl e he hb=>by
 unfold downB at h;rw [List.all_eq_true] at h;have hlt:k < ops.size:=(Array.getElem?_eq_some_iff.1 hk).1;have h2:=h k (List.mem_range.2 hlt);rw [hk] at h2;simp only [hl,Bool.not_true,Bool.false_or] at h2;rw [Array.all_eq_true'] at h2;have h3:=h2 e he;rw [hb] at h3;simpa using h3
theorem Down.set {listed:Array Bool} (h:Down md ops listed) {j:Nat} (hj:j∈Region.ready md ops listed):Down md ops (listed.setIfInBounds j true):=fun k ok hk hl e he hb=>by
 by_cases hjk:j=k
 ·subst hjk;obtain ⟨_,oj,hoj,hall⟩:=mem_ready.1 hj;rw [hoj] at hk;cases hk;exact getD_set_true (hall e he hb)
 ·rw [getD_set_ne false hjk] at hl;exact getD_set_true (h k ok hk hl e he hb)
theorem getD_two {listed:Array Bool} {i:Nat} (h:listed.getD i true=false):listed.getD i false=false:=by
 rcases Nat.lt_or_ge i listed.size with h' | h'
 ·simp [h'] at h ⊢;exact h
 ·simp [Array.getElem?_eq_none h'] at h
theorem wpAnyD_first {i:Nat} {oi:Oper} {v:Value} (hi:ops[i]? = some oi) (hsel:∀ (j:Nat) (o:Oper) cs b,ops[j]? = some o->o.op≠.select cs b)
 (hQ:∀ c a w,Q (.panic c) (a.put oi.dst v) w->Q (.panic c) a w) (hid:i≠d) (hdw:∀ L,Down md ops L->d∈Region.ready md ops L->L.getD i false=true) :
 ∀ (fuel:Nat) (listed:Array Bool) (a:Act) (w:World),Down md ops listed ->
  (∀ j oj,ops[j]? = some oj->j≠i->listed.getD j true=false->(∀ e∈oj.after,Region.binds md e=true->e.on≠i)->oi.apart ops oj=true) ->
  i∈Region.ready md ops listed->listed.getD d true=false->YieldsIf P ops (fun w=>S w/\T w) oi v a->S w->T w ->
  wpAnyD P md ops Q S T d fuel (listed.setIfInBounds i true) (a.put oi.dst v) w->wpAnyD P md ops Q S T d (fuel+1) listed a w:=by
 intro fuel
 induction fuel with
 | zero =>
  intro listed a w _ _ hr hld hy hS hT H;refine ⟨fun h=>(by rw [h] at hr;cases hr),fun j hj=>?_⟩;by_cases hji:j=i
  ·subst hji;exact hy.wpOp hi ⟨hS,hT⟩ ⟨⟨hS,fun _=>hT⟩,H⟩
  ·have:=ready_mono hj hji;rw [H.1] at this;cases this
 | succ fuel ih =>
  intro listed a w hdc hfree hr hld hy hS hT H;refine ⟨fun h=>(by rw [h] at hr;cases hr),fun j hj=>?_⟩;by_cases hji:j=i
  ·subst hji;exact hy.wpOp hi ⟨hS,hT⟩ ⟨⟨hS,fun _=>hT⟩,H⟩
  ·have h1:=H.2 j (ready_mono hj hji);obtain ⟨hjun,oj,hoj,hall⟩:=mem_ready.1 hj;have hnot:∀ e∈oj.after,Region.binds md e=true->e.on≠i:=fun e he hb heq=>by
    have h1:=hall e he hb;have h0:=(mem_ready.1 hr).1;rw [heq] at h1;rcases Nat.lt_or_ge i listed.size with h' | h'
    ·simp [h'] at h0 h1;rw [h0] at h1;cases h1
    ·simp [Array.getElem?_eq_none h'] at h1
   have hjd:j≠d:=fun e=>by
    subst e;have h1:=hdw listed hdc hj;rw [getD_two (mem_ready.1 hr).1] at h1;cases h1
   have h2:=wpOp_putIf hoj (hfree j oj hoj hji hjun hnot) (fun cs b=>hsel i oi cs b hi) (fun cs b=>hsel j oj cs b hoj) hQ hy h1;have hfree':∀ k ok,ops[k]? = some ok->k≠i->(listed.setIfInBounds j true).getD k true=false ->
    (∀ e∈ok.after,Region.binds md e=true->e.on≠i)->oi.apart ops ok=true:=fun k ok hk hki hun hno=>by
    refine hfree k ok hk hki ?_ hno;by_cases hjk:j=k
    ·subst hjk;exact hjun
    ·rw [getD_set_ne true hjk] at hun;exact hun
   have hld2:(listed.setIfInBounds j true).getD d true=false:=by rw [getD_set_ne true hjd];exact hld
   refine wpOp_mono (fun a' w' h3=>?_) h2;have hT':=h3.2.1.2 (by rw [getD_set_ne true hjd,getD_set_ne true hid];exact hld);refine ⟨⟨h3.2.1.1,fun _=>hT'⟩,ih (listed.setIfInBounds j true) a' w' (hdc.set hj) hfree' (ready_mono hr (Ne.symm hji)) hld2 h3.1 h3.2.1.1 hT' ?_⟩;rw [Array.setIfInBounds_comm _ _ hji];exact h3.2.2
def waits1 (md:Region.Mode) (ops:Array Oper) (d i:Nat):Bool:=match ops[d]? with
 | some od=>od.after.any fun e=>Region.binds md e && e.on == i
 | none=>true
def waits (md:Region.Mode) (ops:Array Oper) (d i:Nat):Bool:=i != d && (waits1 md ops d i || (List.range ops.size).any fun k=>waits1 md ops d k && waits1 md ops k i)
theorem waits1_ready {L:Array Bool} {d i:Nat} (h:waits1 md ops d i=true) (hr:d∈Region.ready md ops L):L.getD i false=true:=by
 obtain ⟨_,od,hod,hall⟩:=mem_ready.1 hr;unfold waits1 at h;rw [hod] at h;simp only [Array.any_eq_true'] at h;obtain ⟨e,he,h3⟩:=h;simp only [Bool.and_eq_true,beq_iff_eq] at h3;rw [← h3.2];exact hall e he h3.1
theorem waits_ready {L:Array Bool} {d i:Nat} (h:waits md ops d i=true) (hL:Down md ops L) (hr:d∈Region.ready md ops L):L.getD i false=true:=by
 unfold waits at h;rw [Bool.and_eq_true,Bool.or_eq_true] at h;rcases h.2 with h | h
 ·exact waits1_ready h hr
 ·rw [List.any_eq_true] at h;obtain ⟨k,hk,h⟩:=h;rw [Bool.and_eq_true] at h;have hkl:=waits1_ready h.1 hr;have hlt:=List.mem_range.1 hk;have h2:=h.2;unfold waits1 at h2;rw [Array.getElem?_eq_getElem hlt] at h2;simp only [Array.any_eq_true'] at h2;obtain ⟨e,he,h3⟩:=h2;simp only [Bool.and_eq_true,beq_iff_eq] at h3;rw [← h3.2];exact hL k _ (Array.getElem?_eq_getElem hlt) hkl e he h3.1
theorem wpAnyD_take {i:Nat} {oi:Oper} {v:Value} {fuel:Nat} {listed:Array Bool} {a:Act} {w:World} (hi:ops[i]? = some oi)
 (hc:(Region.noSelect ops && Region.free md ops listed i && (Region.ready md ops listed).contains i && waits md ops d i && !(listed.getD d true) && downB md ops listed)=true)
 (hQ:∀ c a w,Q (.panic c) (a.put oi.dst v) w->Q (.panic c) a w) (hy:YieldsIf P ops (fun w=>S w/\T w) oi v a) (hS:S w) (hT:T w)
 (h:wpAnyD P md ops Q S T d fuel (listed.setIfInBounds i true) (a.put oi.dst v) w):wpAnyD P md ops Q S T d (fuel+1) listed a w:=by
 simp only [Bool.and_eq_true] at hc;obtain ⟨⟨⟨⟨⟨hs,hf⟩,hr⟩,hw⟩,hld⟩,hdn⟩:=hc;have hid:i≠d:=by
  unfold waits at hw;rw [Bool.and_eq_true,bne_iff_ne] at hw;exact hw.1
 exact wpAnyD_first hi (Region.noSelect_spec hs) hQ hid (fun L hL hr=>waits_ready hw hL hr) fuel listed a w (downB_spec hdn) (Region.free_spec hi hf) (by simpa using hr) (by simpa using hld) hy hS hT h
theorem wpAnyD_done {listed:Array Bool} {a:Act} {w:World} (hr:Region.ready md ops listed=[]) (h:Q .normal a w):∀ fuel,wpAnyD P md ops Q S T d fuel listed a w
 | 0=>⟨hr,h⟩
 | _+1=>⟨fun _=>h,by rw [hr];simp⟩
def AllReadyD (P:Program) (md:Region.Mode) (ops:Array Oper) (Q:Exit->Act->World->Prop) (S T:World->Prop) (d:Nat) (fuel:Nat) (listed:Array Bool) (a:Act) (w:World) (rs:List Nat):Prop :=
 ∀ i∈rs,wpOp P ops Q i (fun a' w'=>(S w'/\((listed.setIfInBounds i true).getD d true=false->T w'))/\wpAnyD P md ops Q S T d fuel (listed.setIfInBounds i true) a' w') a w
theorem AllReadyD.nil {fuel:Nat} {listed:Array Bool} {a:Act} {w:World}:AllReadyD P md ops Q S T d fuel listed a w []:=fun _ h=>by cases h
theorem AllReadyD.pre {fuel:Nat} {listed:Array Bool} {a:Act} {w:World} (i:Nat) {o:Oper} {rs:List Nat} (ho:ops[i]? = some o)
 (h:∀ K':Act->World->Prop,Shut (∀ a w,S w->T w->(S w->T w->wpAnyD P md ops Q S T d fuel (listed.setIfInBounds i true) a w)->K' a w)->if Region.wanted o (yielded ops a.tmps)=true then Oper.wp P o a w K' Q else K' (a.put o.dst undef) w)
 (hs:AllReadyD P md ops Q S T d fuel listed a w rs):AllReadyD P md ops Q S T d fuel listed a w (i::rs):=fun j hj=>by
 rcases List.mem_cons.1 hj with rfl | hj
 ·exact wpOp_step ho (fun K' hK=>h K' (fun a w hS hT hW=>hK a w ⟨⟨hS,fun _=>hT⟩,hW hS hT⟩))
 ·exact hs j hj
theorem AllReadyD.post {fuel:Nat} {listed:Array Bool} {a:Act} {w:World} (i:Nat) {o:Oper} {rs:List Nat} (ho:ops[i]? = some o) (hd:(listed.setIfInBounds i true).getD d true=true)
 (h:∀ K':Act->World->Prop,Shut (∀ a w,S w->(S w->wpAnyD P md ops Q S T d fuel (listed.setIfInBounds i true) a w)->K' a w)->if Region.wanted o (yielded ops a.tmps)=true then Oper.wp P o a w K' Q else K' (a.put o.dst undef) w)
 (hs:AllReadyD P md ops Q S T d fuel listed a w rs):AllReadyD P md ops Q S T d fuel listed a w (i::rs):=fun j hj=>by
 rcases List.mem_cons.1 hj with rfl | hj
 ·exact wpOp_step ho (fun K' hK=>h K' (fun a w hS hW=>hK a w ⟨⟨hS,fun hf=>by rw [hd] at hf;cases hf⟩,hW hS⟩))
 ·exact hs j hj
theorem wpAnyD_ready (rs:List Nat) {fuel:Nat} {listed:Array Bool} {a:Act} {w:World} (hr:Region.ready md ops listed=rs) (hne:rs≠[])
 (h:AllReadyD P md ops Q S T d fuel listed a w rs):wpAnyD P md ops Q S T d (fuel+1) listed a w:=⟨fun h0=>absurd (hr ▸ h0) hne,hr ▸ h⟩
end
section
variable {P:Program} {md:Region.Mode} {ops:Array Oper} {Q:Exit->Act->World->Prop} {l:Nat}
def noDefer (ops:Array Oper):Bool:=ops.all fun o=>match o.op with
 | .defer _=>false
 | _=>true
theorem noDefer_at (h:noDefer ops=true) {i:Nat} {o:Oper} (ho:ops[i]? = some o):∀ c,o.op≠.defer c:=fun c hc=>by
 unfold noDefer at h;rw [Array.all_eq_true'] at h;have:=h o (Array.mem_of_getElem? ho);rw [hc] at this;cases this
theorem rows_round {row:String} {args:Array Value} {w:World} {R:Value->World->Prop} (h:Rows P row args w R):RowsIn (Fence.wide.inRound l) 0 P row args w R:=fun c cs _ =>
 let ⟨v,w',r,s⟩:=h c cs
 ⟨v,w',r,stepsIn_wide.2 s⟩
theorem wpOpIn_of {i:Nat} {K:Act->World->Prop} {a:Act} {w:World} (hn:noDefer ops=true) (hL:¬ LetsOut Q) (h:wpOp P ops Q i K a w):wpOpIn (Fence.wide.inRound l) 0 P ops Q i K a w:=by
 unfold wpOp at h;unfold wpOpIn
 cases ho:ops[i]? with
 | none=>rw [ho] at h;exact h
 | some o =>
  rw [ho] at h;simp only at h ⊢;split
  ·rename_i hw
   rw [if_pos hw] at h;rcases h with h | ⟨_,h⟩
   ·refine ⟨fun f _=>trivial,?_⟩;have hs:o.semAt (Fence.wide.inRound l).round a.eval=execOp a.eval o:=Oper.semAt_some l _ _ (noDefer_at hn ho);rw [hs];unfold Oper.wp at h;generalize (execOp a.eval o).run P w=r at h
    cases r with
    | ok x w' =>
     have hdp:(Fence.wide.inRound l).depth.isSome=true->1<=0:=fun hh=>by simp [Fence.inRound,Fence.wide] at hh
     cases x <;> simp only [Oper.upon,Oper.uponIn] at h ⊢ <;> first
      | exact h
      | exact ⟨hdp,(callsIn_wide (n:=0)).2 h⟩
      | exact ⟨hdp,rows_round h⟩
    | halt x w'=>cases x <;> simp only [Oper.upon,Oper.uponIn] at h ⊢ <;> exact h
   ·exact absurd h hL
  ·rename_i hw
   rw [if_neg hw] at h;exact ⟨fun f _=>trivial,h⟩
theorem wpAnyIn_of (hn:noDefer ops=true) (hL:¬ LetsOut Q):∀ (fuel:Nat) (listed:Array Bool) (a:Act) (w:World),wpAny P md ops Q fuel listed a w->wpAnyIn (Fence.wide.inRound l) 0 P md ops Q fuel listed a w
 | 0,_,_,_,h=>h
 | fuel+1,_,_,_,h=>⟨h.1,fun i hi=>wpOpIn_mono (fun a' w' h'=>wpAnyIn_of hn hL fuel _ a' w' h') (wpOpIn_of hn hL (h.2 i hi))⟩
theorem wpIn_region_D (S T:World->Prop) (d:Nat) {id:Nat} {a:Act} {w:World} (hm:P.follows .mixedOrders=true) (hn:noDefer ops=true) (hL:¬ LetsOut Q) (hS:S w.drew) (hT:T w.drew)
 (h:S w.drew->T w.drew->wpAnyD P .any ops Q S T d ops.size (Array.replicate ops.size false) a w.drew):(Code.region id ops true).wpIn (Fence.wide.inRound l) 0 P Q a w :=
 wpIn_region_any hm (wpAnyIn_of hn hL _ _ _ _ (wpAny_of_D _ _ _ _ (h hS hT)))
end
end Go.Proofs.YtgemjjdkjmpmlaaGreatDoor
namespace Go.Proofs.YtgemjjdkjmpmlaaGreatDoor
open Go.RowKit Go.Maps Sp
structure Two (A:World) (B Bx:Nat) (e:TypeId) (r2:Value) (n2:Nat) (x2:List Value) (r3:Value) (n3:Nat) (x3:List Value) (w:World):Prop where
 ks:KS (fun k=>k < B∨k=Bx) A w
 base:B<=w.heap.size
 o2:w.ownsRow B e 2 r2 n2 x2
 o3:w.ownsRow B e 2 r3 n3 x3
 ap:∀ g,r2.ownBlock=some g->r3.ownBlock≠some g
 b2:∀ g,r2.ownBlock=some g->g≠Bx
 b3:∀ g,r3.ownBlock=some g->g≠Bx
 box:Bx < w.heap.size
structure Lit (B:Nat) (r2 r3:Value) (cs:List Value) (g:Nat) (w:World):Prop where
 lt:g < w.heap.size
 src:∀ j u,cs[j]? = some u->w.cell? (Addr.add ⟨g,0,none⟩ j)=some u
 a2:r2.ownBlock≠some g
 a3:r3.ownBlock≠some g
section
variable {A w w':World} {B Bx n2 n3 m:Nat} {e:TypeId} {r2 r3 v:Value} {x2 x3 xs cs:List Value} {g h:Nat}
theorem Two.lit (t:Two A B Bx e r2 n2 x2 r3 n3 x3 w) (ty:TypeId):Two A B Bx e r2 n2 x2 r3 n3 x3 (w.alloc (.cells cs.toArray ty))/\Lit B r2 r3 cs w.heap.size (w.alloc (.cells cs.toArray ty)):=by
 have hk:KS (fun _=>True) w (w.alloc (.cells cs.toArray ty)):=KS.alloc _ _ _;have hs:(w.alloc (.cells cs.toArray ty)).heap.size=w.heap.size+1:=by simp
 refine ⟨⟨t.ks.trans (KS.alloc _ _ _),by have:=t.base;omega,row_keep' t.o2 hk fun _ _=>trivial,row_keep' t.o3 hk fun _ _=>trivial,t.ap,t.b2,t.b3,by have:=t.box;omega⟩,by omega,cells_new w cs ty,fun e=>?_,fun e=>?_⟩
 ·have:=(ownBlock_row t.o2 _ e).2;omega
 ·have:=(ownBlock_row t.o3 _ e).2;omega
theorem Lit.alloc (k:Lit B r2 r3 cs g w) (o:Obj):Lit B r2 r3 cs g (w.alloc o):=by
 refine ⟨by have:=k.lt;simp;omega,fun j u hj=>?_,k.a2,k.a3⟩;have hb:(Addr.add ⟨g,0,none⟩ j).block=g:=by unfold Addr.add;split <;> rfl
 exact (World.cell?_alloc_lt w o _ (by rw [hb];exact k.lt)).trans (k.src j u hj)
theorem Two.app2 (t:Two A B Bx e r2 n2 x2 r3 n3 x3 w) (ho:w'.ownsRow B e 2 v m xs) (hg:w.grownBy w' r2.ownBlock) (hv:v.ownBlock=some g) (hat:r2.ownBlock=some g∨g=w.heap.size):Two A B Bx e v m xs r3 n3 x3 w':=by
 have hk:KS (fun k=>r2.ownBlock≠some k) w w':=KS.own hg fun g hg=>by simp [hg]
 have hs:=hg.size;have hb:=t.base;have hx:=t.box;refine ⟨t.ks.trans (hk.mono fun k hkA hk2 e=>?_),by omega,ho,row_keep' t.o3 hk fun g hg e=>t.ap g e hg,fun g' hg' e=>?_,fun g' hg'=>?_,t.b3,by omega⟩
 ·rcases hk2 with h | h
  ·have:=(ownBlock_row t.o2 _ e).1;omega
  ·exact t.b2 _ e h
 ·rw [hv] at hg';cases hg';rcases hat with h | h
  ·exact t.ap _ h e
  ·have:=(ownBlock_row t.o3 _ e).2;omega
 ·rw [hv] at hg';cases hg';rcases hat with h | h
  ·exact t.b2 _ h
  ·omega
theorem Lit.app2 (k:Lit B r2 r3 cs h w) (hg:w.grownBy w' r2.ownBlock) (hv:v.ownBlock=some g) (hat:r2.ownBlock=some g∨g=w.heap.size):Lit B v r3 cs h w':=by
 have hk:KS (fun k=>r2.ownBlock≠some k) w w':=KS.own hg fun g hg=>by simp [hg]
 have hs:=hg.size;have hl:=k.lt;refine ⟨by omega,fun j u hj=>?_,fun e=>?_,k.a3⟩
 ·have hb:(Addr.add ⟨h,0,none⟩ j).block=h:=by unfold Addr.add;split <;> rfl
  exact (hk.cell (x:=Addr.add ⟨h,0,none⟩ j) (by rw [hb];exact hl) (by rw [hb];exact k.a2)).trans (k.src j u hj)
 ·rw [hv] at e;cases e;rcases hat with h' | h'
  ·exact k.a2 h'
  ·omega
theorem Two.swap (t:Two A B Bx e r2 n2 x2 r3 n3 x3 w):Two A B Bx e r3 n3 x3 r2 n2 x2 w:=⟨t.ks,t.base,t.o3,t.o2,fun g h k=>t.ap g k h,t.b3,t.b2,t.box⟩
theorem Two.app3 (t:Two A B Bx e r2 n2 x2 r3 n3 x3 w) (ho:w'.ownsRow B e 2 v m xs) (hg:w.grownBy w' r3.ownBlock) (hv:v.ownBlock=some g) (hat:r3.ownBlock=some g∨g=w.heap.size):Two A B Bx e r2 n2 x2 v m xs w':=(t.swap.app2 ho hg hv hat).swap
end
attribute [local go_sem] Oper.semAt_some
def sayD (b:Bk) (l:List (List Int)) (p:Prt):Int:=sayI (countI (oftenI b l p) 2) (l.length:Int)
theorem dBody_eq:∃ r0 r1 r2 r3 r4 r5 r6 r7 r8 r9 r10 r11,Tryz.f55.body=some (.seq r0 (.seq r1 (.seq (.seq r2 (.cond (.tmp 15) (.seq r3 .ret) .skip)) (.seq (.seq r4 (.block 0 (.rangeFunc (.tmp 18) #[19] r5 (.block 1 (.seq r6 (.block 2 (.seq r7 (.cond (.tmp 28) r8 (.seq r9 (.cond (.tmp 38) r10 .skip)))))))))) (.seq r11 .ret))))):=⟨_,_,_,_,_,_,_,_,_,_,_,_,rfl⟩
theorem wpIn_region_H {P:Program} {ops:Array Oper} {Q:Exit->Act->World->Prop} {l:Nat} (S:World->Prop) {id:Nat} {a:Act} {w:World} (hm:P.follows .mixedOrders=true) (hn:noDefer ops=true) (hL:¬ LetsOut Q) (hS:S w.drew)
 (h:S w.drew->wpAnyH P .any ops Q S ops.size (Array.replicate ops.size false) a w.drew):(Code.region id ops true).wpIn (Fence.wide.inRound l) 0 P Q a w :=
 wpIn_region_any hm (wpAnyIn_of hn hL _ _ _ _ (wpAny_of_held _ _ _ _ (h hS)))
section
variable {b:Bk} {vr vg vm vs vc:Value}
theorem dbl_6 {r0 r1 r2 r3 r4 r5 r6 r7 r8 r9 r10 r11:Code} (hc:Tryz.f55.body=some (.seq r0 (.seq r1 (.seq (.seq r2 (.cond (.tmp 15) (.seq r3 .ret) .skip)) (.seq (.seq r4 (.block 0 (.rangeFunc (.tmp 18) #[19] r5 (.block 1 (.seq r6 (.block 2 (.seq r7 (.cond (.tmp 28) r8 (.seq r9 (.cond (.tmp 38) r10 .skip)))))))))) (.seq r11 .ret)))))) {w0 A:World} (hB:BookAt w0 b vr vg vm vs vc) (hO:BkOk b) {la:Option Addr} {lc:Nat} {l:List (List Int)} (hL:CamesAt w0 la l) (hl:∀ x∈l,Came b (pad x)/\(pad x).length=4/\x.length=b.ss.length) (hll:l.length<=2000) (hw:Below w0.heap.size w0 A)
 {x1 x2:Int} (hpx:isPart b (x1,x2)=true) {X5 X6 Bx L:Nat} (h5:Five A X5 vr vg vm vs vc) (h6:A.cell? ⟨X6,0,none⟩=some (.slice la l.length lc)) (h6l:X6 < A.heap.size) (p0:A.cell? ⟨Bx,0,none⟩=some (.int .i64 x1)) (p1:A.cell? ⟨Bx,1,none⟩=some (.int .i64 x2)) (hbx:Bx < A.heap.size) {u0 u1 u2 u3 u4 u8 u9 u10 u11 u12 u13 u14 u15 u16 u17 u18 u19 u20 u21 u22 u23 u24 u25 u26 u27 u28 u29 u30 u31 u32 u33 u34 u35 u36 u37 u38 u39 u40 u41 u42 u43 u44 u45:Value} :
 r6.wpIn (Fence.wide.inRound L) 0 Tryz.prog (fun e a' w'=>e=.normal/\Below A.heap.size A w'/\∃ v20 v21 v22 v23 v24 v25 v26,a'={ tmps:=#[u0,u1,u2,u3,u4,.pointer (some ⟨X5,0,none⟩),.pointer (some ⟨X6,0,none⟩),.pointer (some ⟨Bx,0,none⟩),u8,u9,u10,u11,u12,u13,u14,u15,u16,u17,u18,u19,v20,v21,v22,v23,v24,v25,v26,.int .i64 (sayD b l (x1,x2)),u28,u29,u30,u31,u32,u33,u34,u35,u36,u37,u38,u39,u40,u41,u42,u43,u44,u45],defers:=[] }) { tmps:=#[u0,u1,u2,u3,u4,.pointer (some ⟨X5,0,none⟩),.pointer (some ⟨X6,0,none⟩),.pointer (some ⟨Bx,0,none⟩),u8,u9,u10,u11,u12,u13,u14,u15,u16,u17,u18,u19,u20,u21,u22,u23,u24,u25,u26,u27,u28,u29,u30,u31,u32,u33,u34,u35,u36,u37,u38,u39,u40,u41,u42,u43,u44,u45],defers:=[] } A:=by
 simp only [Tryz.f55,Option.some.injEq,Code.seq.injEq,Code.cond.injEq,Code.block.injEq,Code.rangeFunc.injEq] at hc;obtain ⟨rfl,rfl,⟨rfl,-,⟨rfl,-⟩,-⟩,⟨rfl,-,-,-,rfl,-,rfl,-,rfl,-,rfl,rfl,-,rfl,-⟩,rfl,-⟩:=hc;have HB:=Hh (hB.below hw);have HO:=Hh hO;have HL:=Hh (hL.below hw);have HLL:=Hh hl;have HPX:=Hh hpx;have hlc:=hll;have hall:∀ w':World,Below A.heap.size A w'->(Below A.heap.size A w'/\w'.cell? ⟨X5,0,none⟩=some vr/\w'.cell? ⟨X5,1,none⟩=some vg/\w'.cell? ⟨X5,2,none⟩=some vm/\w'.cell? ⟨X5,3,none⟩=some vs/\w'.cell? ⟨X5,4,none⟩=some vc/\w'.cell? ⟨X6,0,none⟩=some (.slice la l.length lc)/\w'.cell? ⟨Bx,0,none⟩=some (.int .i64 x1)/\w'.cell? ⟨Bx,1,none⟩=some (.int .i64 x2)):=fun w' h =>
  ⟨h,(h.cell (p:=⟨X5,0,none⟩) h5.lt).trans h5.c0,(h.cell (p:=⟨X5,1,none⟩) h5.lt).trans h5.c1,(h.cell (p:=⟨X5,2,none⟩) h5.lt).trans h5.c2,(h.cell (p:=⟨X5,3,none⟩) h5.lt).trans h5.c3,(h.cell (p:=⟨X5,4,none⟩) h5.lt).trans h5.c4,(h.cell (p:=⟨X6,0,none⟩) h6l).trans h6,(h.cell (p:=⟨Bx,0,none⟩) hbx).trans p0,(h.cell (p:=⟨Bx,1,none⟩) hbx).trans p1⟩
 have HALL:=Hh hall;clear hall hB hO hL hl hpx h5 h6 p0 p1;refine wpIn_region_H (S:=(fun w'=>Below A.heap.size A w'/\w'.cell? ⟨X5,0,none⟩=some vr/\w'.cell? ⟨X5,1,none⟩=some vg/\w'.cell? ⟨X5,2,none⟩=some vm/\w'.cell? ⟨X5,3,none⟩=some vs/\w'.cell? ⟨X5,4,none⟩=some vc/\w'.cell? ⟨X6,0,none⟩=some (.slice la l.length lc)/\w'.cell? ⟨Bx,0,none⟩=some (.int .i64 x1)/\w'.cell? ⟨Bx,1,none⟩=some (.int .i64 x2))) (by kernel_rfl) (by kernel_rfl) (fun ⟨_,_,h,_⟩=>by cases h) (HALL.out _ (bel)) (fun hHeld=>?_);refine wpAnyH_take (i:=0) (v:=.agg #[vr,vg,vm,vs,vc]) rfl (by kernel_rfl) (by kernel_rfl) (by kernel_rfl) (fun _ _ _ h=>by cases h.1) (Or.inl ⟨by rfl,?_⟩) (by assumption) ?_
 ·intro w5 hSw;(try dsimp only at hSw);obtain ⟨s0,s1,s2,s3,s4,s5,s6,s7,s8⟩:=hSw;go_simp
 simp only [Act.put,List.setIfInBounds_toArray,List.set_cons_zero,List.set_cons_succ];refine wpAnyH_take (i:=1) (v:=.slice la l.length lc) rfl (by kernel_rfl) (by kernel_rfl) (by kernel_rfl) (fun _ _ _ h=>by cases h.1) (Or.inl ⟨by rfl,?_⟩) (by assumption) ?_
 ·intro w5 hSw;(try dsimp only at hSw);obtain ⟨s0,s1,s2,s3,s4,s5,s6,s7,s8⟩:=hSw;go_simp
 simp only [Act.put,List.setIfInBounds_toArray,List.set_cons_zero,List.set_cons_succ];refine wpAnyH_take (i:=2) (v:=.agg #[.int .i64 x1,.int .i64 x2]) rfl (by kernel_rfl) (by kernel_rfl) (by kernel_rfl) (fun _ _ _ h=>by cases h.1) (Or.inl ⟨by rfl,?_⟩) (by assumption) ?_
 ·intro w5 hSw;(try dsimp only at hSw);obtain ⟨s0,s1,s2,s3,s4,s5,s6,s7,s8⟩:=hSw;go_simp
 simp only [Act.put,List.setIfInBounds_toArray,List.set_cons_zero,List.set_cons_succ];refine wpAnyH_take (i:=5) (v:=.slice la l.length lc) rfl (by kernel_rfl) (by kernel_rfl) (by kernel_rfl) (fun _ _ _ h=>by cases h.1) (Or.inl ⟨by rfl,?_⟩) (by assumption) ?_
 ·intro w5 hSw;(try dsimp only at hSw);obtain ⟨s0,s1,s2,s3,s4,s5,s6,s7,s8⟩:=hSw;go_simp
 simp only [Act.put,List.setIfInBounds_toArray,List.set_cons_zero,List.set_cons_succ];refine wpAnyH_take (i:=6) (v:=.int .i64 (l.length:Int)) rfl (by kernel_rfl) (by kernel_rfl) (by kernel_rfl) (fun _ _ _ h=>by cases h.1) (Or.inl ⟨by rfl,?_⟩) (by assumption) ?_
 ·intro w5 hSw;(try dsimp only at hSw);obtain ⟨s0,s1,s2,s3,s4,s5,s6,s7,s8⟩:=hSw;go_simp
 simp only [Act.put,List.setIfInBounds_toArray,List.set_cons_zero,List.set_cons_succ];refine wpAnyH_ready (rs:=[3]) (by decide +kernel) (by simp) ?_;refine AllReadyH.cons (i:=3) rfl (fun K hK=>?_) AllReadyH.nil;go_simp;go_at_call 93;refine (often_at (p:=(x1,x2)) (HB.out.below (bel)) HO.out (HL.out.below (bel)) HLL.out hll HPX.out).mono ?_;rintro e w4 ⟨ia,ic,rfl,hir,hb4⟩;have HIR:=Hh hir;clear hir;refine hK.out _ _ (HALL.out _ (bel)) (fun hHeld=>?_);clear hK K;refine wpAnyH_ready (rs:=[4]) (by decide +kernel) (by simp) ?_;refine AllReadyH.cons (i:=4) rfl (fun K hK=>?_) AllReadyH.nil;go_simp;go_at_call 92;refine (count_at 2 (ints_of_row HIR.out) (by simp [oftenI];omega) rfl).mono ?_;rintro e w5 ⟨rfl,rfl⟩;refine hK.out _ _ (HALL.out _ (bel)) (fun hHeld=>?_);clear hK K;refine wpAnyH_ready (rs:=[7]) (by decide +kernel) (by simp) ?_;refine AllReadyH.cons (i:=7) rfl (fun K hK=>?_) AllReadyH.nil;go_simp;go_at_call 81;refine (say_any _ _ _).mono ?_;rintro e w6 ⟨rfl,rfl⟩;refine hK.out _ _ (HALL.out _ (bel)) (fun hHeld=>?_);clear hK K;refine wpAnyH_done (by decide +kernel) ?_ _;exact ⟨rfl,bel,_,_,_,_,_,_,_,rfl⟩
end
attribute [local go_sem] Oper.semAt_some
noncomputable def ops8:Array Oper:=match Tryz.f55.body with
 | some (.seq _ (.seq _ (.seq _ (.seq (.seq _ (.block 0 (.rangeFunc _ _ _ (.block 1 (.seq _ (.block 2 (.seq _ (.cond _ (.region _ o _) _)))))))) _))))=>o
 | _=>#[]
def DblZ (A:World) (B O2 O3 n2 n3:Nat) (xs2 xs3 cs:List Value) (w':World):Prop:=KS (fun k=>k < B/\k≠O2/\k≠O3) A w'/\∃ g2 c2 g3 c3,w'.cell? ⟨O2,0,none⟩=some (.slice (some ⟨g2,0,none⟩) (n2+1) c2)/\w'.frozen? ⟨O2,0,none⟩=false/\w'.cell? ⟨O3,0,none⟩=some (.slice (some ⟨g3,0,none⟩) (n3+1) c3)/\w'.frozen? ⟨O3,0,none⟩=false /\
 w'.ownsRow B 41 2 (.slice (some ⟨g2,0,none⟩) (n2+1) c2) (n2+1) (xs2 ++ cs)/\w'.ownsRow B 41 2 (.slice (some ⟨g3,0,none⟩) (n3+1) c3) (n3+1) (xs3 ++ cs)/\g2≠g3
def D8T (O2 O3 Bx:Nat) (a2:Option Addr) (n2 c2:Nat) (a3:Option Addr) (n3 c3:Nat) (x1 x2:Int) (z:World):Prop:=z.cell? ⟨O2,0,none⟩=some (.slice a2 n2 c2)/\z.frozen? ⟨O2,0,none⟩=false/\z.cell? ⟨O3,0,none⟩=some (.slice a3 n3 c3)/\z.frozen? ⟨O3,0,none⟩=false/\z.cell? ⟨Bx,0,none⟩=some (.int .i64 x1)/\z.cell? ⟨Bx,1,none⟩=some (.int .i64 x2)
structure D8 (A:World) (B O2 O3 Bx:Nat) (a2:Option Addr) (n2 c2:Nat) (a3:Option Addr) (n3 c3:Nat) (x1 x2:Int):Prop where
 h2:O2 < B
 h3:O3 < B
 h23:O2≠O3
 m2:n2 < 5000
 m3:n3 < 5000
 T:∀ {z:World},KS (fun k=>k < B∨k=Bx) A z->D8T O2 O3 Bx a2 n2 c2 a3 n3 c3 x1 x2 z
theorem D8.S {A:World} {B O2 O3 Bx:Nat} {a2:Option Addr} {n2 c2:Nat} {a3:Option Addr} {n3 c3:Nat} {x1 x2:Int} (_:D8 A B O2 O3 Bx a2 n2 c2 a3 n3 c3 x1 x2) {z:World} (hz:KS (fun k=>k < B∨k=Bx) A z):KS (fun k=>k < B/\k≠O2/\k≠O3) A z:=hz.mono fun k _ hk=>.inl hk.1
section
variable {A w:World} {B O2 O3 Bx n2 n3 c2 c3:Nat} {a2 a3:Option Addr} {xs2 xs3:List Value} {x1 x2:Int} {u0 u1 u4 u5 u6 u8 u9 u10 u11 u12 u13 u14 u15 u16 u17 u18 u19 u20 u21 u22 u23 u24 u25 u26 u27 u28 u29 u38 u39 u40 u41 u42 u43 u44 u45:Value}
theorem op8_at:(∃ ty ps af,ops8[0]? = some ⟨some 30,.load 33 (.tmp 2),ty,ps,af,none⟩)/\(∃ ty ps af,ops8[1]? = some ⟨some 31,.load 41 (.tmp 7),ty,ps,af,none⟩)/\(∃ ty ps af,ops8[2]? = some ⟨some 32,.buildSlice 33 1 #[(0,.tmp 31)],ty,ps,af,none⟩) /\
 (∃ ty ps af,ops8[4]? = some ⟨some 34,.load 33 (.tmp 3),ty,ps,af,none⟩)/\(∃ ty ps af,ops8[5]? = some ⟨some 35,.load 41 (.tmp 7),ty,ps,af,none⟩)/\(∃ ty ps af,ops8[6]? = some ⟨some 36,.buildSlice 33 1 #[(0,.tmp 35)],ty,ps,af,none⟩) /\
 (∃ ty ps af,ops8[8]? = some ⟨none,.store 33 (.tmp 2) (.tmp 33),ty,ps,af,none⟩)/\(∃ ty ps af,ops8[9]? = some ⟨none,.store 33 (.tmp 3) (.tmp 37),ty,ps,af,none⟩) :=
 ⟨⟨_,_,_,rfl⟩,⟨_,_,_,rfl⟩,⟨_,_,_,rfl⟩,⟨_,_,_,rfl⟩,⟨_,_,_,rfl⟩,⟨_,_,_,rfl⟩,⟨_,_,_,rfl⟩,⟨_,_,_,rfl⟩⟩
theorem d8_fin (hD:D8 A B O2 O3 Bx a2 n2 c2 a3 n3 c3 x1 x2) {g2 d2 g3 d3:Nat} (hT:Two A B Bx 41 (.slice (some ⟨g2,0,none⟩) (n2+1) d2) (n2+1) (xs2 ++ [.int .i64 x1,.int .i64 x2]) (.slice (some ⟨g3,0,none⟩) (n3+1) d3) (n3+1) (xs3 ++ [.int .i64 x1,.int .i64 x2]) w) :
 DblZ A B O2 O3 n2 n3 xs2 xs3 [.int .i64 x1,.int .i64 x2] ((w.setCell ⟨O2,0,none⟩ (.slice (some ⟨g2,0,none⟩) (n2+1) d2)).setCell ⟨O3,0,none⟩ (.slice (some ⟨g3,0,none⟩) (n3+1) d3)):=by
 obtain ⟨t1,t2,t3,t4,_,_⟩:=hD.T hT.ks;have h23:=hD.h23;have h2:=hD.h2;have h3:=hD.h3;have hset:KS (fun k=>k≠O2/\k≠O3) w ((w.setCell ⟨O2,0,none⟩ (.slice (some ⟨g2,0,none⟩) (n2+1) d2)).setCell ⟨O3,0,none⟩ (.slice (some ⟨g3,0,none⟩) (n3+1) d3)):=(KS.setCell (by simp) _ _).trans (KS.setCell (by simp) _ _);refine ⟨(hD.S hT.ks).trans (hset.mono fun k _ h=>h.2),g2,d2,g3,d3,?_,?_,?_,?_,row_keep' hT.o2 hset fun g hg=>?_,row_keep' hT.o3 hset fun g hg=>?_,fun e=>?_⟩
 ·rw [World.cell?_setCell_other (h:=fun e=>by injection e with e _ _;exact h23 e.symm)];exact World.cell?_setCell_same' _ _ _ (by rw [t1];rfl)
 ·rw [World.frozen?_setCell,World.frozen?_setCell];exact t2
 ·exact World.cell?_setCell_same' _ _ _ (by rw [World.cell?_setCell_other (h:=fun e=>by injection e with e _ _;exact h23 e),t3];rfl)
 ·rw [World.frozen?_setCell,World.frozen?_setCell];exact t4
 ·have:=(ownBlock_row hT.o2 g hg).1;exact ⟨by omega,by omega⟩
 ·have:=(ownBlock_row hT.o3 g hg).1;exact ⟨by omega,by omega⟩
 ·subst e;exact hT.ap _ rfl rfl
theorem d8_s23 (hD:D8 A B O2 O3 Bx a2 n2 c2 a3 n3 c3 x1 x2) {g2 d2 g3 d3:Nat} {v32 v35 v36:Value} (hT:Two A B Bx 41 (.slice (some ⟨g2,0,none⟩) (n2+1) d2) (n2+1) (xs2 ++ [.int .i64 x1,.int .i64 x2]) (.slice (some ⟨g3,0,none⟩) (n3+1) d3) (n3+1) (xs3 ++ [.int .i64 x1,.int .i64 x2]) w) :
 wpAnyD Tryz.prog .any ops8 (fun e _ w'=>e=.normal/\DblZ A B O2 O3 n2 n3 xs2 xs3 [.int .i64 x1,.int .i64 x2] w') (fun w'=>KS (fun k=>k < B/\k≠O2/\k≠O3) A w') (D8T O2 O3 Bx a2 n2 c2 a3 n3 c3 x1 x2) 8 2 #[true,true,true,true,true,true,true,true,false,false] ({ tmps:=#[u0,u1,.pointer (some ⟨O2,0,none⟩),.pointer (some ⟨O3,0,none⟩),u4,u5,u6,.pointer (some ⟨Bx,0,none⟩),u8,u9,u10,u11,u12,u13,u14,u15,u16,u17,u18,u19,u20,u21,u22,u23,u24,u25,u26,u27,u28,u29,.slice a2 n2 c2,.agg #[.int .i64 x1,.int .i64 x2],v32,(.slice (some ⟨g2,0,none⟩) (n2+1) d2),.slice a3 n3 c3,v35,v36,(.slice (some ⟨g3,0,none⟩) (n3+1) d3),u38,u39,u40,u41,u42,u43,u44,u45],defers:=[] }) w:=by
 have fin:=Hh (d8_fin hD hT);obtain ⟨-,-,-,-,-,-,⟨ty8,ps8,af8,o8⟩,ty9,ps9,af9,o9⟩:=op8_at;obtain ⟨t1,t2,t3,t4,t5,t6⟩:=hD.T hT.ks;have h23:=hD.h23;have hS0:=hD.S hT.ks;have hS1:KS (fun k=>k < B/\k≠O2/\k≠O3) A (w.setCell ⟨O2,0,none⟩ (.slice (some ⟨g2,0,none⟩) (n2+1) d2)):=hS0.trans (KS.setCell (by simp) _ _);have y3:(w.setCell ⟨O2,0,none⟩ (.slice (some ⟨g2,0,none⟩) (n2+1) d2)).cell? ⟨O3,0,none⟩=some (.slice a3 n3 c3):=by rw [World.cell?_setCell_other (h:=fun e=>by injection e with e _ _;exact h23 e)];exact t3
 have y4:(w.setCell ⟨O2,0,none⟩ (.slice (some ⟨g2,0,none⟩) (n2+1) d2)).frozen? ⟨O3,0,none⟩=false:=by rw [World.frozen?_setCell];exact t4
 have HS1:=Hh hS1;clear hD hT hS0 hS1;refine wpAnyD_ready [8] (by decide +kernel) (by simp) ?_;refine AllReadyD.post 8 o8 (by rfl) (fun K hK=>?_) AllReadyD.nil;go_simp;refine hK.out _ _ HS1.out (fun _=>?_);clear hK K;refine wpAnyD_ready [9] (by decide +kernel) (by simp) ?_;refine AllReadyD.post 9 o9 (by rfl) (fun K hK=>?_) AllReadyD.nil;go_simp;refine hK.out _ _ fin.out.1 (fun _=>?_);clear hK K;exact wpAnyD_done (by decide +kernel) ⟨rfl,fin.out⟩ _
theorem d8_s22 (hD:D8 A B O2 O3 Bx a2 n2 c2 a3 n3 c3 x1 x2) {h2 g2 d2:Nat} {v32 v37:Value} (hT:Two A B Bx 41 (.slice (some ⟨g2,0,none⟩) (n2+1) d2) (n2+1) (xs2 ++ [.int .i64 x1,.int .i64 x2]) (.slice a3 n3 c3) n3 xs3 w) (hL2:Lit B (.slice (some ⟨g2,0,none⟩) (n2+1) d2) (.slice a3 n3 c3) [.int .i64 x1,.int .i64 x2] h2 w) :
 wpAnyD Tryz.prog .any ops8 (fun e _ w'=>e=.normal/\DblZ A B O2 O3 n2 n3 xs2 xs3 [.int .i64 x1,.int .i64 x2] w') (fun w'=>KS (fun k=>k < B/\k≠O2/\k≠O3) A w') (D8T O2 O3 Bx a2 n2 c2 a3 n3 c3 x1 x2) 8 3 #[true,true,true,true,true,true,true,false,false,false] ({ tmps:=#[u0,u1,.pointer (some ⟨O2,0,none⟩),.pointer (some ⟨O3,0,none⟩),u4,u5,u6,.pointer (some ⟨Bx,0,none⟩),u8,u9,u10,u11,u12,u13,u14,u15,u16,u17,u18,u19,u20,u21,u22,u23,u24,u25,u26,u27,u28,u29,.slice a2 n2 c2,.agg #[.int .i64 x1,.int .i64 x2],v32,(.slice (some ⟨g2,0,none⟩) (n2+1) d2),.slice a3 n3 c3,.agg #[.int .i64 x1,.int .i64 x2],(.slice (some ⟨h2,0,none⟩) 1 1),v37,u38,u39,u40,u41,u42,u43,u44,u45],defers:=[] }) w:=by
 obtain ⟨i0,hi,hz0,hz1,hz2⟩:=info_parts partInfo;obtain ⟨-,-,⟨ty2,ps2,af2,o2⟩,-,⟨ty5,ps5,af5,o5⟩,⟨ty6,ps6,af6,o6⟩,-,-⟩:=op8_at;have hm2:=hD.m2;have hm3:=hD.m3;refine wpAnyD_ready [7] (by decide +kernel) (by simp) ?_;refine AllReadyD.pre 7 rfl (fun K hK=>?_) ?_
 ·refine step_append_lies (w:=_) rfl _ _ 33 rfl B 41 i0 (.agg #[.int .i64 0,.int .i64 0]) 2 16 Tryz.underlying33 hi hz0 hz1 hz2 rfl (by decide) (.slice a3 n3 c3) n3 xs3 rfl hT.o3 ⟨h2,0,none⟩ 1 1 [.int .i64 x1,.int .i64 x2] rfl rfl hL2.src (by simp [Value.oneCell']) (by decide) (by unfold maxLen;omega) (by omega) hT.base _ rfl ?_;intro g cap w' ho hg hat hlt;refine hK.out _ _ (hD.S (hT.app3 ho hg rfl hat).ks) (hD.T (hT.app3 ho hg rfl hat).ks) (fun _ _=>?_);exact d8_s23 hD (hT.app3 ho hg rfl hat)
 exact AllReadyD.nil
theorem d8_s21 (hD:D8 A B O2 O3 Bx a2 n2 c2 a3 n3 c3 x1 x2) {g2 d2:Nat} {v32 v36 v37:Value} (hT:Two A B Bx 41 (.slice (some ⟨g2,0,none⟩) (n2+1) d2) (n2+1) (xs2 ++ [.int .i64 x1,.int .i64 x2]) (.slice a3 n3 c3) n3 xs3 w) :
 wpAnyD Tryz.prog .any ops8 (fun e _ w'=>e=.normal/\DblZ A B O2 O3 n2 n3 xs2 xs3 [.int .i64 x1,.int .i64 x2] w') (fun w'=>KS (fun k=>k < B/\k≠O2/\k≠O3) A w') (D8T O2 O3 Bx a2 n2 c2 a3 n3 c3 x1 x2) 8 4 #[true,true,true,true,true,true,false,false,false,false] ({ tmps:=#[u0,u1,.pointer (some ⟨O2,0,none⟩),.pointer (some ⟨O3,0,none⟩),u4,u5,u6,.pointer (some ⟨Bx,0,none⟩),u8,u9,u10,u11,u12,u13,u14,u15,u16,u17,u18,u19,u20,u21,u22,u23,u24,u25,u26,u27,u28,u29,.slice a2 n2 c2,.agg #[.int .i64 x1,.int .i64 x2],v32,(.slice (some ⟨g2,0,none⟩) (n2+1) d2),.slice a3 n3 c3,.agg #[.int .i64 x1,.int .i64 x2],v36,v37,u38,u39,u40,u41,u42,u43,u44,u45],defers:=[] }) w:=by
 obtain ⟨i0,hi,hz0,hz1,hz2⟩:=info_parts partInfo;obtain ⟨-,-,⟨ty2,ps2,af2,o2⟩,-,⟨ty5,ps5,af5,o5⟩,⟨ty6,ps6,af6,o6⟩,-,-⟩:=op8_at;have hm2:=hD.m2;have hm3:=hD.m3;refine wpAnyD_ready [6] (by decide +kernel) (by simp) ?_;refine AllReadyD.pre 6 o6 (fun K hK=>?_) ?_
 ·go_simp;refine hK.out _ _ (hD.S (hT.lit (cs:=[.int .i64 x1,.int .i64 x2]) 41).1.ks) (hD.T (hT.lit (cs:=[.int .i64 x1,.int .i64 x2]) 41).1.ks) (fun _ _=>?_);exact d8_s22 hD (hT.lit _).1 (hT.lit _).2
 exact AllReadyD.nil
theorem d8_s20 (hD:D8 A B O2 O3 Bx a2 n2 c2 a3 n3 c3 x1 x2) {g2 d2:Nat} {v32 v35 v36 v37:Value} (hT:Two A B Bx 41 (.slice (some ⟨g2,0,none⟩) (n2+1) d2) (n2+1) (xs2 ++ [.int .i64 x1,.int .i64 x2]) (.slice a3 n3 c3) n3 xs3 w) :
 wpAnyD Tryz.prog .any ops8 (fun e _ w'=>e=.normal/\DblZ A B O2 O3 n2 n3 xs2 xs3 [.int .i64 x1,.int .i64 x2] w') (fun w'=>KS (fun k=>k < B/\k≠O2/\k≠O3) A w') (D8T O2 O3 Bx a2 n2 c2 a3 n3 c3 x1 x2) 8 5 #[true,true,true,true,true,false,false,false,false,false] ({ tmps:=#[u0,u1,.pointer (some ⟨O2,0,none⟩),.pointer (some ⟨O3,0,none⟩),u4,u5,u6,.pointer (some ⟨Bx,0,none⟩),u8,u9,u10,u11,u12,u13,u14,u15,u16,u17,u18,u19,u20,u21,u22,u23,u24,u25,u26,u27,u28,u29,.slice a2 n2 c2,.agg #[.int .i64 x1,.int .i64 x2],v32,(.slice (some ⟨g2,0,none⟩) (n2+1) d2),.slice a3 n3 c3,v35,v36,v37,u38,u39,u40,u41,u42,u43,u44,u45],defers:=[] }) w:=by
 obtain ⟨i0,hi,hz0,hz1,hz2⟩:=info_parts partInfo;obtain ⟨-,-,⟨ty2,ps2,af2,o2⟩,-,⟨ty5,ps5,af5,o5⟩,⟨ty6,ps6,af6,o6⟩,-,-⟩:=op8_at;have hm2:=hD.m2;have hm3:=hD.m3;refine wpAnyD_ready [5] (by decide +kernel) (by simp) ?_;refine AllReadyD.pre 5 o5 (fun K hK=>?_) ?_
 ·(obtain ⟨s1,s2,s3,s4,s5,s6⟩:=hD.T hT.ks;have HSx:=Hh (hD.S hT.ks);have HTx:=Hh (hD.T hT.ks);have HTT:=Hh hT;clear hT;go_simp;refine hK.out _ _ HSx.out HTx.out (fun _ _=>?_);exact d8_s21 hD HTT.out)
 exact AllReadyD.nil
theorem d8_s12 (hD:D8 A B O2 O3 Bx a2 n2 c2 a3 n3 c3 x1 x2) {h1 h2:Nat} {v33 v37:Value} (hT:Two A B Bx 41 (.slice a2 n2 c2) n2 xs2 (.slice a3 n3 c3) n3 xs3 w) (hL1:Lit B (.slice a2 n2 c2) (.slice a3 n3 c3) [.int .i64 x1,.int .i64 x2] h1 w) (hL2:Lit B (.slice a2 n2 c2) (.slice a3 n3 c3) [.int .i64 x1,.int .i64 x2] h2 w) :
 wpAnyD Tryz.prog .any ops8 (fun e _ w'=>e=.normal/\DblZ A B O2 O3 n2 n3 xs2 xs3 [.int .i64 x1,.int .i64 x2] w') (fun w'=>KS (fun k=>k < B/\k≠O2/\k≠O3) A w') (D8T O2 O3 Bx a2 n2 c2 a3 n3 c3 x1 x2) 8 4 #[true,true,true,false,true,true,true,false,false,false] ({ tmps:=#[u0,u1,.pointer (some ⟨O2,0,none⟩),.pointer (some ⟨O3,0,none⟩),u4,u5,u6,.pointer (some ⟨Bx,0,none⟩),u8,u9,u10,u11,u12,u13,u14,u15,u16,u17,u18,u19,u20,u21,u22,u23,u24,u25,u26,u27,u28,u29,.slice a2 n2 c2,.agg #[.int .i64 x1,.int .i64 x2],(.slice (some ⟨h1,0,none⟩) 1 1),v33,.slice a3 n3 c3,.agg #[.int .i64 x1,.int .i64 x2],(.slice (some ⟨h2,0,none⟩) 1 1),v37,u38,u39,u40,u41,u42,u43,u44,u45],defers:=[] }) w:=by
 obtain ⟨i0,hi,hz0,hz1,hz2⟩:=info_parts partInfo;obtain ⟨-,-,⟨ty2,ps2,af2,o2⟩,-,⟨ty5,ps5,af5,o5⟩,⟨ty6,ps6,af6,o6⟩,-,-⟩:=op8_at;have hm2:=hD.m2;have hm3:=hD.m3;refine wpAnyD_ready [3] (by decide +kernel) (by simp) ?_;refine AllReadyD.pre 3 rfl (fun K hK=>?_) ?_
 ·refine step_append_lies (w:=_) rfl _ _ 33 rfl B 41 i0 (.agg #[.int .i64 0,.int .i64 0]) 2 16 Tryz.underlying33 hi hz0 hz1 hz2 rfl (by decide) (.slice a2 n2 c2) n2 xs2 rfl hT.o2 ⟨h1,0,none⟩ 1 1 [.int .i64 x1,.int .i64 x2] rfl rfl hL1.src (by simp [Value.oneCell']) (by decide) (by unfold maxLen;omega) (by omega) hT.base _ rfl ?_;intro g cap w' ho hg hat hlt;refine hK.out _ _ (hD.S (hT.app2 ho hg rfl hat).ks) (hD.T (hT.app2 ho hg rfl hat).ks) (fun _ _=>?_);exact d8_s22 hD (hT.app2 ho hg rfl hat) (hL2.app2 hg rfl hat)
 exact AllReadyD.nil
theorem d8_s11 (hD:D8 A B O2 O3 Bx a2 n2 c2 a3 n3 c3 x1 x2) {h1:Nat} {v33 v36 v37:Value} (hT:Two A B Bx 41 (.slice a2 n2 c2) n2 xs2 (.slice a3 n3 c3) n3 xs3 w) (hL1:Lit B (.slice a2 n2 c2) (.slice a3 n3 c3) [.int .i64 x1,.int .i64 x2] h1 w) :
 wpAnyD Tryz.prog .any ops8 (fun e _ w'=>e=.normal/\DblZ A B O2 O3 n2 n3 xs2 xs3 [.int .i64 x1,.int .i64 x2] w') (fun w'=>KS (fun k=>k < B/\k≠O2/\k≠O3) A w') (D8T O2 O3 Bx a2 n2 c2 a3 n3 c3 x1 x2) 8 5 #[true,true,true,false,true,true,false,false,false,false] ({ tmps:=#[u0,u1,.pointer (some ⟨O2,0,none⟩),.pointer (some ⟨O3,0,none⟩),u4,u5,u6,.pointer (some ⟨Bx,0,none⟩),u8,u9,u10,u11,u12,u13,u14,u15,u16,u17,u18,u19,u20,u21,u22,u23,u24,u25,u26,u27,u28,u29,.slice a2 n2 c2,.agg #[.int .i64 x1,.int .i64 x2],(.slice (some ⟨h1,0,none⟩) 1 1),v33,.slice a3 n3 c3,.agg #[.int .i64 x1,.int .i64 x2],v36,v37,u38,u39,u40,u41,u42,u43,u44,u45],defers:=[] }) w:=by
 obtain ⟨i0,hi,hz0,hz1,hz2⟩:=info_parts partInfo;obtain ⟨-,-,⟨ty2,ps2,af2,o2⟩,-,⟨ty5,ps5,af5,o5⟩,⟨ty6,ps6,af6,o6⟩,-,-⟩:=op8_at;have hm2:=hD.m2;have hm3:=hD.m3;refine wpAnyD_ready [3,6] (by decide +kernel) (by simp) ?_;refine AllReadyD.pre 3 rfl (fun K hK=>?_) ?_
 ·refine step_append_lies (w:=_) rfl _ _ 33 rfl B 41 i0 (.agg #[.int .i64 0,.int .i64 0]) 2 16 Tryz.underlying33 hi hz0 hz1 hz2 rfl (by decide) (.slice a2 n2 c2) n2 xs2 rfl hT.o2 ⟨h1,0,none⟩ 1 1 [.int .i64 x1,.int .i64 x2] rfl rfl hL1.src (by simp [Value.oneCell']) (by decide) (by unfold maxLen;omega) (by omega) hT.base _ rfl ?_;intro g cap w' ho hg hat hlt;refine hK.out _ _ (hD.S (hT.app2 ho hg rfl hat).ks) (hD.T (hT.app2 ho hg rfl hat).ks) (fun _ _=>?_);exact d8_s21 hD (hT.app2 ho hg rfl hat)
 refine AllReadyD.pre 6 o6 (fun K hK=>?_) ?_
 ·go_simp;refine hK.out _ _ (hD.S (hT.lit (cs:=[.int .i64 x1,.int .i64 x2]) 41).1.ks) (hD.T (hT.lit (cs:=[.int .i64 x1,.int .i64 x2]) 41).1.ks) (fun _ _=>?_);exact d8_s12 hD (hT.lit _).1 (hL1.alloc _) (hT.lit _).2
 exact AllReadyD.nil
theorem d8_s10 (hD:D8 A B O2 O3 Bx a2 n2 c2 a3 n3 c3 x1 x2) {h1:Nat} {v33 v35 v36 v37:Value} (hT:Two A B Bx 41 (.slice a2 n2 c2) n2 xs2 (.slice a3 n3 c3) n3 xs3 w) (hL1:Lit B (.slice a2 n2 c2) (.slice a3 n3 c3) [.int .i64 x1,.int .i64 x2] h1 w) :
 wpAnyD Tryz.prog .any ops8 (fun e _ w'=>e=.normal/\DblZ A B O2 O3 n2 n3 xs2 xs3 [.int .i64 x1,.int .i64 x2] w') (fun w'=>KS (fun k=>k < B/\k≠O2/\k≠O3) A w') (D8T O2 O3 Bx a2 n2 c2 a3 n3 c3 x1 x2) 8 6 #[true,true,true,false,true,false,false,false,false,false] ({ tmps:=#[u0,u1,.pointer (some ⟨O2,0,none⟩),.pointer (some ⟨O3,0,none⟩),u4,u5,u6,.pointer (some ⟨Bx,0,none⟩),u8,u9,u10,u11,u12,u13,u14,u15,u16,u17,u18,u19,u20,u21,u22,u23,u24,u25,u26,u27,u28,u29,.slice a2 n2 c2,.agg #[.int .i64 x1,.int .i64 x2],(.slice (some ⟨h1,0,none⟩) 1 1),v33,.slice a3 n3 c3,v35,v36,v37,u38,u39,u40,u41,u42,u43,u44,u45],defers:=[] }) w:=by
 obtain ⟨i0,hi,hz0,hz1,hz2⟩:=info_parts partInfo;obtain ⟨-,-,⟨ty2,ps2,af2,o2⟩,-,⟨ty5,ps5,af5,o5⟩,⟨ty6,ps6,af6,o6⟩,-,-⟩:=op8_at;have hm2:=hD.m2;have hm3:=hD.m3;refine wpAnyD_ready [3,5] (by decide +kernel) (by simp) ?_;refine AllReadyD.pre 3 rfl (fun K hK=>?_) ?_
 ·refine step_append_lies (w:=_) rfl _ _ 33 rfl B 41 i0 (.agg #[.int .i64 0,.int .i64 0]) 2 16 Tryz.underlying33 hi hz0 hz1 hz2 rfl (by decide) (.slice a2 n2 c2) n2 xs2 rfl hT.o2 ⟨h1,0,none⟩ 1 1 [.int .i64 x1,.int .i64 x2] rfl rfl hL1.src (by simp [Value.oneCell']) (by decide) (by unfold maxLen;omega) (by omega) hT.base _ rfl ?_;intro g cap w' ho hg hat hlt;refine hK.out _ _ (hD.S (hT.app2 ho hg rfl hat).ks) (hD.T (hT.app2 ho hg rfl hat).ks) (fun _ _=>?_);exact d8_s20 hD (hT.app2 ho hg rfl hat)
 refine AllReadyD.pre 5 o5 (fun K hK=>?_) ?_
 ·(obtain ⟨s1,s2,s3,s4,s5,s6⟩:=hD.T hT.ks;have HSx:=Hh (hD.S hT.ks);have HTx:=Hh (hD.T hT.ks);have HTT:=Hh hT;have HL1:=Hh hL1;clear hL1;clear hT;go_simp;refine hK.out _ _ HSx.out HTx.out (fun _ _=>?_);exact d8_s11 hD HTT.out HL1.out)
 exact AllReadyD.nil
theorem d8_s02 (hD:D8 A B O2 O3 Bx a2 n2 c2 a3 n3 c3 x1 x2) {h2:Nat} {v32 v33 v37:Value} (hT:Two A B Bx 41 (.slice a2 n2 c2) n2 xs2 (.slice a3 n3 c3) n3 xs3 w) (hL2:Lit B (.slice a2 n2 c2) (.slice a3 n3 c3) [.int .i64 x1,.int .i64 x2] h2 w) :
 wpAnyD Tryz.prog .any ops8 (fun e _ w'=>e=.normal/\DblZ A B O2 O3 n2 n3 xs2 xs3 [.int .i64 x1,.int .i64 x2] w') (fun w'=>KS (fun k=>k < B/\k≠O2/\k≠O3) A w') (D8T O2 O3 Bx a2 n2 c2 a3 n3 c3 x1 x2) 8 5 #[true,true,false,false,true,true,true,false,false,false] ({ tmps:=#[u0,u1,.pointer (some ⟨O2,0,none⟩),.pointer (some ⟨O3,0,none⟩),u4,u5,u6,.pointer (some ⟨Bx,0,none⟩),u8,u9,u10,u11,u12,u13,u14,u15,u16,u17,u18,u19,u20,u21,u22,u23,u24,u25,u26,u27,u28,u29,.slice a2 n2 c2,.agg #[.int .i64 x1,.int .i64 x2],v32,v33,.slice a3 n3 c3,.agg #[.int .i64 x1,.int .i64 x2],(.slice (some ⟨h2,0,none⟩) 1 1),v37,u38,u39,u40,u41,u42,u43,u44,u45],defers:=[] }) w:=by
 obtain ⟨i0,hi,hz0,hz1,hz2⟩:=info_parts partInfo;obtain ⟨-,-,⟨ty2,ps2,af2,o2⟩,-,⟨ty5,ps5,af5,o5⟩,⟨ty6,ps6,af6,o6⟩,-,-⟩:=op8_at;have hm2:=hD.m2;have hm3:=hD.m3;refine wpAnyD_ready [2] (by decide +kernel) (by simp) ?_;refine AllReadyD.pre 2 o2 (fun K hK=>?_) ?_
 ·go_simp;refine hK.out _ _ (hD.S (hT.lit (cs:=[.int .i64 x1,.int .i64 x2]) 41).1.ks) (hD.T (hT.lit (cs:=[.int .i64 x1,.int .i64 x2]) 41).1.ks) (fun _ _=>?_);exact d8_s12 hD (hT.lit _).1 (hT.lit _).2 (hL2.alloc _)
 exact AllReadyD.nil
theorem d8_s01 (hD:D8 A B O2 O3 Bx a2 n2 c2 a3 n3 c3 x1 x2) {v32 v33 v36 v37:Value} (hT:Two A B Bx 41 (.slice a2 n2 c2) n2 xs2 (.slice a3 n3 c3) n3 xs3 w) :
 wpAnyD Tryz.prog .any ops8 (fun e _ w'=>e=.normal/\DblZ A B O2 O3 n2 n3 xs2 xs3 [.int .i64 x1,.int .i64 x2] w') (fun w'=>KS (fun k=>k < B/\k≠O2/\k≠O3) A w') (D8T O2 O3 Bx a2 n2 c2 a3 n3 c3 x1 x2) 8 6 #[true,true,false,false,true,true,false,false,false,false] ({ tmps:=#[u0,u1,.pointer (some ⟨O2,0,none⟩),.pointer (some ⟨O3,0,none⟩),u4,u5,u6,.pointer (some ⟨Bx,0,none⟩),u8,u9,u10,u11,u12,u13,u14,u15,u16,u17,u18,u19,u20,u21,u22,u23,u24,u25,u26,u27,u28,u29,.slice a2 n2 c2,.agg #[.int .i64 x1,.int .i64 x2],v32,v33,.slice a3 n3 c3,.agg #[.int .i64 x1,.int .i64 x2],v36,v37,u38,u39,u40,u41,u42,u43,u44,u45],defers:=[] }) w:=by
 obtain ⟨i0,hi,hz0,hz1,hz2⟩:=info_parts partInfo;obtain ⟨-,-,⟨ty2,ps2,af2,o2⟩,-,⟨ty5,ps5,af5,o5⟩,⟨ty6,ps6,af6,o6⟩,-,-⟩:=op8_at;have hm2:=hD.m2;have hm3:=hD.m3;refine wpAnyD_ready [2,6] (by decide +kernel) (by simp) ?_;refine AllReadyD.pre 2 o2 (fun K hK=>?_) ?_
 ·go_simp;refine hK.out _ _ (hD.S (hT.lit (cs:=[.int .i64 x1,.int .i64 x2]) 41).1.ks) (hD.T (hT.lit (cs:=[.int .i64 x1,.int .i64 x2]) 41).1.ks) (fun _ _=>?_);exact d8_s11 hD (hT.lit _).1 (hT.lit _).2
 refine AllReadyD.pre 6 o6 (fun K hK=>?_) ?_
 ·go_simp;refine hK.out _ _ (hD.S (hT.lit (cs:=[.int .i64 x1,.int .i64 x2]) 41).1.ks) (hD.T (hT.lit (cs:=[.int .i64 x1,.int .i64 x2]) 41).1.ks) (fun _ _=>?_);exact d8_s02 hD (hT.lit _).1 (hT.lit _).2
 exact AllReadyD.nil
theorem d8_s00 (hD:D8 A B O2 O3 Bx a2 n2 c2 a3 n3 c3 x1 x2) {v32 v33 v35 v36 v37:Value} (hT:Two A B Bx 41 (.slice a2 n2 c2) n2 xs2 (.slice a3 n3 c3) n3 xs3 w) :
 wpAnyD Tryz.prog .any ops8 (fun e _ w'=>e=.normal/\DblZ A B O2 O3 n2 n3 xs2 xs3 [.int .i64 x1,.int .i64 x2] w') (fun w'=>KS (fun k=>k < B/\k≠O2/\k≠O3) A w') (D8T O2 O3 Bx a2 n2 c2 a3 n3 c3 x1 x2) 8 7 #[true,true,false,false,true,false,false,false,false,false] ({ tmps:=#[u0,u1,.pointer (some ⟨O2,0,none⟩),.pointer (some ⟨O3,0,none⟩),u4,u5,u6,.pointer (some ⟨Bx,0,none⟩),u8,u9,u10,u11,u12,u13,u14,u15,u16,u17,u18,u19,u20,u21,u22,u23,u24,u25,u26,u27,u28,u29,.slice a2 n2 c2,.agg #[.int .i64 x1,.int .i64 x2],v32,v33,.slice a3 n3 c3,v35,v36,v37,u38,u39,u40,u41,u42,u43,u44,u45],defers:=[] }) w:=by
 obtain ⟨i0,hi,hz0,hz1,hz2⟩:=info_parts partInfo;obtain ⟨-,-,⟨ty2,ps2,af2,o2⟩,-,⟨ty5,ps5,af5,o5⟩,⟨ty6,ps6,af6,o6⟩,-,-⟩:=op8_at;have hm2:=hD.m2;have hm3:=hD.m3;refine wpAnyD_ready [2,5] (by decide +kernel) (by simp) ?_;refine AllReadyD.pre 2 o2 (fun K hK=>?_) ?_
 ·go_simp;refine hK.out _ _ (hD.S (hT.lit (cs:=[.int .i64 x1,.int .i64 x2]) 41).1.ks) (hD.T (hT.lit (cs:=[.int .i64 x1,.int .i64 x2]) 41).1.ks) (fun _ _=>?_);exact d8_s10 hD (hT.lit _).1 (hT.lit _).2
 refine AllReadyD.pre 5 o5 (fun K hK=>?_) ?_
 ·(obtain ⟨s1,s2,s3,s4,s5,s6⟩:=hD.T hT.ks;have HSx:=Hh (hD.S hT.ks);have HTx:=Hh (hD.T hT.ks);have HTT:=Hh hT;clear hT;go_simp;refine hK.out _ _ HSx.out HTx.out (fun _ _=>?_);exact d8_s01 hD HTT.out)
 exact AllReadyD.nil
theorem dbl_8 {r0 r1 r2 r3 r4 r5 r6 r7 r8 r9 r10 r11:Code} (hc:Tryz.f55.body=some (.seq r0 (.seq r1 (.seq (.seq r2 (.cond (.tmp 15) (.seq r3 .ret) .skip)) (.seq (.seq r4 (.block 0 (.rangeFunc (.tmp 18) #[19] r5 (.block 1 (.seq r6 (.block 2 (.seq r7 (.cond (.tmp 28) r8 (.seq r9 (.cond (.tmp 38) r10 .skip)))))))))) (.seq r11 .ret)))))) (hD:D8 A B O2 O3 Bx a2 n2 c2 a3 n3 c3 x1 x2) (hT:Two A B Bx 41 (.slice a2 n2 c2) n2 xs2 (.slice a3 n3 c3) n3 xs3 A) {L:Nat} {u30 u31 u32 u33 u34 u35 u36 u37:Value} :
 r8.wpIn (Fence.wide.inRound L) 0 Tryz.prog (fun e _ w'=>e=.normal/\DblZ A B O2 O3 n2 n3 xs2 xs3 [.int .i64 x1,.int .i64 x2] w') ({ tmps:=#[u0,u1,.pointer (some ⟨O2,0,none⟩),.pointer (some ⟨O3,0,none⟩),u4,u5,u6,.pointer (some ⟨Bx,0,none⟩),u8,u9,u10,u11,u12,u13,u14,u15,u16,u17,u18,u19,u20,u21,u22,u23,u24,u25,u26,u27,u28,u29,u30,u31,u32,u33,u34,u35,u36,u37,u38,u39,u40,u41,u42,u43,u44,u45],defers:=[] }) A:=by
 have hop:r8=.region 8 ops8 true:=by
  simp only [Tryz.f55,Option.some.injEq,Code.seq.injEq,Code.cond.injEq,Code.block.injEq,Code.rangeFunc.injEq] at hc;obtain ⟨rfl,rfl,⟨rfl,-,⟨rfl,-⟩,-⟩,⟨rfl,-,-,-,rfl,-,rfl,-,rfl,-,rfl,rfl,-,rfl,-⟩,rfl,-⟩:=hc;rfl
 rw [hop];clear hc hop;have hTd:Two A B Bx 41 (.slice a2 n2 c2) n2 xs2 (.slice a3 n3 c3) n3 xs3 A.drew:=⟨hT.ks.trans (KS.drew _ _),hT.base,row_keep' hT.o2 (KS.drew (fun _=>True) _) fun _ _=>trivial,row_keep' hT.o3 (KS.drew (fun _=>True) _) fun _ _=>trivial,hT.ap,hT.b2,hT.b3,hT.box⟩;refine wpIn_region_D (S:=(fun w'=>KS (fun k=>k < B/\k≠O2/\k≠O3) A w')) (T:=(D8T O2 O3 Bx a2 n2 c2 a3 n3 c3 x1 x2)) (d:=8) (by kernel_rfl) (by kernel_rfl) (fun ⟨_,_,h,_⟩=>by cases h) (hD.S hTd.ks) (hD.T hTd.ks) (fun hHS hHT=>?_);obtain ⟨⟨ty0,ps0,af0,o0⟩,⟨ty1,ps1,af1,o1⟩,-,⟨ty4,ps4,af4,o4⟩,⟨ty5,ps5,af5,o5⟩,-,-,-⟩:=op8_at;refine wpAnyD_take (i:=0) (v:=.slice a2 n2 c2) o0 (by decide +kernel) (fun _ _ _ h=>by cases h.1) (Or.inl ⟨by rfl,?_⟩) hHS hHT ?_
 ·rintro w5 ⟨_,s1,s2,s3,s4,s5,s6⟩;go_simp
 simp only [Act.put,List.setIfInBounds_toArray,List.set_cons_zero,List.set_cons_succ];refine wpAnyD_take (i:=1) (v:=.agg #[.int .i64 x1,.int .i64 x2]) o1 (by decide +kernel) (fun _ _ _ h=>by cases h.1) (Or.inl ⟨by rfl,?_⟩) hHS hHT ?_
 ·rintro w5 ⟨_,s1,s2,s3,s4,s5,s6⟩;go_simp
 simp only [Act.put,List.setIfInBounds_toArray,List.set_cons_zero,List.set_cons_succ];refine wpAnyD_take (i:=4) (v:=.slice a3 n3 c3) o4 (by decide +kernel) (fun _ _ _ h=>by cases h.1) (Or.inl ⟨by rfl,?_⟩) hHS hHT ?_
 ·rintro w5 ⟨_,s1,s2,s3,s4,s5,s6⟩;go_simp
 simp only [Act.put,List.setIfInBounds_toArray,List.set_cons_zero,List.set_cons_succ];exact d8_s00 hD hTd
end
end Go.Proofs.YtgemjjdkjmpmlaaGreatDoor

