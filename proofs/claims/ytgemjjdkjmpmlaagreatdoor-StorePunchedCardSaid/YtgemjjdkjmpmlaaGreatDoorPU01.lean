/- Leads to StorePunched of chapter 6: Ord D0 W2 W3 PK0 G11. -/
import Derived.Test.YtgemjjdkjmpmlaaGreatDoorPU00
set_option maxHeartbeats 8000000
set_option maxRecDepth 100000
set_option linter.all false
namespace Go.Proofs.YtgemjjdkjmpmlaaGreatDoor
open Go
section
variable {P:Program} {md:Region.Mode} {ops:Array Oper} {Q:Exit→Act→World→Prop} {S T:World→Prop} {d:Nat}
def wpAnyD (P:Program) (md:Region.Mode) (ops:Array Oper) (Q:Exit→Act→World→Prop) (S T:World→Prop) (d:Nat):Nat→Array Bool→Act→World→Prop
 | 0,listed,a,w=>Region.ready md ops listed=[]∧Q .normal a w
 | fuel+1,listed,a,w =>
  (Region.ready md ops listed=[]→Q .normal a w) ∧
  ∀ i∈Region.ready md ops listed,wpOp P ops Q i (fun a' w'=>(S w'∧((listed.setIfInBounds i true).getD d true=false→T w'))∧wpAnyD P md ops Q S T d fuel (listed.setIfInBounds i true) a' w') a w
theorem wpAny_of_D:∀ (fuel:Nat) (listed:Array Bool) (a:Act) (w:World),wpAnyD P md ops Q S T d fuel listed a w→wpAny P md ops Q fuel listed a w
 | 0,_,_,_,h=>h
 | fuel+1,_,_,_,h=>⟨h.1,fun i hi=>wpOp_mono (fun a' w' h'=>wpAny_of_D fuel _ a' w' h'.2) (h.2 i hi)⟩
def Down (md:Region.Mode) (ops:Array Oper) (listed:Array Bool):Prop:=∀ (k:Nat) (ok:Oper),ops[k]? = some ok→listed.getD k false=true→∀ e∈ok.after,Region.binds md e=true→listed.getD e.on false=true
def downB (md:Region.Mode) (ops:Array Oper) (listed:Array Bool):Bool:=(List.range ops.size).all fun k=>match ops[k]? with
 | some ok=>!(listed.getD k false) || ok.after.all fun e=>!(Region.binds md e) || listed.getD e.on false
 | none=>true
theorem downB_spec {listed:Array Bool} (h:downB md ops listed=true):Down md ops listed:=fun k ok hk hl e he hb=>by
 unfold downB at h
 rw [List.all_eq_true] at h
 have hlt:k < ops.size:=(Array.getElem?_eq_some_iff.1 hk).1
 have h2:=h k (List.mem_range.2 hlt)
 rw [hk] at h2
 simp only [hl,Bool.not_true,Bool.false_or] at h2
 rw [Array.all_eq_true'] at h2
 have h3:=h2 e he
 rw [hb] at h3
 simpa using h3
theorem Down.set {listed:Array Bool} (h:Down md ops listed) {j:Nat} (hj:j∈Region.ready md ops listed):Down md ops (listed.setIfInBounds j true):=fun k ok hk hl e he hb=>by
 by_cases hjk:j=k
 ·subst hjk
  obtain ⟨_,oj,hoj,hall⟩:=mem_ready.1 hj
  rw [hoj] at hk
  cases hk
  exact getD_set_true (hall e he hb)
 ·rw [getD_set_ne false hjk] at hl
  exact getD_set_true (h k ok hk hl e he hb)
theorem getD_two {listed:Array Bool} {i:Nat} (h:listed.getD i true=false):listed.getD i false=false:=by
 rcases Nat.lt_or_ge i listed.size with h' | h'
 ·simp [h'] at h ⊢;exact h
 ·simp [Array.getElem?_eq_none h'] at h
theorem wpAnyD_first {i:Nat} {oi:Oper} {v:Value} (hi:ops[i]? = some oi) (hsel:∀ (j:Nat) (o:Oper) cs b,ops[j]? = some o→o.op≠.select cs b)
 (hQ:∀ c a w,Q (.panic c) (a.put oi.dst v) w→Q (.panic c) a w) (hid:i≠d) (hdw:∀ L,Down md ops L→d∈Region.ready md ops L→L.getD i false=true) :
 ∀ (fuel:Nat) (listed:Array Bool) (a:Act) (w:World),Down md ops listed →
  (∀ j oj,ops[j]? = some oj→j≠i→listed.getD j true=false→(∀ e∈oj.after,Region.binds md e=true→e.on≠i)→oi.apart ops oj=true) →
  i∈Region.ready md ops listed→listed.getD d true=false→YieldsIf P ops (fun w=>S w∧T w) oi v a→S w→T w →
  wpAnyD P md ops Q S T d fuel (listed.setIfInBounds i true) (a.put oi.dst v) w→wpAnyD P md ops Q S T d (fuel+1) listed a w:=by
 intro fuel
 induction fuel with
 | zero =>
  intro listed a w _ _ hr hld hy hS hT H
  refine ⟨fun h=>(by rw [h] at hr;cases hr),fun j hj=>?_⟩
  by_cases hji:j=i
  ·subst hji;exact hy.wpOp hi ⟨hS,hT⟩ ⟨⟨hS,fun _=>hT⟩,H⟩
  ·have:=ready_mono hj hji
   rw [H.1] at this
   cases this
 | succ fuel ih =>
  intro listed a w hdc hfree hr hld hy hS hT H
  refine ⟨fun h=>(by rw [h] at hr;cases hr),fun j hj=>?_⟩
  by_cases hji:j=i
  ·subst hji;exact hy.wpOp hi ⟨hS,hT⟩ ⟨⟨hS,fun _=>hT⟩,H⟩
  ·have h1:=H.2 j (ready_mono hj hji)
   obtain ⟨hjun,oj,hoj,hall⟩:=mem_ready.1 hj
   have hnot:∀ e∈oj.after,Region.binds md e=true→e.on≠i:=fun e he hb heq=>by
    have h1:=hall e he hb
    have h0:=(mem_ready.1 hr).1
    rw [heq] at h1
    rcases Nat.lt_or_ge i listed.size with h' | h'
    ·simp [h'] at h0 h1;rw [h0] at h1;cases h1
    ·simp [Array.getElem?_eq_none h'] at h1
   have hjd:j≠d:=fun e=>by
    subst e
    have h1:=hdw listed hdc hj
    rw [getD_two (mem_ready.1 hr).1] at h1
    cases h1
   have h2:=wpOp_putIf hoj (hfree j oj hoj hji hjun hnot) (fun cs b=>hsel i oi cs b hi) (fun cs b=>hsel j oj cs b hoj) hQ hy h1
   have hfree':∀ k ok,ops[k]? = some ok→k≠i→(listed.setIfInBounds j true).getD k true=false →
    (∀ e∈ok.after,Region.binds md e=true→e.on≠i)→oi.apart ops ok=true:=fun k ok hk hki hun hno=>by
    refine hfree k ok hk hki ?_ hno
    by_cases hjk:j=k
    ·subst hjk;exact hjun
    ·rw [getD_set_ne true hjk] at hun;exact hun
   have hld2:(listed.setIfInBounds j true).getD d true=false:=by rw [getD_set_ne true hjd];exact hld
   refine wpOp_mono (fun a' w' h3=>?_) h2
   have hT':=h3.2.1.2 (by rw [getD_set_ne true hjd,getD_set_ne true hid];exact hld)
   refine ⟨⟨h3.2.1.1,fun _=>hT'⟩,ih (listed.setIfInBounds j true) a' w' (hdc.set hj) hfree' (ready_mono hr (Ne.symm hji)) hld2 h3.1 h3.2.1.1 hT' ?_⟩
   rw [Array.setIfInBounds_comm _ _ hji]
   exact h3.2.2
def waits1 (md:Region.Mode) (ops:Array Oper) (d i:Nat):Bool:=match ops[d]? with
 | some od=>od.after.any fun e=>Region.binds md e && e.on == i
 | none=>true
def waits (md:Region.Mode) (ops:Array Oper) (d i:Nat):Bool:=i != d && (waits1 md ops d i || (List.range ops.size).any fun k=>waits1 md ops d k && waits1 md ops k i)
theorem waits1_ready {L:Array Bool} {d i:Nat} (h:waits1 md ops d i=true) (hr:d∈Region.ready md ops L):L.getD i false=true:=by
 obtain ⟨_,od,hod,hall⟩:=mem_ready.1 hr
 unfold waits1 at h
 rw [hod] at h
 simp only [Array.any_eq_true'] at h
 obtain ⟨e,he,h3⟩:=h
 simp only [Bool.and_eq_true,beq_iff_eq] at h3
 rw [← h3.2]
 exact hall e he h3.1
theorem waits_ready {L:Array Bool} {d i:Nat} (h:waits md ops d i=true) (hL:Down md ops L) (hr:d∈Region.ready md ops L):L.getD i false=true:=by
 unfold waits at h
 rw [Bool.and_eq_true,Bool.or_eq_true] at h
 rcases h.2 with h | h
 ·exact waits1_ready h hr
 ·rw [List.any_eq_true] at h
  obtain ⟨k,hk,h⟩:=h
  rw [Bool.and_eq_true] at h
  have hkl:=waits1_ready h.1 hr
  have hlt:=List.mem_range.1 hk
  have h2:=h.2
  unfold waits1 at h2
  rw [Array.getElem?_eq_getElem hlt] at h2
  simp only [Array.any_eq_true'] at h2
  obtain ⟨e,he,h3⟩:=h2
  simp only [Bool.and_eq_true,beq_iff_eq] at h3
  rw [← h3.2]
  exact hL k _ (Array.getElem?_eq_getElem hlt) hkl e he h3.1
theorem wpAnyD_take {i:Nat} {oi:Oper} {v:Value} {fuel:Nat} {listed:Array Bool} {a:Act} {w:World} (hi:ops[i]? = some oi)
 (hc:(Region.noSelect ops && Region.free md ops listed i && (Region.ready md ops listed).contains i && waits md ops d i && !(listed.getD d true) && downB md ops listed)=true)
 (hQ:∀ c a w,Q (.panic c) (a.put oi.dst v) w→Q (.panic c) a w) (hy:YieldsIf P ops (fun w=>S w∧T w) oi v a) (hS:S w) (hT:T w)
 (h:wpAnyD P md ops Q S T d fuel (listed.setIfInBounds i true) (a.put oi.dst v) w):wpAnyD P md ops Q S T d (fuel+1) listed a w:=by
 simp only [Bool.and_eq_true] at hc
 obtain ⟨⟨⟨⟨⟨hs,hf⟩,hr⟩,hw⟩,hld⟩,hdn⟩:=hc
 have hid:i≠d:=by
  unfold waits at hw
  rw [Bool.and_eq_true,bne_iff_ne] at hw
  exact hw.1
 exact wpAnyD_first hi (Region.noSelect_spec hs) hQ hid (fun L hL hr=>waits_ready hw hL hr) fuel listed a w (downB_spec hdn) (Region.free_spec hi hf) (by simpa using hr) (by simpa using hld) hy hS hT h
theorem wpAnyD_done {listed:Array Bool} {a:Act} {w:World} (hr:Region.ready md ops listed=[]) (h:Q .normal a w):∀ fuel,wpAnyD P md ops Q S T d fuel listed a w
 | 0=>⟨hr,h⟩
 | _+1=>⟨fun _=>h,by rw [hr];simp⟩
def AllReadyD (P:Program) (md:Region.Mode) (ops:Array Oper) (Q:Exit→Act→World→Prop) (S T:World→Prop) (d:Nat) (fuel:Nat) (listed:Array Bool) (a:Act) (w:World) (rs:List Nat):Prop :=
 ∀ i∈rs,wpOp P ops Q i (fun a' w'=>(S w'∧((listed.setIfInBounds i true).getD d true=false→T w'))∧wpAnyD P md ops Q S T d fuel (listed.setIfInBounds i true) a' w') a w
theorem AllReadyD.nil {fuel:Nat} {listed:Array Bool} {a:Act} {w:World}:AllReadyD P md ops Q S T d fuel listed a w []:=fun _ h=>by cases h
theorem AllReadyD.pre {fuel:Nat} {listed:Array Bool} {a:Act} {w:World} (i:Nat) {o:Oper} {rs:List Nat} (ho:ops[i]? = some o)
 (h:∀ K':Act→World→Prop,Shut (∀ a w,S w→T w→(S w→T w→wpAnyD P md ops Q S T d fuel (listed.setIfInBounds i true) a w)→K' a w)→if Region.wanted o (yielded ops a.tmps)=true then Oper.wp P o a w K' Q else K' (a.put o.dst undef) w)
 (hs:AllReadyD P md ops Q S T d fuel listed a w rs):AllReadyD P md ops Q S T d fuel listed a w (i::rs):=fun j hj=>by
 rcases List.mem_cons.1 hj with rfl | hj
 ·exact wpOp_step ho (fun K' hK=>h K' (fun a w hS hT hW=>hK a w ⟨⟨hS,fun _=>hT⟩,hW hS hT⟩))
 ·exact hs j hj
theorem AllReadyD.post {fuel:Nat} {listed:Array Bool} {a:Act} {w:World} (i:Nat) {o:Oper} {rs:List Nat} (ho:ops[i]? = some o) (hd:(listed.setIfInBounds i true).getD d true=true)
 (h:∀ K':Act→World→Prop,Shut (∀ a w,S w→(S w→wpAnyD P md ops Q S T d fuel (listed.setIfInBounds i true) a w)→K' a w)→if Region.wanted o (yielded ops a.tmps)=true then Oper.wp P o a w K' Q else K' (a.put o.dst undef) w)
 (hs:AllReadyD P md ops Q S T d fuel listed a w rs):AllReadyD P md ops Q S T d fuel listed a w (i::rs):=fun j hj=>by
 rcases List.mem_cons.1 hj with rfl | hj
 ·exact wpOp_step ho (fun K' hK=>h K' (fun a w hS hW=>hK a w ⟨⟨hS,fun hf=>by rw [hd] at hf;cases hf⟩,hW hS⟩))
 ·exact hs j hj
theorem wpAnyD_ready (rs:List Nat) {fuel:Nat} {listed:Array Bool} {a:Act} {w:World} (hr:Region.ready md ops listed=rs) (hne:rs≠[])
 (h:AllReadyD P md ops Q S T d fuel listed a w rs):wpAnyD P md ops Q S T d (fuel+1) listed a w:=⟨fun h0=>absurd (hr ▸ h0) hne,hr ▸ h⟩
theorem wp_region_D (S T:World→Prop) (d:Nat) {id:Nat} {a:Act} {w:World} (hm:P.follows .mixedOrders=true) (hS:S w.drew) (hT:T w.drew)
 (h:S w.drew→T w.drew→wpAnyD P .any ops Q S T d ops.size (Array.replicate ops.size false) a w.drew):(Code.region id ops true).wp P Q a w :=
 wp_region_any hm (wpAny_of_D _ _ _ _ (h hS hT))
end
section
variable {P:Program} {md:Region.Mode} {ops:Array Oper} {Q:Exit→Act→World→Prop} {l:Nat}
end
end Go.Proofs.YtgemjjdkjmpmlaaGreatDoor
namespace Go.Proofs.YtgemjjdkjmpmlaaGreatDoor
open Go.RowKit Go.Maps Sp
structure Two (A:World) (B Bx:Nat) (e:TypeId) (r2:Value) (n2:Nat) (x2:List Value) (r3:Value) (n3:Nat) (x3:List Value) (w:World):Prop where
 ks:KS (fun k=>k < B∨k=Bx) A w
 base:B≤w.heap.size
 o2:w.ownsRow B e 2 r2 n2 x2
 o3:w.ownsRow B e 2 r3 n3 x3
 ap:∀ g,r2.ownBlock=some g→r3.ownBlock≠some g
 b2:∀ g,r2.ownBlock=some g→g≠Bx
 b3:∀ g,r3.ownBlock=some g→g≠Bx
 box:Bx < w.heap.size
structure Lit (B:Nat) (r2 r3:Value) (cs:List Value) (g:Nat) (w:World):Prop where
 lt:g < w.heap.size
 src:∀ j u,cs[j]? = some u→w.cell? (Addr.add ⟨g,0,none⟩ j)=some u
 a2:r2.ownBlock≠some g
 a3:r3.ownBlock≠some g
section
variable {A w w':World} {B Bx n2 n3 m:Nat} {e:TypeId} {r2 r3 v:Value} {x2 x3 xs cs:List Value} {g h:Nat}
theorem Two.lit (t:Two A B Bx e r2 n2 x2 r3 n3 x3 w) (ty:TypeId):Two A B Bx e r2 n2 x2 r3 n3 x3 (w.alloc (.cells cs.toArray ty))∧Lit B r2 r3 cs w.heap.size (w.alloc (.cells cs.toArray ty)):=by
 have hk:KS (fun _=>True) w (w.alloc (.cells cs.toArray ty)):=KS.alloc _ _ _
 have hs:(w.alloc (.cells cs.toArray ty)).heap.size=w.heap.size+1:=by simp
 refine ⟨⟨t.ks.trans (KS.alloc _ _ _),by have:=t.base;omega,row_keep' t.o2 hk fun _ _=>trivial,row_keep' t.o3 hk fun _ _=>trivial,t.ap,t.b2,t.b3,by have:=t.box;omega⟩,by omega,cells_new w cs ty,fun e=>?_,fun e=>?_⟩
 ·have:=(ownBlock_row t.o2 _ e).2;omega
 ·have:=(ownBlock_row t.o3 _ e).2;omega
theorem Lit.alloc (k:Lit B r2 r3 cs g w) (o:Obj):Lit B r2 r3 cs g (w.alloc o):=by
 refine ⟨by have:=k.lt;simp;omega,fun j u hj=>?_,k.a2,k.a3⟩
 have hb:(Addr.add ⟨g,0,none⟩ j).block=g:=by unfold Addr.add;split <;> rfl
 exact (World.cell?_alloc_lt w o _ (by rw [hb];exact k.lt)).trans (k.src j u hj)
theorem Two.app2 (t:Two A B Bx e r2 n2 x2 r3 n3 x3 w) (ho:w'.ownsRow B e 2 v m xs) (hg:w.grownBy w' r2.ownBlock) (hv:v.ownBlock=some g) (hat:r2.ownBlock=some g∨g=w.heap.size):Two A B Bx e v m xs r3 n3 x3 w':=by
 have hk:KS (fun k=>r2.ownBlock≠some k) w w':=KS.own hg fun g hg=>by simp [hg]
 have hs:=hg.size
 have hb:=t.base
 have hx:=t.box
 refine ⟨t.ks.trans (hk.mono fun k hkA hk2 e=>?_),by omega,ho,row_keep' t.o3 hk fun g hg e=>t.ap g e hg,fun g' hg' e=>?_,fun g' hg'=>?_,t.b3,by omega⟩
 ·rcases hk2 with h | h
  ·have:=(ownBlock_row t.o2 _ e).1;omega
  ·exact t.b2 _ e h
 ·rw [hv] at hg';cases hg'
  rcases hat with h | h
  ·exact t.ap _ h e
  ·have:=(ownBlock_row t.o3 _ e).2;omega
 ·rw [hv] at hg';cases hg'
  rcases hat with h | h
  ·exact t.b2 _ h
  ·omega
theorem Lit.app2 (k:Lit B r2 r3 cs h w) (hg:w.grownBy w' r2.ownBlock) (hv:v.ownBlock=some g) (hat:r2.ownBlock=some g∨g=w.heap.size):Lit B v r3 cs h w':=by
 have hk:KS (fun k=>r2.ownBlock≠some k) w w':=KS.own hg fun g hg=>by simp [hg]
 have hs:=hg.size
 have hl:=k.lt
 refine ⟨by omega,fun j u hj=>?_,fun e=>?_,k.a3⟩
 ·have hb:(Addr.add ⟨h,0,none⟩ j).block=h:=by unfold Addr.add;split <;> rfl
  exact (hk.cell (x:=Addr.add ⟨h,0,none⟩ j) (by rw [hb];exact hl) (by rw [hb];exact k.a2)).trans (k.src j u hj)
 ·rw [hv] at e;cases e
  rcases hat with h' | h'
  ·exact k.a2 h'
  ·omega
theorem Two.swap (t:Two A B Bx e r2 n2 x2 r3 n3 x3 w):Two A B Bx e r3 n3 x3 r2 n2 x2 w:=⟨t.ks,t.base,t.o3,t.o2,fun g h k=>t.ap g k h,t.b3,t.b2,t.box⟩
theorem Lit.swap (k:Lit B r2 r3 cs h w):Lit B r3 r2 cs h w:=⟨k.lt,k.src,k.a3,k.a2⟩
end
structure Pair (B:Nat) (e:TypeId) (v1:Value) (n1:Nat) (x1:List Value) (v2:Value) (n2:Nat) (x2:List Value) (w:World):Prop where
 o1:w.ownsRow B e 1 v1 n1 x1
 o2:w.ownsRow B e 1 v2 n2 x2
 ap:∀ g,v1.ownBlock=some g→v2.ownBlock≠some g
section
variable {w w':World} {B n1 n2 m:Nat} {e:TypeId} {v1 v2 v:Value} {x1 x2 xs:List Value}
theorem Pair.swap (t:Pair B e v1 n1 x1 v2 n2 x2 w):Pair B e v2 n2 x2 v1 n1 x1 w:=⟨t.o2,t.o1,fun g h k=>t.ap g k h⟩
theorem Pair.ks (t:Pair B e v1 n1 x1 v2 n2 x2 w) (hk:KS (fun _=>True) w w'):Pair B e v1 n1 x1 v2 n2 x2 w':=⟨row_keep' t.o1 hk fun _ _=>trivial,row_keep' t.o2 hk fun _ _=>trivial,t.ap⟩
theorem Pair.app2 (t:Pair B e v1 n1 x1 v2 n2 x2 w) (ho:w'.ownsRow B e 1 v m xs) (hg:w.grownBy w' v2.ownBlock) (hat:v.ownBlock=v2.ownBlock∨v.ownBlock=some w.heap.size):Pair B e v1 n1 x1 v m xs w':=by
 have hk:KS (fun k=>v2.ownBlock≠some k) w w':=KS.own hg fun g hg=>by simp [hg]
 refine ⟨row_keep' t.o1 hk fun g hg e=>t.ap g hg e,ho,fun g hg e=>?_⟩
 rcases hat with h | h
 ·rw [h] at e;exact t.ap g hg e
 ·rw [h] at e
  cases e
  have:=(ownBlock_row t.o1 _ hg).2
  omega
theorem wpl_pair {P:Program} {w:World} {ops:Array Oper} {rest:List Oper} {o:Oper} {a:Act} {Q:Exit→Act→World→Prop} (hgd:o.guard=none) (s x:Operand) (t:TypeId)
 (ho:o.op=.call { callee:=.builtin .append,args:=#[s,x],argTypes:=#[t,t] })
 (base:Nat) (e:TypeId) {z:Value} {bytes:Nat} (ht:P.underlying t=some (.slice e)) (hi:(P.info? e).map (fun i=>(i.zero,i.size,i.bytes))=some (some z,1,bytes)) (hzs:z.cells.size=1) (hby:bytes≤100)
 (v:Value) (k:Nat) (xs:List Value) (hs:a.eval s=v) {v1:Value} {n1:Nat} {x1:List Value} (hP:Pair base e v1 n1 x1 v k xs w) (hbase:base≤w.heap.size) (hk:k≤1000000) (u:Value)
 {n:Nat} (hn:n=w.heap.size) (hx:a.eval x=.slice (some ⟨n,0,none⟩) 1 1) (h1:u.oneCell'=true)
 (h:∀ g cap w',Pair base e v1 n1 x1 (.slice (some ⟨g,0,none⟩) (k+1) cap) (k+1) (xs ++ [u]) w'→Below base w w'→wpList P ops Q rest (a.put o.dst (.slice (some ⟨g,0,none⟩) (k+1) cap)) w') :
 wpList P ops Q (o::rest) a (w.alloc (.cells #[u] e)):=by
 subst hn
 obtain ⟨i,hi,hz,hsz,hb⟩:=info_parts hi
 have hp2:Pair base e v1 n1 x1 v k xs (w.alloc (.cells #[u] e)):=hP.ks (KS.alloc _ _ _)
 have hle:base≤(w.alloc (.cells #[u] e)).heap.size:=by simp;omega
 refine wpList_append_own_at (w.alloc (.cells #[u] e)) hgd s x t ho base e i z 1 bytes ht hi hz hsz hb hzs (by decide) v k xs hs hp2.o2 ⟨w.heap.size,0,none⟩ 1 1 [u] hx rfl (cells_new w [u] e) (by simpa using h1) (by unfold maxLen;omega) (by have:=Nat.mul_le_mul (show k+1≤1000001 by omega) hby;omega) hle ?_
 intro v' w' hown' hg _ hat
 have hp3:=hp2.app2 hown' hg hat
 obtain ⟨g',cap',rfl⟩:=ownsRow_succ hown'
 exact h g' cap' w' hp3 (((Below.refl base w).alloc hbase _).trans (below_own hp2.o2 hg hle))
end
def mapTo (f:Int→Int) (k:Nat) (l:List Int):List Int:=(l.take k).map f ++ l.drop k
theorem mapTo_length (f:Int→Int) (k:Nat) (l:List Int):(mapTo f k l).length=l.length:=by simp [mapTo];omega
theorem mapTo_at (f:Int→Int) (l:List Int) (k:Nat) (h:k < l.length):((mapTo f k l).map (Value.int .i64))[k]? = some (.int .i64 l[k]):=by
 unfold mapTo
 rw [List.map_append,List.getElem?_append_right (by simp;omega)]
 simp [List.length_take,Nat.min_eq_left (Nat.le_of_lt h),h]
theorem mapTo_succ (f:Int→Int) (l:List Int) (k:Nat) (h:k < l.length):mapTo f (k+1) l=(l.take k).map f ++ (f l[k]::l.drop (k+1)):=by
 unfold mapTo
 rw [List.take_succ_eq_append_getElem h,List.map_append,List.append_assoc]
 rfl
theorem mapTo_set (f:Int→Int) (l:List Int) (k:Nat) (h:k < l.length):((mapTo f k l).map (Value.int .i64)).set k (.int .i64 (f l[k]))=(mapTo f (k+1) l).map (Value.int .i64):=by
 rw [← List.map_set]
 congr 1
 unfold mapTo
 rw [List.take_succ_eq_append_getElem h,List.map_append,List.set_append_right _ _ (by simp;omega)]
 simp only [List.length_map,List.length_take,Nat.min_eq_left (Nat.le_of_lt h),Nat.sub_self,List.append_assoc,List.map_cons,List.map_nil,List.singleton_append]
 rw [List.drop_eq_getElem_cons h]
 rfl
theorem mapTo_same (f:Int→Int) (l:List Int) (k:Nat) (h:k < l.length) (e:f l[k]=l[k]):mapTo f (k+1) l=mapTo f k l:=by
 rw [mapTo_succ f l k h,e,← List.drop_eq_getElem_cons h]
 rfl
theorem planGo_few (p loads:List Int) (k:Nat):(planGo p loads k).1.length=k∧(planGo p loads k).2≤k:=⟨(planGo_v p loads k).len,(planGo_v p loads k).few⟩
section
variable {w:World} {la ka:Option Addr} {lc kc n m:Nat} {l p:List Int}
theorem plan_at (hL:IntsAt w la l) (hn:n=l.length) (hl:l.length≤1000) (hU:U16sAt w ka p) (hm:m=p.length) :
 Calls Tryz.prog 33 #[.slice la n lc,.slice ka m kc] w (NumsRet w (planP p l)):=by
 subst hn hm
 have HL:=Hh hL
 have HU:=Hh hU
 clear hL hU
 go_enter Tryz.func33,Tryz.ntmps33
 go_wp2
 go_loopw [5,6,7,8] (fun v f i _ wr=>∃ (k q:Nat) (a fa:Option Addr) (c fc:Nat) (xs:List Value),k≤l.length∧i=.int .i64 k∧q=(planGo p l k).2∧v=.slice a k c∧f=.slice fa q fc∧Hid (Pair w.heap.size 3 (.slice a k c) k ((planGo p l k).1.map (Value.int .i64)) (.slice fa q fc) q xs wr)∧Below w.heap.size w wr) (fun _ _ i _ _=>l.length - (intOf i).toNat)
 case atStart=>exact ⟨0,0,none,none,0,0,[],Nat.zero_le _,rfl,rfl,rfl,rfl,(⟨World.ownsRow_nil _ _ _ _,World.ownsRow_nil _ _ _ _,fun g h=>by cases h⟩:Pair _ _ _ _ _ _ _ _ _),Below.refl _ _⟩
 case round =>
  obtain ⟨k,q,a,fa,c,fc,xs,hk,rfl,hq,rfl,rfl,HPR,hW⟩:=hrel
  have hWs:=hW.size
  have hqk:q≤k:=by rw [hq];exact (planGo_few p l k).2
  by_cases hlt:k < l.length
  ·obtain ⟨lb,lo,rfl,hlb,e0⟩:=HL.out k hlt
   have d0:=(hW.cell hlb).trans e0
   have hlb2:lb < wr.heap.size:=Nat.lt_of_lt_of_le hlb hWs
   have hld:l.getD k 0=l[k]:=by rw [List.getD_eq_getElem?_getD,List.getElem?_eq_getElem hlt,Option.getD_some]
   have hsn:planGo p l (k+1)=if l[k]=0 then ((planGo p l k).1 ++ [-1],q) else ((planGo p l k).1 ++ [choiceI p k % ((q:Int)+1)],if choiceI p k % ((q:Int)+1)=(q:Int) then q+1 else q):=by
    rw [← hld,hq];rfl
   generalize l[k]=x at d0 hsn e0
   have HQ:=Hh hq
   clear e0 hld hq
   by_cases hx:x=0
   ·subst hx
    rw [if_pos rfl] at hsn
    have HSN:=Hh hsn
    clear hsn
    go_wp2_with (at_builtin;go_loud (refine wpl_pair rfl _ _ 30 rfl w.heap.size 3 Tryz.underlying30 intInfo rfl (by decide) (.slice a k c) k _ rfl HPR.out.swap hWs (by omega) (.int .i64 (-1)) rfl rfl rfl ?_;intro g' cap' w5 hp5 hb5))
    have HP5:=Hh hp5.swap
    have HB5:=Hh (hW.trans hb5)
    clear hp5 hb5
    go_roundw
    case rel=>exact ⟨k+1,q,some ⟨g',0,none⟩,fa,cap',fc,xs,by omega,by go_num,by rw [HSN.out],rfl,rfl,by rw [HSN.out,List.map_append];exact HP5,HB5.out⟩
    case measure=>simp [intOf];omega
   ·have hx0:(x == 0)=false:=by rw [beq_eq_false_iff_ne];exact hx
    rw [if_neg hx] at hsn
    obtain ⟨hc0,hc1⟩:=choiceI_bd HU.out k
    have hm0:=Int.emod_nonneg (choiceI p k) (show ((q:Int)+1)≠0 by omega)
    have hm1:=Int.emod_lt_of_pos (choiceI p k) (show 0 < ((q:Int)+1) by omega)
    have htm:(choiceI p k).tmod ((q:Int)+1)=choiceI p k % ((q:Int)+1):=Int.tmod_eq_emod_of_nonneg hc0
    have HCH:Hid (∀ w',Below w.heap.size w w'→Calls Tryz.prog 65 #[.slice ka p.length kc,.int .i64 k] w' fun e w2=>e=.returned (.int .i64 (choiceI p k))∧w2=w'):=fun w' h=>choice_at (HU.out.below h) rfl k rfl
    generalize choiceI p k=cv at hc0 hc1 hm0 hm1 htm hsn HCH
    have hw1:IntKind.i64.wrap ((q:Int)+1)=(q:Int)+1:=wrapI (by omega) (by omega)
    have hw2:IntKind.i64.wrap (cv % ((q:Int)+1))=cv % ((q:Int)+1):=wrapI (by omega) (by omega)
    have hnz:((q:Int)+1 == 0)=false:=by rw [beq_eq_false_iff_ne];omega
    have hnz2:¬ ((q:Int)+1=0):=by omega
    by_cases hcq:cv % ((q:Int)+1)=(q:Int)
    ·have hcq1:(cv % ((q:Int)+1) == (q:Int))=true:=by rw [beq_iff_eq];exact hcq
     rw [if_pos hcq] at hsn
     have HSN:=Hh hsn
     have HCQ:=Hh hcq
     clear hsn hcq hx
     go_wp2_with (first
      | (go_at_call 65;(with_reducible refine (HCH.out _ (by assumption)).mono ?_);rintro e w1 ⟨rfl,rfl⟩)
      | (at_builtin;go_loud (refine wpl_pair rfl _ _ 30 rfl w.heap.size 3 Tryz.underlying30 intInfo rfl (by decide) (.slice fa q fc) q xs rfl HPR.out hWs (by omega) (.int .i64 (cv % ((q:Int)+1))) rfl rfl rfl ?_;intro g1 cap1 w5 hp9 hb5;have HP5:=Hh hp9;have HP5s:=hb5.size;clear hp9))
      | (at_builtin;go_loud (refine wpl_pair rfl _ _ 30 rfl w.heap.size 3 Tryz.underlying30 intInfo rfl (by decide) (.slice a k c) k _ rfl HP5.out.swap (by omega) (by omega) (.int .i64 (cv % ((q:Int)+1))) rfl rfl rfl ?_;intro g2 cap2 w6 hp9 hb6;have HP6:=Hh hp9;have HP6s:=hb6.size;clear hp9)))
     have HB6:=Hh ((hW.trans hb5).trans hb6)
     clear hb5 hb6
     go_roundw
     case rel=>exact ⟨k+1,q+1,some ⟨g2,0,none⟩,some ⟨g1,0,none⟩,cap2,cap1,_,by omega,by go_num,by rw [HSN.out],rfl,rfl,by rw [HSN.out,List.map_append];exact HP6.out.swap,HB6.out⟩
     case measure=>simp [intOf];omega
    ·have hcq1:(cv % ((q:Int)+1) == (q:Int))=false:=by rw [beq_eq_false_iff_ne];exact hcq
     rw [if_neg hcq] at hsn
     have HSN:=Hh hsn
     have HCQ:=Hh hcq
     clear hsn hcq hx
     go_wp2_with (first
      | (go_at_call 65;(with_reducible refine (HCH.out _ (by assumption)).mono ?_);rintro e w1 ⟨rfl,rfl⟩)
      | (at_builtin;go_loud (refine wpl_pair rfl _ _ 30 rfl w.heap.size 3 Tryz.underlying30 intInfo rfl (by decide) (.slice a k c) k _ rfl HPR.out.swap hWs (by omega) (.int .i64 (cv % ((q:Int)+1))) rfl rfl rfl ?_;intro g2 cap2 w6 hp9 hb6;have HP6:=Hh hp9;have HP6s:=hb6.size;clear hp9)))
     have HB6:=Hh (hW.trans hb6)
     clear hb6
     go_roundw
     case rel=>exact ⟨k+1,q,some ⟨g2,0,none⟩,fa,cap2,fc,xs,by omega,by go_num,by rw [HSN.out],rfl,rfl,by rw [HSN.out,List.map_append];exact HP6.out.swap,HB6.out⟩
     case measure=>simp [intOf];omega
  ·obtain rfl:k=l.length:=by omega
   obtain ⟨hc0,hc1⟩:=choiceI_bd HU.out l.length
   have htm:(choiceI p l.length).tmod 2=choiceI p l.length % 2:=Int.tmod_eq_emod_of_nonneg hc0
   have HCH:Hid (∀ w',Below w.heap.size w w'→Calls Tryz.prog 65 #[.slice ka p.length kc,.int .i64 (l.length:Int)] w' fun e w2=>e=.returned (.int .i64 (choiceI p l.length))∧w2=w'):=fun w' h=>choice_at (HU.out.below h) rfl l.length rfl
   have hpv:=planGo_v p l l.length
   have hpp:planP p l=if choiceI p l.length % 2=1 then (planGo p l l.length).1.map (turnK q) else (planGo p l l.length).1:=by rw [hq];rfl
   have hbd:∀ x∈(planGo p l l.length).1,-1≤x∧x < (q:Int):=fun x hx=>by
    obtain ⟨i,hi,rfl⟩:=List.mem_iff_getElem.1 hx
    obtain ⟨h5,h6⟩:=hpv.at' i hi
    rw [← hq] at h6
    by_cases hz:l.getD i 0=0
    ·rw [h5 hz];omega
    ·have:=h6 hz;omega
   have hol:=hpv.len
   have HROW:=Hh HPR.out.o1
   generalize (planGo p l l.length).1=out at HROW hpp hbd hol
   generalize choiceI p l.length=cv at hc0 hc1 htm HCH hpp
   have hm0:=Int.emod_nonneg cv (show (2:Int)≠0 by omega)
   have hm1:=Int.emod_lt_of_pos cv (show (0:Int) < 2 by omega)
   have hw2:IntKind.i64.wrap (cv % 2)=cv % 2:=wrapI (by omega) (by omega)
   have HPP:=Hh hpp
   have HBD:=Hh hbd
   have HOL:=Hh hol
   clear hq hpv hpp hbd hol HPR
   by_cases h2:cv % 2=1
   ·have h21:(cv % 2 == 1)=true:=by rw [beq_iff_eq];exact h2
    have HPP2:=Hh (HPP.out.trans (if_pos h2))
    clear h2
    go_wp2_with (go_at_call 65;(with_reducible refine (HCH.out _ (by assumption)).mono ?_);rintro e w1 ⟨rfl,rfl⟩)
    go_loopw [9] (fun i wr=>∃ k:Nat,k≤l.length∧i=.int .i64 k∧wr.ownsRow w.heap.size 3 1 (.slice a l.length c) l.length ((mapTo (turnK q) k out).map (Value.int .i64))∧Below w.heap.size w wr) (fun i _=>l.length - (intOf i).toNat)
    case atStart=>exact ⟨0,Nat.zero_le _,rfl,by simpa [mapTo] using HROW.out,hW⟩
    case round =>
     obtain ⟨k,hk,rfl,hrow,hW⟩:=hrel
     by_cases hlt:k < l.length
     ·have hko:k < out.length:=by rw [HOL.out];exact hlt
      obtain ⟨g,rfl,hg,hgl,hc0⟩:=row_cell hrow k (by rw [List.length_map,mapTo_length];exact hko)
      rw [mapTo_at _ out k hko] at hc0
      have hfr:=row_free hrow k
      have hset:=ownsRow_put hrow (k:=k) (.int .i64 (turnK q out[k]))
      rw [mapTo_set _ out k hko] at hset
      have hbx:=HBD.out _ (List.getElem_mem hko)
      by_cases hx:0≤out[k]
      ·have HSET:=Hh hset
       have htu:turnK q out[k]=(q:Int) - 1 - out[k]:=by unfold turnK;rw [if_pos hx]
       rw [htu] at HSET
       generalize out[k]=x at hc0 hbx HSET hx
       have hge:decide ((0:Int)≤x)=true:=by simp [hx]
       have hwa:IntKind.i64.wrap ((q:Int) - 1)=(q:Int) - 1:=wrapI (by omega) (by omega)
       have hwb:IntKind.i64.wrap ((q:Int) - 1 - x)=(q:Int) - 1 - x:=wrapI (by omega) (by omega)
       clear hset hrow htu
       go_wp2
       go_roundw
       case rel=>exact ⟨k+1,by omega,by go_num,HSET.out,by refine Below.setCell hW ?_ _;exact hg⟩
       case measure=>simp [intOf];omega
      ·have hsame:=mapTo_same (turnK q) out k hko (by unfold turnK;rw [if_neg hx])
       rw [← hsame] at hrow
       have HR:=Hh hrow
       generalize out[k]=x at hc0 hx
       have hge:decide ((0:Int)≤x)=false:=by simp [hx]
       clear hset hrow hsame
       go_wp2
       go_roundw
       case rel=>exact ⟨k+1,by omega,by go_num,HR.out,hW⟩
       case measure=>simp [intOf];omega
     ·obtain rfl:k=l.length:=by omega
      have e:mapTo (turnK q) l.length out=planP p l:=by rw [HPP2.out];unfold mapTo;rw [← HOL.out];simp
      rw [e] at hrow
      have HR:=Hh hrow
      clear hrow e
      go_wp2
      go_ret
      exact ⟨a,c,by rw [planP_len];rfl,ints_of_row (show wr.ownsRow w.heap.size 3 1 (.slice a (planP p l).length c) (planP p l).length ((planP p l).map (Value.int .i64)) by rw [planP_len];exact HR.out),hW⟩
   ·have h21:(cv % 2 == 1)=false:=by rw [beq_eq_false_iff_ne];exact h2
    have HPP2:=Hh (HPP.out.trans (if_neg h2))
    clear h2
    go_wp2_with (go_at_call 65;(with_reducible refine (HCH.out _ (by assumption)).mono ?_);rintro e w1 ⟨rfl,rfl⟩)
    go_ret
    exact ⟨a,c,by rw [planP_len];rfl,ints_of_row (show World.ownsRow _ w.heap.size 3 1 (.slice a (planP p l).length c) (planP p l).length ((planP p l).map (Value.int .i64)) by rw [planP_len,HPP2.out];exact HROW.out),hW⟩
end
section
variable {w:World} {la pa:Option Addr} {lc pc n m:Nat} {loads plan o:List Int}
theorem fit_parts {n:Nat} {k x:Int} (h:fitP n (k,x)):decide (k < -1)=false∧decide ((n:Int)≤k)=false∧(!(decide (k < 0) == (x == 0)))=false:=by
 unfold fitP at h
 simp only at h
 refine ⟨by rw [decide_eq_false_iff_not];omega,by rw [decide_eq_false_iff_not];omega,?_⟩
 by_cases hx:x=0
 ·have:k=-1:=by omega
  simp [hx,this]
 ·have:¬ k < 0:=by omega
  simp [hx,this]
theorem tapesOf_at (hL:IntsAt w la loads) (hP:IntsAt w pa plan) (hn:n=loads.length) (hm:m=plan.length) (hl:loads.length=plan.length) (hpl:plan.length≤1000) (ho:planOk loads plan=some o) :
 Calls Tryz.prog 34 #[.slice la n lc,.slice pa m pc] w fun e w'=>e=.returned (.int .i64 o.length)∧Below w.heap.size w w':=by
 subst hn hm
 obtain ⟨hf,ho1,ho2,_,_⟩:=planOk_inv hl ho
 have HF:=Hh hf
 have HO2:=Hh ho2
 have HO1:=Hh ho1
 have HL:=Hh hL
 have HP:=Hh hP
 have hlb:∀ k,k≤plan.length→-1≤mostL (-1) (plan.take k)∧mostL (-1) (plan.take k)≤(plan.length:Int):=fun k hk=>by
  refine ⟨mostL_le _ _,?_⟩
  rcases mostL_in (-1) (plan.take k) with h | h
  ·omega
  ·have hx:=List.mem_of_mem_take h
   obtain ⟨i,hi,e⟩:=List.mem_iff_getElem.1 hx
   have hz:(plan[i],loads[i]'(by omega))∈plan.zip loads:=List.mem_iff_getElem.2 ⟨i,by rw [List.length_zip];omega,by simp⟩
   have:=hf _ hz
   unfold fitP at this
   simp only at this
   omega
 have HLB:=Hh hlb
 have HLN:=Hh hl
 clear hL hP hf ho ho1 ho2 hlb hl
 go_enter Tryz.func34,Tryz.ntmps34
 go_wp2
 go_loopw [5,6] (fun v i wr=>∃ k:Nat,k≤plan.length∧i=.int .i64 k∧v=.int .i64 (mostL (-1) (plan.take k))∧Below w.heap.size w wr) (fun _ i _=>plan.length - (intOf i).toNat)
 case atStart=>exact ⟨0,Nat.zero_le _,rfl,rfl,Below.refl _ _⟩
 case round =>
  obtain ⟨k,hk,rfl,rfl,hW⟩:=hrel
  have hWs:=hW.size
  by_cases hlt:k < plan.length
  ·have hlt2:k < loads.length:=by rw [HLN.out];exact hlt
   obtain ⟨lb,lo,rfl,hlb,e0⟩:=HL.out k hlt2
   obtain ⟨pb,po,rfl,hpb,f0⟩:=HP.out k hlt
   have d0:=(hW.cell hlb).trans e0
   have d1:=(hW.cell hpb).trans f0
   have hlb2:lb < wr.heap.size:=Nat.lt_of_lt_of_le hlb hWs
   have hpb2:pb < wr.heap.size:=Nat.lt_of_lt_of_le hpb hWs
   have hz:(plan[k],loads[k])∈plan.zip loads:=List.mem_iff_getElem.2 ⟨k,by rw [List.length_zip,HLN.out,Nat.min_self];exact hlt,by simp⟩
   obtain ⟨q1,q2,q3⟩:=fit_parts (HF.out _ hz)
   have hsn:mostL (-1) (plan.take (k+1))=max (mostL (-1) (plan.take k)) plan[k]:=by rw [List.take_succ_eq_append_getElem hlt,mostL_snoc]
   generalize loads[k]=x at d0 q3 e0
   generalize plan[k]=y at d1 q1 q2 q3 hsn f0
   have HSN:=Hh hsn
   clear e0 f0 hsn hz
   generalize mostL (-1) (plan.take k)=z at HSN
   go_wp2
   go_quiet (fail)
   go_wp2
   go_roundw
   case rel=>exact ⟨k+1,by omega,by go_num,by rw [HSN.out],bel⟩
   case measure=>simp [intOf];omega
  ·obtain rfl:k=plan.length:=by omega
   have hbd:=HLB.out plan.length (Nat.le_refl _)
   rw [List.take_length] at hbd ⊢
   have ho1:=HO1.out
   generalize mostL (-1) plan=z at hbd ho1
   go_wp2
   go_loopw [7] (fun i wr=>∃ k:Nat,(k:Int)≤z+1∧i=.int .i64 k∧Below w.heap.size w wr) (fun i _=>(z+1 - intOf i).toNat)
   case atStart=>exact ⟨0,by omega,rfl,hW⟩
   case round =>
    obtain ⟨k,hk,rfl,hW⟩:=hrel
    have hWs:=hW.size
    by_cases hlt:(k:Int)≤z
    ·have hin:=Hh (show decide ((k:Int)∈plan)=true by rw [decide_eq_true_iff];exact HO2.out k (by omega))
     go_wp2_with (go_at_call 61;(with_reducible refine (hasNum_at (HP.out.below hW) rfl (by omega) hin.out).mono ?_);rintro e w1 ⟨rfl,rfl⟩)
     go_roundw
     case rel=>exact ⟨k+1,by omega,by go_num,hW⟩
     case measure=>simp [intOf];omega
    ·have hkz:(k:Int)=z+1:=by omega
     have hw:IntKind.i64.wrap (z+1)=(o.length:Int):=by rw [wrapI (by omega) (by omega)];omega
     go_wp2
     go_ret
     exact ⟨rfl,hW⟩
theorem held_at (hL:IntsAt w la loads) (hP:IntsAt w pa plan) (hn:n=loads.length) (hm:m=plan.length) (hl:loads.length=plan.length) (hpl:plan.length≤1000) (hb:∀ x∈loads,0≤x∧x≤1000) (t:Int) {h:Int} (hh:heldL (plan.zip loads) t=h) :
 Calls Tryz.prog 37 #[.slice la n lc,.slice pa m pc,.int .i64 t] w fun e w'=>e=.returned (.int .i64 h)∧w'=w:=by
 subst hn hm
 have HL:=Hh hL
 have HP:=Hh hP
 have HB:=Hh hb
 have HH:=Hh hh
 have HLN:=Hh hl
 clear hL hP hb hh hl
 go_enter Tryz.func37,Tryz.ntmps37
 go_wp2
 go_loop [7,8] (fun v i=>∃ (k:Nat) (s:Int),k≤plan.length∧i=.int .i64 k∧v=.int .i64 s∧Hid (s=heldL ((plan.take k).zip (loads.take k)) t)∧0≤s∧s≤k * 1000) (fun _ i=>plan.length - (intOf i).toNat)
 case atStart=>exact ⟨0,0,Nat.zero_le _,rfl,rfl,(by simp [heldL]:(0:Int)=_),by omega,by omega⟩
 case round =>
  obtain ⟨k,s,hk,rfl,rfl,HS,hs0,hs1⟩:=hrel
  by_cases hlt:k < plan.length
  ·have hlt2:k < loads.length:=by rw [HLN.out];exact hlt
   obtain ⟨lb,lo,rfl,hlb,e0⟩:=HL.out k hlt2
   obtain ⟨pb,po,rfl,hpb,f0⟩:=HP.out k hlt
   have hbx:=HB.out _ (List.getElem_mem hlt2)
   have hsn:heldL ((plan.take (k+1)).zip (loads.take (k+1))) t=heldL ((plan.take k).zip (loads.take k)) t+if plan[k]=t then loads[k] else 0:=by
    rw [List.take_succ_eq_append_getElem hlt,List.take_succ_eq_append_getElem hlt2,List.zip_append (by simp only [List.length_take];have:=HLN.out;omega),heldL_append]
    simp [heldL]
   generalize loads[k]=x at e0 hbx hsn
   generalize plan[k]=y at f0 hsn
   rw [← HS.out] at hsn
   have HSN:=Hh hsn
   clear hsn
   by_cases hy:y=t
   ·have hy1:(y == t)=true:=by rw [beq_iff_eq];exact hy
    have hwx:IntKind.i64.wrap (s+x)=s+x:=wrapI (by omega) (by omega)
    have HY:=Hh hy
    clear hy
    go_wp2
    go_round
    case rel=>exact ⟨k+1,s+x,by omega,by go_num,rfl,(by rw [HSN.out,if_pos HY.out]:s+x=_),by omega,by omega⟩
    case measure=>simp [intOf];omega
   ·have hy1:(y == t)=false:=by rw [beq_eq_false_iff_ne];exact hy
    have HY:=Hh hy
    clear hy
    go_wp2
    go_round
    case rel=>exact ⟨k+1,s,by omega,by go_num,rfl,(by rw [HSN.out,if_neg HY.out];omega:s=_),by omega,by omega⟩
    case measure=>simp [intOf];omega
  ·obtain rfl:k=plan.length:=by omega
   have hs:=HS.out
   rw [List.take_length,List.take_of_length_le (Nat.le_of_eq HLN.out),HH.out] at hs
   subst hs
   go_wp2
   go_ret
   exact ⟨rfl,rfl⟩
end
end Go.Proofs.YtgemjjdkjmpmlaaGreatDoor
namespace Go.Proofs.YtgemjjdkjmpmlaaGreatDoor
open Go.RowKit Go.Maps Sp Mt Go.Conc
section
variable {w w1:World} {B n:Nat} {b:Bk} {vr vg vm vs vc:Value} {ka:Option Addr} {ks:List Int}
structure PkSt (w:World) (B:Nat) (b:Bk) (vr vg vm vs vc:Value):Prop where
 c0:w.cell? ⟨B,0,none⟩=some vr
 c1:w.cell? ⟨B,1,none⟩=some vg
 c2:w.cell? ⟨B,2,none⟩=some vm
 c3:w.cell? ⟨B,3,none⟩=some vs
 c4:w.cell? ⟨B,4,none⟩=some vc
 bk:BookAt w b vr vg vm vs vc
 kd:KindsAt w
theorem PkSt.of {l:List Int} {la:Option Addr} (h:LawAt w B b l vr vg vm vs vc la) (hs:SmallB b):PkSt w B b vr vg vm vs vc:=⟨h.c0,h.c1,h.c2,h.c3,h.c4,h.raw.book hs,h.kd⟩
theorem PkSt.old (h:PkSt w B b vr vg vm vs vc) (t:Old w w1):PkSt w1 B b vr vg vm vs vc:=⟨t.cell2 h.c0,t.cell2 h.c1,t.cell2 h.c2,t.cell2 h.c3,t.cell2 h.c4,t.book h.bk,t.kinds h.kd⟩
theorem PkSt.twin (h:PkSt w B b vr vg vm vs vc) (t:Twin n w w1):PkSt w1 B b vr vg vm vs vc:=⟨(t.cell _).trans h.c0,(t.cell _).trans h.c1,(t.cell _).trans h.c2,(t.cell _).trans h.c3,(t.cell _).trans h.c4,t.book h.bk,t.kinds h.kd⟩
theorem U16sAt.tw (h:U16sAt w ka ks) (t:Twin n w w1):U16sAt w1 ka ks:=fun i hi=>by
 obtain ⟨b,o,e,hlt,h1,h2⟩:=h i hi
 exact ⟨b,o,e,by rw [t.size];exact hlt,(t.cell _).trans h1,h2⟩
theorem U16sAt.ol (h:U16sAt w ka ks) (t:Old w w1):U16sAt w1 ka ks:=fun i hi=>by
 obtain ⟨b,o,e,hlt,h1,h2⟩:=h i hi
 exact ⟨b,o,e,Nat.lt_of_lt_of_le hlt t.size,t.cell2 h1,h2⟩
theorem stored_lead2 {w':World} (hK:KindsAt w) (t:Twin 0 w w') (c:Frame) (cs:List Frame):Leads Tryz.prog (fun fr' cs' w1=>∃ v,fr'=c.finish v∧cs'=cs∧v=.bool true∧Old w w1) (Frame.enter Tryz.prog 14 #[] .normal) (c::cs) w':=by
 refine (stored_co (t.kinds hK) c cs).mono ?_
 rintro fr' cs' w2 ⟨h1,h2,ho⟩
 exact ⟨_,h1,h2,rfl,t.old0 ho⟩
theorem timed_zero {now:Int} (h0:0≤now) (h1:now≤999):timedAsk now=0:=by unfold timedAsk inB;rw [if_pos (by simp;omega)]
theorem plan_asked {b:Bk} {plan:List Int} {now:Int} (hu:openAl b 0=0) (hl:plan.length=b.ms.length) (h0:0≤now) (h1:now≤999):openAl b (planAsk b.ms.length plan.length now)=0:=by
 have:planAsk b.ms.length plan.length now=0:=by unfold planAsk;rw [timed_zero h0 h1];simp [hl]
 rw [this];exact hu
theorem loadsI_nn {b:Bk} (h:bookAl b=0):∀ x∈loadsI b,0≤x:=fun x hx=>(loadsI_bd h x hx).1
theorem openAl_two {b:Bk} (h:bookAl b=0):openAl b 0=0∨openAl b 0=10:=by
 unfold openAl
 rw [if_neg (by simp [h]),if_neg (by simp)]
 split
 ·exact .inr rfl
 ·exact .inl rfl
end
end Go.Proofs.YtgemjjdkjmpmlaaGreatDoor
namespace Go.Proofs.YtgemjjdkjmpmlaaGreatDoor
open Go.RowKit Sp
theorem heldL_zero:∀ {l:List (Int × Int)} {j:Int},(∀ x∈l,x.2=0)→heldL l j=0
 | [],_,_=>rfl
 | x::l,j,h=>by
  unfold heldL
  rw [h x (by simp),heldL_zero fun y hy=>h y (by simp [hy])]
  split <;> rfl
theorem heldL_add:∀ (p f g:List Int) (j:Int),p.length=f.length→p.length=g.length→heldL (p.zip (List.zipWith (·+·) f g)) j=heldL (p.zip f) j+heldL (p.zip g) j
 | [],_,_,_,_,_=>rfl
 | _::_,[],_,_,h,_=>by simp at h
 | _::_,_::_,[],_,_,h=>by simp at h
 | x::p,y::f,z::g,j,h1,h2=>by
  have ih:=heldL_add p f g j (by simpa using h1) (by simpa using h2)
  show (if x=j then y+z else 0)+heldL (p.zip (List.zipWith (·+·) f g)) j=((if x=j then y else 0)+heldL (p.zip f) j)+((if x=j then z else 0)+heldL (p.zip g) j)
  rw [ih]
  split <;> omega
theorem heldL_delta:∀ (p:List Int) (q:Nat) (j:Int) (k:Nat),q < p.length→heldL (p.zip ((List.range' k p.length).map fun i=>if i=k+q then (1:Int) else 0)) j=if p.getD q 0=j then 1 else 0
 | [],_,_,_,h=>by simp at h
 | x::p,0,j,k,_=>by
  show (if x=j then (if k=k+0 then (1:Int) else 0) else 0)+heldL (p.zip _) j=if x=j then 1 else 0
  rw [heldL_zero]
  ·simp
  ·intro y hy
   obtain ⟨i,hi,e⟩:=List.mem_map.1 (List.of_mem_zip hy).2
   rw [← e,if_neg (by have:=(List.mem_range'_1.1 hi).1;omega)]
 | x::p,q+1,j,k,h=>by
  have ih:=heldL_delta p q j (k+1) (by simpa using h)
  show (if x=j then (if k=k+(q+1) then (1:Int) else 0) else 0)+heldL (p.zip _) j=if p.getD q 0=j then 1 else 0
  rw [if_neg (show ¬ k=k+(q+1) by omega),← ih]
  simp only [show k+1+q=k+(q+1) by omega]
  split <;> simp
theorem loadsOf_cons (n:Nat) (p:Prt) (l:List Prt) {q:Nat} (hq:p.1=q):loadsOf n (p::l)=List.zipWith (·+·) (loadsOf n l) ((List.range' 0 n).map fun i=>if i=0+q then (1:Int) else 0):=by
 unfold loadsOf
 rw [← List.range_eq_range']
 apply List.ext_getElem
 ·simp
 ·intro i h1 h2
  simp only [List.getElem_map,List.getElem_range,List.getElem_zipWith,List.countP_cons,Nat.zero_add]
  by_cases hi:i=q
  ·subst hi;simp [hq]
  ·have:¬ p.1=(i:Int):=by omega
   simp [hi,this]
theorem held_punch (plan:List Int) (j:Int):∀ (l:List Prt),(∀ p∈l,0≤p.1∧p.1 < (plan.length:Int))→heldL (plan.zip (loadsOf plan.length l)) j=((punchI plan j l).length:Int)
 | [],_=>by
  rw [heldL_zero]
  ·rfl
  ·intro x hx
   have:=(List.of_mem_zip hx).2
   rw [loadsOf_nil] at this
   exact List.eq_of_mem_replicate this
 | p::l,h=>by
  obtain ⟨h0,h1⟩:=h p (by simp)
  obtain ⟨q,hq⟩:∃ q:Nat,p.1=q:=⟨p.1.toNat,by omega⟩
  have ih:=held_punch plan j l fun x hx=>h x (by simp [hx])
  rw [loadsOf_cons _ _ _ hq,heldL_add _ _ _ _ (by rw [loadsOf_length]) (by simp),ih,heldL_delta plan q j 0 (by omega)]
  unfold punchI
  rw [List.filter_cons]
  unfold onTape
  rw [hq,Int.toNat_natCast]
  by_cases hj:plan.getD q 0=j
  ·rw [if_pos hj,if_pos (by simpa using hj),List.length_cons]
   rfl
  ·rw [if_neg hj,if_neg (by simpa using hj)]
   simp
theorem part_mem2 {b:Bk} {mN:Nat} {g gr:Int} (hm:mN < b.ms.length) (hgr:b.ms[mN].groups=gr) (h0:0≤g) (h1:g < gr):((mN:Int),g)∈partsL b:=by
 obtain ⟨gN,rfl⟩:∃ n:Nat,g=n:=⟨g.toNat,by omega⟩
 unfold partsL partsTo partsOf
 refine List.mem_flatMap.2 ⟨mN,List.mem_range.2 hm,List.mem_map.2 ⟨gN,List.mem_range.2 ?_,rfl⟩⟩
 rw [List.getElem?_eq_getElem hm]
 show gN < (b.ms[mN].groups).toNat
 rw [hgr]
 omega
def punB (b:Bk) (ps:List (List Prt)):Bk:={ b with ss:=b.ss ++ ps,rs:=b.rs ++ (List.range ps.length).map fun (j:Nat)=>(⟨0,(b.ss.length:Int)+(j:Int),0,0⟩:Rec) }
theorem punB_nil (b:Bk):punB b []=b:=by unfold punB;simp
theorem punB_snoc (b:Bk) (ps:List (List Prt)) (p:List Prt):punB b (ps ++ [p])={ punB b ps with ss:=(punB b ps).ss ++ [p],rs:=(punB b ps).rs ++ [⟨0,((punB b ps).ss.length:Int),0,0⟩] }:=by
 unfold punB
 simp [List.range_succ]
def noCount (b:Bk):Bool:=!b.rs.any fun r=>decide (r.k=4) || decide (r.k=5)
theorem noCount_k {b:Bk} (h:noCount b=true) (hk:bookAl b=0):∀ r∈b.rs,0≤r.k∧r.k≤3:=fun r hr=>by
 obtain ⟨h1,h2⟩:=recAl_kind ((bookAl_ok hk).2 r hr)
 unfold noCount at h
 simp only [Bool.not_eq_true',List.any_eq_false,Bool.or_eq_true,decide_eq_true_eq] at h
 have:=h r hr
 omega
theorem goP_zero {b:Bk}:∀ {l seen:List Prt},(∀ p∈l,isPart b p=true∧p ∉ seen)→l.Nodup→goP b seen l=0
 | [],_,_,_=>rfl
 | p::l,seen,h,hn=>by
  obtain ⟨h1,h2⟩:=h p (by simp)
  obtain ⟨n1,n2⟩:=List.nodup_cons.1 hn
  unfold goP
  rw [if_neg (by simp [h1]),if_neg h2]
  exact goP_zero (fun q hq=>⟨(h q (by simp [hq])).1,fun hc=>by
   rcases List.mem_cons.1 hc with rfl | hc
   ·exact n1 hq
   ·exact (h q (by simp [hq])).2 hc⟩) n2
theorem most_pun {b:Bk} {ps:List (List Prt)} {r:Rec} (h:recAl b r=0) (hk:r.k≤3):recAl (punB b ps) r=0:=by
 have ha:=recAl_a h hk
 have e1:most (punB b ps) r=most b r:=by
  unfold most
  rw [if_pos hk,if_pos hk]
  have i1:inB r.a 0 ((b.ss.length:Int) - 1)=true:=by unfold inB;simpa using ha
  have i2:inB r.a 0 (((punB b ps).ss.length:Int) - 1)=true:=by unfold inB punB;simp;omega
  rw [if_pos i1,if_pos i2]
  have:(punB b ps).ss[r.a.toNat]? = b.ss[r.a.toNat]? := List.getElem?_append_left (by omega)
  rw [this]
 rw [← h]
 unfold recAl
 rw [e1]
theorem bookAl_pun {b:Bk} {ps:List (List Prt)} (h:bookAl b=0) (hn:noCount b=true) (h1:b.ss.length+ps.length≤4) (h2:b.rs.length+ps.length≤5) (h5:∀ s∈ps,s.length≤5∧(∀ p∈s,isPart b p=true)∧s.Nodup):bookAl (punB b ps)=0:=by
 obtain ⟨k0,k1,k2,k3⟩:=bookAl_parts h
 have hkk:=noCount_k hn h
 have h2':sessAl (punB b ps)=0:=by
  unfold sessAl at k2 ⊢
  split at k2
  ·cases k2
  ·rw [if_neg (by simp [punB];omega)]
   refine goS_zero fun s hs=>?_
   rcases List.mem_append.1 (show s∈b.ss ++ ps from hs) with hs | hs
   ·obtain ⟨j1,j2⟩:=goS_ok _ k2 s hs
    exact ⟨j1,(goP_ms (b:=punB b ps) (b':=b) rfl s []).trans j2⟩
   ·obtain ⟨j1,j2,j3⟩:=h5 s hs
    exact ⟨j1,(goP_ms (b:=punB b ps) (b':=b) rfl s []).trans (goP_zero (fun p hp=>⟨j2 p hp,by simp⟩) j3)⟩
 have h3':recsAl (punB b ps)=0:=by
  unfold recsAl
  rw [if_neg (by simp [punB];omega)]
  refine goR_zero fun r hr=>?_
  rcases List.mem_append.1 (show r∈b.rs ++ _ from hr) with hr | hr
  ·exact most_pun ((bookAl_ok h).2 r hr) (hkk r hr).2
  ·obtain ⟨j,hj,rfl⟩:=List.mem_map.1 hr
   have hj:=List.mem_range.1 hj
   refine recAl_mk (by simp) (fun _=>rfl) (fun _=>rfl) (most_sess (show (0:Int)≤3 by decide) ?_) ⟨Int.le_refl _,Int.natCast_nonneg _⟩
   simp [punB];omega
 unfold bookAl
 rw [show numbersAl (punB b ps)=0 from k0,show msgsAl (punB b ps)=0 from k1,h2',h3']
 rfl
theorem sum_pos:∀ {l:List Nat} {x:Nat},x∈l→0 < x→0 < l.sum
 | y::l,x,h,h0=>by
  rw [List.sum_cons]
  rcases List.mem_cons.1 h with rfl | h
  ·omega
  ·have:=sum_pos h h0;omega
theorem sum_has:∀ {l:List Nat},0 < l.sum→∃ x∈l,0 < x
 | [],h=>by simp at h
 | y::l,h=>by
  rw [List.sum_cons] at h
  by_cases hy:0 < y
  ·exact ⟨y,by simp,hy⟩
  ·obtain ⟨x,hx,h1⟩:=sum_has (l:=l) (by omega)
   exact ⟨x,by simp [hx],h1⟩
theorem copies_pos {b:Bk} {c:List Int} {p:Prt}:0 < copies b c p↔∃ i,∃ h:i < b.ss.length,∃ h2:i < c.length,p∈b.ss[i].take c[i].toNat:=by
 unfold copies
 constructor
 ·intro h
  obtain ⟨x,hx,h0⟩:=sum_has (l:=(b.ss.zip c).map fun x=>(x.1.take x.2.toNat).count p) (by omega)
  obtain ⟨y,hy,rfl⟩:=List.mem_map.1 hx
  obtain ⟨i,hi,e⟩:=List.mem_iff_getElem.1 hy
  rw [List.length_zip] at hi
  rw [List.getElem_zip] at e
  subst e
  exact ⟨i,by omega,by omega,List.count_pos_iff.1 h0⟩
 ·rintro ⟨i,h1,h2,h3⟩
  have:=sum_pos (l:=(b.ss.zip c).map fun x=>(x.1.take x.2.toNat).count p) (x:=(b.ss[i].take c[i].toNat).count p) (List.mem_map.2 ⟨(b.ss[i],c[i]),List.mem_iff_getElem.2 ⟨i,by rw [List.length_zip];omega,by simp⟩,rfl⟩) (List.count_pos_iff.2 h3)
  omega
theorem right_pun {b:Bk} {ps:List (List Prt)} {x y:List Int} (h:bookAl b=0) (hn:noCount b=true) (hy:x.take b.ss.length=y):(b.rs.all (rightR (punB b ps) x))=right b y:=by
 have hkk:=noCount_k hn h
 unfold right
 rw [Bool.eq_iff_iff,List.all_eq_true,List.all_eq_true]
 have e:∀ r∈b.rs,rightR (punB b ps) x r=rightR b y r:=fun r hr=>by
  obtain ⟨h0,h1⟩:=recAl_a ((bookAl_ok h).2 r hr) (hkk r hr).2
  have h2:=hkk r hr
  have e1:(punB b ps).ss[r.a.toNat]? = b.ss[r.a.toNat]? := List.getElem?_append_left (by omega)
  have e2:x.getD r.a.toNat 0=y.getD r.a.toNat 0:=by
   rw [← hy,List.getD_eq_getElem?_getD,List.getD_eq_getElem?_getD,List.getElem?_take,if_pos (by omega)]
  unfold rightR
  rw [e1,e2,if_neg (show ¬ r.k=4 by omega),if_neg (show ¬ r.k=4 by omega)]
  by_cases k0:r.k=0
  ·simp [k0]
  ·by_cases k1:r.k=1
   ·simp [k1]
   ·by_cases k2:r.k=2
    ·simp [k2]
    ·have k3:r.k=3:=by omega
     simp [k3]
 exact ⟨fun h r hr=>by rw [← e r hr];exact h r hr,fun h r hr=>by rw [e r hr];exact h r hr⟩
theorem pun_past {b:Bk} {ps:List (List Prt)} {x:List Int} (h:bookAl b=0) (hn:noCount b=true) (hx:x∈pasts (punB b ps)):x.take b.ss.length∈pasts b∧x.length=b.ss.length+ps.length∧∀ j (hj:j < ps.length),x.getD (b.ss.length+j) 0=(ps[j].length:Int):=by
 obtain ⟨h1,h2,h3⟩:=mem_pasts.1 hx
 have hlen:x.length=b.ss.length+ps.length:=by rw [h1];simp [punB]
 unfold right at h3
 rw [show (punB b ps).rs=b.rs ++ (List.range ps.length).map fun (j:Nat)=>(⟨0,(b.ss.length:Int)+(j:Int),0,0⟩:Rec) from rfl,List.all_append,Bool.and_eq_true] at h3
 obtain ⟨h3,h4⟩:=h3
 rw [right_pun h hn rfl] at h3
 refine ⟨mem_pasts.2 ⟨by rw [List.length_take];omega,fun i hi=>?_,h3⟩,hlen,fun j hj=>?_⟩
 ·rw [List.length_take] at hi
  obtain ⟨k1,k2,k3⟩:=h2 i (by omega)
  rw [List.getElem_take]
  refine ⟨k1,by omega,?_⟩
  have:(punB b ps).ss[i]'k2=b.ss[i]'(by omega):=List.getElem_append_left (by omega)
  rw [this] at k3
  exact k3
 ·have:=List.all_eq_true.1 h4 _ (List.mem_map.2 ⟨j,List.mem_range.2 hj,rfl⟩)
  unfold rightR at this
  rw [if_pos rfl] at this
  simp only [decide_eq_true_eq] at this
  have ht:((b.ss.length:Int)+(j:Int)).toNat=b.ss.length+j:=by omega
  rw [ht] at this
  rw [this]
  have:(punB b ps).ss[b.ss.length+j]? = some ps[j]:=by
   show (b.ss ++ ps)[b.ss.length+j]? = _
   rw [List.getElem?_append_right (by omega)]
   simp [hj]
  rw [this]
  rfl
theorem pun_some {b:Bk} {ps:List (List Prt)} (h:bookAl b=0) (hn:noCount b=true) (hp:pasts b≠[]):pasts (punB b ps)≠[]:=by
 obtain ⟨y,hy⟩:=List.exists_mem_of_ne_nil _ hp
 obtain ⟨h1,h2,h3⟩:=mem_pasts.1 hy
 have hm:y ++ ps.map (fun s=>(s.length:Int))∈pasts (punB b ps):=by
  refine mem_pasts.2 ⟨by simp [punB,h1],fun i hi=>?_,?_⟩
  ·rw [List.length_append,List.length_map] at hi
   by_cases hi1:i < y.length
   ·obtain ⟨k1,k2,k3⟩:=h2 i hi1
    rw [List.getElem_append_left hi1]
    refine ⟨k1,by simp [punB];omega,?_⟩
    have:(punB b ps).ss[i]'(by simp [punB];omega)=b.ss[i]:=List.getElem_append_left k2
    rw [this];exact k3
   ·rw [List.getElem_append_right (by omega),List.getElem_map]
    refine ⟨by omega,by simp [punB];omega,?_⟩
    have:(punB b ps).ss[i]'(by simp [punB];omega)=ps[i - y.length]'(by omega):=by
     show (b.ss ++ ps)[i]'(by rw [List.length_append];omega)=_
     rw [List.getElem_append_right (by omega)]
     simp only [h1]
    rw [this]
    exact Int.le_refl _
  ·unfold right
   rw [show (punB b ps).rs=b.rs ++ (List.range ps.length).map fun (j:Nat)=>(⟨0,(b.ss.length:Int)+(j:Int),0,0⟩:Rec) from rfl,List.all_append,Bool.and_eq_true]
   refine ⟨by rw [right_pun (y:=y) h hn (by rw [← h1,List.take_left])];exact h3,List.all_eq_true.2 fun r hr=>?_⟩
   obtain ⟨j,hj,rfl⟩:=List.mem_map.1 hr
   have hj:=List.mem_range.1 hj
   unfold rightR
   rw [if_pos rfl]
   simp only [decide_eq_true_eq]
   have ht:((b.ss.length:Int)+(j:Int)).toNat=b.ss.length+j:=by omega
   have e1:(punB b ps).ss[b.ss.length+j]? = some ps[j]:=by
    show (b.ss ++ ps)[b.ss.length+j]? = _
    rw [List.getElem?_append_right (by omega)]
    simp [hj]
   rw [ht,e1,List.getD_eq_getElem?_getD,List.getElem?_append_right (by omega),h1]
   simp [hj]
 intro e
 rw [e] at hm
 cases hm
theorem pun_all {b:Bk} {plan:List Int} {ps:List (List Prt)} (h:bookAl b=0) (hn:noCount b=true) (hpl:∀ p∈missI b,∃ j,∃ hj:j < ps.length,ps[j]=punchI plan (j:Int) (missI b)∧plan.getD p.1.toNat 0=(j:Int)) {x:List Int} (hx:x∈pasts (punB b ps)) {p:Prt} (hp:p∈partsL b):0 < copies (punB b ps) x p:=by
 obtain ⟨h1,h2,h3⟩:=pun_past h hn hx
 refine copies_pos.2 ?_
 by_cases hm:p∈missI b
 ·obtain ⟨j,hj,e1,e2⟩:=hpl p hm
  have hjx:b.ss.length+j < x.length:=by omega
  refine ⟨b.ss.length+j,by simp [punB];omega,hjx,?_⟩
  have e3:(punB b ps).ss[b.ss.length+j]'(by simp [punB];omega)=ps[j]:=by
   show (b.ss ++ ps)[b.ss.length+j]'(by rw [List.length_append];omega)=_
   rw [List.getElem_append_right (by omega)]
   simp
  have e4:=h3 j hj
  rw [List.getD_eq_getElem?_getD,List.getElem?_eq_getElem hjx,Option.getD_some] at e4
  rw [e3,e4,Int.toNat_natCast,List.take_length,e1]
  unfold punchI onTape
  exact List.mem_filter.2 ⟨hm,by simpa using e2⟩
 ·have hc:copies b (x.take b.ss.length) p≠0:=fun hc=>hm (mem_miss.2 ⟨hp,_,h1,hc⟩)
  have h0:0≤copies b (x.take b.ss.length) p:=copies_nn b _ p
  obtain ⟨i,k1,k2,k3⟩:=copies_pos.1 (show 0 < copies b (x.take b.ss.length) p by omega)
  rw [List.length_take] at k2
  refine ⟨i,by simp [punB];omega,by omega,?_⟩
  have e1:(punB b ps).ss[i]'(by simp [punB];omega)=b.ss[i]:=List.getElem_append_left k1
  rw [e1]
  rw [List.getElem_take] at k3
  exact k3
theorem pun_deliv {b:Bk} {plan:List Int} {ps:List (List Prt)} (h:bookAl b=0) (hn:noCount b=true) (hp:pasts b≠[]) (hpl:∀ p∈missI b,∃ j,∃ hj:j < ps.length,ps[j]=punchI plan (j:Int) (missI b)∧plan.getD p.1.toNat 0=(j:Int)):∀ d∈deliveredI (punB b ps),d=1:=fun d hd=>by
 have hne:=pun_some (ps:=ps) h hn hp
 have hpos:=List.length_pos_iff.2 hne
 obtain ⟨i,hi,rfl⟩:=List.mem_iff_getElem.1 hd
 rw [delivered_at2 hi]
 have him:i < b.ms.length:=by rw [show (deliveredI (punB b ps)).length=(punB b ps).ms.length from deliveredTo_length _ _] at hi;exact hi
 have hw:wholeI (punB b ps) (pasts (punB b ps)) i=((pasts (punB b ps)).length:Int):=by
  rw [← wholeK_all]
  congr 1
  unfold wholeK
  rw [List.take_length]
  refine List.countP_eq_length.2 fun x hx=>?_
  rw [decide_eq_true_eq]
  obtain ⟨g1,g4⟩:=groups_pos h _ (List.getElem_mem him)
  have hge:((punB b ps).ms[i]?).elim 0 Msg.groups=b.ms[i].groups:=by
   show (b.ms[i]?).elim 0 Msg.groups=_
   rw [List.getElem?_eq_getElem him];rfl
  unfold haveOf
  rw [Int.toNat_natCast,hge]
  rw [List.filter_eq_self.2 fun g hg=>?_]
  ·rw [List.length_range];omega
  ·rw [decide_eq_true_eq]
   have hg:=List.mem_range.1 hg
   exact pun_all h hn hpl hx (part_mem2 him rfl (by omega) (by omega))
 rw [hw]
 exact (say_one (by omega)).2 rfl
end Go.Proofs.YtgemjjdkjmpmlaaGreatDoor
