/- Leads to the Store laws of chapter 6: K14 I K15 H H2. -/
import Derived.Test.YtfggbepickdokaaGreatDoorT03
import Derived.RangeFuncCalls
import Derived.OwnWalkIn
import Derived.LoopNIn
import Derived.LoopIn
import Derived.Sort.BigQuietIn
set_option maxHeartbeats 1000000
set_option maxRecDepth 100000
set_option linter.all false
namespace Go.Proofs.YtfggbepickdokaaGreatDoor
open Go.RowKit Go.Maps Sp
section
variable {b:Bk} {vr vg vm vs vc:Value} {w:World}
structure Asks (w:World) (b:Bk) (vr vg vm vs vc:Value) (bb cb:Nat) (c0 c1 c2 c3:Int):Prop where
 book:BookAt w b vr vg vm vs vc
 kinds:KindsAt w
 five:Five w bb vr vg vm vs vc
 k0:w.cell? ⟨cb,0,none⟩=some (.int .i64 c0)
 k1:w.cell? ⟨cb,1,none⟩=some (.int .i64 c1)
 k2:w.cell? ⟨cb,2,none⟩=some (.int .i64 c2)
 k3:w.cell? ⟨cb,3,none⟩=some (.int .i64 c3)
 lt:cb < w.heap.size
theorem Asks.below {w w':World} {bb cb:Nat} {c0 c1 c2 c3:Int} (h:Asks w b vr vg vm vs vc bb cb c0 c1 c2 c3) (hb:Below w.heap.size w w'):Asks w' b vr vg vm vs vc bb cb c0 c1 c2 c3 :=
 ⟨h.book.below hb,h.kinds.below hb,h.five.below hb h.five.lt,(hb.cell h.lt).trans h.k0,(hb.cell h.lt).trans h.k1,(hb.cell h.lt).trans h.k2,(hb.cell h.lt).trans h.k3,Nat.lt_of_lt_of_le h.lt hb.size⟩
theorem wrong_asks {bb cb:Nat} {c0 c1 c2 c3:Int} (h:Asks w b vr vg vm vs vc bb cb c0 c1 c2 c3) (hO:BkOk b) (hc:Came b [c0,c1,c2,c3]) (r:Rec) (hr:recAl b r=0) {t:Bool} (hh:(!rightR b [c0,c1,c2,c3] r)=t) :
 Calls Tryz.prog 151 #[.agg #[.int .i64 r.k,.int .i64 r.a,.int .i64 r.b,.int .i64 r.m],.pointer (some ⟨bb,0,none⟩),.pointer (some ⟨cb,0,none⟩)] w fun e w'=>e=.returned (.bool t)∧Below w.heap.size w w' :=
 (wrong_at h.book hO h.kinds h.five c0 c1 c2 c3 r hc h.k0 h.k1 h.k2 h.k3 h.lt hr rfl).mono fun _ _ ⟨e,x⟩=>⟨hh ▸ e,x⟩
def IdxPost (w:World) (t:Bool) (e:Ending) (w':World):Prop:=∃ i:Int,e=.returned (.int .i64 i)∧decide (0≤i)=t∧Below w.heap.size w w'
theorem index_at {bb cb:Nat} {c0 c1 c2 c3:Int} {ra:Option Addr} {rc:Nat} (h:Asks w b vr vg vm vs vc bb cb c0 c1 c2 c3) (hO:BkOk b) (hc:Came b [c0,c1,c2,c3]) (hR:RecsAt w ra b.rs) (hl:b.rs.length≤1000000) (hr:∀ r∈b.rs,recAl b r=0) :
 Calls Tryz.prog 158 #[.slice ra b.rs.length rc,.func (.func 151) #[] #[.pointer (some ⟨bb,0,none⟩),.pointer (some ⟨cb,0,none⟩)]] w (IdxPost w (!right b [c0,c1,c2,c3])):=by
 have HA:=Hh h
 have HO:=Hh hO
 have HC:=Hh hc
 have HS:=Hh hR
 have HR:=Hh hr
 clear h hO hc hR hr
 go_enter Tryz.func158,Tryz.ntmps158
 go_wp2
 go_loopw [8] (fun i wr=>∃ (k:Nat),k≤b.rs.length∧i=.int .i64 k∧Hid (∀ j (h:j < b.rs.length),j < k→rightR b [c0,c1,c2,c3] b.rs[j]=true)∧Below w.heap.size w wr) (fun i _=>b.rs.length - (intOf i).toNat)
 case atStart=>exact ⟨0,Nat.zero_le _,rfl,fun j _ hj=>absurd hj (Nat.not_lt_zero _),Below.refl _ _⟩
 case round =>
  obtain ⟨k,hk,rfl,hG,hW⟩:=hrel
  have hWs:=hW.size
  by_cases hlt:k < b.rs.length
  ·obtain ⟨sb,so,rfl,hsb,e0,e1,e2,e3⟩:=HS.out k hlt
   have d0:=(hW.cell hsb).trans e0
   have d1:=(hW.cell hsb).trans e1
   have d2:=(hW.cell hsb).trans e2
   have d3:=(hW.cell hsb).trans e3
   have hrr:=HR.out _ (List.getElem_mem hlt)
   clear e0 e1 e2 e3
   generalize hs:b.rs[k]=s at d0 d1 d2 d3 hrr
   have HSS:=Hh hs
   have HRR:=Hh hrr
   have HAr:=Hh (HA.out.below hW)
   obtain ⟨rk,ra,rb,rm⟩:=s
   dsimp only at d0 d1 d2 d3
   clear hs hrr
   cases hx:rightR b [c0,c1,c2,c3] ⟨rk,ra,rb,rm⟩
   ·have HX:=Hh (show (!rightR b [c0,c1,c2,c3] ⟨rk,ra,rb,rm⟩)=true by rw [hx];rfl)
    have HN:Hid (right b [c0,c1,c2,c3]=false):=by
     unfold Hid right
     rw [List.all_eq_false]
     exact ⟨_,List.getElem_mem hlt,by rw [HSS.out,hx];simp⟩
    clear hx
    go_wp2_with (go_at_call 151;(with_reducible refine (wrong_asks HAr.out HO.out HC.out ⟨rk,ra,rb,rm⟩ HRR.out HX.out).mono ?_);rintro e w1 ⟨rfl,hb1⟩)
    go_ret
    exact ⟨_,rfl,by rw [HN.out];simp,bel⟩
   ·have HX:=Hh (show (!rightR b [c0,c1,c2,c3] ⟨rk,ra,rb,rm⟩)=false by rw [hx];rfl)
    have HG:Hid (∀ j (h:j < b.rs.length),j < k+1→rightR b [c0,c1,c2,c3] b.rs[j]=true):=fun j h hj=>by
     by_cases hjk:j < k
     ·exact hG.out j h hjk
     ·obtain rfl:j=k:=by omega
      rw [HSS.out,hx]
    clear hx hG
    go_wp2_with (go_at_call 151;(with_reducible refine (wrong_asks HAr.out HO.out HC.out ⟨rk,ra,rb,rm⟩ HRR.out HX.out).mono ?_);rintro e w1 ⟨rfl,hb1⟩)
    go_roundw
    case rel=>exact ⟨k+1,by omega,by go_num,HG,bel⟩
    case measure=>simp [intOf];omega
  ·have HN:Hid (right b [c0,c1,c2,c3]=true):=by
    unfold Hid right
    rw [List.all_eq_true]
    intro r hr
    obtain ⟨j,hj,rfl⟩:=List.getElem_of_mem hr
    exact hG.out j hj (by omega)
   clear hG
   go_wp2
   go_ret
   exact ⟨_,rfl,by rw [HN.out];rfl,bel⟩
theorem contains_at {bb cb:Nat} {c0 c1 c2 c3:Int} {ra:Option Addr} {rc:Nat} (h:Asks w b vr vg vm vs vc bb cb c0 c1 c2 c3) (hO:BkOk b) (hc:Came b [c0,c1,c2,c3]) (hR:RecsAt w ra b.rs) (hl:b.rs.length≤1000000) (hr:∀ r∈b.rs,recAl b r=0) {t:Bool} (ht:(!right b [c0,c1,c2,c3])=t) :
 Calls Tryz.prog 150 #[.slice ra b.rs.length rc,.func (.func 151) #[] #[.pointer (some ⟨bb,0,none⟩),.pointer (some ⟨cb,0,none⟩)]] w fun e w'=>e=.returned (.bool t)∧Below w.heap.size w w':=by
 have hx:=index_at (rc:=rc) h hO hc hR hl hr
 rw [ht] at hx
 have HX:=Hh hx
 clear h hO hc hR hr ht hx
 go_enter Tryz.func150,Tryz.ntmps150
 go_wp2_with (go_at_call 158;(with_reducible refine HX.out.mono ?_);rintro e w1 ⟨i,rfl,hi,hb1⟩;have HI:=Hh hi;clear hi)
 go_ret
 refine ⟨?_,bel⟩
 rw [← HI.out]
 rfl
theorem agrees_at (hB:BookAt w b vr vg vm vs vc) (hK:KindsAt w) (hO:BkOk b) {c:List Int} (hc:Came b c) (hc4:c.length=4) (hr:∀ r∈b.rs,recAl b r=0) {t:Bool} (ht:right b c=t) :
 Calls Tryz.prog 135 #[.agg #[vr,vg,vm,vs,vc],cameV c] w fun e w'=>e=.returned (.bool t)∧Below w.heap.size w w':=by
 obtain ⟨c0,c1,c2,c3,rfl⟩:=four hc4
 rw [show cameV [c0,c1,c2,c3]=.agg #[.int .i64 c0,.int .i64 c1,.int .i64 c2,.int .i64 c3] from rfl]
 obtain ⟨ra,rc,rfl,hR,hl⟩:=hB.rs
 have hW0:∃ W0,W0=(w.alloc (.cells #[vr,vg,vm,vs,.slice ra b.rs.length rc] 88)).alloc (.cells #[.int .i64 c0,.int .i64 c1,.int .i64 c2,.int .i64 c3] 124):=⟨_,rfl⟩
 obtain ⟨W0,hW0⟩:=hW0
 have hb0:Below w.heap.size w W0:=by rw [hW0];(exact bel)
 have hA:Asks W0 b vr vg vm vs (.slice ra b.rs.length rc) w.heap.size (w.heap.size+1) c0 c1 c2 c3:=by
  refine ⟨hB.below hb0,hK.below hb0,?_,?_,?_,?_,?_,?_⟩
  ·rw [hW0]
   exact (Five.new w vr vg vm vs (.slice ra b.rs.length rc) _).below (bal _ _) (by simp)
  iterate 4 (rw [hW0,World.cell?_alloc_at _ _ _ _ (by simp)];rfl)
  ·rw [hW0];simp
 have hx:=contains_at (rc:=rc) hA hO hc (hR.below hb0) hl hr rfl
 rw [ht] at hx
 have HX:=Hh hx
 have HW0:=Hh hW0
 clear hB hK hO hc hc4 hr ht hx hA hR hW0
 go_enter Tryz.func135,Tryz.ntmps135
 go_wp2_with (rw [← HW0.out];(go_at_call 150;(with_reducible refine (HX.out).mono ?_);rintro e w1 ⟨rfl,hb1⟩))
 go_ret
 exact ⟨by simp,bel⟩
end
end Go.Proofs.YtfggbepickdokaaGreatDoor
namespace Go.Proofs.YtfggbepickdokaaGreatDoor
open Go Go.RowKit
theorem wide_fn (f:FuncId):Fence.wide.fn f=True:=eq_true trivial
theorem wide_depth:Fence.wide.depth=none:=rfl
attribute [go_sem] wide_fn wide_depth
theorem one_param (p:Nat) (v:Value) (T:Array Value):((#[p]:Array Tmp).zip #[v]).foldl (fun t (p,v)=>t.setIfInBounds p v) T=T.setIfInBounds p v:=by simp
theorem two_param (p q:Nat) (v u:Value) (T:Array Value):((#[p,q]:Array Tmp).zip #[v,u]).foldl (fun t (p,v)=>t.setIfInBounds p v) T=(T.setIfInBounds p v).setIfInBounds q u:=by simp
structure KS (p:Nat→Prop) (w w':World):Prop where
 os:w'.os=w.os
 tape:w'.tape=w.tape
 output:w'.output=w.output
 size:w.heap.size≤w'.heap.size
 block:∀ k,k < w.heap.size→p k→w'.heap[k]? = w.heap[k]?
section
variable {p q:Nat→Prop} {a b c w:World}
theorem KS.refl (p:Nat→Prop) (w:World):KS p w w:=⟨rfl,rfl,rfl,Nat.le_refl _,fun _ _ _=>rfl⟩
theorem KS.trans (h:KS p a b) (k:KS p b c):KS p a c :=
 ⟨k.os.trans h.os,k.tape.trans h.tape,k.output.trans h.output,Nat.le_trans h.size k.size,fun i hi hp=>(k.block i (Nat.lt_of_lt_of_le hi h.size) hp).trans (h.block i hi hp)⟩
theorem KS.mono (h:KS p a b) (hq:∀ k,k < a.heap.size→q k→p k):KS q a b:=⟨h.os,h.tape,h.output,h.size,fun i hi hp=>h.block i hi (hq i hi hp)⟩
theorem KS.below {n:Nat} (h:Below n a b):KS (· < n) a b:=⟨h.os,h.tape,h.output,h.size,fun i _ hp=>h.block i hp⟩
theorem KS.to_below {n:Nat} (h:KS (· < n) a b) (hn:n≤a.heap.size):Below n a b:=⟨h.os,h.tape,h.output,h.size,fun i hi=>h.block i (Nat.lt_of_lt_of_le hi hn) hi⟩
theorem KS.all (h:Below a.heap.size a b) (p:Nat→Prop):KS p a b:=⟨h.os,h.tape,h.output,h.size,fun i hi _=>h.block i hi⟩
theorem KS.grown {r:Nat} (h:a.grownBy b (some r)) (hp:¬ p r):KS p a b:=⟨h.os,h.tape,h.output,h.size,fun i hi hpi=>h.block i hi (fun e=>by cases e;exact hp hpi)⟩
theorem KS.alloc (p:Nat→Prop) (w:World) (o:Obj):KS p w (w.alloc o):=KS.all ((Below.refl _ _).alloc (Nat.le_refl _) o) p
theorem KS.drew (p:Nat→Prop) (w:World):KS p w w.drew:=⟨rfl,rfl,rfl,Nat.le_refl _,fun _ _ _=>rfl⟩
theorem KS.drewN (p:Nat→Prop) (w:World) (n:Nat):KS p w (w.drewN n):=⟨rfl,rfl,rfl,Nat.le_refl _,fun _ _ _=>rfl⟩
theorem KS.setCell {x:Addr} (hp:¬ p x.block) (w:World) (v:Value):KS p w (w.setCell x v) :=
 ⟨rfl,rfl,rfl,by simp [World.setCell],fun k _ hk=>Below.heap_setCell w x v k (fun e=>hp (e ▸ hk))⟩
theorem KS.putObj {r:Nat} (hp:¬ p r) (w:World) (o:Obj):KS p w (w.putObj r o) :=
 ⟨rfl,rfl,rfl,by simp,fun k _ hk=>World.putObj_heap_other (fun e=>hp (e ▸ hk))⟩
theorem KS.cell (h:KS p a b) {x:Addr} (hx:x.block < a.heap.size) (hp:p x.block):b.cell? x=a.cell? x:=World.cell?_of_block (h.block _ hx hp)
theorem KS.frozen (h:KS p a b) {x:Addr} (hx:x.block < a.heap.size) (hp:p x.block):b.frozen? x=a.frozen? x:=World.frozen?_of_block (h.block _ hx hp)
end
def Iter {α:Type} (P:Program) (gf:Nat) (recv:Value) (enc:α→Array Value→World→Prop) (xs:List α) (own p:Nat→Prop) (W:World):Prop :=
 ∀ (l:Nat) (J Jx:List α→World→Prop),
  (∀ pre A B,J pre A→KS (fun k=>¬ own k) A B→J pre B)→(∀ pre A B,Jx pre A→KS (fun k=>¬ own k) A B→Jx pre B) →
  (∀ pre x args A,(∃ suf,xs=pre ++ x::suf)→enc x args A→J pre A→YieldAt Fence.wide 0 P l args A fun e B =>
    (e=.returned (.bool true)∧J (pre ++ [x]) B∧KS p A B)∨(e=.returned (.bool false)∧Jx (pre ++ [x]) B)) →
  J [] W→CallsIn Fence.wide 0 P gf #[recv,.func (.yield l) #[] #[]] W fun e W'=>(∃ v,e=.returned v)∧(J xs W'∨∃ pre,Jx pre W')
def rPost {α:Type} (q:Nat→Prop) (J Jx:List α→World→Prop) (xs:List α) (A:World):Exit→Act→World→Prop
 | .normal,_,B=>KS q A B∧J xs B
 | .ret,_,B=>KS q A B∧Jx xs B
 | _,_,_=>False
variable {P:Program}
theorem wpIn_range {α:Type} {g:Operand} {ps:Array Tmp} {assign body:Code} {Q:Exit→Act→World→Prop} {a:Act} {w:World} {gf:Nat} {recv:Value}
 (hg:a.eval g=.func (.func gf) #[recv] #[]) (eg:∀ args w,(callFunc gf args).run P w=.ok (.enter gf args) w)
 (enc:α→Array Value→World→Prop) (hps:∀ x args W,enc x args W→args.size=ps.size) (xs:List α) (own p:Nat→Prop) (hown:¬ own (w.heap.size+1)∧¬ own w.heap.size) (hp:¬ p (w.heap.size+1))
 (hseq:∀ W,Below w.heap.size w W→W.heap.size=w.heap.size+1+1→Iter P gf recv enc xs own p W)
 (J Jx:List α→World→Prop) (hJ:∀ pre A B,J pre A→KS (fun k=>¬ (own k∨k=w.heap.size+1)) A B→J pre B) (hJx:∀ pre A B,Jx pre A→KS (fun k=>¬ (own k∨k=w.heap.size+1)) A B→Jx pre B)
 (h0:∀ W,Below w.heap.size w W→W.heap.size=w.heap.size+1+1→J [] W)
 (Mid:List α→α→Act→World→Prop) (hMid:∀ pre x a₁ A B,Mid pre x a₁ A→KS (fun k=>¬ (k=w.heap.size+1)) A B→A.heap.size=B.heap.size→Mid pre x a₁ B)
 (hassign:∀ pre x args A,(∃ suf,xs=pre ++ x::suf)→enc x args A→J pre A→w.heap.size+1 < A.heap.size →
   assign.wpIn (Fence.wide.inRound (w.heap.size+1)) 0 P (Exit.then (fun a₁ w₁=>KS (fun k=>p k∨k=w.heap.size∨k=w.heap.size+1) A w₁∧Mid pre x a₁ w₁) (fun _ _ _=>False)) { tmps:=(ps.zip args).foldl (fun t (p,v)=>t.setIfInBounds p v) a.tmps,defers:=[] } A)
 (hbody:∀ pre x a₁ A,(∃ suf,xs=pre ++ x::suf)→Mid pre x a₁ A→w.heap.size+1 < A.heap.size→body.wpIn (Fence.wide.inRound (w.heap.size+1)) 0 P (rPost (fun k=>p k∨k=w.heap.size∨k=w.heap.size+1) J Jx (pre ++ [x]) A) a₁ A)
 (hdone:∀ W,J xs W→W.heap[w.heap.size]? = some (.deferred (some []))→Q .normal { a with defers:={ target:=.collected w.heap.size,args:=#[] }::a.defers } W)
 (hstop:∀ pre W,Jx pre W→W.heap[w.heap.size]? = some (.deferred (some []))→Code.ret.wpIn Fence.wide 0 P Q { a with defers:={ target:=.collected w.heap.size,args:=#[] }::a.defers } W) :
 (Code.rangeFunc g ps assign body).wpIn Fence.wide 0 P Q a w:=by
 refine wpIn_rangeFunc ?_
 intro fn hfn
 have hro:Fence.wide.round=none:=rfl
 rw [hro]
 obtain ⟨rec,hrec⟩:∃ rec:LoopState→Option Code→Loop,rec=fun st pe=>{ state:=st,pending:=pe,fn,tmps:=a.tmps,params:=ps,assign,body,defers:=w.heap.size }:=⟨_,rfl⟩
 obtain ⟨W1,hW1⟩:∃ W1,(w.alloc (.deferred (some []))).alloc (.loop (rec .ready none))=W1:=⟨_,rfl⟩
 have hL1:W1.heap[w.heap.size+1]? = some (.loop (rec .ready none)):=by
  rw [← hW1];have:=World.alloc_heap_new (w.alloc (.deferred (some []))) (.loop (rec .ready none));rwa [World.size_alloc] at this
 have hD1:W1.heap[w.heap.size]? = some (.deferred (some [])):=by
  rw [← hW1];exact (Below.heap_alloc _ _ _ (by simp)).trans (World.alloc_heap_new w _)
 have hb1:Below w.heap.size w W1:=by rw [← hW1];(exact bel)
 have hs1:W1.heap.size=w.heap.size+1+1:=by rw [← hW1];simp
 refine ⟨w.heap.size+1,[{ target:=.collected w.heap.size,args:=#[] }],W1,{ target:=.fn (.func gf) #[],args:=#[recv,.func (.yield (w.heap.size+1)) #[] #[]] },W1,gf,
  #[recv,.func (.yield (w.heap.size+1)) #[] #[]],W1,?_,?_,?_,?_,(fun h=>by cases h),?_⟩
 ·rw [← hW1,hrec];exact run_enterLoop_outer _ _ _ _ _
 ·simp only [resolve,hg]
  simp [go_sem]
 ·intro f' _;trivial
 ·simp [invoke,go_sem,eg]
 ·refine (hseq W1 hb1 hs1 (w.heap.size+1)
   (fun pre W=>J pre W∧W.heap[w.heap.size+1]? = some (.loop (rec .ready none))∧W.heap[w.heap.size]? = some (.deferred (some [])))
   (fun pre W=>Jx pre W∧W.heap[w.heap.size+1]? = some (.loop (rec .done (some .ret)))∧W.heap[w.heap.size]? = some (.deferred (some []))) ?_ ?_ ?_ ⟨h0 W1 hb1 hs1,hL1,hD1⟩).mono ?_
  ·rintro pre A B ⟨h1,h2,h3⟩ hk
   exact ⟨hJ pre A B h1 (hk.mono fun k _ hk=>fun h=>hk (.inl h)),(hk.block _ (Array.getElem?_eq_some_iff.1 h2).1 hown.1).trans h2,(hk.block _ (Array.getElem?_eq_some_iff.1 h3).1 hown.2).trans h3⟩
  ·rintro pre A B ⟨h1,h2,h3⟩ hk
   exact ⟨hJx pre A B h1 (hk.mono fun k _ hk=>fun h=>hk (.inl h)),(hk.block _ (Array.getElem?_eq_some_iff.1 h2).1 hown.1).trans h2,(hk.block _ (Array.getElem?_eq_some_iff.1 h3).1 hown.2).trans h3⟩
  ·rintro pre x args A hx he ⟨h1,h2,h3⟩
   have hlt:w.heap.size+1 < A.heap.size:=(Array.getElem?_eq_some_iff.1 h2).1
   have hy:=run_yield (P:=P) (args:=args) h2 (by rw [hrec];exact hps x args A he)
   rw [hrec] at hy
   refine ⟨fn,_,assign,body,hy,roundIn_of_wpIn hfn (wpIn_mono (hassign pre x args A hx he h1 hlt) ?_)⟩
   rintro e a₁ w₁ hp1
   cases e with
   | normal =>
    obtain ⟨hks,hm⟩:=hp1
    have hl1:w₁.heap[w.heap.size+1]? = some (.loop (rec .ready none)):=(hks.block _ hlt (.inr (.inr rfl))).trans h2
    have hd1:w₁.heap[w.heap.size]? = some (.deferred (some [])):=(hks.block _ (by omega) (.inr (.inl rfl))).trans h3
    have hlt1:w.heap.size+1 < w₁.heap.size:=(Array.getElem?_eq_some_iff.1 hl1).1
    refine ⟨_,run_beginRound hl1 (by rw [hrec]),?_⟩
    have hm2:=hMid pre x a₁ w₁ (w₁.putObj (w.heap.size+1) (.loop { rec .ready none with state:=.busy })) hm (KS.putObj (by simp) _ _) (by simp)
    refine wpIn_mono (hbody pre x a₁ _ hx hm2 (by simpa using hlt1)) ?_
    have hl2:(w₁.putObj (w.heap.size+1) (.loop { rec .ready none with state:=.busy })).heap[w.heap.size+1]? = some (.loop { rec .ready none with state:=.busy }):=World.putObj_heap_same hlt1
    have hd2:(w₁.putObj (w.heap.size+1) (.loop { rec .ready none with state:=.busy })).heap[w.heap.size]? = some (.deferred (some [])):=(World.putObj_heap_other (by omega)).trans hd1
    have hks2:KS p A (w₁.putObj (w.heap.size+1) (.loop { rec .ready none with state:=.busy })):=(hks.mono fun k _ h=>.inl h).trans (KS.putObj hp _ _)
    rintro e2 a3 W3 hp3
    have fin:∀ (jump:Option Code),KS (fun k=>p k∨k=w.heap.size∨k=w.heap.size+1) (w₁.putObj (w.heap.size+1) (.loop { rec .ready none with state:=.busy })) W3 →
     (Instr.endRound (w.heap.size+1) jump).run P W3=.ok (.bool jump.isNone) (W3.putObj (w.heap.size+1) (.loop (rec (if jump.isNone then .ready else .done) jump))) ∧
     (W3.putObj (w.heap.size+1) (.loop (rec (if jump.isNone then .ready else .done) jump))).heap[w.heap.size+1]? = some (.loop (rec (if jump.isNone then .ready else .done) jump)) ∧
     (W3.putObj (w.heap.size+1) (.loop (rec (if jump.isNone then .ready else .done) jump))).heap[w.heap.size]? = some (.deferred (some [])):=fun jump hk3=>by
     have hl3:=(hk3.block _ (by simpa using hlt1) (.inr (.inr rfl))).trans hl2
     have hd3:=(hk3.block _ (by simp;omega) (.inr (.inl rfl))).trans hd2
     have:=run_endRound (P:=P) jump hl3
     rw [hrec] at this ⊢
     exact ⟨this,World.putObj_heap_same (Array.getElem?_eq_some_iff.1 hl3).1,(World.putObj_heap_other (by omega)).trans hd3⟩
    cases e2 with
    | normal =>
     obtain ⟨hk3,hj3⟩:=hp3
     obtain ⟨hr,hl4,hd4⟩:=fin none hk3
     exact ⟨_,_,hr,.inl ⟨rfl,⟨hJ _ _ _ hj3 (KS.putObj (by simp) _ _),hl4,hd4⟩,(hks2.trans (hk3.mono fun k _ h=>.inl h)).trans (KS.putObj hp _ _)⟩⟩
    | ret =>
     obtain ⟨hk3,hj3⟩:=hp3
     obtain ⟨hr,hl4,hd4⟩:=fin (some .ret) hk3
     exact ⟨_,_,hr,.inr ⟨rfl,hJx _ _ _ hj3 (KS.putObj (by simp) _ _),hl4,hd4⟩⟩
    | exit id=>exact hp3.elim
    | goto t=>exact hp3.elim
    | panic ch=>exact hp3.elim
    | outgrown=>exact hp3.elim
   | exit id=>exact hp1.elim
   | goto t=>exact hp1.elim
   | ret=>exact hp1.elim
   | panic ch=>exact hp1.elim
   | outgrown=>exact hp1.elim
  ·rintro e W2 ⟨⟨v,rfl⟩,(⟨hj,hl,hd⟩ | ⟨pre,hj,hl,hd⟩)⟩
   ·exact ⟨none,_,by have:=run_endLoop (P:=P) hl (by rw [hrec];simp);rw [hrec] at this;exact this,hdone _ (hJ _ _ _ hj (KS.putObj (by simp) _ _)) ((World.putObj_heap_other (by omega)).trans hd)⟩
   ·exact ⟨some .ret,_,by have:=run_endLoop (P:=P) hl (by rw [hrec];simp);rw [hrec] at this;exact this,hstop pre _ (hJx _ _ _ hj (KS.putObj (by simp) _ _)) ((World.putObj_heap_other (by omega)).trans hd)⟩
end Go.Proofs.YtfggbepickdokaaGreatDoor
namespace Go.Proofs.YtfggbepickdokaaGreatDoor
open Go.RowKit Go.Maps Sp
theorem copies_take (b:Bk) (c:List Int) (p:Prt) (n:Nat) (hn:b.ss.length≤n):copies b (c.take n) p=copies b c p:=by
 unfold copies
 have:b.ss.zip (c.take n)=b.ss.zip c:=by
  have e:b.ss.zip c=(b.ss.zip c).take n:=by rw [List.take_of_length_le];simp;omega
  rw [e]
  simp only [List.zip_eq_zipWith,List.take_zipWith,List.take_of_length_le hn]
 rw [this]
theorem rightR_take {b:Bk} {c:List Int} {n:Nat} (hn:b.ss.length=n) {r:Rec} (hr:recAl b r=0):rightR b (c.take n) r=rightR b c r:=by
 obtain ⟨k,a,rb,m⟩:=r
 have hf:=recAl_facts hr
 have hg:k≤3→(c.take n).getD a.toNat 0=c.getD a.toNat 0:=fun hk=>by
  have:=(inB_nat.1 (hf.2.1 hk)).2
  simp only [List.getD]
  rw [List.getElem?_take,if_pos (by omega)]
 have hc:∀ p,copies b (c.take n) p=copies b c p:=fun p=>copies_take b c p n (by omega)
 unfold rightR haveOf
 simp only [hc]
 by_cases h3:k≤3
 ·rw [hg h3]
 ·have h0:¬ k=0:=by omega
  have h1:¬ k=1:=by omega
  have h2:¬ k=2:=by omega
  have h4:¬ k=3:=by omega
  simp only [h0,h1,h2,h4,if_false]
theorem right_take {b:Bk} {c:List Int} {n:Nat} (hn:b.ss.length=n) (hr:∀ r∈b.rs,recAl b r=0):right b (c.take n)=right b c:=by
 unfold right
 rw [Bool.eq_iff_iff,List.all_eq_true,List.all_eq_true]
 exact ⟨fun h r hm=>by rw [← rightR_take hn (hr r hm)];exact h r hm,fun h r hm=>by rw [rightR_take hn (hr r hm)];exact h r hm⟩
def pad (x:List Int):List Int:=x ++ List.replicate (4 - x.length) 0
theorem pad_length {x:List Int} (h:x.length≤4):(pad x).length=4:=by simp [pad];omega
theorem pastsFrom_length {b:Bk}:∀ (l:List (List Prt)) (pre:List Int) (x:List Int),x∈pastsFrom b pre l→x.length=pre.length+l.length
 | [],pre,x,h=>by
  unfold pastsFrom at h
  split at h
  ·simp at h;simp [h]
  ·cases h
 | s::l,pre,x,h=>by
  unfold pastsFrom at h
  obtain ⟨n,_,h⟩:=List.mem_flatMap.1 h
  have:=pastsFrom_length l _ x h
  simp at this ⊢
  omega
def restFrom (b:Bk) (pre:List Int) (s:List Prt) (l:List (List Prt)) (n:Nat):List (List Int):=(List.range' n (s.length+1 - n)).flatMap fun (k:Nat)=>pastsFrom b (pre ++ [(k:Int)]) l
theorem restFrom_zero (b:Bk) (pre:List Int) (s:List Prt) (l:List (List Prt)):pastsFrom b pre (s::l)=restFrom b pre s l 0:=by
 unfold restFrom
 rw [pastsFrom,List.range_eq_range',Nat.sub_zero]
theorem restFrom_succ (b:Bk) (pre:List Int) (s:List Prt) (l:List (List Prt)) (n:Nat) (h:n≤s.length):restFrom b pre s l n=pastsFrom b (pre ++ [(n:Int)]) l ++ restFrom b pre s l (n+1):=by
 unfold restFrom
 rw [show s.length+1 - n=(s.length+1 - (n+1))+1 by omega,List.range'_succ,List.flatMap_cons]
theorem restFrom_end (b:Bk) (pre:List Int) (s:List Prt) (l:List (List Prt)) (n:Nat) (h:s.length < n):restFrom b pre s l n=[]:=by
 unfold restFrom
 rw [show s.length+1 - n=0 by omega]
 rfl
section
variable {b:Bk} {vr vg vm vs vc:Value}
structure HSt (w0:World) (b:Bk) (vr vg vm vs vc:Value) (s l:Nat) (A:World) (cl:List Int):Prop where
 base:Below w0.heap.size w0 A
 five:Five A s vr vg vm vs vc
 yv:A.cell? ⟨s+1,0,none⟩=some (.func (.yield l) #[] #[])
 c:∀ k,k < 4→A.cell? ⟨s+1+1,k,none⟩=some (.int .i64 (cl.getD k 0))
 fz:∀ k,k < 4→A.frozen? ⟨s+1+1,k,none⟩=false
 nx:A.cell? ⟨s+1+1+1,0,none⟩=some (.func (.func 134) #[] #[.pointer (some ⟨s,0,none⟩),.pointer (some ⟨s+1+1,0,none⟩),.pointer (some ⟨s+1,0,none⟩),.pointer (some ⟨s+1+1+1,0,none⟩)])
 len:cl.length=4
 lt:s+1+1+1 < A.heap.size
theorem HSt.keep {w0 A B:World} {s l:Nat} {cl:List Int} {p:Nat→Prop} (h:HSt w0 b vr vg vm vs vc s l A cl) (hk:KS p A B) (hp0:∀ k,k < w0.heap.size→p k) (hps:∀ k,s≤k→k≤s+1+1+1→p k):HSt w0 b vr vg vm vs vc s l B cl:=by
 have hlt:=h.lt
 have e:∀ r o,s≤r→r≤s+1+1+1→B.cell? ⟨r,o,none⟩=A.cell? ⟨r,o,none⟩:=fun r o h1 h2=>hk.cell (x:=⟨r,o,none⟩) (by simp;omega) (hps r h1 h2)
 have ef:∀ r o,s≤r→r≤s+1+1+1→B.frozen? ⟨r,o,none⟩=A.frozen? ⟨r,o,none⟩:=fun r o h1 h2=>hk.frozen (x:=⟨r,o,none⟩) (by simp;omega) (hps r h1 h2)
 obtain ⟨⟨hos,htape,hout,hsize,hblock⟩,⟨f0,f1,f2,f3,f4,f5⟩,hy,hc,hfz,hn,hl,_⟩:=h
 refine ⟨⟨hk.os.trans hos,hk.tape.trans htape,hk.output.trans hout,Nat.le_trans hsize hk.size,fun k hkk=>(hk.block k (Nat.lt_of_lt_of_le hkk hsize) (hp0 k hkk)).trans (hblock k hkk)⟩,⟨?_,?_,?_,?_,?_,Nat.lt_of_lt_of_le f5 hk.size⟩,?_,fun k hk4=>?_,fun k hk4=>?_,?_,hl,Nat.lt_of_lt_of_le hlt hk.size⟩
 ·rw [e _ _ (by omega) (by omega)];exact f0
 ·rw [e _ _ (by omega) (by omega)];exact f1
 ·rw [e _ _ (by omega) (by omega)];exact f2
 ·rw [e _ _ (by omega) (by omega)];exact f3
 ·rw [e _ _ (by omega) (by omega)];exact f4
 ·rw [e _ _ (by omega) (by omega)];exact hy
 ·rw [e _ _ (by omega) (by omega)];exact hc k hk4
 ·rw [ef _ _ (by omega) (by omega)];exact hfz k hk4
 ·rw [e _ _ (by omega) (by omega)];exact hn
theorem HSt.next {w0 A B:World} {s l:Nat} {cl:List Int} (h:HSt w0 b vr vg vm vs vc s l A cl) (hk:Below A.heap.size A B):HSt w0 b vr vg vm vs vc s l B cl :=
 h.keep (KS.all hk (fun _=>True)) (fun _ _=>trivial) (fun _ _ _=>trivial)
theorem HSt.set {w0 A:World} {s l:Nat} {cl:List Int} (h:HSt w0 b vr vg vm vs vc s l A cl) (hs:w0.heap.size≤s) {i:Nat} (hi:i < 4) (v:Int):HSt w0 b vr vg vm vs vc s l (A.setCell ⟨s+1+1,i,none⟩ (.int .i64 v)) (cl.set i v):=by
 have hk:KS (fun k=>k≠s+1+1) A (A.setCell ⟨s+1+1,i,none⟩ (.int .i64 v)):=KS.setCell (by simp) _ _
 have hlt:=h.lt
 have e:∀ r o,r≠s+1+1→r < A.heap.size→(A.setCell ⟨s+1+1,i,none⟩ (.int .i64 v)).cell? ⟨r,o,none⟩=A.cell? ⟨r,o,none⟩:=fun r o h1 h2=>hk.cell (x:=⟨r,o,none⟩) h2 h1
 obtain ⟨⟨hos,htape,hout,hsize,hblock⟩,⟨f0,f1,f2,f3,f4,f5⟩,hy,hc,hfz,hn,hl,_⟩:=h
 refine ⟨⟨hk.os.trans hos,hk.tape.trans htape,hk.output.trans hout,Nat.le_trans hsize hk.size,fun k hkk=>(hk.block k (Nat.lt_of_lt_of_le hkk hsize) (by omega)).trans (hblock k hkk)⟩,⟨?_,?_,?_,?_,?_,Nat.lt_of_lt_of_le f5 hk.size⟩,?_,fun k hk4=>?_,fun k hk4=>?_,?_,by simpa using hl,Nat.lt_of_lt_of_le hlt hk.size⟩
 ·rw [e _ _ (by omega) (by omega)];exact f0
 ·rw [e _ _ (by omega) (by omega)];exact f1
 ·rw [e _ _ (by omega) (by omega)];exact f2
 ·rw [e _ _ (by omega) (by omega)];exact f3
 ·rw [e _ _ (by omega) (by omega)];exact f4
 ·rw [e _ _ (by omega) (by omega)];exact hy
 ·by_cases hki:k=i
  ·subst hki
   rw [World.cell?_setCell_same' _ _ _ (by rw [hc k hk4];rfl)]
   simp [List.getD,hl,hk4]
  ·rw [World.cell?_setCell_other (h:=fun e=>hki (by injection e with _ e _;exact e.symm))]
   rw [hc k hk4]
   simp [List.getD,List.getElem?_set_ne (Ne.symm hki)]
 ·rw [World.frozen?_setCell];exact hfz k hk4
 ·rw [e _ _ (by omega) (by omega)];exact hn
end
section
variable {b:Bk} {vr vg vm vs vc:Value}
def NextOut (w0:World) (b:Bk) (vr vg vm vs vc:Value) (s l i:Nat) (cl:List Int) (J Jx:List (List Int)→World→Prop) (done:List (List Int)) (e:Ending) (B:World):Prop :=
 (∃ cl',e=.returned (.bool true)∧HSt w0 b vr vg vm vs vc s l B cl'∧cl'.take i=cl.take i∧(∀ k,b.ss.length≤k→cl'.getD k 0=0)∧J done B)∨(e=.returned (.bool false)∧∃ pre,Jx pre B)
abbrev nextArgs (i s:Nat):Array Value:=#[.int .i64 i,.pointer (some ⟨s,0,none⟩),.pointer (some ⟨s+1+1,0,none⟩),.pointer (some ⟨s+1,0,none⟩),.pointer (some ⟨s+1+1+1,0,none⟩)]
theorem next_leaf_no {w0:World} (hB:BookAt w0 b vr vg vm vs vc) (hK:KindsAt w0) (hO:BkOk b) (hr:∀ r∈b.rs,recAl b r=0) {s l:Nat} {A:World} {cl:List Int} (hA:HSt w0 b vr vg vm vs vc s l A cl) (hc:Came b cl) (hz:∀ k,b.ss.length≤k→cl.getD k 0=0)
 {J Jx:List (List Int)→World→Prop} {own:Nat→Prop} (hJ:∀ pre A B,J pre A→KS (fun k=>¬ own k) A B→J pre B) {done:List (List Int)} (hj:J done A) (hn:right b cl=false) :
 CallsIn Fence.wide 0 Tryz.prog 134 (nextArgs b.ss.length s) A (NextOut w0 b vr vg vm vs vc s l b.ss.length cl J Jx done):=by
 refine callsIn_wide.2 ?_
 obtain ⟨c0,c1,c2,c3,rfl⟩:=four hA.len
 obtain ⟨sa,sc,rfl,hM,hl⟩:=hB.ss
 have hag:=fun (w':World) (hb:Below w0.heap.size w0 w')=>agrees_at (hB.below hb) (hK.below hb) hO hc rfl hr hn
 rw [show cameV [c0,c1,c2,c3]=.agg #[.int .i64 c0,.int .i64 c1,.int .i64 c2,.int .i64 c3] from rfl] at hag
 obtain ⟨f0,f1,f2,f3,f4,f5⟩:=hA.five
 have k0:=hA.c 0 (by omega)
 have k1:=hA.c 1 (by omega)
 have k2:=hA.c 2 (by omega)
 have k3:=hA.c 3 (by omega)
 simp only [List.getD_cons_zero,List.getD_cons_succ] at k0 k1 k2 k3
 have HA:=Hh hA
 have HJ:=Hh hJ
 have HJ0:=Hh hj
 have HZ:=Hh hz
 have HAG:=Hh hag
 clear hA hJ hj hz hag hB hK hO hr hc hn hM
 unfold nextArgs
 go_enter Tryz.func134,Tryz.ntmps134
 go_wp2_with (go_at_call 135;(with_reducible refine (HAG.out _ HA.out.base).mono ?_);rintro e w1 ⟨rfl,hb1⟩)
 go_ret
 exact .inl ⟨_,rfl,HA.out.next hb1,rfl,HZ.out,HJ.out _ _ _ HJ0.out (KS.all hb1 _)⟩
theorem next_leaf_yes {w0:World} (hB:BookAt w0 b vr vg vm vs vc) (hK:KindsAt w0) (hO:BkOk b) (hr:∀ r∈b.rs,recAl b r=0) {s l:Nat} {A:World} {cl:List Int} (hA:HSt w0 b vr vg vm vs vc s l A cl) (hc:Came b cl) (hz:∀ k,b.ss.length≤k→cl.getD k 0=0)
 {J Jx:List (List Int)→World→Prop} {own:Nat→Prop} (hJ:∀ pre A B,J pre A→KS (fun k=>¬ own k) A B→J pre B) {done:List (List Int)} (hj:J done A) (hn:right b cl=true)
 {p:Nat→Prop} (hp0:∀ k,k < w0.heap.size→p k) (hps:∀ k,s≤k→k≤s+1+1+1→p k)
 (hY:∀ A,s+1+1+1 < A.heap.size→J done A→YieldAt Fence.wide 0 Tryz.prog l #[cameV cl] A fun e B=>(e=.returned (.bool true)∧J (done ++ [cl.take b.ss.length]) B∧KS p A B)∨(e=.returned (.bool false)∧Jx (done ++ [cl.take b.ss.length]) B)) :
 CallsIn Fence.wide 0 Tryz.prog 134 (nextArgs b.ss.length s) A (NextOut w0 b vr vg vm vs vc s l b.ss.length cl J Jx (done ++ [cl.take b.ss.length])):=by
 obtain ⟨c0,c1,c2,c3,rfl⟩:=four hA.len
 obtain ⟨sa,sc,rfl,hM,hl⟩:=hB.ss
 have hag:=fun (w':World) (hb:Below w0.heap.size w0 w')=>agrees_at (hB.below hb) (hK.below hb) hO hc rfl hr hn
 rw [show cameV [c0,c1,c2,c3]=.agg #[.int .i64 c0,.int .i64 c1,.int .i64 c2,.int .i64 c3] from rfl] at hag
 obtain ⟨f0,f1,f2,f3,f4,f5⟩:=hA.five
 have k0:=hA.c 0 (by omega)
 have k1:=hA.c 1 (by omega)
 have k2:=hA.c 2 (by omega)
 have k3:=hA.c 3 (by omega)
 simp only [List.getD_cons_zero,List.getD_cons_succ] at k0 k1 k2 k3
 have HA:=Hh hA
 have HJ:=Hh hJ
 have HJ0:=Hh hj
 have HZ:=Hh hz
 have HAG:=Hh hag
 clear hA hJ hj hz hag hB hK hO hr hc hn hM
 have hY2:=fun (w1:World) (hb1:Below A.heap.size A w1)=>hY w1 (Nat.lt_of_lt_of_le HA.out.lt hb1.size) (HJ.out _ _ _ HJ0.out (KS.all hb1 _))
 rw [show cameV [c0,c1,c2,c3]=.agg #[.int .i64 c0,.int .i64 c1,.int .i64 c2,.int .i64 c3] from rfl] at hY2
 have HY:=Hh hY2
 have HP0:=Hh hp0
 have HPS:=Hh hps
 have hyv:=HA.out.yv
 have hAlt:=HA.out.lt
 have hA1:s+1 < A.heap.size:=by omega
 have hA2:s+1+1 < A.heap.size:=by omega
 clear hY hY2 hp0 hps
 unfold nextArgs
 (refine callsIn_of_wp Tryz.func134 rfl trivial ?_ rfl;simp only [Tryz.ntmps134,List.size_toArray,List.length_cons,List.length_nil,Nat.reduceAdd,Nat.reduceSub,Array.replicate_succ,Array.replicate_zero,List.push_toArray,List.append_toArray,List.nil_append,List.cons_append])
 gi_wp2_with (gi_at_call 135;(with_reducible refine (callsIn_wide.2 (HAG.out _ HA.out.base)).mono ?_);rintro e w1 ⟨rfl,hb1⟩;obtain ⟨hcc,hcf⟩:=bcell hb1;have hz1:=hb1.size;obtain ⟨fn,tmps,assign,body,hy,hR⟩:=HY.out w1 hb1;have HR:=Hh hR;clear hR)
 refine HR.out.mono ?_
 rintro e W' (⟨rfl,hj',hk'⟩ | ⟨rfl,hjx⟩)
 ·gi_wp2
  go_ret
  exact .inl ⟨_,rfl,(HA.out.next hb1).keep hk' HP0.out HPS.out,rfl,HZ.out,hj'⟩
 ·gi_wp2
  go_ret
  exact .inr ⟨rfl,_,hjx⟩
end
end Go.Proofs.YtfggbepickdokaaGreatDoor
