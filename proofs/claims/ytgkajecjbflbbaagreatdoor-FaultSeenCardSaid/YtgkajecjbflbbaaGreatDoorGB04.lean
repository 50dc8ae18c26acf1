/- the fault laws -/
import Derived.Test.YtgkajecjbflbbaaGreatDoorGB03
import Derived.Conc.Walk
import Derived.Conc.SmallLaws
import Derived.Conc.LockTrace
set_option maxHeartbeats 200000
set_option maxRecDepth 100000
set_option linter.all false
namespace Go.Proofs.YtgkajecjbflbbaaGreatDoor
namespace Mt
open Go Go.Conc
abbrev Hold:=Nat->Option Obj
def Holds (w:World) (F:Hold):Prop:=∀ r o,F r=some o->w.heap[r]? = some o
def keyOf (F:Hold) (r:Nat):Prop:=∃ o,F r=some o
def Hold.set (F:Hold) (r:Nat) (o:Obj):Hold:=fun x=>if x=r then some o else F x
theorem Hold.set_same (F:Hold) (r:Nat) (o:Obj):F.set r o r=some o:=by simp [Hold.set]
theorem Hold.set_ne (F:Hold) {r x:Nat} (o:Obj) (h:x≠r):F.set r o x=F x:=by simp [Hold.set,h]
structure Meets (w:World) (own ro:Hold):Prop where
 mine:Holds w own
 shared:Holds w ro
 apart:∀ r o,own r=some o->ro r=none
theorem Holds.lt {w:World} {F:Hold} (h:Holds w F) {r:Nat} (hr:keyOf F r):r < w.heap.size:=by
 obtain ⟨o,hx⟩:=hr;exact (Array.getElem?_eq_some_iff.1 (h r o hx)).1
def EvOwn (own ro:Hold) (e:Event):Prop :=
 match e.loc with
 | .cell a=>e.sync=false/\(keyOf own a.block\/(e.write=false/\keyOf ro a.block))
 | .obj r=>e.sync=false/\(keyOf own r\/(e.write=false/\keyOf ro r))
 | .mark m=>m=.noRoom\/∃ f,m=.extern f
 | _=>False
structure Turn (ro own own':Hold) (w w':World) (es:Array Event):Prop where
 holds:Meets w' own' ro
 size:w.heap.size<=w'.heap.size
 kept:∀ r,r < w.heap.size->¬ keyOf own r->w'.heap[r]? = w.heap[r]?
 rest:w'.os=w.os/\w'.tape=w.tape/\w'.output=w.output
 keys:∀ r,keyOf own' r->keyOf own r\/w.heap.size<=r
 evs:∀ e∈es,EvOwn own' ro e
theorem Turn.idle {ro own:Hold} {w:World} (h:Meets w own ro):Turn ro own own w w #[] :=
 ⟨h,Nat.le_refl _,fun _ _ _=>rfl,⟨rfl,rfl,rfl⟩,fun _ h=>.inl h,by simp⟩
def IsG (g:Goroutine):Prop:=∃ fr cs,g=G fr cs
def Walk (P:Program) (main:Bool) (ro:Hold) (E:World->Prop) (Stop:Goroutine->Hold->Prop):Nat->Goroutine->Hold->Prop
 | 0,g,own=>Stop g own
 | n+1,g,own=>Stop g own\/(g.status=.running/\∀ w,Meets w own ro->E w->∃ g' w' es own',stepG P main g w=.go g' w' es/\Turn ro own own' w w' es/\IsG g'/\Walk P main ro E Stop n g' own')
section
variable {P:Program} {main:Bool} {ro:Hold} {E:World->Prop} {Stop:Goroutine->Hold->Prop}
theorem Walk.more {n:Nat} {g:Goroutine} {own:Hold} (h:Walk P main ro E Stop n g own):Walk P main ro E Stop (n+1) g own:=by
 induction n generalizing g own with
 | zero=>exact .inl h
 | succ n ih =>
  rcases h with h | ⟨hr,h⟩
  ·exact .inl h
  ·refine .inr ⟨hr,fun w hw hE=>?_⟩;obtain ⟨g',w',es,own',h1,h2,hG,h3⟩:=h w hw hE;exact ⟨g',w',es,own',h1,h2,hG,ih h3⟩
theorem Walk.mono {n n':Nat} {g:Goroutine} {own:Hold} (h:Walk P main ro E Stop n g own) (hn:n<=n'):Walk P main ro E Stop n' g own:=by
 induction hn with
 | refl=>exact h
 | step _ ih=>exact ih.more
def AfterW (P:Program) (main:Bool) (ro:Hold) (E:World->Prop) (Stop:Goroutine->Hold->Prop) (m:Nat) (b:Frame) (k:List Item) (cs:List Frame):Exit->Act->Hold->Prop
 | .normal,a,own=>Walk P main ro E Stop m (G (b.at a k) cs) own
 | .exit id,a,own=>∃ k',exitTo id k=some k'/\Walk P main ro E Stop m (G (b.at a k') cs) own
 | _,_,_=>False
end
def WC (P:Program) (main:Bool) (ro:Hold) (E:World->Prop) (c:Code) (n:Nat) (Q:Exit->Act->Hold->Prop) (a:Act) (own:Hold):Prop :=
 ∀ (b:Frame) (k:List Item) (cs:List Frame) (Stop:Goroutine->Hold->Prop) (m:Nat),b.kind≠.early->(∀ e a' own',Q e a' own'->AfterW P main ro E Stop m b k cs e a' own')->Walk P main ro E Stop (m+n) (G (b.at a (.code c::k)) cs) own
section
variable {P:Program} {main:Bool} {ro own:Hold} {E:World->Prop} {Q:Exit->Act->Hold->Prop} {a:Act}
end
theorem not_key {H:Hold} {r:Nat} (h:H r=none):¬ keyOf H r:=fun ⟨o,e⟩=>by rw [h] at e;cases e
theorem key_none {H:Hold} {r:Nat} (h:¬ keyOf H r):H r=none:=by
 cases e:H r with
 | none=>rfl
 | some o=>exact absurd ⟨o,e⟩ h
structure Stp (ro own own':Hold) (w w':World):Prop where
 holds:Meets w' own' ro
 size:w.heap.size<=w'.heap.size
 kept:∀ r,r < w.heap.size->¬ keyOf own r->w'.heap[r]? = w.heap[r]?
 rest:w'.os=w.os/\w'.tape=w.tape/\w'.output=w.output
 keys:∀ r,keyOf own' r->keyOf own r\/w.heap.size<=r
 keeps:∀ r,keyOf own r->keyOf own' r
section
variable {ro own own':Hold} {w w':World}
theorem Stp.refl (h:Meets w own ro):Stp ro own own w w:=⟨h,Nat.le_refl _,fun _ _ _=>rfl,⟨rfl,rfl,rfl⟩,fun _ h=>.inl h,fun _ h=>h⟩
theorem setCell_block {r k:Nat} {c:Array Value} {t:TypeId} {f:Nat × Nat} {v:Value} (h:w.heap[r]? = some (.cells c t f)):(w.setCell ⟨r,k,none⟩ v).heap[r]? = some (.cells (c.setIfInBounds k v) t f):=by
 unfold World.setCell;simp [Array.getElem?_modify,h]
theorem setCell_other {r k x:Nat} {v:Value} (h:x≠r):(w.setCell ⟨r,k,none⟩ v).heap[x]? = w.heap[x]? := by
 unfold World.setCell;simp [Array.getElem?_modify,Ne.symm h]
theorem key_set {F:Hold} {r:Nat} {o:Obj} (x:Nat):keyOf (F.set r o) x↔x=r\/keyOf F x:=by
 constructor
 ·rintro ⟨y,hy⟩;by_cases e:x=r
  ·exact .inl e
  ·rw [Hold.set_ne _ _ e] at hy;exact .inr ⟨y,hy⟩
 ·intro h;by_cases e:x=r
  ·subst e;exact ⟨o,Hold.set_same _ _ _⟩
  ·obtain ⟨y,hy⟩:=h.resolve_left e;exact ⟨y,by rw [Hold.set_ne _ _ e];exact hy⟩
theorem Stp.set (h:Stp ro own own' w w') {r k:Nat} {c:Array Value} {t:TypeId} {f:Nat × Nat} (hr:own' r=some (.cells c t f)) (v:Value) :
 Stp ro own (own'.set r (.cells (c.setIfInBounds k v) t f)) w (w'.setCell ⟨r,k,none⟩ v):=by
 have hne:∀ x o,ro x=some o->x≠r:=fun x o hx e=>by subst e;rw [h.holds.apart x _ hr] at hx;cases hx
 have hrk:keyOf own r\/w.heap.size<=r:=h.keys r ⟨_,hr⟩;refine ⟨⟨fun x o hx=>?_,fun x o hx=>?_,fun x o hx=>?_⟩,by simpa [World.setCell] using h.size,fun x hx hk=>?_,h.rest,fun x hx=>?_,fun x hx=>?_⟩
 ·by_cases e:x=r
  ·subst e;rw [Hold.set_same] at hx;cases hx;exact setCell_block (h.holds.mine _ _ hr)
  ·rw [Hold.set_ne _ _ e] at hx;rw [setCell_other e];exact h.holds.mine x o hx
 ·rw [setCell_other (hne x o hx)];exact h.holds.shared x o hx
 ·by_cases e:x=r
  ·subst e;exact h.holds.apart x _ hr
  ·rw [Hold.set_ne _ _ e] at hx;exact h.holds.apart x o hx
 ·by_cases e:x=r
  ·subst e;exact absurd hx (by rcases hrk with h1 | h1;exact absurd h1 hk;omega)
  ·rw [setCell_other e];exact h.kept x hx hk
 ·rcases (key_set x).1 hx with e | hx
  ·subst e;exact hrk
  ·exact h.keys x hx
 ·exact (key_set x).2 (.inr (h.keeps x hx))
theorem none_own (h:Meets w own ro):own w.heap.size=none/\ro w.heap.size=none:=by
 constructor
 ·cases hx:own w.heap.size with
  | none=>rfl
  | some o=>exact absurd (h.mine.lt ⟨o,hx⟩) (Nat.lt_irrefl _)
 ·cases hx:ro w.heap.size with
  | none=>rfl
  | some o=>exact absurd (h.shared.lt ⟨o,hx⟩) (Nat.lt_irrefl _)
theorem alloc_block {o:Obj}:(w.alloc o).heap[w.heap.size]? = some o:=by show (w.heap.push o)[w.heap.size]? = _;simp
theorem alloc_other {o:Obj} {x:Nat} (h:x < w.heap.size):(w.alloc o).heap[x]? = w.heap[x]? := by
 show (w.heap.push o)[x]? = _;rw [Array.getElem?_push,if_neg (by omega)]
theorem Stp.alloc (h:Stp ro own own' w w') (o:Obj):Stp ro own (own'.set w'.heap.size o) w (w'.alloc o):=by
 have hn:=none_own h.holds;have lt:∀ (F:Hold) x y,Holds w' F->F x=some y->x < w'.heap.size:=fun F x y hF hx=>hF.lt ⟨y,hx⟩;refine ⟨⟨fun x y hx=>?_,fun x y hx=>?_,fun x y hx=>?_⟩,by have:=h.size;simp;omega,fun x hx hk=>?_,h.rest,fun x hx=>?_,fun x hx=>?_⟩
 ·by_cases e:x=w'.heap.size
  ·subst e;rw [Hold.set_same] at hx;cases hx;exact alloc_block
  ·rw [Hold.set_ne _ _ e] at hx;rw [alloc_other (lt _ _ _ h.holds.mine hx)];exact h.holds.mine x y hx
 ·rw [alloc_other (lt _ _ _ h.holds.shared hx)];exact h.holds.shared x y hx
 ·by_cases e:x=w'.heap.size
  ·subst e;exact hn.2
  ·rw [Hold.set_ne _ _ e] at hx;exact h.holds.apart x y hx
 ·rw [alloc_other (Nat.lt_of_lt_of_le hx h.size)];exact h.kept x hx hk
 ·rcases (key_set x).1 hx with e | hx
  ·subst e;exact .inr h.size
  ·exact h.keys x hx
 ·exact (key_set x).2 (.inr (h.keeps x hx))
theorem EvOwn.mono {e:Event} (h:EvOwn own ro e) (hk:∀ r,keyOf own r->keyOf own' r):EvOwn own' ro e:=by
 obtain ⟨loc,wr,sy⟩:=e
 cases loc with
 | cell a=>exact ⟨h.1,h.2.imp_left (hk _)⟩
 | obj r=>exact ⟨h.1,h.2.imp_left (hk _)⟩
 | _=>exact h
end
section
variable {P:Program} {main:Bool} {ro own:Hold} {E:World->Prop} {Q:Act->Hold->Prop} {a:Act} {ops:Array Oper} {i:Nat} {rest:List Nat} {o:Oper} {n:Nat}
end
def fuel (N:Nat):Code->Nat
 | .seq x y=>fuel N x+fuel N y+1
 | .region _ ops _=>ops.size+1+1
 | .cond _ x y=>max (fuel N x) (fuel N y)+1
 | .block _ c=>fuel N c+2
 | .loop c=>(N+1) * (fuel N c+1)+1
 | _=>1
def WF (P:Program) (main:Bool) (ro:Hold) (E:World->Prop) (N:Nat) (c:Code) (Q:Exit->Act->Hold->Prop) (a:Act) (own:Hold):Prop:=WC P main ro E c (fuel N c) Q a own
section
variable {P:Program} {main:Bool} {ro own:Hold} {E:World->Prop} {N:Nat} {Q:Exit->Act->Hold->Prop} {a:Act}
end
end Mt
namespace Mt
open Go Go.Conc
open Go.ConcN (sumTo upd sumTo_upd upd_ne upd_same)
def blockOf:Loc->Option Nat
 | .cell a=>some a.block
 | .obj r=>some r
 | _=>none
theorem block_low {B:Nat} {l:Loc} {r:Nat} (h:l.low B) (hb:blockOf l=some r):r < B:=by
 cases l <;> first | (cases hb;exact h) | cases hb
theorem block_mem {l:Loc} {r:Nat} (h:blockOf l=some r):l.isMemory=true:=by
 cases l <;> first | rfl | cases h
theorem touch_low {t:Trace} {B i:Nat} {a:Touch} {r:Nat} (h:∀ op∈t,op.act.low B) (ha:touchAt t i=some a) (hb:blockOf a.loc=some r):r < B:=by
 obtain ⟨op,ho,hx⟩:=touch_of ha;have hl:=h op (mem_of_getElem? ho);generalize hact:op.act=act at hl hx
 cases act with
 | access e=>simp only [MemAct.touch?,Option.some.injEq] at hx;subst hx;exact block_low hl hb
 | mark m=>cases m <;> simp [MemAct.touch?] at hx <;> (subst hx;cases hb;exact hl)
 | _=>simp [MemAct.touch?] at hx
def Sep (Act:Nat->Prop) (own:Nat->Hold):Prop:=∀ g h r,Act g->Act h->keyOf (own g) r->keyOf (own h) r->g=h
def at0 (r:Nat):Addr:=⟨r,0,none⟩
structure MT (Mu Wg C:Nat) (D:Nat->Prop) (T0:Nat) (t:Trace) (B:Nat) (St Act:Nat->Prop) (own:Nat->Hold) (ro:Hold) (free:Bool):Prop where
 clean:∀ said,¬ Race said t
 mine:∀ i a r,touchAt t i=some a->blockOf a.loc=some r->∀ g,Act g->keyOf (own g) r->Knows t g i
 shared:∀ i a r,touchAt t i=some a->blockOf a.loc=some r->a.write=true->keyOf ro r->∀ g,Act g->Knows t g i
 sync:∀ i a r,touchAt t i=some a->blockOf a.loc=some r->r=Mu\/r=Wg->(a.kind≠.plain/\(a.kind=.said->t.g? i=some 0))\/∀ g,St g->Knows t g i
 loose:free=true->∀ i a,touchAt t i=some a->blockOf a.loc=some C->(∀ g,Act g->Knows t g i)\/∃ p,T0<=p/\t.act? p=some (.mark (.releaseMerge (at0 Mu)))/\t.heard p/\Before t i p
 known:∀ i a,touchAt t i=some a->a.loc.isMemory=true->Knows t 0 i\/(∃ g,g≠0/\Act g/\t.g? i=some g)\/((∃ x,a.loc=.cell x/\D x.block)/\a.kind=.atomic/\¬ t.heard i)\/∃ p,T0<=p/\t.act? p=some (.mark (.releaseMerge (at0 Wg)))/\t.heard p/\Before t i p
 norel:∀ k,T0<=k->t.act? k≠some (.mark (.release (at0 Mu)))/\t.act? k≠some (.mark (.release (at0 Wg)))
 seen:∀ op∈t,op.act.low B
structure Apt (Mu Wg C:Nat) (B:Nat) (St Act:Nat->Prop) (own:Nat->Hold) (ro:Hold) (free:Bool):Prop where
 st:∀ g,Act g->St g
 sep:Sep Act own
 ownS:∀ g,Act g->own g Mu=none/\own g Wg=none
 roS:ro Mu=none/\ro Wg=none
 ownRo:∀ g r,Act g->keyOf (own g) r->ro r=none
 lt:∀ g r,Act g->keyOf (own g) r->r < B
 ltC:C < B
 two:C≠Mu/\C≠Wg/\Mu≠Wg
 roC:ro C=none
 looseC:free=true->∀ g,Act g->own g C=none
section
variable {Mu Wg C:Nat} {D:Nat->Prop} {T0:Nat} {t:Trace} {B B':Nat} {St Act:Nat->Prop} {own:Nat->Hold} {ro:Hold} {free:Bool} {u:Trace} {g:Nat} {own':Hold}
theorem MT.app (A:Apt Mu Wg C B St Act own ro free) (h:MT Mu Wg C D T0 t B St Act own ro free) (hg:Act g) (hu:∀ op∈u,op.g=g)
 (ht:∀ op∈u,∀ b,op.act.touch? = some b->∃ r,blockOf b.loc=some r/\(((r=Mu\/r=Wg)/\b.kind≠.plain/\(b.kind=.said->g=0))\/keyOf own' r\/(b.write=false/\keyOf ro r)))
 (hk:∀ r,keyOf own' r->keyOf (own g) r\/B<=r) (ho:∀ r,keyOf own' r->ro r=none/\r≠Mu/\r≠Wg) (hl:∀ op∈u,op.act.low B') (hB:B<=B')
 (hr:∀ op∈u,op.act≠.mark (.release (at0 Mu))/\op.act≠.mark (.release (at0 Wg))):MT Mu Wg C D T0 (t ++ u) B' St Act (upd own g own') ro free:=by
 have hold:∀ i a r,touchAt t i=some a->blockOf a.loc=some r->keyOf own' r->Knows t g i:=fun i a r ha hr hx=>by
  rcases hk r hx with hx | hx
  ·exact h.mine i a r ha hr g hg hx
  ·exact absurd (touch_low h.seen ha hr) (by omega)
 have noC:free=true->∀ op∈u,∀ b,op.act.touch? = some b->blockOf b.loc≠some C:=fun hf op hop b hb e=>by
  obtain ⟨r,hr,hx⟩:=ht op hop b hb;rw [e] at hr;cases hr;rcases hx with ⟨hs,_⟩ | hx | ⟨_,hx⟩
  ·exact hs.elim A.two.1 A.two.2.1
  ·rcases hk C hx with hx | hx
   ·exact not_key (A.looseC hf g hg) hx
   ·exact absurd A.ltC (by omega)
  ·exact not_key A.roC hx
 refine ⟨fun said=>noRace_append (h.clean said) hu fun i a ha op hop b hb hc=>?_,fun i a r ha hr x hx hk'=>?_,fun i a r ha hr hw hk' x hx=>?_,fun i a r ha hr hsy=>?_,fun hf i a ha hc=>?_,fun i a ha hmem=>?_,fun k hk0=>?_,fun op hop=>?_⟩
 ·obtain ⟨r,hr,hx⟩:=ht op hop b hb;obtain ⟨hlc,_,hwr,hkd⟩:=hc;have hra:blockOf a.loc=some r:=by rw [hlc];exact hr
  rcases hx with ⟨hs,hbk,hb0⟩ | hx | ⟨hbw,hx⟩
  ·rcases h.sync i a r ha hra hs with ⟨h1,h2⟩ | hall
   rotate_left
   ·exact hall g (A.st g hg)
   rcases hkd with e | e | ⟨_,e1,e2⟩
   ·exact absurd e h1
   ·exact absurd e hbk
   ·have hg0:=h2 e1;obtain ⟨z,hz,_⟩:=touch_of ha;have:z.g=0:=by simpa [Trace.g?,hz] using hg0
    have hkn:=knows_own hz;rw [this,<- hb0 e2] at hkn;exact hkn
  ·exact hold i a r ha hra hx
  ·rcases hwr with hwr | hwr
   ·exact h.shared i a r ha hra hwr hx g hg
   ·rw [hbw] at hwr;cases hwr
 ·obtain ⟨op,ho',hox⟩:=touch_of ha;rcases getElem?_append_cases ho' with ⟨hi,ho2⟩ | ⟨hi,hou⟩
  ·have ha':touchAt t i=some a:=by rw [touchAt_of ho2];exact hox
   by_cases hxg:x=g
   ·subst hxg;rw [upd_same] at hk';exact (hold i a r ha' hr hk').app _
   ·rw [upd_ne _ _ hxg] at hk';exact (h.mine i a r ha' hr x hx hk').app _
  ·obtain ⟨r',hr',hkk⟩:=ht op hou a hox;obtain rfl:r=r':=by rw [hr] at hr';exact Option.some.inj hr'
   by_cases hxg:x=g
   ·subst hxg;have:=knows_own ho';rw [hu op hou] at this;exact this
   ·rw [upd_ne _ _ hxg] at hk';rcases hkk with ⟨hs,_⟩ | hkk | ⟨_,hkk⟩
    ·rcases hs with rfl | rfl
     ·exact absurd hk' (not_key (A.ownS x hx).1)
     ·exact absurd hk' (not_key (A.ownS x hx).2)
    ·rcases hk r hkk with hkk | hkk
     ·exact absurd (A.sep x g r hx hg hk' hkk) hxg
     ·exact absurd (A.lt x r hx hk') (by omega)
    ·exact absurd hkk (not_key (A.ownRo x r hx hk'))
 ·obtain ⟨op,ho',hox⟩:=touch_of ha;rcases getElem?_append_cases ho' with ⟨hi,ho2⟩ | ⟨hi,hou⟩
  ·exact (h.shared i a r (by rw [touchAt_of ho2];exact hox) hr hw hk' x hx).app _
  ·obtain ⟨r',hr',hkk⟩:=ht op hou a hox;obtain rfl:r=r':=by rw [hr] at hr';exact Option.some.inj hr'
   rcases hkk with ⟨hs,_⟩ | hkk | ⟨hkw,_⟩
   ·rcases hs with rfl | rfl
    ·exact absurd hk' (not_key A.roS.1)
    ·exact absurd hk' (not_key A.roS.2)
   ·exact absurd hk' (not_key (ho r hkk).1)
   ·rw [hkw] at hw;cases hw
 ·obtain ⟨op,ho',hox⟩:=touch_of ha;rcases getElem?_append_cases ho' with ⟨hi,ho2⟩ | ⟨hi,hou⟩
  ·rcases h.sync i a r (by rw [touchAt_of ho2];exact hox) hr hsy with ⟨h1,h2⟩ | hall
   ·exact .inl ⟨h1,fun e=>by rw [g?_old hi];exact h2 e⟩
   ·exact .inr fun x hx=>(hall x hx).app _
  ·obtain ⟨r',hr',hkk⟩:=ht op hou a hox;obtain rfl:r=r':=by rw [hr] at hr';exact Option.some.inj hr'
   rcases hkk with ⟨_,h1,h2⟩ | hkk | ⟨_,hkk⟩
   ·exact .inl ⟨h1,fun e=>by have:=h2 e;simp [Trace.g?,ho',hu op hou,this]⟩
   ·rcases hsy with rfl | rfl
    ·exact absurd rfl (ho _ hkk).2.1
    ·exact absurd rfl (ho _ hkk).2.2
   ·rcases hsy with rfl | rfl
    ·exact absurd hkk (not_key A.roS.1)
    ·exact absurd hkk (not_key A.roS.2)
 ·obtain ⟨op,ho',hox⟩:=touch_of ha;rcases getElem?_append_cases ho' with ⟨hi,ho2⟩ | ⟨hi,hou⟩
  ·rcases h.loose hf i a (by rw [touchAt_of ho2];exact hox) hc with hkn | ⟨p,h0,h1,h2,h3⟩
   ·exact .inl fun x hx=>(hkn x hx).app _
   ·have hp:=lt_of_act? h1;exact .inr ⟨p,h0,by rw [act?_old hp];exact h1,(heard_old hp).2 h2,h3.app _⟩
  ·exact absurd hc (noC hf op hou a hox)
 ·obtain ⟨op,ho',hox⟩:=touch_of ha;rcases getElem?_append_cases ho' with ⟨hi,ho2⟩ | ⟨hi,hou⟩
  ·rcases h.known i a (by rw [touchAt_of ho2];exact hox) hmem with hkn | ⟨x,hx0,hx,hxg⟩ | ⟨h1,h2,h3⟩ | ⟨p,h0,h1,h2,h3⟩
   ·exact .inl (hkn.app _)
   ·exact .inr (.inl ⟨x,hx0,hx,by rw [g?_old hi];exact hxg⟩)
   ·exact .inr (.inr (.inl ⟨h1,h2,fun e=>h3 ((heard_old hi).1 e)⟩))
   ·have hp:=lt_of_act? h1;exact .inr (.inr (.inr ⟨p,h0,by rw [act?_old hp];exact h1,(heard_old hp).2 h2,h3.app _⟩))
  ·by_cases hg0:g=0
   ·subst hg0;have:=knows_own ho';rw [hu op hou] at this;exact .inl this
   ·exact .inr (.inl ⟨g,hg0,hg,by simp [Trace.g?,ho',hu op hou]⟩)
 ·constructor
  ·intro e;obtain ⟨op,ho',hoa⟩:=Option.map_eq_some_iff.1 e;rcases getElem?_append_cases ho' with ⟨hi,ho2⟩ | ⟨hi,hou⟩
   ·exact (h.norel k hk0).1 (by rw [act?_of ho2,hoa])
   ·exact (hr op hou).1 hoa
  ·intro e;obtain ⟨op,ho',hoa⟩:=Option.map_eq_some_iff.1 e;rcases getElem?_append_cases ho' with ⟨hi,ho2⟩ | ⟨hi,hou⟩
   ·exact (h.norel k hk0).2 (by rw [act?_of ho2,hoa])
   ·exact (hr op hou).2 hoa
 ·rcases Array.mem_append.1 hop with hop | hop
  ·exact MemAct.low_mono hB (h.seen op hop)
  ·exact hl op hop
theorem MT.idle (A:Apt Mu Wg C B St Act own ro free) (hD:D Wg) (h:MT Mu Wg C D T0 t B St Act own ro free) (hg:¬ Act g) (hs:St g) (hu:∀ op∈u,op.g=g)
 (ht:∀ j op,u[j]? = some op->∀ b,op.act.touch? = some b->(∃ x,b.loc=.cell x/\x.block=Wg)/\b.kind=.atomic/\¬ (t ++ u).heard (t.size+j)) (hl:∀ op∈u,op.act.low B)
 (hr:∀ op∈u,op.act≠.mark (.release (at0 Mu))/\op.act≠.mark (.release (at0 Wg))):MT Mu Wg C D T0 (t ++ u) B St Act own ro free:=by
 have split:∀ i a,touchAt (t ++ u) i=some a->(touchAt t i=some a/\i < t.size)\/(t.size<=i/\blockOf a.loc=some Wg/\a.kind=.atomic/\¬ (t ++ u).heard i/\∃ x,a.loc=.cell x/\x.block=Wg):=fun i a ha=>by
  obtain ⟨op,ho',hox⟩:=touch_of ha;rcases getElem?_append_cases ho' with ⟨hi,ho2⟩ | ⟨hi,hou⟩
  ·exact .inl ⟨by rw [touchAt_of ho2];exact hox,hi⟩
  ·have hj:u[i - t.size]? = some op:=by rw [Array.getElem?_append_right hi] at ho';exact ho'
   have:=ht (i - t.size) op hj a hox;rw [show t.size+(i - t.size)=i by omega] at this;obtain ⟨⟨x,hx,hxb⟩,h2,h3⟩:=this;exact .inr ⟨hi,by rw [hx,<- hxb];rfl,h2,h3,x,hx,hxb⟩
 refine ⟨fun said=>noRace_append (h.clean said) hu fun i a ha op hop b hb hc=>?_,fun i a r ha hr x hx hk'=>?_,fun i a r ha hr hw hk' x hx=>?_,fun i a r ha hr hsy=>?_,fun hf i a ha hc=>?_,fun i a ha hmem=>?_,fun k hk0=>?_,fun op hop=>?_⟩
 ·obtain ⟨j,hj,rfl⟩:=Array.mem_iff_getElem.1 hop;obtain ⟨⟨y,hy,hyb⟩,hb2,_⟩:=ht j _ (Array.getElem?_eq_getElem hj) b hb;have hb1:blockOf b.loc=some Wg:=by rw [hy,<- hyb];rfl
  obtain ⟨hlc,_,_,hkd⟩:=hc;rcases h.sync i a Wg ha (by rw [hlc];exact hb1) (.inr rfl) with ⟨h1,h2⟩ | hall
  rotate_left
  ·exact hall g hs
  rcases hkd with e | e | ⟨_,_,e⟩
  ·exact absurd e h1
  ·rw [hb2] at e;cases e
  ·rw [hb2] at e;cases e
 ·rcases split i a ha with ⟨ha',_⟩ | ⟨_,hw,_⟩
  ·exact (h.mine i a r ha' hr x hx hk').app _
  ·rw [hw] at hr;cases hr;exact absurd hk' (not_key (A.ownS x hx).2)
 ·rcases split i a ha with ⟨ha',_⟩ | ⟨_,hw2,_⟩
  ·exact (h.shared i a r ha' hr hw hk' x hx).app _
  ·rw [hw2] at hr;cases hr;exact absurd hk' (not_key A.roS.2)
 ·rcases split i a ha with ⟨ha',hi⟩ | ⟨_,_,hk,_⟩
  ·rcases h.sync i a r ha' hr hsy with ⟨h1,h2⟩ | hall
   ·exact .inl ⟨h1,fun e=>by rw [g?_old hi];exact h2 e⟩
   ·exact .inr fun x hx=>(hall x hx).app _
  ·rw [hk];exact .inl ⟨by simp,by simp⟩
 ·rcases split i a ha with ⟨ha',_⟩ | ⟨_,hw,_⟩
  ·rcases h.loose hf i a ha' hc with hkn | ⟨p,h0,h1,h2,h3⟩
   ·exact .inl fun x hx=>(hkn x hx).app _
   ·have hp:=lt_of_act? h1;exact .inr ⟨p,h0,by rw [act?_old hp];exact h1,(heard_old hp).2 h2,h3.app _⟩
  ·rw [hw] at hc;exact absurd (Option.some.inj hc).symm A.two.2.1
 ·rcases split i a ha with ⟨ha',hi⟩ | ⟨_,hw,hk,hh,y,hy,hyb⟩
  ·rcases h.known i a ha' hmem with hkn | ⟨x,hx0,hx,hxg⟩ | ⟨h1,h2,h3⟩ | ⟨p,h0,h1,h2,h3⟩
   ·exact .inl (hkn.app _)
   ·exact .inr (.inl ⟨x,hx0,hx,by rw [g?_old hi];exact hxg⟩)
   ·exact .inr (.inr (.inl ⟨h1,h2,fun e=>h3 ((heard_old hi).1 e)⟩))
   ·have hp:=lt_of_act? h1;exact .inr (.inr (.inr ⟨p,h0,by rw [act?_old hp];exact h1,(heard_old hp).2 h2,h3.app _⟩))
  ·exact .inr (.inr (.inl ⟨⟨y,hy,by rw [hyb];exact hD⟩,hk,hh⟩))
 ·constructor
  ·intro e;obtain ⟨op,ho',hoa⟩:=Option.map_eq_some_iff.1 e;rcases getElem?_append_cases ho' with ⟨hi,ho2⟩ | ⟨hi,hou⟩
   ·exact (h.norel k hk0).1 (by rw [act?_of ho2,hoa])
   ·exact (hr op hou).1 hoa
  ·intro e;obtain ⟨op,ho',hoa⟩:=Option.map_eq_some_iff.1 e;rcases getElem?_append_cases ho' with ⟨hi,ho2⟩ | ⟨hi,hou⟩
   ·exact (h.norel k hk0).2 (by rw [act?_of ho2,hoa])
   ·exact (hr op hou).2 hoa
 ·exact (Array.mem_append.1 hop).elim (h.seen op) (hl op)
end
section
variable {Mu Wg C:Nat} {D:Nat->Prop} {T0:Nat} {t:Trace} {B B':Nat} {St Act:Nat->Prop} {own:Nat->Hold} {ro:Hold} {free:Bool} {u:Trace} {g:Nat} {own':Hold}
theorem upd_self' {α:Type} (f:Nat->α) (g:Nat):upd f g (f g)=f:=by
 funext x;by_cases e:x=g
 ·subst e;rw [upd_same]
 ·rw [upd_ne _ _ e]
theorem MT.still (A:Apt Mu Wg C B St Act own ro free) (hD:D Wg) (h:MT Mu Wg C D T0 t B St Act own ro free) (hs:St g) (hu:∀ op∈u,op.g=g) (hn:∀ op∈u,op.act.touch? = none) (hl:∀ op∈u,op.act.low B)
 (hr:∀ op∈u,op.act≠.mark (.release (at0 Mu))/\op.act≠.mark (.release (at0 Wg))):MT Mu Wg C D T0 (t ++ u) B St Act own ro free:=by
 by_cases hg:Act g
 ·have:=h.app A hg (own':=own g) hu (fun op hop b hb=>by rw [hn op hop] at hb;cases hb) (fun r hr=>.inl hr) (fun r hr=>⟨A.ownRo g r hg hr,fun e=>not_key (A.ownS g hg).1 (e ▸ hr),fun e=>not_key (A.ownS g hg).2 (e ▸ hr)⟩) hl (Nat.le_refl _) hr;rw [upd_self'] at this;exact this
 ·exact h.idle A hD hg hs hu (fun j op hop b hb=>by rw [hn op (mem_of_getElem? hop)] at hb;cases hb) hl hr
theorem old_one {z:MemOp} (hn:z.act.touch? = none) {i:Nat} {x:Touch} (hx:touchAt (t ++ #[z]) i=some x):touchAt t i=some x:=Go.ConcM.old_touch hn hx
theorem MT.acquire (A:Apt Mu Wg C B St Act own ro true) (hD:D Wg) (h:MT Mu Wg C D T0 t B St Act own ro true) {z:MemOp} (hg:Act z.g) (hz:z.act=.mark (.acquire (at0 Mu))) (hd:Deaf t z.g=0) (hB:Mu < B) (o:Obj) :
 MT Mu Wg C D T0 (t ++ #[z]) B St Act (upd own z.g ((own z.g).set C o)) ro false:=by
 have hn:z.act.touch? = none:=by rw [hz];rfl
 have h1:∀ op∈(#[z]:Array MemOp),op=z:=fun op hop=>by simpa using hop
 have hb:=h.still A hD (u:=#[z]) (g:=z.g) (A.st _ hg) (fun op hop=>by rw [h1 op hop]) (fun op hop=>by rw [h1 op hop];exact hn) (fun op hop=>by rw [h1 op hop,hz];exact hB) (fun op hop=>by rw [h1 op hop,hz];simp);have hq:(t ++ #[z])[t.size]? = some z:=by simp
 refine ⟨hb.clean,fun i a r ha hr x hx hk=>?_,hb.shared,hb.sync,(fun e=>by cases e),hb.known,hb.norel,hb.seen⟩;by_cases hxg:x=z.g
 ·subst hxg;rw [upd_same] at hk;by_cases hrC:r=C
  ·subst hrC;rcases h.loose rfl i a (old_one hn ha) hr with hkn | ⟨p,hp0,h1,h2,h3⟩
   ·exact (hkn _ hg).app _
   ·have hp:=lt_of_act? h1;have edge:HappensBefore (t ++ #[z]) p t.size:=.single (.inr ⟨.marked hp (.inr (by rw [act?_old hp];exact h1)) (by rw [act?_of hq,hz]) (fun k hk _=>(hb.norel k (by omega)).1),(heard_old hp).2 h2,
     ⟨z.g,by simp [Trace.g?],by rw [deaf_old (Nat.le_refl _)];exact hd⟩⟩)
    exact ⟨t.size,z,hq,rfl,.inr ((h3.app #[z]).hb edge)⟩
  ·obtain ⟨o',ho'⟩:=hk;rw [Hold.set_ne _ _ hrC] at ho';exact hb.mine i a r ha hr _ hx ⟨o',ho'⟩
 ·rw [upd_ne _ _ hxg] at hk;exact hb.mine i a r ha hr x hx hk
def Hold.del (F:Hold) (r:Nat):Hold:=fun x=>if x=r then none else F x
theorem Hold.del_same (F:Hold) (r:Nat):F.del r r=none:=by simp [Hold.del]
theorem Hold.del_ne (F:Hold) {r x:Nat} (h:x≠r):F.del r x=F x:=by simp [Hold.del,h]
theorem Hold.del_key {F:Hold} {r x:Nat} (h:keyOf (F.del r) x):x≠r/\keyOf F x:=by
 obtain ⟨o,ho⟩:=h;by_cases e:x=r
 ·subst e;rw [Hold.del_same] at ho;cases ho
 ·rw [Hold.del_ne _ e] at ho;exact ⟨e,o,ho⟩
theorem MT.release (A:Apt Mu Wg C B St Act own ro false) (hD:D Wg) (h:MT Mu Wg C D T0 t B St Act own ro false) {z:MemOp} (hg:Act z.g) (hC:keyOf (own z.g) C) (hz:z.act=.mark (.releaseMerge (at0 Mu))) (hd:Deaf t z.g=0) (hB:Mu < B) (hT:T0<=t.size) :
 MT Mu Wg C D T0 (t ++ #[z]) B St Act (upd own z.g ((own z.g).del C)) ro true:=by
 have hn:z.act.touch? = none:=by rw [hz];rfl
 have h1:∀ op∈(#[z]:Array MemOp),op=z:=fun op hop=>by simpa using hop
 have hb:=h.still A hD (u:=#[z]) (g:=z.g) (A.st _ hg) (fun op hop=>by rw [h1 op hop]) (fun op hop=>by rw [h1 op hop];exact hn) (fun op hop=>by rw [h1 op hop,hz];exact hB) (fun op hop=>by rw [h1 op hop,hz];simp);have hq:(t ++ #[z])[t.size]? = some z:=by simp
 refine ⟨hb.clean,fun i a r ha hr x hx hk=>?_,hb.shared,hb.sync,fun _ i a ha hc=>.inr ⟨t.size,hT,by rw [act?_of hq,hz],⟨z.g,by simp [Trace.g?],by rw [deaf_old (Nat.le_refl _)];exact hd⟩,.inr ?_⟩,hb.known,hb.norel,hb.seen⟩
 ·by_cases hxg:x=z.g
  ·subst hxg;rw [upd_same] at hk;exact hb.mine i a r ha hr _ hx (Hold.del_key hk).2
  ·rw [upd_ne _ _ hxg] at hk;exact hb.mine i a r ha hr x hx hk
 ·exact (h.mine i a C (old_one hn ha) hc z.g hg hC).hb_new (Nat.le_refl _) hq rfl
theorem MT.part (A:Apt Mu Wg C B St Act own ro free) (hD:D Wg) (h:MT Mu Wg C D T0 t B St Act own ro free) {z:MemOp} (hg:Act z.g) (hz:z.act=.mark (.releaseMerge (at0 Wg))) (hd:Deaf t z.g=0) (hB:Wg < B) (hT:T0<=t.size) :
 MT Mu Wg C D T0 (t ++ #[z]) B St (fun x=>Act x/\x≠z.g) own ro free:=by
 have hn:z.act.touch? = none:=by rw [hz];rfl
 have h1:∀ op∈(#[z]:Array MemOp),op=z:=fun op hop=>by simpa using hop
 have hb:=h.still A hD (u:=#[z]) (g:=z.g) (A.st _ hg) (fun op hop=>by rw [h1 op hop]) (fun op hop=>by rw [h1 op hop];exact hn) (fun op hop=>by rw [h1 op hop,hz];exact hB) (fun op hop=>by rw [h1 op hop,hz];simp);have hq:(t ++ #[z])[t.size]? = some z:=by simp
 refine ⟨hb.clean,fun i a r ha hr x hx=>hb.mine i a r ha hr x hx.1,fun i a r ha hr hw hk x hx=>hb.shared i a r ha hr hw hk x hx.1,hb.sync,fun hf i a ha hc=>(hb.loose hf i a ha hc).imp_left fun hk x hx=>hk x hx.1,fun i a ha hm=>?_,hb.norel,hb.seen⟩;rcases hb.known i a ha hm with hk | ⟨x,hx0,hx,hxg⟩ | hk | hk
 ·exact .inl hk
 ·by_cases e:x=z.g
  ·subst e;obtain ⟨op,ho,hox⟩:=touch_of ha;have hog:op.g=z.g:=by
    have h9:=hxg;unfold Trace.g? at h9;rw [ho] at h9;simpa using h9
   have hi:i < t.size:=by
    rcases getElem?_append_cases ho with ⟨hi,_⟩ | ⟨hi,hou⟩
    ·exact hi
    ·rw [h1 op hou,hn] at hox;cases hox
   refine .inr (.inr (.inr ⟨t.size,hT,by rw [act?_of hq,hz],⟨z.g,by simp [Trace.g?],by rw [deaf_old (Nat.le_refl _)];exact hd⟩,.inr ?_⟩));have ho2:t[i]? = some op:=by rw [<- getElem?_append_old (u:=#[z]) hi];exact ho
   have:=knows_own ho2;rw [hog] at this;exact this.hb_new (Nat.le_refl _) hq rfl
  ·exact .inr (.inl ⟨x,hx0,⟨hx,e⟩,hxg⟩)
 ·exact .inr (.inr (.inl hk))
 ·exact .inr (.inr (.inr hk))
theorem MT.join (A:Apt Mu Wg C B St Act own ro free) (hD:D Wg) (h:MT Mu Wg C D T0 t B St Act own ro free) (hA:∀ x,Act x->x=0) (h0:Act 0) {z:MemOp} (hg:z.g=0) (hz:z.act=.mark (.acquire (at0 Wg))) (hd:Deaf t 0=0) (hB:Wg < B) :
 MT Mu Wg C D T0 (t ++ #[z]) B St Act own ro free/\∀ i a,touchAt (t ++ #[z]) i=some a->a.loc.isMemory=true->Knows (t ++ #[z]) 0 i\/((∃ x,a.loc=.cell x/\D x.block)/\a.kind=.atomic/\¬ (t ++ #[z]).heard i):=by
 have hn:z.act.touch? = none:=by rw [hz];rfl
 have h1:∀ op∈(#[z]:Array MemOp),op=z:=fun op hop=>by simpa using hop
 have hb:=h.still A hD (u:=#[z]) (g:=z.g) (hg ▸ A.st _ h0) (fun op hop=>by rw [h1 op hop]) (fun op hop=>by rw [h1 op hop];exact hn) (fun op hop=>by rw [h1 op hop,hz];exact hB) (fun op hop=>by rw [h1 op hop,hz];simp);have hq:(t ++ #[z])[t.size]? = some z:=by simp
 refine ⟨hb,fun i a ha hm=>?_⟩;have ha':=old_one hn ha;have hi:i < t.size:=by
  obtain ⟨op,ho,_⟩:=touch_of ha';exact (Array.getElem?_eq_some_iff.1 ho).1
 rcases h.known i a ha' hm with hk | ⟨x,hx0,hx,hxg⟩ | ⟨k1,k2,k3⟩ | ⟨p,hp0,h1,h2,h3⟩
 ·exact .inl (hk.app _)
 ·exact absurd (hA x hx) hx0
 ·exact .inr ⟨k1,k2,fun e=>k3 ((heard_old hi).1 e)⟩
 ·have hp:=lt_of_act? h1;have edge:HappensBefore (t ++ #[z]) p t.size:=.single (.inr ⟨.marked hp (.inr (by rw [act?_old hp];exact h1)) (by rw [act?_of hq,hz]) (fun k hk _=>(hb.norel k (by omega)).2),(heard_old hp).2 h2,
   ⟨0,by simp [Trace.g?,hg],by rw [deaf_old (Nat.le_refl _)];exact hd⟩⟩)
  exact .inl ⟨t.size,z,hq,hg,.inr ((h3.app #[z]).hb edge)⟩
theorem past_of_known (hc:∀ said,¬ Race said t) (hk:∀ i a,touchAt t i=some a->a.loc.isMemory=true->Knows t 0 i\/((∃ x,a.loc=.cell x/\D x.block)/\a.kind=.atomic/\¬ t.heard i)) (hd:Deaf t 0=0) (hs:∀ op∈t,op.act.low B):Past (shunD D) B t:=by
 refine ⟨hc,fun i a ha hm=>?_,fun i g hg hne hcnt=>?_,hd,hs⟩
 ·exact (hk i a ha hm).imp_right fun h=>⟨h.1,h.2.1⟩
 ·obtain ⟨x,hx,hm,hor⟩:=hcnt;rcases hk i x hx hm with hk | ⟨_,h2,h3⟩
  ·obtain ⟨q,z,hz,hzg,hb⟩:=hk;rcases hb with rfl | hb
   ·simp [Trace.g?,hz,hzg] at hg;exact absurd hg.symm hne
   ·exact ⟨q,by simp [Trace.g?,hz,hzg],hb⟩
  ·rcases hor with e | e
   ·exact absurd h2 e
   ·exact absurd e h3
end
section
variable {Mu Wg C:Nat} {D:Nat->Prop} {T0:Nat} {t:Trace} {B B':Nat} {St Act:Nat->Prop} {own:Nat->Hold} {ro:Hold} {free:Bool} {u:Trace} {g:Nat} {own':Hold}
def forkOps (n:Nat) (f1 f2:FuncId) (p1 p2:String):Trace:=#[{ g:=0,fn:=f1,pos:=p1,act:=.go n },{ g:=n,fn:=f2,pos:=p2,act:=.start }]
theorem fork_none {n:Nat} {f1 f2:FuncId} {p1 p2:String}:∀ op∈forkOps n f1 f2 p1 p2,op.act.touch? = none/\op.act.low B/\∀ m,op.act≠.mark m:=fun op hop=>by
 simp only [forkOps,List.mem_toArray,List.mem_cons,List.not_mem_nil,or_false] at hop;rcases hop with rfl | rfl <;> exact ⟨rfl,trivial,by simp⟩
theorem fork_tells {n i:Nat} {f1 f2:FuncId} {p1 p2:String} (h0:Deaf t 0=0) (hn:Deaf t n=0) (hk:Knows t 0 i):Knows (t ++ forkOps n f1 f2 p1 p2) n i :=
 Go.ConcN.fork_knows (x:={ g:=0,fn:=f1,pos:=p1,act:=.go n }) (y:={ g:=n,fn:=f2,pos:=p2,act:=.start }) ⟨rfl,rfl⟩ ⟨rfl,rfl⟩ h0 hn hk
theorem MT.fork (A:Apt Mu Wg C B St Act own ro free) (h:MT Mu Wg C D T0 t B St Act own ro free) (ha0:Act 0) {n:Nat} (hnA:¬ St n) (h0:Deaf t 0=0) (hd:Deaf t n=0) {H K:Hold} (hH:∀ r,keyOf H r->keyOf (own 0) r) (hK:∀ r,keyOf K r->keyOf (own 0) r) (f1 f2:FuncId) (p1 p2:String) :
 MT Mu Wg C D T0 (t ++ forkOps n f1 f2 p1 p2) B (fun x=>St x\/x=n) (fun x=>Act x\/x=n) (upd (upd own 0 K) n H) ro free:=by
 have hn0:n≠0:=fun e=>hnA (e ▸ A.st 0 ha0);have tell:∀ i,Knows t 0 i->Knows (t ++ forkOps n f1 f2 p1 p2) n i:=fun i hk=>fork_tells h0 hd hk;have old:∀ i a,touchAt (t ++ forkOps n f1 f2 p1 p2) i=some a->touchAt t i=some a/\i < t.size:=fun i a ha=>by
  obtain ⟨op,ho,hox⟩:=touch_of ha;rcases getElem?_append_cases ho with ⟨hi,ho2⟩ | ⟨hi,hou⟩
  ·exact ⟨by rw [touchAt_of ho2];exact hox,hi⟩
  ·rw [(fork_none (B:=B) op hou).1] at hox;cases hox
 refine ⟨fun said=>?_,fun i a r ha hr g hg hk=>?_,fun i a r ha hr hw hk g hg=>?_,fun i a r ha hr hs=>?_,fun hf i a ha hc=>?_,fun i a ha hm=>?_,fun k hk=>?_,fun op hop=>?_⟩
 ·have e:t ++ forkOps n f1 f2 p1 p2=(t ++ #[{ g:=0,fn:=f1,pos:=p1,act:=.go n }]) ++ #[{ g:=n,fn:=f2,pos:=p2,act:=.start }]:=by apply Array.ext';simp [forkOps]
  rw [e];exact noRace_append (g:=n) (noRace_append (g:=0) (h.clean said) (fun op hop=>by simp at hop;rw [hop]) (fun i a _ op hop b hb _=>by simp at hop;subst hop;cases hb)) (fun op hop=>by simp at hop;rw [hop]) (fun i a _ op hop b hb _=>by simp at hop;subst hop;cases hb)
 ·obtain ⟨ha',_⟩:=old i a ha;by_cases hgn:g=n
  ·subst hgn;rw [upd_same] at hk;exact tell i (h.mine i a r ha' hr 0 ha0 (hH r hk))
  ·rw [upd_ne _ _ hgn] at hk;by_cases hg0:g=0
   ·subst hg0;rw [upd_same] at hk;exact (h.mine i a r ha' hr 0 ha0 (hK r hk)).app _
   ·rw [upd_ne _ _ hg0] at hk;exact (h.mine i a r ha' hr g (hg.resolve_right hgn) hk).app _
 ·obtain ⟨ha',_⟩:=old i a ha;by_cases hgn:g=n
  ·subst hgn;exact tell i (h.shared i a r ha' hr hw hk 0 ha0)
  ·exact (h.shared i a r ha' hr hw hk g (hg.resolve_right hgn)).app _
 ·obtain ⟨ha',hi⟩:=old i a ha;rcases h.sync i a r ha' hr hs with ⟨h1,h2⟩ | hall
  ·exact .inl ⟨h1,fun e=>by rw [g?_old hi];exact h2 e⟩
  ·refine .inr fun g hg=>?_;by_cases hgn:g=n
   ·subst hgn;exact tell i (hall 0 (A.st 0 ha0))
   ·exact (hall g (hg.resolve_right hgn)).app _
 ·obtain ⟨ha',hi⟩:=old i a ha;rcases h.loose hf i a ha' hc with hkn | ⟨p,hp0,h1,h2,h3⟩
  ·refine .inl fun g hg=>?_;by_cases hgn:g=n
   ·subst hgn;exact tell i (hkn 0 ha0)
   ·exact (hkn g (hg.resolve_right hgn)).app _
  ·have hp:=lt_of_act? h1;exact .inr ⟨p,hp0,by rw [act?_old hp];exact h1,(heard_old hp).2 h2,h3.app _⟩
 ·obtain ⟨ha',hi⟩:=old i a ha;rcases h.known i a ha' hm with hkn | ⟨x,hx0,hx,hxg⟩ | ⟨h1,h2,h3⟩ | ⟨p,hp0,h1,h2,h3⟩
  ·exact .inl (hkn.app _)
  ·exact .inr (.inl ⟨x,hx0,.inl hx,by rw [g?_old hi];exact hxg⟩)
  ·exact .inr (.inr (.inl ⟨h1,h2,fun e=>h3 ((heard_old hi).1 e)⟩))
  ·have hp:=lt_of_act? h1;exact .inr (.inr (.inr ⟨p,hp0,by rw [act?_old hp];exact h1,(heard_old hp).2 h2,h3.app _⟩))
 ·have key:∀ m,(t ++ forkOps n f1 f2 p1 p2).act? k=some (.mark m)->t.act? k=some (.mark m):=fun m e=>by
   obtain ⟨op,ho,hoa⟩:=Option.map_eq_some_iff.1 e;rcases getElem?_append_cases ho with ⟨hi,ho2⟩ | ⟨hi,hou⟩
   ·rw [act?_of ho2,hoa]
   ·exact absurd hoa ((fork_none (B:=B) op hou).2.2 m)
  exact ⟨fun e=>(h.norel k hk).1 (key _ e),fun e=>(h.norel k hk).2 (key _ e)⟩
 ·exact (Array.mem_append.1 hop).elim (h.seen op) fun hop=>(fork_none op hop).2.1
theorem MT.begin {D0:Nat->Prop} (hp:Past (shunD D0) B t) (hDD:∀ r,D0 r->D r) {own:Nat->Hold} (h1:∀ r,keyOf (own 0) r->¬ D0 r) (h2:∀ r,keyOf ro r->¬ D0 r) (hM:¬ D0 Mu) (hW:¬ D0 Wg) (hC:¬ D0 C) :
 MT Mu Wg C D t.size t B (·=0) (·=0) own ro free:=by
 have kn:∀ i a r,touchAt t i=some a->blockOf a.loc=some r->¬ D0 r->Knows t 0 i:=fun i a r ha hr hd=>by
  rcases hp.known i a ha (block_mem hr) with h | ⟨⟨x,hx,hxd⟩,_⟩
  ·exact h
  ·rw [hx] at hr;cases hr;exact absurd hxd hd
 refine ⟨hp.clean,fun i a r ha hr g hg hk=>hg ▸ kn i a r ha hr (h1 r (hg ▸ hk)),fun i a r ha hr hw hk g hg=>hg ▸ kn i a r ha hr (h2 r hk),fun i a r ha hr hs=>.inr fun g hg=>hg ▸ kn i a r ha hr ?_,fun hf i a ha hc=>.inl fun g hg=>hg ▸ kn i a C ha hc hC,fun i a ha hm=>?_,fun k hk=>?_,hp.seen⟩
 ·rcases hs with rfl | rfl
  ·exact hM
  ·exact hW
 ·rcases hp.known i a ha hm with h | ⟨⟨x,hx,hxd⟩,hka⟩
  ·exact .inl h
  ·by_cases hh:t.heard i
   ·obtain ⟨op,ho,hox⟩:=touch_of ha;by_cases hg:op.g=0
    ·have:=knows_own ho;rw [hg] at this;exact .inl this
    ·obtain ⟨j,hj,hb⟩:=hp.over i op.g (by simp [Trace.g?,ho]) hg ⟨a,ha,hm,.inr hh⟩;obtain ⟨z,hz,hzg⟩:=Option.map_eq_some_iff.1 (show t[j]?.map (·.g)=some 0 from hj);exact .inl ⟨j,z,hz,hzg,.inr hb⟩
   ·exact .inr (.inr (.inl ⟨⟨x,hx,hDD _ hxd⟩,hka,hh⟩))
 ·constructor <;> (intro e;have:=lt_of_act? e;omega)
theorem EvOwn.norel {own ro:Hold} {e:Event} (h:EvOwn own ro e) (a:Addr):MemAct.ofEvent e≠.mark (.release a):=by
 obtain ⟨loc,wr,sy⟩:=e
 cases loc with
 | mark m=>rcases h with rfl | ⟨f,rfl⟩ <;> (intro e;cases e)
 | cell a=>intro e;cases e
 | obj r=>cases wr <;> cases sy <;> (intro e;cases e)
 | _=>exact h.elim
theorem EvOwn.touch {own ro:Hold} {e:Event} {b:Touch} (h:EvOwn own ro e) (hb:(MemAct.ofEvent e).touch? = some b):∃ r,blockOf b.loc=some r/\(keyOf own r\/(b.write=false/\keyOf ro r)):=by
 obtain ⟨loc,wr,sy⟩:=e
 cases loc with
 | cell a =>
  obtain ⟨_,h⟩:=h;have hb:some (⟨.cell a,wr,if sy then .atomic else .plain⟩:Touch)=some b:=hb;cases hb;exact ⟨a.block,rfl,h⟩
 | obj r =>
  obtain ⟨hs,h⟩:=h;have hs:sy=false:=hs;subst hs;cases wr <;> (cases hb;exact ⟨r,rfl,h⟩)
 | mark m =>
  rcases h with rfl | ⟨f,rfl⟩ <;> cases hb
 | _=>exact h.elim
theorem EvOwn.calm {own ro:Hold} {e:Event} (h:EvOwn own ro e):e.loc≠.mark .disable/\e.loc≠.mark .enable:=by
 obtain ⟨loc,wr,sy⟩:=e;constructor <;> (rintro rfl;rcases h with h | ⟨f,h⟩ <;> cases h)
theorem EvOwn.low {own ro:Hold} {e:Event} {B:Nat} (h:EvOwn own ro e) (ho:∀ r,keyOf own r->r < B) (hr:∀ r,keyOf ro r->r < B):(MemAct.ofEvent e).low B:=by
 obtain ⟨loc,wr,sy⟩:=e
 cases loc with
 | cell a =>
  obtain ⟨_,h⟩:=h;show a.block < B;rcases h with h | ⟨_,h⟩
  ·exact ho _ h
  ·exact hr _ h
 | obj r =>
  obtain ⟨hs,h⟩:=h;have hs:sy=false:=hs;subst hs;have:r < B:=by
   rcases h with h | ⟨_,h⟩
   ·exact ho _ h
   ·exact hr _ h
  cases wr <;> exact this
 | mark m =>
  rcases h with rfl | ⟨f,rfl⟩ <;> trivial
 | _=>exact h.elim
theorem MT.turn {w w':World} {es:Array Event} {roT:Hold} (A:Apt Mu Wg C w.heap.size St Act own ro free) (h:MT Mu Wg C D T0 t w.heap.size St Act own ro free) (hg:Act g) (hro:∀ r,keyOf roT r->keyOf ro r) (hsy:Mu < w.heap.size/\Wg < w.heap.size)
 (hap:∀ r,keyOf own' r->ro r=none) (hlow:∀ r,keyOf ro r->r < w.heap.size) (ht:Turn roT (own g) own' w w' es) (fn:FuncId) (pos:String):MT Mu Wg C D T0 (t ++ MemOp.ofEvents g fn pos es) w'.heap.size St Act (upd own g own') ro free:=by
 refine h.app A hg (fun op hop=>by obtain ⟨e,_,rfl⟩:=Go.Conc.mem_ofEvents hop;rfl) (fun op hop b hb=>?_) ht.keys (fun r hr=>⟨hap r hr,fun e=>?_,fun e=>?_⟩) (fun op hop=>?_) ht.size (fun op hop=>?_)
 ·obtain ⟨e,he,rfl⟩:=Go.Conc.mem_ofEvents hop;obtain ⟨r,hr,hk⟩:=(ht.evs e he).touch hb;exact ⟨r,hr,.inr (hk.imp_right fun x=>⟨x.1,hro r x.2⟩)⟩
 ·subst e;rcases ht.keys _ hr with hk | hk
  ·exact not_key (A.ownS g hg).1 hk
  ·omega
 ·subst e;rcases ht.keys _ hr with hk | hk
  ·exact not_key (A.ownS g hg).2 hk
  ·omega
 ·obtain ⟨e,he,rfl⟩:=Go.Conc.mem_ofEvents hop;exact (ht.evs e he).low (fun r hr=>ht.holds.mine.lt hr) fun r hr=>Nat.lt_of_lt_of_le (hlow r (hro r hr)) ht.size
 ·obtain ⟨e,he,rfl⟩:=Go.Conc.mem_ofEvents hop;exact ⟨(ht.evs e he).norel _,(ht.evs e he).norel _⟩
def Bk (Mu Wg:Nat) (main:Bool) (e:Event):Prop:=e.loc=.mark .disable\/e.loc=.mark .enable\/(∃ a x,e=⟨.cell a,x,true⟩/\(a.block=Mu\/a.block=Wg))\/(main=true/\∃ a,a.block=Wg/\(e.loc=.mark (.read a)\/e.loc=.mark (.write a)))
theorem Bk.norel {main:Bool} {e:Event} (h:Bk Mu Wg main e) (a:Addr):MemAct.ofEvent e≠.mark (.release a):=by
 obtain ⟨loc,wr,sy⟩:=e;rcases h with h | h | ⟨b,x,h,_⟩ | ⟨_,b,_,h | h⟩ <;> cases h <;> (intro e;cases e)
theorem Bk.low {main:Bool} {e:Event} (h:Bk Mu Wg main e) (h1:Mu < B) (h2:Wg < B):(MemAct.ofEvent e).low B:=by
 obtain ⟨loc,wr,sy⟩:=e;rcases h with h | h | ⟨b,x,h,hb⟩ | ⟨_,b,hb,h | h⟩ <;> cases h
 ·trivial
 ·trivial
 ·show b.block < B;rcases hb with e | e <;> omega
 ·show b.block < B;omega
 ·show b.block < B;omega
theorem Bk.touch {main:Bool} {e:Event} {b:Touch} (h:Bk Mu Wg main e) (hb:(MemAct.ofEvent e).touch? = some b):∃ r,blockOf b.loc=some r/\(r=Mu\/r=Wg)/\b.kind≠.plain/\(b.kind=.said->main=true):=by
 obtain ⟨loc,wr,sy⟩:=e;rcases h with h | h | ⟨a,x,h,ha⟩ | ⟨hm,a,ha,h | h⟩ <;> cases h
 ·cases hb
 ·cases hb
 ·have hb:some (⟨.cell a,wr,.atomic⟩:Touch)=some b:=hb;cases hb;exact ⟨a.block,rfl,ha,by simp,by simp⟩
 ·have hb:some (⟨.cell a,false,.said⟩:Touch)=some b:=hb;cases hb;exact ⟨a.block,rfl,.inr ha,by simp,fun _=>hm⟩
 ·have hb:some (⟨.cell a,true,.said⟩:Touch)=some b:=hb;cases hb;exact ⟨a.block,rfl,.inr ha,by simp,fun _=>hm⟩
theorem MT.book {es:Array Event} (A:Apt Mu Wg C B St Act own ro free) (h:MT Mu Wg C D T0 t B St Act own ro free) (hg:Act g) (hB:Mu < B/\Wg < B) (he:∀ e∈es,Bk Mu Wg (g == 0) e) (fn:FuncId) (pos:String):MT Mu Wg C D T0 (t ++ MemOp.ofEvents g fn pos es) B St Act own ro free:=by
 have:=h.app A hg (own':=own g) (u:=MemOp.ofEvents g fn pos es) (B':=B) (fun op hop=>by obtain ⟨e,_,rfl⟩:=Go.Conc.mem_ofEvents hop;rfl) (fun op hop b hb=>by
  obtain ⟨e,hx,rfl⟩:=Go.Conc.mem_ofEvents hop
  obtain ⟨r,h1,h2,h3,h4⟩:=(he e hx).touch hb
  exact ⟨r,h1,.inl ⟨h2,h3,fun x=>by simpa using h4 x⟩⟩) (fun r hr=>.inl hr) (fun r hr=>⟨A.ownRo g r hg hr,fun e=>not_key (A.ownS g hg).1 (e ▸ hr),fun e=>not_key (A.ownS g hg).2 (e ▸ hr)⟩)
  (fun op hop=>by obtain ⟨e,hx,rfl⟩:=Go.Conc.mem_ofEvents hop;exact (he e hx).low hB.1 hB.2) (Nat.le_refl _) (fun op hop=>by obtain ⟨e,hx,rfl⟩:=Go.Conc.mem_ofEvents hop;exact ⟨(he e hx).norel _,(he e hx).norel _⟩)
 rw [upd_self'] at this;exact this
theorem heard_new {es:Array Event} {fn:FuncId} {pos:String} {j:Nat} {e:Event} (hj:es[j]? = some e) (hd:0 < deafBehind (Deaf t g) (es.extract 0 j)):¬ (t ++ MemOp.ofEvents g fn pos es).heard (t.size+j):=by
 have hlt:j < es.size:=(Array.getElem?_eq_some_iff.1 hj).1;have hsp:MemOp.ofEvents g fn pos es=MemOp.ofEvents g fn pos (es.extract 0 j) ++ MemOp.ofEvents g fn pos (es.extract j es.size):=by
  simp only [ofEvents_eq];rw [<- Array.map_append];congr 1;have:max j es.size=es.size:=by omega
  simp [this]
 rintro ⟨g',hg',h0⟩;have hsz:(t ++ MemOp.ofEvents g fn pos (es.extract 0 j)).size=t.size+j:=by
  simp only [ofEvents_eq,Array.size_append,Array.size_map,Array.size_extract];omega
 have hgg:g'=g:=by
  unfold Trace.g? at hg';rw [Array.getElem?_append_right (Nat.le_add_right _ _),ofEvents_eq,Nat.add_sub_cancel_left,Array.getElem?_map,hj] at hg';simp at hg';exact hg'.symm
 subst hgg;rw [hsp,<- Array.append_assoc,deaf_old (by rw [hsz];exact Nat.le_refl _)] at h0;have:Deaf (t ++ MemOp.ofEvents g' fn pos (es.extract 0 j)) g'=0:=by
  unfold Deaf;rw [hsz];exact h0
 rw [Deaf_own] at this;omega
theorem MT.idleBook {es:Array Event} (A:Apt Mu Wg C B St Act own ro free) (hD:D Wg) (h:MT Mu Wg C D T0 t B St Act own ro free) (hg:¬ Act g) (hs:St g) (hB:Mu < B/\Wg < B) (he:∀ e∈es,Bk Wg Wg false e)
 (hh:∀ j e,es[j]? = some e->(MemAct.ofEvent e).touch? = none\/0 < deafBehind (Deaf t g) (es.extract 0 j)) (fn:FuncId) (pos:String):MT Mu Wg C D T0 (t ++ MemOp.ofEvents g fn pos es) B St Act own ro free:=by
 refine h.idle A hD hg hs (fun op hop=>by obtain ⟨e,_,rfl⟩:=Go.Conc.mem_ofEvents hop;rfl) (fun j op hop b hb=>?_) (fun op hop=>by obtain ⟨e,hx,rfl⟩:=Go.Conc.mem_ofEvents hop;exact (he e hx).low hB.2 hB.2) (fun op hop=>by obtain ⟨e,hx,rfl⟩:=Go.Conc.mem_ofEvents hop;exact ⟨(he e hx).norel _,(he e hx).norel _⟩);have hj:∃ e,es[j]? = some e/\op={ g,fn,pos,act:=.ofEvent e }:=by
  rw [ofEvents_eq,Array.getElem?_map] at hop;obtain ⟨e,h1,h2⟩:=Option.map_eq_some_iff.1 hop;exact ⟨e,h1,h2.symm⟩
 obtain ⟨e,hj,rfl⟩:=hj;have hd:=(hh j e hj).resolve_left fun x=>by simp only at hb;rw [x] at hb;cases hb
 have hnh:=heard_new (fn:=fn) (pos:=pos) hj hd;have hx:=he e (Array.mem_of_getElem? hj);obtain ⟨loc,wr,sy⟩:=e;rcases hx with hx | hx | ⟨a,x,hx,ha⟩ | ⟨hm,_⟩
 ·cases hx;cases hb
 ·cases hx;cases hb
 ·cases hx;have hb:some (⟨.cell a,wr,.atomic⟩:Touch)=some b:=hb;cases hb;exact ⟨⟨a,rfl,ha.elim id id⟩,rfl,hnh⟩
 ·cases hm
end
end Mt
end Go.Proofs.YtgkajecjbflbbaaGreatDoor
