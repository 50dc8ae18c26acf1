/- the fault laws -/
import Derived.Test.YtgkajecjbflbbaaGreatDoorGB08
set_option maxHeartbeats 400000
set_option maxRecDepth 100000
set_option linter.all false
namespace Go.Proofs.YtgkajecjbflbbaaGreatDoor
namespace Mt
open Go Go.Conc Mob
def pureV {α:Type} (P:Program):Sem α->Option α
 | .pure a=>some a
 | .program k=>pureV P (k P)
 | _=>none
theorem pureV_run {α:Type} {P:Program} {v:α}:∀ {s:Sem α},pureV P s=some v->∀ w,s.run P w=.ok v w/\∀ es,s.events P w es=es
 | .pure a,h,w=>by
  simp only [pureV,Option.some.injEq] at h;subst h;exact ⟨rfl,fun es=>rfl⟩
 | .program k,h,w=>pureV_run (s:=k P) h w
def rho (l:List (Nat × Value)) (d:Nat->Value):Operand->Value
 | .tmp t=>(l.lookup t).getD (d t)
 | .const v=>v
 | .global g=>.pointer (some ⟨g,0,none⟩)
 | .func f=>.func (.func f) #[] #[]
def gd (l:List (Nat × Value)) (ops:Array Oper) (o:Oper):Option Bool :=
 match o.guard with
 | none=>some true
 | some (j,want)=>match ((ops[j]?).bind (·.dst)).bind (l.lookup ·) with
  | some (.bool b)=>some (b == want)
  | some _=>some false
  | none=>none
def st1 (P:Program) (d:Nat->Value) (ov:List (Nat × Value)) (n:Nat) (l:List (Nat × Value)):List Item->Option (List (Nat × Value) × List Item × List (Value × Value))
 | .code .skip::k=>some (l,k,[])
 | .inBlock _::k=>some (l,k,[])
 | .code (.seq x y)::k=>some (l,.code x::.code y::k,[])
 | .code (.cond c x y)::k=>match rho l d c with
  | .bool t=>some (l,.code (if t then x else y)::k,[])
  | _=>none
 | .code (.block id x)::k=>some (l,.code x::.inBlock id::k,[])
 | .code (.loop x)::k=>some (l,.code x::.inLoop x::k,[])
 | .inLoop x::k=>some (l,.code x::.inLoop x::k,[])
 | .code (.exit id)::k=>match exitTo id k with
  | some k'=>some (l,k',[])
  | none=>none
 | .code (.region id ops false)::k=>some (l,.inRegion ops (List.range ops.size)::k,[])
 | .inRegion ops []::k=>some (l,k,[])
 | .inRegion ops (i::rest)::k=>match ops[i]? with
  | none=>none
  | some o=>match gd l ops o,o.dst with
   | some true,some j=>match pureV P (execOp (rho l d) o) with
    | some (.value v)=>if j < n then (match ov.lookup j with
     | none=>some ((j,v)::l,.inRegion ops rest::k,[])
     | some v'=>some ((j,v')::l,.inRegion ops rest::k,[(v,v')])) else none
    | _=>none
   | some false,some j=>if j < n then some ((j,undef)::l,.inRegion ops rest::k,[]) else none
   | some false,none=>some (l,.inRegion ops rest::k,[])
   | _,_=>none
 | _=>none
def sil (P:Program) (d:Nat->Value) (ov:List (Nat × Value)) (n:Nat):Nat->List (Nat × Value)->List Item->Option (List (Nat × Value) × List Item × List (Value × Value))
 | 0,l,k=>some (l,k,[])
 | m+1,l,k=>match st1 P d ov n l k with
  | none=>none
  | some (l1,k1,o1)=>match sil P d ov n m l1 k1 with
   | none=>none
   | some (l2,k2,o2)=>some (l2,k2,o1 ++ o2)
def look (l:List (Nat × Value)):List (Nat × Value)->Option (List (Nat × Value))
 | []=>some []
 | x::r=>match l.lookup x.1,look l r with
  | some v,some r'=>some ((x.1,v)::r')
  | _,_=>none
def silR (P:Program) (d:Nat->Value) (ov:List (Nat × Value)) (n N:Nat) (l:List (Nat × Value)) (k:List Item) (l':List (Nat × Value)):Option (List (Nat × Value) × List Item × List (Value × Value)) :=
 match sil P d ov n N l k with
 | none=>none
 | some (l2,k2,o2)=>match look l2 l' with
  | none=>none
  | some l3=>some (l3,k2,o2)
def Obl:List (Value × Value)->Prop
 | []=>True
 | x::r=>x.1=x.2/\Obl r
theorem Obl.app:∀ {o1 o2:List (Value × Value)},Obl (o1 ++ o2)->Obl o1/\Obl o2
 | [],_,h=>⟨trivial,h⟩
 | _::_,_,h=>⟨⟨h.1,(Obl.app h.2).1⟩,(Obl.app h.2).2⟩
structure SilOk (a:Act) (n:Nat) (l:List (Nat × Value)) (d:Nat->Value):Prop where
 sz:a.tmps.size=n
 kn:∀ t v,l.lookup t=some v->a.tmps[t]? = some v
 un:∀ t,l.lookup t=none->a.tmps.getD t undef=d t
theorem SilOk.ev {a:Act} {n:Nat} {l:List (Nat × Value)} {d:Nat->Value} (h:SilOk a n l d):a.eval=rho l d:=by
 funext x
 cases x with
 | tmp t =>
  show a.tmps.getD t undef=(l.lookup t).getD (d t)
  cases e:l.lookup t with
  | none=>exact h.un t e
  | some v=>rw [Array.getD_eq_getD_getElem?,h.kn t v e];rfl
 | const v=>rfl
 | global g=>rfl
 | func f=>rfl
theorem SilOk.put {a:Act} {n:Nat} {l:List (Nat × Value)} {d:Nat->Value} (h:SilOk a n l d) {j:Nat} (hj:j < n) (v:Value):SilOk (a.put (some j) v) n ((j,v)::l) d:=by
 refine ⟨(Array.size_setIfInBounds).trans h.sz,fun t u e=>?_,fun t e=>?_⟩
 ·rw [List.lookup_cons] at e;by_cases hji:t=j
  ·subst hji;simp at e;rw [<- e];exact put_at (by rw [h.sz];exact hj)
  ·rw [beq_eq_false_iff_ne.2 hji] at e;exact (put_keep hji).trans (h.kn t u e)
 ·rw [List.lookup_cons] at e;by_cases hji:t=j
  ·subst hji;simp at e
  ·rw [beq_eq_false_iff_ne.2 hji] at e;rw [Array.getD_eq_getD_getElem?,put_keep hji,<- Array.getD_eq_getD_getElem?];exact h.un t e
theorem gd_true {a:Act} {n:Nat} {l:List (Nat × Value)} {d:Nat->Value} (h:SilOk a n l d) {ops:Array Oper} {o:Oper} {c:Bool} (e:gd l ops o=some c):Region.wanted o (yielded ops a.tmps)=c:=by
 unfold gd at e;unfold Region.wanted
 cases hg:o.guard with
 | none=>rw [hg] at e;simpa using e
 | some x =>
  obtain ⟨j,want⟩:=x;rw [hg] at e;simp only at e ⊢;unfold yielded
  cases hd:(ops[j]?).bind (·.dst) with
  | none=>rw [hd] at e;simp at e
  | some t =>
   rw [hd] at e;simp only [Option.bind_some] at e ⊢
   cases hl:l.lookup t with
   | none=>rw [hl] at e;simp at e
   | some v =>
    rw [hl] at e;rw [h.kn t v hl];cases v <;> simp at e ⊢ <;> first | exact e | (rw [<- e])
section
variable {P:Program} {main:Bool} {b:Frame} {cs:List Frame} {n:Nat} {d:Nat->Value} {ov:List (Nat × Value)}
theorem st1_ok (hb:b.kind≠.early) {l l1:List (Nat × Value)} {k k1:List Item} {o1:List (Value × Value)} {a:Act} (h:SilOk a n l d) (e:st1 P d ov n l k=some (l1,k1,o1)) (ho:Obl o1) :
 ∃ a1,a1.defers=a.defers/\SilOk a1 n l1 d/\∀ w,stepG P main (G (b.at a k) cs) w=.go (G (b.at a1 k1) cs) w #[]:=by
 unfold st1 at e;split at e
 ·cases e;exact ⟨a,rfl,h,fun w=>stepG_skip⟩
 ·cases e;exact ⟨a,rfl,h,fun w=>stepG_inBlock⟩
 ·cases e;exact ⟨a,rfl,h,fun w=>stepG_seq⟩
 ·split at e
  ·cases e;refine ⟨a,rfl,h,fun w=>stepG_cond ?_⟩;rw [h.ev];assumption
  ·cases e
 ·cases e;exact ⟨a,rfl,h,fun w=>stepG_block⟩
 ·cases e;exact ⟨a,rfl,h,fun w=>stepG_loop⟩
 ·cases e;exact ⟨a,rfl,h,fun w=>stepG_inLoop⟩
 ·split at e
  ·cases e;refine ⟨a,rfl,h,fun w=>stepG_exit ?_⟩;assumption
  ·cases e
 ·cases e;exact ⟨a,rfl,h,fun w=>stepG_region⟩
 ·cases e;exact ⟨a,rfl,h,fun w=>stepG_region_end⟩
 ·rename_i ops i rest k
  split at e
  ·cases e
  ·rename_i o hi
   split at e
   ·rename_i j hg hd
    split at e
    ·rename_i v hp
     split at e
     ·rename_i hj
      have hx:=fun w=>pureV_run hp w;rw [<- h.ev] at hx;have hs:∀ w,stepG P main (G (b.at a (.inRegion ops (i::rest)::k)) cs) w=.go (G (b.at (a.put (some j) v) (.inRegion ops rest::k)) cs) w #[]:=fun w=>by
       rw [stepG_value hi (gd_true h hg) hb (hx w).1,hd];have:listed P b.fn a o w=#[]:=by unfold listed;rw [(hx w).2];exact seen_none P _
       rw [this]
      split at e
      ·cases e;exact ⟨a.put (some j) v,rfl,h.put hj v,hs⟩
      ·rename_i v' _
       cases e;have hv:v=v':=ho.1;subst hv;exact ⟨a.put (some j) v,rfl,h.put hj v,hs⟩
     ·cases e
    ·cases e
   ·rename_i j hg hd
    split at e
    ·rename_i hj
     cases e;exact ⟨a.put (some j) U,rfl,h.put hj U,fun w=>by rw [stepG_unwanted hi (gd_true h hg),hd]⟩
    ·cases e
   ·rename_i hg hd
    cases e;exact ⟨a,rfl,h,fun w=>by rw [stepG_unwanted hi (gd_true h hg),hd];rfl⟩
   ·cases e
 ·cases e
theorem Kn.sil {a:Act} {l:List (Nat × Value)} (q:Kn a n l):SilOk a n l fun t=>a.tmps.getD t undef:=⟨q.sz,fun t v e=>q.g t e,fun _ _=>rfl⟩
theorem SilOk.look {a:Act} {l:List (Nat × Value)} (h:SilOk a n l d):∀ {r r':List (Nat × Value)},look l r=some r'->KnL a r'
 | [],r',e=>by cases e;trivial
 | x::r,r',e=>by
  unfold Mt.look at e;split at e
  ·rename_i v s h1 h2
   cases e;exact ⟨h.kn _ _ h1,h.look h2⟩
  ·cases e
variable {E:World->Prop}
theorem sil_ok {W:Goroutine->Prop} (hW:Closed P main E W) (hb:b.kind≠.early):∀ {N:Nat} {l l2:List (Nat × Value)} {k k2:List Item} {o2:List (Value × Value)} {a:Act},SilOk a n l d->sil P d ov n N l k=some (l2,k2,o2)->Obl o2 ->
 (∀ a1,a1.defers=a.defers->SilOk a1 n l2 d->W (G (b.at a1 k2) cs))->W (G (b.at a k) cs)
 | 0,l,l2,k,k2,o2,a,h,e,ho,hk=>by cases e;exact hk a rfl h
 | N+1,l,l2,k,k2,o2,a,h,e,ho,hk=>by
  unfold Mt.sil at e;split at e
  ·cases e
  ·rename_i l1 k1 o1 e1
   split at e
   ·cases e
   ·rename_i l3 k3 o3 e3
    cases e;obtain ⟨a1,hd,h1,hs⟩:=st1_ok (main:=main) (cs:=cs) hb h e1 ho.app.1;exact hW _ _ _ _ (fun w _=>hs w) (sil_ok hW hb h1 e3 ho.app.2 fun a2 hd2 h2=>hk a2 (hd2.trans hd) h2)
theorem cl_runO {W:Goroutine->Prop} (hW:Closed P main E W) {l:List (Nat × Value)} {k:List Item} {a:Act} {D:List Deferred} (N:Nat) (ov l':List (Nat × Value)) (k':List Item) (o':List (Value × Value)) (q:Kn a n l) (hd:a.defers=D)
 (ho:Obl o') (h:∀ a1:Act,a1.defers=D->Kn a1 n l'->W (G (b.at a1 k') cs)) (hb:b.kind≠.early:=by k_ne) (e:∀ d,silR P d ov n N l k l'=some (l',k',o'):=by intro d;kernel_rfl):W (G (b.at a k) cs):=by
 have e:=e fun t=>a.tmps.getD t undef;unfold silR at e;split at e
 ·cases e
 ·rename_i l2 k2 o2 e2
  split at e
  ·cases e
  ·rename_i l3 e3
   cases e;exact sil_ok hW hb q.sil e2 ho fun a1 h1 h2=>h a1 (h1.trans hd) ⟨h2.sz,h2.look e3⟩
theorem cl_run {W:Goroutine->Prop} (hW:Closed P main E W) {l:List (Nat × Value)} {k:List Item} {a:Act} {D:List Deferred} (N:Nat) (l':List (Nat × Value)) (k':List Item) (q:Kn a n l) (hd:a.defers=D)
 (h:∀ a1:Act,a1.defers=D->Kn a1 n l'->W (G (b.at a1 k') cs)) (hb:b.kind≠.early:=by k_ne) (e:∀ d,silR P d [] n N l k l'=some (l',k',[]):=by intro d;kernel_rfl):W (G (b.at a k) cs):=cl_runO hW N [] l' k' [] q hd trivial h hb e
end
def pt:Code->Nat->Code
 | .seq x y,n=>if n < 2 then .seq x y else if n % 2=0 then pt x (n / 2) else pt y (n / 2)
 | .cond c x y,n=>if n < 2 then .cond c x y else if n % 2=0 then pt x (n / 2) else pt y (n / 2)
 | .block i x,n=>if n < 2 then .block i x else pt x (n / 2)
 | .loop x,n=>if n < 2 then .loop x else pt x (n / 2)
 | c,_=>c
def rop:Code->Array Oper
 | .region _ o _=>o
 | _=>#[]
end Mt
namespace Mt
open Go Go.Conc Go.RowKit
noncomputable def bLS:Code:=Tryz.f167.body.getD .skip
noncomputable def bLi:Code:=Tryz.f140.body.getD .skip
noncomputable def bLo:Code:=Tryz.f91.body.getD .skip
noncomputable def bUi:Code:=Tryz.f141.body.getD .skip
noncomputable def bUo:Code:=Tryz.f92.body.getD .skip
noncomputable def bUS:Code:=Tryz.f169.body.getD .skip
noncomputable def bAD:Code:=Tryz.f88.body.getD .skip
noncomputable def bDN:Code:=Tryz.f90.body.getD .skip
noncomputable def bWT:Code:=Tryz.f93.body.getD .skip
noncomputable def bPL:Code:=Tryz.f69.body.getD .skip
noncomputable def bUint64Store:Code:=Tryz.f137.body.getD .skip
noncomputable def bUint64CompareAndSwap:Code:=Tryz.f144.body.getD .skip
noncomputable def bUint64Add:Code:=Tryz.f134.body.getD .skip
noncomputable def bUint64Load:Code:=Tryz.f136.body.getD .skip
theorem ld_ok {a:Act} {o:Oper} {w:World} {ad:Addr} {v:Value} {f:FuncId} {x:Operand} (hq:∀ ad,seen Tryz.prog f #[⟨.cell ad,false,false⟩]=#[]) (ho:o.op=.load 21 x) (hx:a.eval x=.pointer (some ad)) (hc:w.cell? ad=some v):(execOp a.eval o).run Tryz.prog w=.ok (.value v) w/\listed Tryz.prog f a o w=#[]:=by
 have e:execOp a.eval o=execOp (fun _=>.pointer (some ad)) { o with op:=.load 21 x }:=by unfold execOp;rw [ho];simp only [hx]
 rw [listed,e];exact ⟨by simp [go_sem,hc],by simp [go_sem,hc];exact hq _⟩
theorem fdv {k:IntKind} {x n:Int} (h:0<=n:=by decide):Value.int k (x.fdiv n)=.int k (x / n):=by rw [Int.fdiv_eq_ediv_of_nonneg _ h]
noncomputable def og (c:Code) (i:Nat):Oper:=(rop c).getD i default
theorem ex_op {a:Act} {o:Oper} {op:Op} (h:o.op=op):execOp a.eval o=execOp a.eval { o with op:=op }:=by subst h;rfl
end Mt
namespace Mt
open Go Go.Conc Mob
section
variable {P:Program} {main:Bool} {b:Frame} {cs:List Frame} {n:Nat} {d:Nat->Value} {ov:List (Nat × Value)} {E:World->Prop}
theorem sil_okN {W:Nat->Goroutine->Prop} (hW:ClosedN P main E W) (hb:b.kind≠.early) {m:Nat}:∀ {N:Nat} {l l2:List (Nat × Value)} {k k2:List Item} {o2:List (Value × Value)} {a:Act},SilOk a n l d->sil P d ov n N l k=some (l2,k2,o2)->Obl o2 ->
 (∀ a1,a1.defers=a.defers->SilOk a1 n l2 d->W m (G (b.at a1 k2) cs))->W (m+N) (G (b.at a k) cs)
 | 0,l,l2,k,k2,o2,a,h,e,ho,hk=>by cases e;exact hk a rfl h
 | N+1,l,l2,k,k2,o2,a,h,e,ho,hk=>by
  unfold Mt.sil at e;split at e
  ·cases e
  ·rename_i l1 k1 o1 e1
   split at e
   ·cases e
   ·rename_i l3 k3 o3 e3
    cases e;obtain ⟨a1,hd,h1,hs⟩:=st1_ok (main:=main) (cs:=cs) hb h e1 ho.app.1;exact hW _ _ _ _ _ (fun w _=>hs w) (sil_okN hW hb h1 e3 ho.app.2 fun a2 hd2 h2=>hk a2 (hd2.trans hd) h2)
theorem nw_runO {W:Nat->Goroutine->Prop} (hW:ClosedN P main E W) {m:Nat} {l:List (Nat × Value)} {k:List Item} {a:Act} {D:List Deferred} (N:Nat) (ov l':List (Nat × Value)) (k':List Item) (o':List (Value × Value)) (q:Kn a n l) (hd:a.defers=D)
 (ho:Obl o') (h:∀ a1:Act,a1.defers=D->Kn a1 n l'->W m (G (b.at a1 k') cs)) (hb:b.kind≠.early:=by k_ne) (e:∀ d,silR P d ov n N l k l'=some (l',k',o'):=by intro d;kernel_rfl):W (m+N) (G (b.at a k) cs):=by
 have e:=e fun t=>a.tmps.getD t undef;unfold silR at e;split at e
 ·cases e
 ·rename_i l2 k2 o2 e2
  split at e
  ·cases e
  ·rename_i l3 e3
   cases e;exact sil_okN hW hb q.sil e2 ho fun a1 h1 h2=>h a1 (h1.trans hd) ⟨h2.sz,h2.look e3⟩
theorem nw_run {W:Nat->Goroutine->Prop} (hW:ClosedN P main E W) {m:Nat} {l:List (Nat × Value)} {k:List Item} {a:Act} {D:List Deferred} (N:Nat) (l':List (Nat × Value)) (k':List Item) (q:Kn a n l) (hd:a.defers=D)
 (h:∀ a1:Act,a1.defers=D->Kn a1 n l'->W m (G (b.at a1 k') cs)) (hb:b.kind≠.early:=by k_ne) (e:∀ d,silR P d [] n N l k l'=some (l',k',[]):=by intro d;kernel_rfl):W (m+N) (G (b.at a k) cs):=nw_runO hW N [] l' k' [] q hd trivial h hb e
end
end Mt
namespace Mt
open Go Go.Conc Mob Go.RowKit
def HCell (H:Hold) (b o:Nat) (v:Value):Prop:=∃ c t f,H b=some (.cells c t f)/\c[o]? = some v
def Ext (own own':Hold):Prop:=∀ x o,own x=some o->own' x=some o
theorem Ext.refl (own:Hold):Ext own own:=fun _ _ h=>h
theorem Ext.trans {a b c:Hold} (h:Ext a b) (k:Ext b c):Ext a c:=fun x o e=>k x o (h x o e)
theorem Ext.set {own:Hold} {r:Nat} {o:Obj} (h:own r=none):Ext own (own.set r o):=fun x o' e=>by
 have:x≠r:=fun h'=>by rw [h',h] at e;cases e
 rw [Hold.set_ne _ _ this];exact e
theorem HCell.ext {own own':Hold} {b o:Nat} {v:Value} (h:HCell own b o v) (e:Ext own own'):HCell own' b o v:=by
 obtain ⟨c,t,f,h1,h2⟩:=h;exact ⟨c,t,f,e _ _ h1,h2⟩
section
variable {w:World} {own ro:Hold} {b o:Nat} {v:Value}
theorem ro_at (hm:Meets w own ro) (h:HCell ro b o v):w.cell? ⟨b,o,none⟩=some v:=by
 obtain ⟨c,t,f,h1,h2⟩:=h;unfold World.cell?;rw [hm.shared b _ h1];exact h2
theorem own_at (hm:Meets w own ro) (h:HCell own b o v):w.cell? ⟨b,o,none⟩=some v:=by
 obtain ⟨c,t,f,h1,h2⟩:=h;unfold World.cell?;rw [hm.mine b _ h1];exact h2
theorem ro_ev (h:HCell ro b o v) (k:Nat):EvOwn own ro ⟨.cell ⟨b,k,none⟩,false,Mode.plain == Mode.atomic⟩:=by
 obtain ⟨c,t,f,h1,h2⟩:=h;exact ⟨rfl,.inr ⟨rfl,_,h1⟩⟩
theorem own_ev (h:HCell own b o v) (k:Nat) (wr:Bool):EvOwn own ro ⟨.cell ⟨b,k,none⟩,wr,Mode.plain == Mode.atomic⟩:=by
 obtain ⟨c,t,f,h1,h2⟩:=h;exact ⟨rfl,.inl ⟨_,h1⟩⟩
end
theorem nw_by {P:Program} {main:Bool} {E:World->Prop} {W:Nat->Goroutine->Prop} {m:Nat} {b:Frame} {a:Act} {k:List Item} {cs:List Frame} (hW:ClosedN P main E W) {ops:Array Oper} {i:Nat} {rest:List Nat} {o:Oper} {f:FuncId} {fn:Func} {c:Code} {x:Operand} {ats:Array TypeId} (hb:b.kind≠.early) (ho:ops[i]? = some o) (hw:Region.wanted o (yielded ops a.tmps)=true)
 (hop:o.op=.call { callee:=.value x,args:=#[],argTypes:=ats }) (hx:a.eval x=.func (.func f) #[] #[]) (hf:P.funcs[f]? = some fn) (hname:(fn.name == "runtime.NumGoroutine")=false) (hc:fn.body=some c)
 (h:∀ a1:Act,a1.defers=[]->a1.tmps=Array.replicate fn.ntmps undef->W m (G ((base f).at a1 [.code c]) (b.at a (.inRegion ops (i::rest)::k)::cs))):W (m+1) (G (b.at a (.inRegion ops (i::rest)::k)) cs):=by
 have h1:¬ fn.name = "runtime.NumGoroutine":=by simpa using hname
 have h2:¬ fn.body=none:=by rw [hc];simp
 refine nw_enter (args:=#[]) hW hb ho hw (fun w=>⟨?_,?_⟩) hf hc fun a1 h3 h4=>h a1 h3 (by simpa using h4)
 ·unfold execOp;simp [hop,hx,resolve,Deferred.ofValue,invoke,callFunc,hf,h1,h2]
 ·have:(execOp a.eval o).events P w #[]=#[]:=by
   unfold execOp;simp [hop,hx,resolve,Deferred.ofValue,invoke,callFunc,hf,h1,h2]
  unfold listed;rw [this];exact seen_none P _
structure HPath (ro:Hold) (pb po L:Nat) (p:Nat->Nat):Prop where
 at_:∀ i,i < L->HCell ro pb (po+i) (.int .i64 (p i:Int))
 lt:∀ i,i < L->p i < 6
 few:L<=6
def HActs (ro:Hold):Prop:=∀ k,k < 3->HCell ro 0 k (.func (.func (200+k)) #[] #[])
def plays (s p:Nat->Nat):Nat->Nat->Bool × Nat
 | 0,i=>(true,i)
 | N+1,i=>if s (p i)=0 then plays s p N (i+1) else (decide (s (p i)=2),i)
theorem wrap_i {i:Nat} (h:i < 4611686018427387904):IntKind.i64.wrap (i:Int)=(i:Int):=by
 simp [IntKind.wrap,IntKind.bits,IntKind.signed];omega
noncomputable def plBODY:Code:=match Tryz.f69.body with | some (.seq _ (.seq (.seq _ (.block _ (.loop c))) _))=>c | _=>.skip
noncomputable def plTAIL:Code:=match Tryz.f69.body with | some (.seq _ (.seq _ c))=>c | _=>.skip
section
variable {main:Bool} {ro own:Hold} {E:World->Prop} {Stop:Goroutine->Hold->Prop} {m:Nat} {b₁:Frame} {a₁:Act} {ops₁:Array Oper} {i₁ j₁ n₁:Nat} {rest₁:List Nat} {k₁:List Item} {cs₁:List Frame} {l₁:List (Nat × Value)} (hd₁:(ops₁[i₁]?).bind (·.dst)=some j₁) (q₁:Kn a₁ n₁ l₁) (hj₁:j₁ < n₁)
variable {pb po L pc r:Nat} {p s:Nat->Nat}
include hd₁ q₁ hj₁
theorem pl_loop (hP:HPath ro pb po L p) (hA:HActs ro) (hs:∀ k,s k < 3) (hr:∀ k,k < 6->HCell own r k (.int .i64 (s k:Int))):∀ (N i:Nat),i+N=L->Behind (WN Tryz.prog main ro E Stop own m) b₁ a₁ ops₁ rest₁ k₁ cs₁ n₁ j₁ l₁ (.tuple #[.bool (plays s p N i).1,.int .i64 ((plays s p N i).2:Int)]) ->
 ∀ a0:Act,a0.defers=[]->Kn a0 33 [(10,.slice (some ⟨pb,po,none⟩) L pc),(11,.int .i64 (L:Int)),(12,.int .i64 (i:Int)),(2,.pointer (some ⟨r,0,none⟩)),(1,.slice (some ⟨pb,po,none⟩) L pc)]->WN Tryz.prog main ro E Stop own (m+(N+1) * 80) (G ((base 69).at a0 [.code plBODY,.inLoop plBODY,.inBlock 0,.code plTAIL]) (b₁.at a₁ (.inRegion ops₁ (i₁::rest₁)::k₁)::cs₁)):=by
 intro N
 induction N with
 | zero =>
  intro i hi hC a0 df0 q0;obtain rfl:i=L:=by omega
  have hn:¬ ((i:Int) < (i:Int)):=by omega
  show WN Tryz.prog main ro E Stop own (m+80) _;simp only [plBODY,plTAIL,Tryz.f69];refine nw_runO closedN 10 [(13,.bool false)] [(31,.slice (some ⟨pb,po,none⟩) i pc),(10,.slice (some ⟨pb,po,none⟩) i pc),(11,.int .i64 (i:Int)),(12,.int .i64 (i:Int)),(2,.pointer (some ⟨r,0,none⟩)),(1,.slice (some ⟨pb,po,none⟩) i pc)] [.inRegion (rop (pt bPL 11)) [1,2,3],.code .ret] [(.bool (decide ((i:Int) < (i:Int))),.bool false)] q0 df0 ⟨(by simp [go_sem]),trivial⟩ fun a0 df0 q0=>?_;refine nw_run closedN 4 [(5,.int .i64 (i:Int)),(4,.bool true),(10,.slice (some ⟨pb,po,none⟩) i pc),(11,.int .i64 (i:Int)),(12,.int .i64 (i:Int)),(2,.pointer (some ⟨r,0,none⟩)),(1,.slice (some ⟨pb,po,none⟩) i pc)] [.code .ret] q0 df0 fun a0 df0 q0=>?_;refine nw_ret closedN ?_;exact Walk.mono (nw_leave2 (m:=m) closedN rfl df0 Tryz.func69 rfl (q0.g 4 rfl) (q0.g 5 rfl) hd₁ q₁ hj₁ hC) (by omega)
 | succ N ih =>
  intro i hi hC a0 df0 q0;have hlt:i < L:=by omega
  have hlt2:(i:Int) < (L:Int):=by omega
  have hfew:=hP.few;have hw:IntKind.i64.wrap ((i:Int)+1)=((i+1:Nat):Int):=by have:=wrap_i (i:=i+1) (by omega);simpa using this
  have hpi:=hP.lt i hlt;have hpI:(p i:Int) < 6:=by omega
  have ci:=hP.at_ i hlt;have cs:=hr (p i) hpi;have hs3:=hs (p i);have ca:=hA (s (p i)) hs3;have hs3I:(s (p i):Int) < 3:=by omega
  have e80:m+(N+1+1) * 80=(m+(N+1) * 80)+80:=by omega
  rw [e80];have key:s (p i)=0->∀ a0:Act,a0.defers=[]->Kn a0 33 [(10,.slice (some ⟨pb,po,none⟩) L pc),(11,.int .i64 (L:Int)),(12,.int .i64 ((i+1:Nat):Int)),(2,.pointer (some ⟨r,0,none⟩)),(1,.slice (some ⟨pb,po,none⟩) L pc)]->WN Tryz.prog main ro E Stop own (m+(N+1) * 80) (G ((base 69).at a0 [.code plBODY,.inLoop plBODY,.inBlock 0,.code plTAIL]) (b₁.at a₁ (.inRegion ops₁ (i₁::rest₁)::k₁)::cs₁)):=fun h0=>ih (i+1) (by omega) (by simp only [plays,h0,if_true] at hC;exact hC);have keyR:s (p i)≠0->Behind (WN Tryz.prog main ro E Stop own m) b₁ a₁ ops₁ rest₁ k₁ cs₁ n₁ j₁ l₁ (.tuple #[.bool (decide (s (p i)=2)),.int .i64 (i:Int)]):=fun h0=>by simp only [plays,h0,if_false] at hC;exact hC
  clear hC ih;obtain ⟨M,hM,hmM⟩:∃ M,m+(N+1) * 80=M/\m<=M:=⟨_,rfl,by omega⟩;rw [hM] at key ⊢;simp only [plBODY,plTAIL,Tryz.f69] at key ⊢;refine nw_runO closedN 12 [(13,.bool true)] [(14,.int .i64 (i:Int)),(10,.slice (some ⟨pb,po,none⟩) L pc),(11,.int .i64 (L:Int)),(12,.int .i64 (i:Int)),(2,.pointer (some ⟨r,0,none⟩)),(1,.slice (some ⟨pb,po,none⟩) L pc)] [.inRegion (rop (pt bPL 1125)) [1,2,3,4],.code (pt bPL 1637),.inBlock 1,.code (pt bPL 485),.inLoop (pt bPL 37),.inBlock 0,.code (pt bPL 7)] [(.bool (decide ((i:Int) < (L:Int))),.bool true)] q0 df0 ⟨(by simp [go_sem,hlt2]),trivial⟩ fun a0 df0 q0=>?_;have eo:(og (pt bPL 1125) 1).op=.indexAddr 26 (.tmp 10) (.tmp 12):=by kernel_rfl
  refine nw_read (o:=(og (pt bPL 1125) 1)) (.pointer (some ⟨pb,po+i,none⟩)) (by k_ne) rfl rfl rfl (fun w hm hE=>?_) q0 (by decide) fun a0 en q0=>?_
  ·rw [ex_op eo];exact ⟨by simp [go_sem,q0.g 10 rfl,q0.g 12 rfl,hlt,hlt2],by simp [go_sem,q0.g 10 rfl,q0.g 12 rfl,hlt,hlt2]⟩
  replace df0:=en.trans df0;have eo:(og (pt bPL 1125) 2).op=.load 3 (.tmp 15):=by kernel_rfl
  refine nw_read (o:=(og (pt bPL 1125) 2)) (.int .i64 (p i:Int)) (by k_ne) rfl rfl rfl (fun w hm hE=>?_) q0 (by decide) fun a0 en q0=>?_
  ·rw [ex_op eo];have c:=ro_at hm ci;have e:=fun k=>ro_ev (own:=own) ci k;exact ⟨by simp [go_sem,q0.g 15 rfl,c],by simp [go_sem,q0.g 15 rfl,c,e]⟩
  replace df0:=en.trans df0;refine nw_run closedN 6 [(18,.int .i64 (p i:Int)),(6,.int .i64 (i:Int)),(10,.slice (some ⟨pb,po,none⟩) L pc),(11,.int .i64 (L:Int)),(12,.int .i64 (i:Int)),(2,.pointer (some ⟨r,0,none⟩)),(1,.slice (some ⟨pb,po,none⟩) L pc)] [.inRegion (rop (pt bPL 2661)) [1,2,3,4,5,6,7,8,9,10,11],.code (pt bPL 3685),.inBlock 1,.code (pt bPL 485),.inLoop (pt bPL 37),.inBlock 0,.code (pt bPL 7)] q0 df0 fun a0 df0 q0=>?_;have eo:(og (pt bPL 2661) 1).op=.indexAddr 96 (.tmp 2) (.tmp 18):=by kernel_rfl
  refine nw_read (o:=(og (pt bPL 2661) 1)) (.pointer (some ⟨r,p i,none⟩)) (by k_ne) rfl rfl rfl (fun w hm hE=>?_) q0 (by decide) fun a0 en q0=>?_
  ·rw [ex_op eo];have ea:=events_indexAt_array (P:=Tryz.prog) (w:=w) (es:=#[]) 96 54 6 ⟨r,0,none⟩ .i64 (p i:Int) Tryz.underlying96 ⟨by omega,hpI⟩;exact ⟨by simp [go_sem,q0.g 2 rfl,q0.g 18 rfl,hpI],by simp [go_sem,q0.g 2 rfl,q0.g 18 rfl,hpI,ea]⟩
  replace df0:=en.trans df0;have eo:(og (pt bPL 2661) 2).op=.load 54 (.tmp 19):=by kernel_rfl
  refine nw_read (o:=(og (pt bPL 2661) 2)) (.int .i64 (s (p i):Int)) (by k_ne) rfl rfl rfl (fun w hm hE=>?_) q0 (by decide) fun a0 en q0=>?_
  ·rw [ex_op eo];have c:=own_at hm cs;have e:=fun k wr=>own_ev (ro:=ro) cs k wr;exact ⟨by simp [go_sem,q0.g 19 rfl,c],by simp [go_sem,q0.g 19 rfl,c,e]⟩
  replace df0:=en.trans df0;have eo:(og (pt bPL 2661) 3).op=.indexAddr 166 (.global 0) (.tmp 20):=by kernel_rfl
  refine nw_read (o:=(og (pt bPL 2661) 3)) (.pointer (some ⟨0,s (p i),none⟩)) (by k_ne) rfl rfl rfl (fun w hm hE=>?_) q0 (by decide) fun a0 en q0=>?_
  ·rw [ex_op eo];have ea:=events_indexAt_array (P:=Tryz.prog) (w:=w) (es:=#[]) 166 165 3 ⟨0,0,none⟩ .i64 (s (p i):Int) Tryz.underlying166 ⟨by omega,hs3I⟩;exact ⟨by simp [go_sem,q0.g 20 rfl,hs3I],by simp [go_sem,q0.g 20 rfl,hs3I,ea]⟩
  replace df0:=en.trans df0;refine nw_run closedN 1 [(22,.pointer (some ⟨0,s (p i),none⟩)),(6,.int .i64 (i:Int)),(10,.slice (some ⟨pb,po,none⟩) L pc),(11,.int .i64 (L:Int)),(12,.int .i64 (i:Int)),(2,.pointer (some ⟨r,0,none⟩)),(1,.slice (some ⟨pb,po,none⟩) L pc)] [.inRegion (rop (pt bPL 2661)) [5,6,7,8,9,10,11],.code (pt bPL 3685),.inBlock 1,.code (pt bPL 485),.inLoop (pt bPL 37),.inBlock 0,.code (pt bPL 7)] q0 df0 fun a0 df0 q0=>?_;have eo:(og (pt bPL 2661) 5).op=.load 163 (.tmp 22):=by kernel_rfl
  refine nw_read (o:=(og (pt bPL 2661) 5)) (.func (.func (200+s (p i))) #[] #[]) (by k_ne) rfl rfl rfl (fun w hm hE=>?_) q0 (by decide) fun a0 en q0=>?_
  ·rw [ex_op eo];have c:=ro_at hm ca;have e:=fun k=>ro_ev (own:=own) ca k;exact ⟨by simp [go_sem,q0.g 22 rfl,c],by simp [go_sem,q0.g 22 rfl,c,e]⟩
  replace df0:=en.trans df0;obtain h0 | h0 | h0:s (p i)=0\/s (p i)=1\/s (p i)=2:=by omega
  ·skip
   skip
   have f23:=q0.ev 23 rfl;rw [h0] at f23;refine nw_by closedN (by k_ne) rfl rfl rfl f23 Tryz.func200 (by kernel_rfl) rfl fun a1 df1 et=>?_;have q1:Kn a1 2 []:=⟨by rw [et];simp [Tryz.f200],by simp [KnL,et]⟩;clear et;refine nw_run closedN 10 [(1,.bool true),(0,.bool false)] [.code .ret] q1 df1 fun a1 df1 q1=>?_;refine nw_ret closedN ?_;refine nw_leave2 closedN rfl df1 Tryz.func200 rfl (q1.g 0 rfl) (q1.g 1 rfl) rfl q0 (by decide) fun a0 en q0=>?_;replace df0:=en.trans df0;refine nw_run closedN 1 [(17,.tuple #[.bool false,.bool true]),(6,.int .i64 (i:Int)),(10,.slice (some ⟨pb,po,none⟩) L pc),(11,.int .i64 (L:Int)),(12,.int .i64 (i:Int)),(2,.pointer (some ⟨r,0,none⟩)),(1,.slice (some ⟨pb,po,none⟩) L pc)] [.inRegion (rop (pt bPL 2661)) [8,9,10,11],.code (pt bPL 3685),.inBlock 1,.code (pt bPL 485),.inLoop (pt bPL 37),.inBlock 0,.code (pt bPL 7)] q0 df0 fun a0 df0 q0=>?_;refine nw_run closedN 1 [(25,.bool false),(17,.tuple #[.bool false,.bool true]),(6,.int .i64 (i:Int)),(10,.slice (some ⟨pb,po,none⟩) L pc),(11,.int .i64 (L:Int)),(12,.int .i64 (i:Int)),(2,.pointer (some ⟨r,0,none⟩)),(1,.slice (some ⟨pb,po,none⟩) L pc)] [.inRegion (rop (pt bPL 2661)) [9,10,11],.code (pt bPL 3685),.inBlock 1,.code (pt bPL 485),.inLoop (pt bPL 37),.inBlock 0,.code (pt bPL 7)] q0 df0 fun a0 df0 q0=>?_;refine nw_runO closedN 15 [(30,.int .i64 ((i+1:Nat):Int))] [(12,.int .i64 ((i+1:Nat):Int)),(10,.slice (some ⟨pb,po,none⟩) L pc),(11,.int .i64 (L:Int)),(2,.pointer (some ⟨r,0,none⟩)),(1,.slice (some ⟨pb,po,none⟩) L pc)] [.inLoop (pt bPL 37),.inBlock 0,.code (pt bPL 7)] [(.int .i64 (IntKind.i64.wrap ((i:Int)+1)),.int .i64 ((i+1:Nat):Int))] q0 df0 ⟨(by simp [go_sem,hw]),trivial⟩ fun a0 df0 q0=>?_;refine nw_inLoop closedN ?_;exact Walk.mono (key h0 a0 df0 ⟨q0.sz,q0.g 10 rfl,q0.g 11 rfl,q0.g 12 rfl,q0.g 2 rfl,q0.g 1 rfl,trivial⟩) (by omega)
  ·skip
   skip
   have f23:=q0.ev 23 rfl;rw [h0] at f23;refine nw_by closedN (by k_ne) rfl rfl rfl f23 Tryz.func201 (by kernel_rfl) rfl fun a1 df1 et=>?_;have q1:Kn a1 2 []:=⟨by rw [et];simp [Tryz.f201],by simp [KnL,et]⟩;clear et;refine nw_run closedN 10 [(1,.bool false),(0,.bool true)] [.code .ret] q1 df1 fun a1 df1 q1=>?_;refine nw_ret closedN ?_;refine nw_leave2 closedN rfl df1 Tryz.func201 rfl (q1.g 0 rfl) (q1.g 1 rfl) rfl q0 (by decide) fun a0 en q0=>?_;replace df0:=en.trans df0;refine nw_run closedN 1 [(17,.tuple #[.bool true,.bool false]),(6,.int .i64 (i:Int)),(10,.slice (some ⟨pb,po,none⟩) L pc),(11,.int .i64 (L:Int)),(12,.int .i64 (i:Int)),(2,.pointer (some ⟨r,0,none⟩)),(1,.slice (some ⟨pb,po,none⟩) L pc)] [.inRegion (rop (pt bPL 2661)) [8,9,10,11],.code (pt bPL 3685),.inBlock 1,.code (pt bPL 485),.inLoop (pt bPL 37),.inBlock 0,.code (pt bPL 7)] q0 df0 fun a0 df0 q0=>?_;refine nw_run closedN 1 [(25,.bool true),(17,.tuple #[.bool true,.bool false]),(6,.int .i64 (i:Int)),(10,.slice (some ⟨pb,po,none⟩) L pc),(11,.int .i64 (L:Int)),(12,.int .i64 (i:Int)),(2,.pointer (some ⟨r,0,none⟩)),(1,.slice (some ⟨pb,po,none⟩) L pc)] [.inRegion (rop (pt bPL 2661)) [9,10,11],.code (pt bPL 3685),.inBlock 1,.code (pt bPL 485),.inLoop (pt bPL 37),.inBlock 0,.code (pt bPL 7)] q0 df0 fun a0 df0 q0=>?_;refine nw_run closedN 16 [(5,.int .i64 (i:Int)),(4,.bool false),(10,.slice (some ⟨pb,po,none⟩) L pc),(11,.int .i64 (L:Int)),(12,.int .i64 (i:Int)),(2,.pointer (some ⟨r,0,none⟩)),(1,.slice (some ⟨pb,po,none⟩) L pc)] [.code .ret,.inBlock 1,.code (pt bPL 485),.inLoop (pt bPL 37),.inBlock 0,.code (pt bPL 7)] q0 df0 fun a0 df0 q0=>?_;refine nw_ret closedN ?_;have hk:=keyR (by omega);rw [h0] at hk;exact Walk.mono (nw_leave2 (m:=m) closedN rfl df0 Tryz.func69 rfl (q0.g 4 rfl) (q0.g 5 rfl) hd₁ q₁ hj₁ hk) (by omega)
  ·skip
   skip
   have f23:=q0.ev 23 rfl;rw [h0] at f23;refine nw_by closedN (by k_ne) rfl rfl rfl f23 Tryz.func202 (by kernel_rfl) rfl fun a1 df1 et=>?_;have q1:Kn a1 2 []:=⟨by rw [et];simp [Tryz.f202],by simp [KnL,et]⟩;clear et;refine nw_run closedN 10 [(1,.bool true),(0,.bool true)] [.code .ret] q1 df1 fun a1 df1 q1=>?_;refine nw_ret closedN ?_;refine nw_leave2 closedN rfl df1 Tryz.func202 rfl (q1.g 0 rfl) (q1.g 1 rfl) rfl q0 (by decide) fun a0 en q0=>?_;replace df0:=en.trans df0;refine nw_run closedN 1 [(17,.tuple #[.bool true,.bool true]),(6,.int .i64 (i:Int)),(10,.slice (some ⟨pb,po,none⟩) L pc),(11,.int .i64 (L:Int)),(12,.int .i64 (i:Int)),(2,.pointer (some ⟨r,0,none⟩)),(1,.slice (some ⟨pb,po,none⟩) L pc)] [.inRegion (rop (pt bPL 2661)) [8,9,10,11],.code (pt bPL 3685),.inBlock 1,.code (pt bPL 485),.inLoop (pt bPL 37),.inBlock 0,.code (pt bPL 7)] q0 df0 fun a0 df0 q0=>?_;refine nw_run closedN 1 [(25,.bool true),(17,.tuple #[.bool true,.bool true]),(6,.int .i64 (i:Int)),(10,.slice (some ⟨pb,po,none⟩) L pc),(11,.int .i64 (L:Int)),(12,.int .i64 (i:Int)),(2,.pointer (some ⟨r,0,none⟩)),(1,.slice (some ⟨pb,po,none⟩) L pc)] [.inRegion (rop (pt bPL 2661)) [9,10,11],.code (pt bPL 3685),.inBlock 1,.code (pt bPL 485),.inLoop (pt bPL 37),.inBlock 0,.code (pt bPL 7)] q0 df0 fun a0 df0 q0=>?_;refine nw_run closedN 16 [(5,.int .i64 (i:Int)),(4,.bool true),(10,.slice (some ⟨pb,po,none⟩) L pc),(11,.int .i64 (L:Int)),(12,.int .i64 (i:Int)),(2,.pointer (some ⟨r,0,none⟩)),(1,.slice (some ⟨pb,po,none⟩) L pc)] [.code .ret,.inBlock 1,.code (pt bPL 485),.inLoop (pt bPL 37),.inBlock 0,.code (pt bPL 7)] q0 df0 fun a0 df0 q0=>?_;refine nw_ret closedN ?_;have hk:=keyR (by omega);rw [h0] at hk;exact Walk.mono (nw_leave2 (m:=m) closedN rfl df0 Tryz.func69 rfl (q0.g 4 rfl) (q0.g 5 rfl) hd₁ q₁ hj₁ hk) (by omega)
theorem play_go (hP:HPath ro pb po L p) (hA:HActs ro) (hs:∀ k,s k < 3) (hC:∀ own',Ext own own'->Behind (WN Tryz.prog main ro E Stop own' m) b₁ a₁ ops₁ rest₁ k₁ cs₁ n₁ j₁ l₁ (.tuple #[.bool (plays s p L 0).1,.int .i64 ((plays s p L 0).2:Int)])) {a0:Act} (df0:a0.defers=[]) (q0:Kn a0 33 [(0,.agg #[.int .i64 (s 0:Int),.int .i64 (s 1:Int),.int .i64 (s 2:Int),.int .i64 (s 3:Int),.int .i64 (s 4:Int),.int .i64 (s 5:Int)]),(1,.slice (some ⟨pb,po,none⟩) L pc)]) :
 WN Tryz.prog main ro E Stop own (m+600) (G ((base 69).at a0 [.code (Tryz.f69.body.getD .skip)]) (b₁.at a₁ (.inRegion ops₁ (i₁::rest₁)::k₁)::cs₁)):=by
 have hfew:=hP.few;have key:∀ r own',own' r=some (.cells #[.int .i64 (s 0:Int),.int .i64 (s 1:Int),.int .i64 (s 2:Int),.int .i64 (s 3:Int),.int .i64 (s 4:Int),.int .i64 (s 5:Int)] 96)->Ext own own'->∀ a0:Act,a0.defers=[]->Kn a0 33 [(10,.slice (some ⟨pb,po,none⟩) L pc),(11,.int .i64 (L:Int)),(12,.int .i64 ((0:Nat):Int)),(2,.pointer (some ⟨r,0,none⟩)),(1,.slice (some ⟨pb,po,none⟩) L pc)]->WN Tryz.prog main ro E Stop own' (m+(L+1) * 80) (G ((base 69).at a0 [.code plBODY,.inLoop plBODY,.inBlock 0,.code plTAIL]) (b₁.at a₁ (.inRegion ops₁ (i₁::rest₁)::k₁)::cs₁)):=fun r own' h1 h2=>by
  refine pl_loop hd₁ q₁ hj₁ hP hA hs (fun k hk=>?_) L 0 (by omega) (hC own' h2);refine ⟨_,_,_,h1,?_⟩;have:k=0\/k=1\/k=2\/k=3\/k=4\/k=5:=by omega
  rcases this with rfl | rfl | rfl | rfl | rfl | rfl <;> rfl
 clear hC;simp only [plBODY,plTAIL,Tryz.f69,Option.getD_some] at key ⊢;refine nw_run closedN 2 [(0,.agg #[.int .i64 (s 0:Int),.int .i64 (s 1:Int),.int .i64 (s 2:Int),.int .i64 (s 3:Int),.int .i64 (s 4:Int),.int .i64 (s 5:Int)]),(1,.slice (some ⟨pb,po,none⟩) L pc)] [.inRegion (rop (pt bPL 2)) [0,1,2],.code (pt bPL 3)] q0 df0 fun a0 df0 q0=>?_;have eo:(og (pt bPL 2) 0).op=.box 96 (.tmp 0):=by kernel_rfl
 refine nw_make (o:=(og (pt bPL 2) 0)) (.cells #[.int .i64 (s 0:Int),.int .i64 (s 1:Int),.int .i64 (s 2:Int),.int .i64 (s 3:Int),.int .i64 (s 4:Int),.int .i64 (s 5:Int)] 96) (by k_ne) rfl rfl rfl (fun w hm hE=>by rw [ex_op eo];exact ⟨by simp [go_sem,q0.g 0 rfl],by simp [go_sem,q0.g 0 rfl]⟩) q0 (by decide) fun r a0 hr1 hr2 en q0=>?_;replace df0:=en.trans df0;replace key:=key r _ (Hold.set_same _ _ _) (Ext.set hr1);generalize own.set r (.cells #[.int .i64 (s 0:Int),.int .i64 (s 1:Int),.int .i64 (s 2:Int),.int .i64 (s 3:Int),.int .i64 (s 4:Int),.int .i64 (s 5:Int)] 96)=own' at *;refine nw_run closedN 7 [(10,.slice (some ⟨pb,po,none⟩) L pc),(2,.pointer (some ⟨r,0,none⟩)),(1,.slice (some ⟨pb,po,none⟩) L pc)] [.inRegion (rop (pt bPL 9)) [1,2],.code (pt bPL 13),.code (pt bPL 7)] q0 df0 fun a0 df0 q0=>?_;refine nw_run closedN 4 [(12,.int .i64 0),(11,.int .i64 (L:Int)),(10,.slice (some ⟨pb,po,none⟩) L pc),(2,.pointer (some ⟨r,0,none⟩)),(1,.slice (some ⟨pb,po,none⟩) L pc)] [.code (pt bPL 21),.inBlock 0,.code (pt bPL 7)] q0 df0 fun a0 df0 q0=>?_;refine nw_loop closedN ?_;exact Walk.mono (key a0 df0 ⟨q0.sz,q0.g 10 rfl,q0.g 11 rfl,q0.g 12 rfl,q0.g 2 rfl,q0.g 1 rfl,trivial⟩) (by omega)
end
end Mt
end Go.Proofs.YtgkajecjbflbbaaGreatDoor
