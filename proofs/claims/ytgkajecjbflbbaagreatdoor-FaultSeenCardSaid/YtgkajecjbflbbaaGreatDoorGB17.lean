/- the fault laws -/
import Derived.DeepKeys4
import Derived.Laws.EntriesVeiled
import Derived.WideKeyEntry
import Derived.Deep.RegionHeld3
import Derived.RangeFuncCalls
import Derived.OwnWalkIn
import Derived.LoopNIn
import Derived.LoopIn
import Derived.Sort.BigQuietIn
import Derived.RangeFuncBox
import Derived.Shelf.Abstract
import Derived.Deep.AppendLies
import Derived.Test.YtgkajecjbflbbaaGreatDoorGB16
set_option maxHeartbeats 1000000
set_option maxRecDepth 100000
set_option linter.all false
namespace Go.Proofs.YtgkajecjbflbbaaGreatDoor
namespace Sp
abbrev Prt:=Int × Int
structure Msg where
 name:ByteArray
 groups:Int
 due:Int
structure Rec where
 k:Int
 a:Int
 b:Int
 m:Int
structure Bk where
 room:Int
 gap:Int
 ms:List Msg
 ss:List (List Prt)
 rs:List Rec
def inB (n low high:Int):Bool:=decide (low<=n/\n<=high)
def letter (c:UInt8):Bool:=decide (97<=c.toNat/\c.toNat<=122)
def digit (c:UInt8):Bool:=decide (48<=c.toNat/\c.toNat<=57)
def okAt (i:Nat) (c:UInt8):Bool:=letter c || (decide (0 < i) && digit c)
def okName (l:List UInt8):Bool:=(List.range l.length).all fun i=>okAt i (l.getD i 0)
def isName (l:List UInt8):Bool:=okName l && inB l.length 1 9
def isPart (b:Bk) (p:Prt):Bool:=inB p.1 0 ((b.ms.length:Int) - 1) && inB p.2 0 (((b.ms[p.1.toNat]?).elim 0 Msg.groups) - 1)
def numbersAl (b:Bk):Int:=if inB b.room 1 20 && inB b.gap 0 99 then 0 else 1
def goM (seen:List (List UInt8)):List Msg->Int
 | []=>0
 | m::l=>if isName m.name.data.toList=false then 4 else if m.name.data.toList∈seen then 5 else if inB m.groups 1 4=false\/inB m.due 0 999=false then 1 else goM (m.name.data.toList::seen) l
def msgsAl (b:Bk):Int:=if 5 < b.ms.length then 2 else goM [] b.ms
def goP (b:Bk) (seen:List Prt):List Prt->Int
 | []=>0
 | p::l=>if isPart b p=false then 6 else if p∈seen then 5 else goP b (p::seen) l
def goS (b:Bk):List (List Prt)->Int
 | []=>0
 | s::l=>if 5 < s.length then 2 else if goP b [] s≠0 then goP b [] s else goS b l
def sessAl (b:Bk):Int:=if 4 < b.ss.length then 2 else goS b b.ss
def usesB (k:Int):Bool:=decide (k=4)
def usesMany (k:Int):Bool:=decide (2<=k)
def most (b:Bk) (r:Rec):Option Int :=
 if r.k<=3 then (if inB r.a 0 ((b.ss.length:Int) - 1) then some (((b.ss[r.a.toNat]?).elim 0 List.length:Nat):Int) else none)
 else if r.k=4 then (if isPart b (r.a,r.b) then some (b.ss.length:Int) else none)
 else (if inB r.a 0 ((b.ms.length:Int) - 1) then some ((b.ms[r.a.toNat]?).elim 0 Msg.groups) else none)
def recAl (b:Bk) (r:Rec):Int :=
 if inB r.k 0 5=false then 1
 else if (usesB r.k=false/\r.b≠0)\/(usesMany r.k=false/\r.m≠0) then 1
 else match most b r with
  | none=>6
  | some n=>if inB r.m 0 n then 0 else 1
def goR (b:Bk):List Rec->Int
 | []=>0
 | r::l=>if recAl b r≠0 then recAl b r else goR b l
def recsAl (b:Bk):Int:=if 5 < b.rs.length then 2 else goR b b.rs
def bookAl (b:Bk):Int:=if numbersAl b≠0 then numbersAl b else if msgsAl b≠0 then msgsAl b else if sessAl b≠0 then sessAl b else recsAl b
def copies (b:Bk) (c:List Int) (p:Prt):Int:=(((b.ss.zip c).map fun x=>(x.1.take x.2.toNat).count p).sum:Nat)
def haveOf (b:Bk) (c:List Int) (m:Int):Int:=(((List.range ((b.ms[m.toNat]?).elim 0 Msg.groups).toNat).filter fun (g:Nat)=>decide (0 < copies b c (m,(g:Int)))).length:Nat)
def rightR (b:Bk) (c:List Int) (r:Rec):Bool :=
 if r.k=0 then decide (c.getD r.a.toNat 0=(((b.ss[r.a.toNat]?).elim 0 List.length:Nat):Int))
 else if r.k=1 then decide (c.getD r.a.toNat 0 < (((b.ss[r.a.toNat]?).elim 0 List.length:Nat):Int))
 else if r.k=2 then decide (r.m<=c.getD r.a.toNat 0)
 else if r.k=3 then decide (c.getD r.a.toNat 0<=r.m)
 else if r.k=4 then decide (copies b c (r.a,r.b)=r.m)
 else decide (haveOf b c r.a=r.m)
def right (b:Bk) (c:List Int):Bool:=b.rs.all (rightR b c)
def pastsFrom (b:Bk) (pre:List Int):List (List Prt)->List (List Int)
 | []=>if right b pre then [pre] else []
 | s::l=>(List.range (s.length+1)).flatMap fun (n:Nat)=>pastsFrom b (pre ++ [(n:Int)]) l
def pasts (b:Bk):List (List Int):=pastsFrom b [] b.ss
end Sp
end Go.Proofs.YtgkajecjbflbbaaGreatDoor
namespace Go.Proofs.YtgkajecjbflbbaaGreatDoor
open Go.RowKit Sp
theorem below_drewN {B:Nat} {a w:World} (h:Below B a w) {n:Nat}:Below B a (w.drewN n):=⟨h.os,h.tape,h.output,h.size,h.block⟩
theorem Below.next {w a b:World} (h:Below w.heap.size w a) (k:Below a.heap.size a b):Below w.heap.size w b:=h.trans (k.mono h.size)
theorem Below.al {w a:World} (h:Below w.heap.size w a) (o:Obj):Below w.heap.size w (a.alloc o):=h.alloc h.size o
theorem Below.wr {B:Nat} {a w:World} (h:Below B a w) {p:Addr} (hp:B<=p.block) (u:Value):Below B a (w.setCell p u):=h.setCell hp u
theorem Below.gr {w a c:World} {r:Nat} (h:Below w.heap.size w a) (hg:a.grownBy c (some r)) (hr:w.heap.size<=r):Below w.heap.size w c:=h.grown hg h.size fun k e=>by cases e;exact hr
theorem Below.alN {n:Nat} {w a:World} (h:Below n w a) (hn:n<=w.heap.size) (o:Obj):Below n w (a.alloc o):=h.alloc (Nat.le_trans hn h.size) o
theorem Below.nxN {n:Nat} {w a b:World} (h:Below n w a) (hn:n<=w.heap.size) (k:Below a.heap.size a b):Below n w b:=h.trans (k.mono (Nat.le_trans hn h.size))
theorem Below.grN {n:Nat} {w a c:World} {r:Nat} (h:Below n w a) (hn:n<=w.heap.size) (hg:a.grownBy c (some r)) (hr:n<=r):Below n w c:=h.grown hg (Nat.le_trans hn h.size) fun k e=>by cases e;exact hr
theorem bel {n:Nat} {w a:World} (h:Below n w a:=by repeat (first | (with_reducible first | exact Below.refl _ _ | assumption | refine below_drewN ?_ | refine Below.drew ?_ | refine Below.al ?_ _ | refine Below.next ?_ (by with_reducible assumption) | refine Below.gr ?_ (by with_reducible assumption) (by first | omega | (simp;done) | (simp;omega)) | refine Below.wr ?_ (by first | omega | (simp;done) | (simp;omega)) _ | refine Below.alN ?_ (by omega) _ | refine Below.nxN ?_ (by omega) (by with_reducible assumption) | refine Below.grN ?_ (by omega) (by with_reducible assumption) (by first | omega | (simp;done) | (simp;omega))))):Below n w a:=h
theorem lt_of_cell {w:World} {a:Addr} {v:Value} (h:w.cell? a=some v):a.block < w.heap.size:=by
 unfold World.cell? at h
 cases ho:w.heap[a.block]? with
 | none=>simp [ho] at h
 | some o=>exact (Array.getElem?_eq_some_iff.1 ho).1
section
variable {w w':World}
end
theorem bytes_of {P:Program} (w:World) (src dst e:TypeId) (s:ByteArray) (hs:P.underlying src=some .string) (hd:P.underlying dst=some (.slice e)) (he:P.underlying e=some (.int .u8)) :
 ∃ cap w1,(convert src dst (.string s)).run P w=.ok (.slice (some ⟨w.heap.size,0,none⟩) s.size cap) w1/\(∀ k (h:k < s.size),w1.cell? ⟨w.heap.size,k,none⟩=some (.int .u8 (s.data[k].toNat:Int)))/\Below w.heap.size w w1:=by
 refine ⟨_,_,run_bytes_of_string w src dst e s hs hd he,fun k h=>?_,(Below.refl _ _).drew.alloc (Nat.le_refl _) _⟩;rw [show w.heap.size=w.drew.heap.size from rfl,World.cell?_alloc_mark];unfold bytesRow;rw [Array.getElem?_append_left (by simpa using h)];simp [h]
end Go.Proofs.YtgkajecjbflbbaaGreatDoor
namespace Go.Proofs.YtgkajecjbflbbaaGreatDoor
open Go Go.Maps Go.RowKit
section
variable {P:Program} {w:World} {k e:TypeId} {b n:Nat}
def SetAt (w:World) (P:Program) (k e:TypeId) (b n:Nat) (keys:List Value):Prop :=
 ∃ D:DataW Unit,w.ownsMap P k (plainElem P e) b n D/\IsMap D/\∀ key kl,keyOf P k key=some kl ->
  (key∈keys->D.atKey kl (.lit (.bool false))=.lit (.bool true))/\(key ∉ keys->D.atKey kl (.lit (.bool false))=.lit (.bool false))
theorem ownsMap_same {H:Type} {R:Value->Option (DataW H × List MemPlace)} {w w':World} {D:DataW H} (h:w.ownsMap P k R b n D) (hb:w'.heap[b]? = w.heap[b]?):w'.ownsMap P k R b n D:=by
 obtain ⟨es,clock,h1,h2⟩:=h;exact ⟨es,clock,hb.trans h1,h2⟩
theorem SetAt.same {keys:List Value} {w':World} (h:SetAt w P k e b n keys) (hb:w'.heap[b]? = w.heap[b]?):SetAt w' P k e b n keys:=by
 obtain ⟨D,h1,h2⟩:=h;exact ⟨D,ownsMap_same h1 hb,h2⟩
theorem SetAt.lt {keys:List Value} (h:SetAt w P k e b n keys):b < w.heap.size:=by
 obtain ⟨D,h1,_⟩:=h;exact h1.lt
theorem SetAt.below {keys:List Value} {w':World} (h:SetAt w P k e b n keys) (hb:Below w.heap.size w w'):SetAt w' P k e b n keys:=h.same (hb.block _ h.lt)
theorem SetAt.al {keys:List Value} (h:SetAt w P k e b n keys) (o:Obj):SetAt (w.alloc o) P k e b n keys:=h.same (Below.heap_alloc w o b h.lt)
theorem SetAt.made (w:World) (P:Program) (k e:TypeId):SetAt (w.alloc (.map #[] 0)) P k e w.heap.size 0 [] :=
 ⟨.map [],World.ownsMap_made w P k _,isMap_empty,fun _ _ _=>⟨fun h=>(by cases h),fun _=>rfl⟩⟩
theorem plainElem_bool_inv {H:Type} (he:P.underlying e=some .bool) {v:Value} {z:DataW H × List MemPlace} (h:plainElem P e v=some z):∃ x,v=.bool x/\z=(.lit (.bool x),[]):=by
 unfold plainElem at h;rw [he] at h;cases v <;> simp at h;exact ⟨_,rfl,h.symm⟩
theorem SetAt.run {keys:List Value} (h:SetAt w P k e b n keys) (K:Keyed P k) {t:TypeId} (ht:P.underlying t=some (.map k e)) (he:P.underlying e=some .bool) (hz:(zeroValue e).run P w=.ok (.bool false) w)
 {key:Value} {kl:Lit} (hkey:keyOf P k key=some kl) {r:Bool} (hr:r=true↔key∈keys):(Instr.lookup t (.map (some b)) key false).run P w=.ok (.bool r) w:=by
 obtain ⟨D,h1,h2,h3⟩:=h;obtain ⟨v,ps,hrun,hv⟩:=h1.lookup K ht hz (plainElem_bool he false) hkey;obtain ⟨x,rfl,hx⟩:=plainElem_bool_inv he hv;obtain ⟨y,n⟩:=h3 key kl hkey;simp only [Prod.mk.injEq] at hx;have hxr:x=r:=by
  cases r with
  | true=>rw [y (hr.1 rfl)] at hx;simpa using hx.1.symm
  | false=>rw [n (fun hh=>by simpa using hr.2 hh)] at hx;simpa using hx.1.symm
 rw [hrun,hxr]
theorem SetAt.put {keys:List Value} (h:SetAt w P k e b n keys) (K:Keyed P k) {t:TypeId} (ht:P.underlying t=some (.map k e)) (he:P.underlying e=some .bool) (hn:n < maxLen)
 {key:Value} {kl:Lit} (hkey:keyOf P k key=some kl):∃ w',(Instr.mapUpdate t (.map (some b)) key (.bool true)).run P w=.ok () w'/\SetAt w' P k e b (n+1) (key::keys)/\w.grownBy w' (some b):=by
 obtain ⟨D,h1,h2,h3⟩:=h;obtain ⟨w',hrun,hown,hg⟩:=h1.update K ht hn hkey (plainElem_bool he true);refine ⟨w',hrun,⟨_,hown,h2.put _ _,fun key' kl' hkey'=>?_⟩,hg⟩;by_cases e1:key'=key
 ·subst e1;rw [hkey] at hkey';cases hkey';exact ⟨fun _=>atKey_put_same h2 (K.key hkey) _ _,fun hh=>absurd (List.mem_cons_self ..) hh⟩
 ·have hne:kl'≠kl:=fun e2=>e1 (K.inj (e2 ▸ hkey') hkey);rw [atKey_put_other hne];obtain ⟨y,n⟩:=h3 key' kl' hkey';exact ⟨fun hh=>y (by simpa [e1] using hh),fun hh=>n (fun h4=>hh (List.mem_cons_of_mem _ h4))⟩
theorem wpList_lookup_set {ops:Array Oper} {rest:List Oper} {o:Oper} {a:Act} {Q:Exit->Act->World->Prop}
 (hg:o.guard=none) (m x:Operand) (t:TypeId) (hop:o.op=Op.lookup t m x false) (K:Keyed P k) (ht:P.underlying t=some (.map k e)) (he:P.underlying e=some .bool) (hz:(zeroValue e).run P w=.ok (.bool false) w)
 {keys:List Value} (hm:a.eval m=.map (some b)) (h:SetAt w P k e b n keys) {key:Value} {kl:Lit} (hx:a.eval x=key) (hkey:keyOf P k key=some kl) {r:Bool} (hr:r=true↔key∈keys)
 (hK:wpList P ops Q rest (a.put o.dst (.bool r)) w):wpList P ops Q (o::rest) a w:=by
 refine wpList_plain hg fun K' hK'=>?_;unfold Oper.wp;simp [execOp,hop,hm,hx,h.run K ht he hz hkey hr,Result.andThen];exact hK' _ _ hK
theorem wpList_lookup_set_yes {ops:Array Oper} {rest:List Oper} {o:Oper} {a:Act} {Q:Exit->Act->World->Prop}
 (hg:o.guard=none) (m x:Operand) (t:TypeId) (hop:o.op=Op.lookup t m x false) (K:Keyed P k) (ht:P.underlying t=some (.map k e)) (he:P.underlying e=some .bool) (hz:(zeroValue e).run P w=.ok (.bool false) w)
 {keys:List Value} (hm:a.eval m=.map (some b)) (h:SetAt w P k e b n keys) {key:Value} {kl:Lit} (hkey:keyOf P k key=some kl) (hr:key∈keys) (hx:a.eval x=key)
 (hK:wpList P ops Q rest (a.put o.dst (.bool true)) w):wpList P ops Q (o::rest) a w :=
 wpList_lookup_set hg m x t hop K ht he hz hm h hx hkey ⟨fun _=>hr,fun _=>rfl⟩ hK
theorem wpList_lookup_set_no {ops:Array Oper} {rest:List Oper} {o:Oper} {a:Act} {Q:Exit->Act->World->Prop}
 (hg:o.guard=none) (m x:Operand) (t:TypeId) (hop:o.op=Op.lookup t m x false) (K:Keyed P k) (ht:P.underlying t=some (.map k e)) (he:P.underlying e=some .bool) (hz:(zeroValue e).run P w=.ok (.bool false) w)
 {keys:List Value} (hm:a.eval m=.map (some b)) (h:SetAt w P k e b n keys) {key:Value} {kl:Lit} (hkey:keyOf P k key=some kl) (hr:key ∉ keys) (hx:a.eval x=key)
 (hK:wpList P ops Q rest (a.put o.dst (.bool false)) w):wpList P ops Q (o::rest) a w :=
 wpList_lookup_set hg m x t hop K ht he hz hm h hx hkey ⟨fun h=>(by cases h),fun h=>absurd h hr⟩ hK
theorem wpList_put_set {ops:Array Oper} {rest:List Oper} {o:Oper} {a:Act} {Q:Exit->Act->World->Prop}
 (hg:o.guard=none) (m x v:Operand) (t:TypeId) (hop:o.op=Op.mapUpdate t m x v) (K:Keyed P k) (ht:P.underlying t=some (.map k e)) (he:P.underlying e=some .bool) (hn:n < maxLen)
 {keys:List Value} (hm:a.eval m=.map (some b)) (h:SetAt w P k e b n keys) {key:Value} {kl:Lit} (hkey:keyOf P k key=some kl) (hx:a.eval x=key) (hv:a.eval v=.bool true)
 (hK:∀ w',SetAt w' P k e b (n+1) (key::keys)->w.grownBy w' (some b)->wpList P ops Q rest (a.put o.dst undef) w'):wpList P ops Q (o::rest) a w:=by
 refine wpList_plain hg fun K' hK'=>?_;obtain ⟨w',hrun,h1,h2⟩:=h.put K ht he hn hkey;unfold Oper.wp;simp [execOp,hop,hm,hx,hv,hrun,Result.andThen];exact hK' _ _ (hK w' h1 h2)
end
end Go.Proofs.YtgkajecjbflbbaaGreatDoor
namespace Go.Proofs.YtgkajecjbflbbaaGreatDoor
open Go.RowKit Go.Maps Sp
theorem bcell {W w1:World} (hb:Below W.heap.size W w1):(∀ b o,b < W.heap.size->w1.cell? ⟨b,o,none⟩=W.cell? ⟨b,o,none⟩)/\(∀ b o,b < W.heap.size->w1.frozen? ⟨b,o,none⟩=W.frozen? ⟨b,o,none⟩) :=
 ⟨fun b o h=>hb.cell (p:=⟨b,o,none⟩) h,fun b o h=>hb.frozen (p:=⟨b,o,none⟩) h⟩
def strV (l:List UInt8):Value:=.string ⟨l.toArray⟩
theorem strV_inj {a b:List UInt8} (h:strV a=strV b):a=b:=by
 unfold strV at h;have:=congrArg (fun v=>match v with | Value.string s=>s.data.toList | _=>[]) h;simpa using this
theorem mem_strV {l:List UInt8} {seen:List (List UInt8)}:strV l∈seen.map strV↔l∈seen:=by
 constructor
 ·intro h;obtain ⟨x,hx,e⟩:=List.mem_map.1 h;rw [<- strV_inj e];exact hx
 ·exact fun h=>List.mem_map_of_mem h
theorem keyS {P:Program} {k:TypeId} (hk:P.underlying k=some .string) {s:ByteArray} (hs:s.size<=maxLen):keyOf P k (.string s)=some (.string s.data.toList):=by
 simp [keyOf,hk,mapKey,hs]
end Go.Proofs.YtgkajecjbflbbaaGreatDoor
namespace Go.Proofs.YtgkajecjbflbbaaGreatDoor
open Go Go.RowKit
structure Bel (W:World) where
 w:World
 h:Below W.heap.size W w
instance (W : World) : Inhabited (Bel W) := ⟨⟨W, Below.refl _ _⟩⟩
def later (W:World) (x:Bel W):World:=x.w
section
variable {W:World} {x:Bel W} {b o:Nat}
theorem later_below (W:World) (x:Bel W):Below W.heap.size W (later W x):=x.h
theorem cell?_later (h:b < W.heap.size):(later W x).cell? ⟨b,o,none⟩=W.cell? ⟨b,o,none⟩:=x.h.cell (p:=⟨b,o,none⟩) h
theorem frozen?_later (h:b < W.heap.size):(later W x).frozen? ⟨b,o,none⟩=W.frozen? ⟨b,o,none⟩:=x.h.frozen (p:=⟨b,o,none⟩) h
attribute [go_sem] cell?_later frozen?_later
theorem Calls.bel_of {P:Program} {f:FuncId} {args:Array Value} {v:Value}
 (h:Calls P f args (later W x) fun e w'=>e=.returned v/\Below (later W x).heap.size (later W x) w'):Calls P f args (later W x) fun e w''=>e=.returned v/\∃ y,w''=later W y :=
 h.mono fun _ w' ⟨he,hb⟩=>⟨he,⟨w',Below.next x.h hb⟩,rfl⟩
theorem wp_region_bel {P:Program} {id:Nat} {Q:Exit->Act->World->Prop} {a:Act} {l:List Oper} (hm:P.follows .mixedOrders=true) (hB:Region.lexB .any l.toArray=true)
 (h:wpQuiet P l.toArray (fun w'=>∃ x,w'=later W x) (fun a'=>∀ w',(∃ x,w'=later W x)->Q .normal a' w') l a):(Code.region id l.toArray true).wp P Q a W :=
 wp_region_quiet (C:=fun w'=>∃ x,w'=later W x) hm hB ⟨⟨{ W with drawn:=W.drawn+1 },⟨rfl,rfl,rfl,Nat.le_refl _,fun _ _=>rfl⟩⟩,rfl⟩ (by simpa using h)
end
end Go.Proofs.YtgkajecjbflbbaaGreatDoor
namespace Go.Proofs.YtgkajecjbflbbaaGreatDoor
open Go.RowKit Go.Maps Sp
section
variable {b:Bk} {vr vg vm vs vc:Value} {w:World}
end
section
variable {b:Bk} {vr vg vm vs vc:Value} {w:World}
end
section
variable {b:Bk} {vr vg vm vs vc:Value} {w:World}
theorem msgsAl_ok {b:Bk} (h:msgsAl b=0):∀ m∈b.ms,0<=m.groups/\m.groups<=1000:=by
 unfold msgsAl at h;split at h
 ·cases h
 ·have:∀ (l:List Msg) (seen:List (List UInt8)),goM seen l=0->∀ m∈l,0<=m.groups/\m.groups<=1000:=by
   intro l
   induction l with
   | nil=>intro _ _ m hm;cases hm
   | cons x l ih =>
    intro seen hg m hm;unfold goM at hg;split at hg
    ·cases hg
    ·split at hg
     ·cases hg
     ·split at hg
      ·cases hg
      ·rename_i hx
       rcases List.mem_cons.1 hm with rfl | hm
       ·simp only [not_or,Bool.not_eq_false,inB,decide_eq_true_eq] at hx;omega
       ·exact ih _ hg m hm
  exact this _ _ h
end
end Go.Proofs.YtgkajecjbflbbaaGreatDoor
namespace Go.Proofs.YtgkajecjbflbbaaGreatDoor
open Go Go.Maps Go.RowKit
open Go.WideMaps (KeyLaw)
open Go.WideElems (findIdx_born findIdx_arr modify_last set_self Fit)
open Go.ChangeMaps Go.MapKept
section
variable {H:Type} {P:Program} {w:World} {t k e:TypeId} {R:Value->Option (DataW H × List MemPlace)} {b n:Nat} {es:Array MapEntry} {clock:Nat}
end
section
variable {P:Program} {w:World} {t k e:TypeId} {b n:Nat}
end
end Go.Proofs.YtgkajecjbflbbaaGreatDoor
namespace Go.Proofs.YtgkajecjbflbbaaGreatDoor
open Go.RowKit Go.Maps Sp
structure BkOk (b:Bk):Prop where
 groups:∀ m∈b.ms,0<=m.groups/\m.groups<=1000
 ml:b.ms.length<=5
 sl:b.ss.length<=4
 pl:∀ s∈b.ss,s.length<=5
 part:∀ s∈b.ss,∀ p∈s,isPart b p=true
 nodup:∀ s∈b.ss,s.Nodup
section
variable {b:Bk} {vr vg vm vs vc:Value} {w:World}
end
section
variable {b:Bk} {vr vg vm vs vc:Value} {w:World}
end
section
variable {b:Bk} {vr vg vm vs vc:Value} {w:World}
end
end Go.Proofs.YtgkajecjbflbbaaGreatDoor
namespace Go.Proofs.YtgkajecjbflbbaaGreatDoor
open Go Go.RowKit
theorem wide_fn (f:FuncId):Fence.wide.fn f=True:=eq_true trivial
theorem wide_depth:Fence.wide.depth=none:=rfl
attribute [go_sem] wide_fn wide_depth
theorem one_param (p:Nat) (v:Value) (T:Array Value):((#[p]:Array Tmp).zip #[v]).foldl (fun t (p,v)=>t.setIfInBounds p v) T=T.setIfInBounds p v:=by simp
structure KS (p:Nat->Prop) (w w':World):Prop where
 os:w'.os=w.os
 tape:w'.tape=w.tape
 output:w'.output=w.output
 size:w.heap.size<=w'.heap.size
 block:∀ k,k < w.heap.size->p k->w'.heap[k]? = w.heap[k]?
section
variable {p q:Nat->Prop} {a b c w:World}
theorem KS.refl (p:Nat->Prop) (w:World):KS p w w:=⟨rfl,rfl,rfl,Nat.le_refl _,fun _ _ _=>rfl⟩
theorem KS.trans (h:KS p a b) (k:KS p b c):KS p a c :=
 ⟨k.os.trans h.os,k.tape.trans h.tape,k.output.trans h.output,Nat.le_trans h.size k.size,fun i hi hp=>(k.block i (Nat.lt_of_lt_of_le hi h.size) hp).trans (h.block i hi hp)⟩
theorem KS.mono (h:KS p a b) (hq:∀ k,k < a.heap.size->q k->p k):KS q a b:=⟨h.os,h.tape,h.output,h.size,fun i hi hp=>h.block i hi (hq i hi hp)⟩
theorem KS.below {n:Nat} (h:Below n a b):KS (· < n) a b:=⟨h.os,h.tape,h.output,h.size,fun i _ hp=>h.block i hp⟩
theorem KS.to_below {n:Nat} (h:KS (· < n) a b) (hn:n<=a.heap.size):Below n a b:=⟨h.os,h.tape,h.output,h.size,fun i hi=>h.block i (Nat.lt_of_lt_of_le hi hn) hi⟩
theorem KS.all (h:Below a.heap.size a b) (p:Nat->Prop):KS p a b:=⟨h.os,h.tape,h.output,h.size,fun i hi _=>h.block i hi⟩
theorem KS.grown {r:Nat} (h:a.grownBy b (some r)) (hp:¬ p r):KS p a b:=⟨h.os,h.tape,h.output,h.size,fun i hi hpi=>h.block i hi (fun e=>by cases e;exact hp hpi)⟩
theorem KS.alloc (p:Nat->Prop) (w:World) (o:Obj):KS p w (w.alloc o):=KS.all ((Below.refl _ _).alloc (Nat.le_refl _) o) p
theorem KS.setCell {x:Addr} (hp:¬ p x.block) (w:World) (v:Value):KS p w (w.setCell x v) :=
 ⟨rfl,rfl,rfl,by simp [World.setCell],fun k _ hk=>Below.heap_setCell w x v k (fun e=>hp (e ▸ hk))⟩
theorem KS.putObj {r:Nat} (hp:¬ p r) (w:World) (o:Obj):KS p w (w.putObj r o) :=
 ⟨rfl,rfl,rfl,by simp,fun k _ hk=>World.putObj_heap_other (fun e=>hp (e ▸ hk))⟩
theorem KS.cell (h:KS p a b) {x:Addr} (hx:x.block < a.heap.size) (hp:p x.block):b.cell? x=a.cell? x:=World.cell?_of_block (h.block _ hx hp)
theorem KS.frozen (h:KS p a b) {x:Addr} (hx:x.block < a.heap.size) (hp:p x.block):b.frozen? x=a.frozen? x:=World.frozen?_of_block (h.block _ hx hp)
end
def Iter {α:Type} (P:Program) (gf:Nat) (recv:Value) (enc:α->Array Value->World->Prop) (xs:List α) (own p:Nat->Prop) (W:World):Prop :=
 ∀ (l:Nat) (J Jx:List α->World->Prop),
  (∀ pre A B,J pre A->KS (fun k=>¬ own k) A B->J pre B)->(∀ pre A B,Jx pre A->KS (fun k=>¬ own k) A B->Jx pre B) ->
  (∀ pre x args A,(∃ suf,xs=pre ++ x::suf)->enc x args A->J pre A->YieldAt Fence.wide 0 P l args A fun e B =>
    (e=.returned (.bool true)/\J (pre ++ [x]) B/\KS p A B)\/(e=.returned (.bool false)/\Jx (pre ++ [x]) B)) ->
  J [] W->CallsIn Fence.wide 0 P gf #[recv,.func (.yield l) #[] #[]] W fun e W'=>(∃ v,e=.returned v)/\(J xs W'\/∃ pre,Jx pre W')
def rPost {α:Type} (q:Nat->Prop) (J Jx:List α->World->Prop) (xs:List α) (A:World):Exit->Act->World->Prop
 | .normal,_,B=>KS q A B/\J xs B
 | .ret,_,B=>KS q A B/\Jx xs B
 | _,_,_=>False
variable {P:Program}
theorem wpIn_range {α:Type} {g:Operand} {ps:Array Tmp} {assign body:Code} {Q:Exit->Act->World->Prop} {a:Act} {w:World} {gf:Nat} {recv:Value}
 (hg:a.eval g=.func (.func gf) #[recv] #[]) (eg:∀ args w,(callFunc gf args).run P w=.ok (.enter gf args) w)
 (enc:α->Array Value->World->Prop) (hps:∀ x args W,enc x args W->args.size=ps.size) (xs:List α) (own p:Nat->Prop) (hown:¬ own (w.heap.size+1)/\¬ own w.heap.size) (hp:¬ p (w.heap.size+1))
 (hseq:∀ W,Below w.heap.size w W->W.heap.size=w.heap.size+1+1->Iter P gf recv enc xs own p W)
 (J Jx:List α->World->Prop) (hJ:∀ pre A B,J pre A->KS (fun k=>¬ (own k\/k=w.heap.size+1)) A B->J pre B) (hJx:∀ pre A B,Jx pre A->KS (fun k=>¬ (own k\/k=w.heap.size+1)) A B->Jx pre B)
 (h0:∀ W,Below w.heap.size w W->W.heap.size=w.heap.size+1+1->J [] W)
 (Mid:List α->α->Act->World->Prop) (hMid:∀ pre x a₁ A B,Mid pre x a₁ A->KS (fun k=>¬ (k=w.heap.size+1)) A B->A.heap.size=B.heap.size->Mid pre x a₁ B)
 (hassign:∀ pre x args A,(∃ suf,xs=pre ++ x::suf)->enc x args A->J pre A->w.heap.size+1 < A.heap.size ->
   assign.wpIn (Fence.wide.inRound (w.heap.size+1)) 0 P (Exit.then (fun a₁ w₁=>KS (fun k=>p k\/k=w.heap.size\/k=w.heap.size+1) A w₁/\Mid pre x a₁ w₁) (fun _ _ _=>False)) { tmps:=(ps.zip args).foldl (fun t (p,v)=>t.setIfInBounds p v) a.tmps,defers:=[] } A)
 (hbody:∀ pre x a₁ A,(∃ suf,xs=pre ++ x::suf)->Mid pre x a₁ A->w.heap.size+1 < A.heap.size->body.wpIn (Fence.wide.inRound (w.heap.size+1)) 0 P (rPost (fun k=>p k\/k=w.heap.size\/k=w.heap.size+1) J Jx (pre ++ [x]) A) a₁ A)
 (hdone:∀ W,J xs W->W.heap[w.heap.size]? = some (.deferred (some []))->Q .normal { a with defers:={ target:=.collected w.heap.size,args:=#[] }::a.defers } W)
 (hstop:∀ pre W,Jx pre W->W.heap[w.heap.size]? = some (.deferred (some []))->Code.ret.wpIn Fence.wide 0 P Q { a with defers:={ target:=.collected w.heap.size,args:=#[] }::a.defers } W) :
 (Code.rangeFunc g ps assign body).wpIn Fence.wide 0 P Q a w:=by
 refine wpIn_rangeFunc ?_;intro fn hfn;have hro:Fence.wide.round=none:=rfl;rw [hro];obtain ⟨rec,hrec⟩:∃ rec:LoopState->Option Code->Loop,rec=fun st pe=>{ state:=st,pending:=pe,fn,tmps:=a.tmps,params:=ps,assign,body,defers:=w.heap.size }:=⟨_,rfl⟩;obtain ⟨W1,hW1⟩:∃ W1,(w.alloc (.deferred (some []))).alloc (.loop (rec .ready none))=W1:=⟨_,rfl⟩;have hL1:W1.heap[w.heap.size+1]? = some (.loop (rec .ready none)):=by
  rw [<- hW1];have:=World.alloc_heap_new (w.alloc (.deferred (some []))) (.loop (rec .ready none));rwa [World.size_alloc] at this
 have hD1:W1.heap[w.heap.size]? = some (.deferred (some [])):=by
  rw [<- hW1];exact (Below.heap_alloc _ _ _ (by simp)).trans (World.alloc_heap_new w _)
 have hb1:Below w.heap.size w W1:=by rw [<- hW1];(exact bel)
 have hs1:W1.heap.size=w.heap.size+1+1:=by rw [<- hW1];simp
 refine ⟨w.heap.size+1,[{ target:=.collected w.heap.size,args:=#[] }],W1,{ target:=.fn (.func gf) #[],args:=#[recv,.func (.yield (w.heap.size+1)) #[] #[]] },W1,gf,
  #[recv,.func (.yield (w.heap.size+1)) #[] #[]],W1,?_,?_,?_,?_,(fun h=>by cases h),?_⟩
 ·rw [<- hW1,hrec];exact run_enterLoop_outer _ _ _ _ _
 ·simp only [resolve,hg];simp [go_sem]
 ·intro f' _;trivial
 ·simp [invoke,go_sem,eg]
 ·refine (hseq W1 hb1 hs1 (w.heap.size+1)
   (fun pre W=>J pre W/\W.heap[w.heap.size+1]? = some (.loop (rec .ready none))/\W.heap[w.heap.size]? = some (.deferred (some [])))
   (fun pre W=>Jx pre W/\W.heap[w.heap.size+1]? = some (.loop (rec .done (some .ret)))/\W.heap[w.heap.size]? = some (.deferred (some []))) ?_ ?_ ?_ ⟨h0 W1 hb1 hs1,hL1,hD1⟩).mono ?_
  ·rintro pre A B ⟨h1,h2,h3⟩ hk;exact ⟨hJ pre A B h1 (hk.mono fun k _ hk=>fun h=>hk (.inl h)),(hk.block _ (Array.getElem?_eq_some_iff.1 h2).1 hown.1).trans h2,(hk.block _ (Array.getElem?_eq_some_iff.1 h3).1 hown.2).trans h3⟩
  ·rintro pre A B ⟨h1,h2,h3⟩ hk;exact ⟨hJx pre A B h1 (hk.mono fun k _ hk=>fun h=>hk (.inl h)),(hk.block _ (Array.getElem?_eq_some_iff.1 h2).1 hown.1).trans h2,(hk.block _ (Array.getElem?_eq_some_iff.1 h3).1 hown.2).trans h3⟩
  ·rintro pre x args A hx he ⟨h1,h2,h3⟩;have hlt:w.heap.size+1 < A.heap.size:=(Array.getElem?_eq_some_iff.1 h2).1;have hy:=run_yield (P:=P) (args:=args) h2 (by rw [hrec];exact hps x args A he);rw [hrec] at hy;refine ⟨fn,_,assign,body,hy,roundIn_of_wpIn hfn (wpIn_mono (hassign pre x args A hx he h1 hlt) ?_)⟩;rintro e a₁ w₁ hp1
   cases e with
   | normal =>
    obtain ⟨hks,hm⟩:=hp1;have hl1:w₁.heap[w.heap.size+1]? = some (.loop (rec .ready none)):=(hks.block _ hlt (.inr (.inr rfl))).trans h2;have hd1:w₁.heap[w.heap.size]? = some (.deferred (some [])):=(hks.block _ (by omega) (.inr (.inl rfl))).trans h3;have hlt1:w.heap.size+1 < w₁.heap.size:=(Array.getElem?_eq_some_iff.1 hl1).1;refine ⟨_,run_beginRound hl1 (by rw [hrec]),?_⟩;have hm2:=hMid pre x a₁ w₁ (w₁.putObj (w.heap.size+1) (.loop { rec .ready none with state:=.busy })) hm (KS.putObj (by simp) _ _) (by simp);refine wpIn_mono (hbody pre x a₁ _ hx hm2 (by simpa using hlt1)) ?_;have hl2:(w₁.putObj (w.heap.size+1) (.loop { rec .ready none with state:=.busy })).heap[w.heap.size+1]? = some (.loop { rec .ready none with state:=.busy }):=World.putObj_heap_same hlt1;have hd2:(w₁.putObj (w.heap.size+1) (.loop { rec .ready none with state:=.busy })).heap[w.heap.size]? = some (.deferred (some [])):=(World.putObj_heap_other (by omega)).trans hd1;have hks2:KS p A (w₁.putObj (w.heap.size+1) (.loop { rec .ready none with state:=.busy })):=(hks.mono fun k _ h=>.inl h).trans (KS.putObj hp _ _);rintro e2 a3 W3 hp3;have fin:∀ (jump:Option Code),KS (fun k=>p k\/k=w.heap.size\/k=w.heap.size+1) (w₁.putObj (w.heap.size+1) (.loop { rec .ready none with state:=.busy })) W3 ->
     (Instr.endRound (w.heap.size+1) jump).run P W3=.ok (.bool jump.isNone) (W3.putObj (w.heap.size+1) (.loop (rec (if jump.isNone then .ready else .done) jump))) /\
     (W3.putObj (w.heap.size+1) (.loop (rec (if jump.isNone then .ready else .done) jump))).heap[w.heap.size+1]? = some (.loop (rec (if jump.isNone then .ready else .done) jump)) /\
     (W3.putObj (w.heap.size+1) (.loop (rec (if jump.isNone then .ready else .done) jump))).heap[w.heap.size]? = some (.deferred (some [])):=fun jump hk3=>by
     have hl3:=(hk3.block _ (by simpa using hlt1) (.inr (.inr rfl))).trans hl2;have hd3:=(hk3.block _ (by simp;omega) (.inr (.inl rfl))).trans hd2;have:=run_endRound (P:=P) jump hl3;rw [hrec] at this ⊢;exact ⟨this,World.putObj_heap_same (Array.getElem?_eq_some_iff.1 hl3).1,(World.putObj_heap_other (by omega)).trans hd3⟩
    cases e2 with
    | normal =>
     obtain ⟨hk3,hj3⟩:=hp3;obtain ⟨hr,hl4,hd4⟩:=fin none hk3;exact ⟨_,_,hr,.inl ⟨rfl,⟨hJ _ _ _ hj3 (KS.putObj (by simp) _ _),hl4,hd4⟩,(hks2.trans (hk3.mono fun k _ h=>.inl h)).trans (KS.putObj hp _ _)⟩⟩
    | ret =>
     obtain ⟨hk3,hj3⟩:=hp3;obtain ⟨hr,hl4,hd4⟩:=fin (some .ret) hk3;exact ⟨_,_,hr,.inr ⟨rfl,hJx _ _ _ hj3 (KS.putObj (by simp) _ _),hl4,hd4⟩⟩
    | exit id=>exact hp3.elim
    | goto t=>exact hp3.elim
    | panic ch=>exact hp3.elim
    | outgrown=>exact hp3.elim
   | exit id=>exact hp1.elim
   | goto t=>exact hp1.elim
   | ret=>exact hp1.elim
   | panic ch=>exact hp1.elim
   | outgrown=>exact hp1.elim
  ·rintro e W2 ⟨⟨v,rfl⟩,(⟨hj,hl,hd⟩ | ⟨pre,hj,hl,hd⟩)⟩
   ·exact ⟨none,_,by have:=run_endLoop (P:=P) hl (by rw [hrec];simp);rw [hrec] at this;exact this,hdone _ (hJ _ _ _ hj (KS.putObj (by simp) _ _)) ((World.putObj_heap_other (by omega)).trans hd)⟩
   ·exact ⟨some .ret,_,by have:=run_endLoop (P:=P) hl (by rw [hrec];simp);rw [hrec] at this;exact this,hstop pre _ (hJx _ _ _ hj (KS.putObj (by simp) _ _)) ((World.putObj_heap_other (by omega)).trans hd)⟩
end Go.Proofs.YtgkajecjbflbbaaGreatDoor
namespace Go.Proofs.YtgkajecjbflbbaaGreatDoor
open Go.RowKit Go.Maps Sp
section
variable {b:Bk} {vr vg vm vs vc:Value}
end
section
variable {b:Bk} {vr vg vm vs vc:Value}
abbrev nextArgs (i s:Nat):Array Value:=#[.int .i64 i,.pointer (some ⟨s,0,none⟩),.pointer (some ⟨s+1+1,0,none⟩),.pointer (some ⟨s+1,0,none⟩),.pointer (some ⟨s+1+1+1,0,none⟩)]
end
section
variable {b:Bk} {vr vg vm vs vc:Value}
end
section
variable {b:Bk} {vr vg vm vs vc:Value}
end
attribute [local go_sem] Oper.semAt_some
section
variable {b:Bk} {vr vg vm vs vc:Value}
theorem cells_new (w:World) (cs:List Value) (t:TypeId):∀ j u,cs[j]? = some u->(w.alloc (.cells cs.toArray t)).cell? (Addr.add ⟨w.heap.size,0,none⟩ j)=some u:=fun j u h=>by
 have e:Addr.add ⟨w.heap.size,0,none⟩ j=⟨w.heap.size,j,none⟩:=by
  unfold Addr.add;split
  ·rename_i hj;subst hj;rfl
  ·simp
 rw [e,World.cell?_alloc_new];simpa using h
theorem grow_ks {A B:World} {base e size n:Nat} {v:Value} {xs:List Value} (h:A.ownsRow base e size v n xs) (hg:A.grownBy B v.ownBlock):KS (fun k=>k < base) A B:=by
 obtain ⟨h1,⟨rfl,_⟩ | ⟨g,cap,cur,rfl,e2,e3,e4⟩⟩:=h
 ·exact ⟨hg.os,hg.tape,hg.output,hg.size,fun k hk _=>hg.block k hk (by simp [Value.ownBlock])⟩
 ·exact ⟨hg.os,hg.tape,hg.output,hg.size,fun k hk hp=>hg.block k hk (by simp [Value.ownBlock];omega)⟩
theorem ownsRow_ks {A B:World} {base e size n:Nat} {v:Value} {xs:List Value} {p:Nat->Prop} (h:A.ownsRow base e size v n xs) (hk:KS p A B) (hp:∀ k,base<=k->p k):B.ownsRow base e size v n xs:=by
 obtain ⟨h1,h2 | ⟨g,cap,cur,e1,e2,e3,e4⟩⟩:=h
 ·exact ⟨h1,.inl h2⟩
 ·exact ⟨h1,.inr ⟨g,cap,cur,e1,e2,(hk.block g (Array.getElem?_eq_some_iff.1 e3).1 (hp g e2)).trans e3,e4⟩⟩
end
end Go.Proofs.YtgkajecjbflbbaaGreatDoor
namespace Go.Proofs.YtgkajecjbflbbaaGreatDoor
open Go.RowKit Sp
theorem goP_ok {b:Bk}:∀ (l seen:List Prt),goP b seen l=0->(∀ p∈l,isPart b p=true/\p ∉ seen)/\l.Nodup
 | [],_,_=>⟨by simp,List.nodup_nil⟩
 | p::l,seen,h=>by
  unfold goP at h;split at h
  ·cases h
  ·split at h
   ·cases h
   ·rename_i h1 h2
    obtain ⟨i1,i2⟩:=goP_ok l _ h;refine ⟨fun q hq=>?_,List.nodup_cons.2 ⟨fun hp=>(i1 p hp).2 (List.mem_cons_self ..),i2⟩⟩;rcases List.mem_cons.1 hq with rfl | hq
    ·exact ⟨by simpa using h1,h2⟩
    ·exact ⟨(i1 q hq).1,fun hs=>(i1 q hq).2 (List.mem_cons_of_mem _ hs)⟩
theorem goS_ok {b:Bk}:∀ (l:List (List Prt)),goS b l=0->∀ s∈l,s.length<=5/\goP b [] s=0
 | [],_,_,h=>by cases h
 | s::l,h,t,ht=>by
  unfold goS at h;split at h
  ·cases h
  ·split at h
   ·rename_i h2;exact absurd h h2
   ·rename_i h1 h2
    rcases List.mem_cons.1 ht with rfl | ht
    ·exact ⟨by omega,by simpa using h2⟩
    ·exact goS_ok l h t ht
theorem goR_ok {b:Bk}:∀ (l:List Rec),goR b l=0->∀ r∈l,recAl b r=0
 | [],_,_,h=>by cases h
 | s::l,h,t,ht=>by
  unfold goR at h;split at h
  ·rename_i h2;exact absurd h h2
  ·rename_i h2
   rcases List.mem_cons.1 ht with rfl | ht
   ·simpa using h2
   ·exact goR_ok l h t ht
theorem bookAl_parts {b:Bk} (h:bookAl b=0):numbersAl b=0/\msgsAl b=0/\sessAl b=0/\recsAl b=0:=by
 unfold bookAl at h;split at h
 ·rename_i h2;exact absurd h h2
 ·split at h
  ·rename_i h2;exact absurd h h2
  ·split at h
   ·rename_i h2;exact absurd h h2
   ·rename_i h1 h2 h3
    exact ⟨by simpa using h1,by simpa using h2,by simpa using h3,h⟩
theorem bookAl_ok {b:Bk} (h:bookAl b=0):BkOk b/\∀ r∈b.rs,recAl b r=0:=by
 obtain ⟨_,h1,h2,h3⟩:=bookAl_parts h;have hm:=msgsAl_ok h1;unfold msgsAl at h1;unfold sessAl at h2;unfold recsAl at h3;split at h1
 ·cases h1
 ·split at h2
  ·cases h2
  ·split at h3
   ·cases h3
   ·have hs:=goS_ok _ h2;exact ⟨⟨hm,by omega,by omega,fun s hs'=>(hs s hs').1,fun s hs' p hp=>((goP_ok _ _ (hs s hs').2).1 p hp).1,fun s hs'=>(goP_ok _ _ (hs s hs').2).2⟩,goR_ok _ h3⟩
def openAl (b:Bk) (al:Int):Int:=if bookAl b≠0 then bookAl b else if al≠0 then al else if pasts b=[] then 10 else 0
end Go.Proofs.YtgkajecjbflbbaaGreatDoor
namespace Go.Proofs.YtgkajecjbflbbaaGreatDoor
open Go.RowKit Go.Maps Sp
section
variable {b:Bk} {vr vg vm vs vc:Value} {w:World}
theorem ownsRow_below {A B:World} {base e size n:Nat} {v:Value} {xs:List Value} (h:A.ownsRow base e size v n xs) (hb:Below A.heap.size A B):B.ownsRow base e size v n xs:=ownsRow_ks h (KS.all hb (fun _=>True)) (fun _ _=>trivial)
theorem ownsRow_slice {A:World} {base e size n:Nat} {v:Value} {xs:List Value} (h:A.ownsRow base e size v n xs):∃ a cap,v=.slice a n cap:=by
 obtain ⟨h1,⟨rfl,rfl⟩ | ⟨g,cap,cur,rfl,_⟩⟩:=h
 ·exact ⟨_,_,rfl⟩
 ·exact ⟨_,_,rfl⟩
abbrev AskC (b:Bk) (w:World) (f:FuncId) (args:Array Value) (al:Int):Prop:=bookAl b=0->∀ W,Below w.heap.size w W->Calls Tryz.prog f args W fun e w'=>e=.returned (.int .i64 al)/\Below W.heap.size W w'
abbrev OpenNo (w:World) (t:Int) (e:Ending) (w':World):Prop:=e=.returned (.tuple #[.agg #[.int .i64 0,.int .i64 0,.slice none 0 0,.slice none 0 0,.slice none 0 0],.slice none 0 0,.int .i64 t])/\Below w.heap.size w w'
theorem openAl_ok {al:Int} (h:openAl b al=0):bookAl b=0/\al=0/\pasts b≠[]:=by
 unfold openAl at h;split at h
 ·rename_i h2;exact absurd h h2
 ·split at h
  ·rename_i h2;exact absurd h h2
  ·split at h
   ·cases h
   ·rename_i h1 h2 h3;exact ⟨by simpa using h1,by simpa using h2,h3⟩
end
end Go.Proofs.YtgkajecjbflbbaaGreatDoor
namespace Go.Proofs.YtgkajecjbflbbaaGreatDoor
open Go.RowKit Sp
def IntsAt (w:World) (a:Option Addr) (l:List Int):Prop:=∀ i (h:i < l.length),∃ b o,a=some ⟨b,o,none⟩/\b < w.heap.size/\w.cell? ⟨b,o+i,none⟩=some (.int .i64 l[i])
section
variable {w w':World} {a:Option Addr}
theorem IntsAt.below {l:List Int} (h:IntsAt w a l) (hb:Below w.heap.size w w'):IntsAt w' a l:=fun i hi=>by
 obtain ⟨b,o,e,hlt,h1⟩:=h i hi;exact ⟨b,o,e,Nat.lt_of_lt_of_le hlt hb.size,(hb.cell hlt).trans h1⟩
theorem row_cell {base e size n c:Nat} {xs:List Value} (h:w.ownsRow base e size (.slice a n c) n xs) (k:Nat) (hk:k < xs.length):∃ g,a=some ⟨g,0,none⟩/\base<=g/\g < w.heap.size/\w.cell? ⟨g,k,none⟩=xs[k]? := by
 obtain ⟨h1,⟨h2,h3⟩ | ⟨g,cap,cur,e1,e2,e3,e4,e5,e6,e7⟩⟩:=h
 ·rw [h3,Nat.zero_mul] at h1;omega
 ·cases e1;refine ⟨g,rfl,e2,(Array.getElem?_eq_some_iff.1 e3).1,?_⟩;rw [<- e7];unfold World.cell?;rw [e3,List.getElem?_take,if_pos (by omega)];simp
end
end Go.Proofs.YtgkajecjbflbbaaGreatDoor
namespace Go.Proofs.YtgkajecjbflbbaaGreatDoor
open Go.RowKit Go.Maps Sp
section
variable {b:Bk} {vr vg vm vs vc:Value}
end
section
variable {b:Bk} {vr vg vm vs vc:Value} {w:World}
end
theorem below_own {base:Nat} {A B:World} {e size n:Nat} {v:Value} {xs:List Value} (h:A.ownsRow base e size v n xs) (hg:A.grownBy B v.ownBlock) (hb:base<=A.heap.size):Below base A B:=by
 have hk:=grow_ks h hg;exact ⟨hk.os,hk.tape,hk.output,hk.size,fun k hkk=>hk.block k (Nat.lt_of_lt_of_le hkk hb) hkk⟩
theorem wpl_append1 {P:Program} {w:World} {ops:Array Oper} {rest:List Oper} {o:Oper} {a:Act} {Q:Exit->Act->World->Prop} (hgd:o.guard=none) (s x:Operand) (t:TypeId)
 (ho:o.op=.call { callee:=.builtin .append,args:=#[s,x],argTypes:=#[t,t] })
 (base:Nat) (e:TypeId) {z:Value} {bytes:Nat} (ht:P.underlying t=some (.slice e)) (hi:(P.info? e).map (fun i=>(i.zero,i.size,i.bytes))=some (some z,1,bytes)) (hzs:z.cells.size=1) (hby:bytes<=100)
 (v:Value) (k:Nat) (xs:List Value) (hs:a.eval s=v) (hown:w.ownsRow base e 1 v k xs) (hbase:base<=w.heap.size) (hk:k<=1000000) (u:Value)
 {n:Nat} (hn:n=w.heap.size) (hx:a.eval x=.slice (some ⟨n,0,none⟩) 1 1) (h1:u.oneCell'=true)
 (h:∀ g cap w',w'.ownsRow base e 1 (.slice (some ⟨g,0,none⟩) (k+1) cap) (k+1) (xs ++ [u])->Below base w w'->wpList P ops Q rest (a.put o.dst (.slice (some ⟨g,0,none⟩) (k+1) cap)) w') :
 wpList P ops Q (o::rest) a (w.alloc (.cells #[u] e)):=by
 subst hn;obtain ⟨i,hi,hz,hsz,hb⟩:=info_parts hi;have hal:(w.alloc (.cells #[u] e)).ownsRow base e 1 v k xs:=hown.alloc _;have hle:base<=(w.alloc (.cells #[u] e)).heap.size:=by simp;omega
 refine wpList_append_own (w.alloc (.cells #[u] e)) hgd s x t ho base e i z 1 bytes ht hi hz hsz hb hzs (by decide) v k xs hs hal ⟨w.heap.size,0,none⟩ 1 1 [u] hx rfl (cells_new w [u] e) (by simpa using h1) (by unfold maxLen;omega) (by have:=Nat.mul_le_mul (show k+1<=1000001 by omega) hby;omega) hle ?_;intro v' w' hown' hg _;obtain ⟨g,cap,rfl⟩:=ownsRow_succ hown';exact h g cap w' hown' (((Below.refl base w).alloc hbase _).trans (below_own hal hg hle))
end Go.Proofs.YtgkajecjbflbbaaGreatDoor
namespace Go.Proofs.YtgkajecjbflbbaaGreatDoor.Mt
open Go Go.RowKit
structure Dev where
 name:ByteArray
 held:Bool
 blind:Bool
 time:Int
structure Tst where
 path:List Int
 seen:Int
structure Fbk where
 most:Int
 devs:List Dev
 tests:List Tst
def DevsAt (w:World) (a:Option Addr) (l:List Dev):Prop:=∀ i (h:i < l.length),∃ b o,a=some ⟨b,o,none⟩/\b < w.heap.size /\
 w.cell? ⟨b,o+i * 4,none⟩=some (.string l[i].name)/\w.cell? ⟨b,o+i * 4+1,none⟩=some (.bool l[i].held)/\w.cell? ⟨b,o+i * 4+2,none⟩=some (.bool l[i].blind)/\w.cell? ⟨b,o+i * 4+3,none⟩=some (.int .i64 l[i].time)
def TestsAt (w:World) (a:Option Addr) (l:List Tst):Prop:=∀ i (h:i < l.length),∃ b o,a=some ⟨b,o,none⟩/\b < w.heap.size /\
 ∃ pa pc,w.cell? ⟨b,o+i * 2,none⟩=some (.slice pa l[i].path.length pc)/\l[i].path.length<=pc/\l[i].path.length<=1000000/\IntsAt w pa l[i].path/\w.cell? ⟨b,o+i * 2+1,none⟩=some (.int .i64 l[i].seen)
structure FBookAt (w:World) (b:Fbk) (vm vd vt:Value):Prop where
 most:vm=.int .i64 b.most
 devs:∃ a c,vd=.slice a b.devs.length c/\DevsAt w a b.devs/\b.devs.length<=1000000
 tests:∃ a c,vt=.slice a b.tests.length c/\TestsAt w a b.tests/\b.tests.length<=1000000
section
variable {w w':World}
theorem DevsAt.below {a:Option Addr} {l:List Dev} (h:DevsAt w a l) (hb:Below w.heap.size w w'):DevsAt w' a l:=fun i hi=>by
 obtain ⟨b,o,e,hlt,h1,h2,h3,h4⟩:=h i hi;exact ⟨b,o,e,Nat.lt_of_lt_of_le hlt hb.size,(hb.cell hlt).trans h1,(hb.cell hlt).trans h2,(hb.cell hlt).trans h3,(hb.cell hlt).trans h4⟩
theorem TestsAt.below {a:Option Addr} {l:List Tst} (h:TestsAt w a l) (hb:Below w.heap.size w w'):TestsAt w' a l:=fun i hi=>by
 obtain ⟨b,o,e,hlt,pa,pc,h1,h2,h3,h4,h5⟩:=h i hi;exact ⟨b,o,e,Nat.lt_of_lt_of_le hlt hb.size,pa,pc,(hb.cell hlt).trans h1,h2,h3,h4.below hb,(hb.cell hlt).trans h5⟩
theorem FBookAt.below {b:Fbk} {vm vd vt:Value} (h:FBookAt w b vm vd vt) (hb:Below w.heap.size w w'):FBookAt w' b vm vd vt:=by
 obtain ⟨h1,⟨a1,c1,e1,h3,g1⟩,a2,c2,e2,h4,g2⟩:=h;exact ⟨h1,⟨a1,c1,e1,h3.below hb,g1⟩,a2,c2,e2,h4.below hb,g2⟩
end
def unmadeTo (l:List Tst) (k:Nat):List Int:=((List.range k).filter fun i=>decide ((l[i]?).elim 1 Tst.seen=0)).map fun i:Nat=>(i:Int)
def unmadeI (l:List Tst):List Int:=unmadeTo l l.length
theorem unmadeTo_succ (l:List Tst) (k:Nat):unmadeTo l (k+1)=unmadeTo l k ++ if (l[k]?).elim 1 Tst.seen=0 then [(k:Int)] else []:=by
 unfold unmadeTo;rw [List.range_succ,List.filter_append,List.map_append];congr 1;by_cases h:(l[k]?).elim 1 Tst.seen=0 <;> simp [h]
theorem unmadeTo_le (l:List Tst) (k:Nat):(unmadeTo l k).length<=k:=by
 unfold unmadeTo;rw [List.length_map];exact Nat.le_trans (List.length_filter_le _ _) (by simp)
theorem mz_intInfo:(Mz.prog.info? 3).map (fun i=>(i.zero,i.size,i.bytes))=some (some (.int .i64 0),1,8):=by
 show (Tryz.prog.info? 3).map _=_
 kernel_rfl
theorem ints_row {w:World} {a:Option Addr} {t:TypeId} {base n c:Nat} {l:List Int} (h:w.ownsRow base t 1 (.slice a n c) n (l.map (Value.int .i64))):IntsAt w a l:=fun i hi=>by
 obtain ⟨g,rfl,_,h2,h3⟩:=row_cell h i (by simpa using hi);refine ⟨g,0,rfl,h2,?_⟩;rw [Nat.zero_add,h3];simp [hi]
end Go.Proofs.YtgkajecjbflbbaaGreatDoor.Mt
namespace Go.Proofs.YtgkajecjbflbbaaGreatDoor.Mt
open Go Go.RowKit Go.Maps
attribute [local go_sem] Oper.semAt_some
theorem own_base {w:World} {base base' e size n:Nat} {v:Value} {xs:List Value} (h:w.ownsRow base e size v n xs) (hb:base'<=base):w.ownsRow base' e size v n xs:=by
 obtain ⟨h1,h2 | ⟨g,cap,cur,e1,e2,e3,e4⟩⟩:=h
 ·exact ⟨h1,.inl h2⟩
 ·exact ⟨h1,.inr ⟨g,cap,cur,e1,Nat.le_trans hb e2,e3,e4⟩⟩
def IntsRet (w:World) (l:List Int) (e:Ending) (w':World):Prop:=∃ a c,e=.returned (.slice a l.length c)/\IntsAt w' a l/\Below w.heap.size w w'
def IntsOwn (w:World) (l:List Int) (e:Ending) (w':World):Prop:=∃ a c,e=.returned (.slice a l.length c)/\w'.ownsRow w.heap.size 3 1 (.slice a l.length c) l.length (l.map (Value.int .i64))/\Below w.heap.size w w'
section
variable {b:Fbk} {vm vd vt:Value} {w:World}
theorem unmade_own (hB:FBookAt w b vm vd vt):Calls Mz.prog 87 #[.agg #[vm,vd,vt]] w (IntsOwn w (unmadeI b.tests)):=by
 obtain ⟨rfl,⟨da,dc,rfl,_,_⟩,ta,tc,rfl,ht,htl⟩:=hB;have HT:=Hh ht;clear ht
 go_enter (mz_func (i:=87) rfl Tryz.func87),Tryz.ntmps87
 go_wp2;obtain ⟨W0,hW0⟩:∃ W0,W0=w.alloc (.cells #[.int .i64 b.most,.slice da b.devs.length dc,.slice ta b.tests.length tc] 88):=⟨_,rfl⟩;rw [<- hW0];have hb0:Below w.heap.size w W0:=by rw [hW0];(exact bel)
 have hs0:w.heap.size < W0.heap.size:=by rw [hW0];simp
 clear hW0;go_loopw [3,10] (fun v i wr=>∃ (k:Nat) (a:Option Addr) (c:Nat),k<=b.tests.length/\i=.int .i64 k/\v=.slice a (unmadeTo b.tests k).length c/\wr.ownsRow W0.heap.size 3 1 (.slice a (unmadeTo b.tests k).length c) (unmadeTo b.tests k).length ((unmadeTo b.tests k).map (Value.int .i64))/\Below W0.heap.size W0 wr) (fun _ i _=>b.tests.length - (intOf i).toNat)
 case atStart=>exact ⟨0,none,0,Nat.zero_le _,rfl,rfl,by simpa [unmadeTo] using World.ownsRow_nil _ _ _ _,Below.refl _ _⟩
 case round =>
  obtain ⟨k,a,c,hk,rfl,rfl,hrow,hW⟩:=hrel;have hWs:=hW.size;obtain ⟨wo,rfl⟩:∃ x,x=wr:=⟨_,rfl⟩;have hle:=unmadeTo_le b.tests k;have HROW:=Hh hrow;clear hrow;by_cases hlt:k < b.tests.length
  ·have hbw:=Below.next hb0 hW;obtain ⟨tb,to,rfl,htb,pa,pc,t0,_,_,_,t1⟩:=HT.out k hlt;have d0:=(hbw.cell (p:=⟨tb,to+k * 2,none⟩) htb).trans t0;have d1:=(hbw.cell (p:=⟨tb,to+k * 2+1,none⟩) htb).trans t1;have hsu:=unmadeTo_succ b.tests k;rw [List.getElem?_eq_getElem hlt] at hsu;generalize b.tests[k]=tk at d0 d1 hsu;obtain ⟨tp,ts⟩:=tk;simp only [Option.elim] at d0 d1 hsu;have HSU:=Hh hsu;have HBW:=Hh hbw;clear t0 t1 hsu hbw;by_cases hz:ts=0
   ·subst hz;have hsu2:unmadeTo b.tests (k+1)=unmadeTo b.tests k ++ [(k:Int)]:=by rw [HSU.out];simp
    have hln:(unmadeTo b.tests (k+1)).length=(unmadeTo b.tests k).length+1:=by rw [hsu2];simp
    have HS2:=Hh hsu2;have HLN:=Hh hln;clear hsu2 hln;go_wp2_with (at_builtin;go_loud (refine wpl_append1 rfl _ _ 26 rfl W0.heap.size 3 (mzu Tryz.underlying26) mz_intInfo rfl (by omega) (.slice a (unmadeTo b.tests k).length c) (unmadeTo b.tests k).length _ rfl (HROW.out.alloc _) (by simp;omega) (by omega) _ (n:=wo.heap.size+1) (by simp) rfl (by simp [Value.oneCell']) ?_;intro g cap w6 hown6 hb6));have hown7:w6.ownsRow W0.heap.size 3 1 (.slice (some ⟨g,0,none⟩) (unmadeTo b.tests (k+1)).length cap) (unmadeTo b.tests (k+1)).length ((unmadeTo b.tests (k+1)).map (Value.int .i64)):=by
     rw [HLN.out,HS2.out,List.map_append];exact hown6
    have HOWN:=Hh hown7;clear hown6 hown7;go_roundw
    case rel=>exact ⟨k+1,_,_,by omega,by go_num,by rw [HLN.out],HOWN.out,(hW.alloc hWs _).trans hb6⟩
    case measure=>simp [intOf];omega
   ·have hsu2:unmadeTo b.tests (k+1)=unmadeTo b.tests k:=by rw [HSU.out];simp [hz]
    have HS2:=Hh hsu2;clear hsu2;go_wp2;go_roundw
    case rel=>exact ⟨k+1,a,c,by omega,by go_num,by rw [HS2.out],by rw [HS2.out];exact HROW.out.alloc _,hW.alloc hWs _⟩
    case measure=>simp [intOf];omega
  ·obtain rfl:k=b.tests.length:=by omega
   have HW:=Hh hW;clear hW;go_wp2;exact bodyPost_ret (v:=.slice a (unmadeTo b.tests b.tests.length).length c) (by simp [results,Tryz.results87,go_sem, *]) rfl ⟨a,c,rfl,own_base HROW.out (by omega),Below.next hb0 HW.out⟩
theorem unmade_at (hB:FBookAt w b vm vd vt):Calls Mz.prog 87 #[.agg #[vm,vd,vt]] w (IntsRet w (unmadeI b.tests)) :=
 (unmade_own hB).mono fun _ _ ⟨a,c,h1,h2,h3⟩=>⟨a,c,h1,ints_row h2,h3⟩
end
section
variable {w:World} {a:Option Addr} {l:List Int} {c:Nat} {v:Int}
theorem index_at (h:IntsAt w a l) (hl:l.length<=1000000):Calls Mz.prog 158 #[.slice a l.length c,.int .i64 v] w fun e w'=>∃ r:Int,e=.returned (.int .i64 r)/\(0<=r↔v∈l)/\w'=w:=by
 have H:=Hh h;clear h
 go_enter (mz_func (i:=158) rfl Tryz.func158),Tryz.ntmps158
 go_wp2;go_loop [8] (fun i=>∃ k:Nat,k<=l.length/\i=.int .i64 k/\Hid (∀ j (hj:j < l.length),j < k->l[j]≠v)) (fun i=>l.length - (intOf i).toNat)
 case atStart=>exact ⟨0,Nat.zero_le _,rfl,fun j _ hj=>absurd hj (Nat.not_lt_zero _)⟩
 case round =>
  obtain ⟨k,hk,rfl,hno⟩:=hrel;by_cases hlt:k < l.length
  ·obtain ⟨b,o,rfl,hb,h1⟩:=H.out k hlt;obtain ⟨x,hx⟩:∃ x,l[k]=x:=⟨_,rfl⟩;rw [hx] at h1;have HX:=Hh hx;clear hx;by_cases he:v=x
   ·go_wp2;go_ret;refine ⟨_,rfl,⟨fun _=>?_,fun _=>by omega⟩,rfl⟩;rw [<- HX.out];exact List.getElem_mem hlt
   ·go_wp2;go_round
    case rel =>
     refine ⟨k+1,hlt,by go_num,fun j hj hjk=>?_⟩;by_cases e:j < k
     ·exact hno.out j hj e
     ·obtain rfl:j=k:=by omega
      exact fun e=>he (e.symm.trans HX.out)
    case measure=>simp [intOf];omega
  ·obtain rfl:k=l.length:=by omega
   go_wp2;go_ret;refine ⟨_,rfl,⟨fun h=>by omega,fun h=>?_⟩,rfl⟩;obtain ⟨j,hj,e⟩:=List.getElem_of_mem h;exact absurd e (hno.out j hj hj)
theorem contains_at {t:Bool} (h:IntsAt w a l) (hl:l.length<=1000000) (ht:decide (v∈l)=t):Calls Mz.prog 118 #[.slice a l.length c,.int .i64 v] w fun e w'=>e=.returned (.bool t)/\w'=w:=by
 have H:=Hh h;have HT:=Hh ht;clear h ht
 go_enter (mz_func (i:=118) rfl Tryz.func118),Tryz.ntmps118
 go_wp2_with (go_at_call 158;(with_reducible refine (index_at H.out hl).mono ?_);rintro e w' ⟨r,rfl,hr,rfl⟩);go_ret;refine ⟨?_,rfl⟩;rw [<- HT.out];simp [hr]
end
def goP (n:Int):List Int->List Int->Int
 | _,[]=>0
 | seen,k::l=>if inB k 0 (n - 1)=false then 6 else if k∈seen then 5 else goP n (seen ++ [k]) l
def pathAl (n:Nat) (l:List Int):Int:=if inB l.length 1 6=false then 2 else goP n [] l
theorem goP_step {n:Int} {l:List Int} {k:Nat} (h:k < l.length):goP n (l.take k) (l.drop k)=if inB l[k] 0 (n - 1)=false then 6 else if l[k]∈l.take k then 5 else goP n (l.take (k+1)) (l.drop (k+1)):=by
 rw [List.drop_eq_getElem_cons h];simp only [goP];rw [List.take_succ_eq_append_getElem h]
theorem IntsAt.take {w:World} {a:Option Addr} {l:List Int} (h:IntsAt w a l) (k:Nat):IntsAt w a (l.take k):=fun i hi=>by
 have hi2:i < l.length:=by rw [List.length_take] at hi;omega
 obtain ⟨b,o,e,hb,h1⟩:=h i hi2;exact ⟨b,o,e,hb,by rw [List.getElem_take];exact h1⟩
section
variable {b:Fbk} {vm vd vt:Value} {w:World} {pa:Option Addr} {l:List Int} {pc:Nat}
theorem path_at (hB:FBookAt w b vm vd vt) (hp:IntsAt w pa l) (hl:l.length<=1000000) (hc:l.length<=pc) :
 Calls Mz.prog 66 #[.agg #[vm,vd,vt],.slice pa l.length pc] w fun e w'=>e=.returned (.int .i64 (pathAl b.devs.length l))/\Below w.heap.size w w':=by
 obtain ⟨rfl,⟨da,dc,rfl,_,hdl⟩,ta,tc,rfl,_,_⟩:=hB;have hb0:Below w.heap.size w (w.alloc (.cells #[.int .i64 b.most,.slice da b.devs.length dc,.slice ta b.tests.length tc] 88)):=bel;have hp0:=hp.below hb0;cases h1:inB (l.length:Int) 1 6
 ·have ha:pathAl b.devs.length l=2:=by simp [pathAl,h1]
  have H1:=Hh h1;rw [ha];clear h1 ha hp0 hp
  go_enter (mz_func (i:=66) rfl Tryz.func66),Tryz.ntmps66
  go_wp2_with (go_at_call 119;(with_reducible refine (inside_at H1.out).mono ?_);rintro e w' ⟨rfl,rfl⟩);go_ret;exact ⟨rfl,hb0⟩
 ·have ha:pathAl b.devs.length l=goP b.devs.length [] l:=by simp [pathAl,h1]
  have H1:=Hh h1;have HP:=Hh hp0;rw [ha];clear h1 ha hp0 hp
  go_enter (mz_func (i:=66) rfl Tryz.func66),Tryz.ntmps66
  go_wp2_with (go_at_call 119;(with_reducible refine (inside_at H1.out).mono ?_);rintro e w' ⟨rfl,rfl⟩);obtain ⟨W0,hW0⟩:∃ W0,W0=w.alloc (.cells #[.int .i64 b.most,.slice da b.devs.length dc,.slice ta b.tests.length tc] 88):=⟨_,rfl⟩;rw [<- hW0] at hb0 HP ⊢;have q0:W0.cell? ⟨w.heap.size,1,none⟩=some (.slice da b.devs.length dc):=by rw [hW0,World.cell?_alloc_at _ _ _ _ rfl];rfl
  have HB:=Hh hb0;have hs0:w.heap.size < W0.heap.size:=by rw [hW0];simp
  have ew:IntKind.i64.wrap ((b.devs.length:Int) - 1)=(b.devs.length:Int) - 1:=IntWalk.i64_in _ (by omega);clear hW0 hb0;go_loop [13] (fun i=>∃ k:Nat,k<=l.length/\i=.int .i64 k/\Hid (goP b.devs.length (l.take k) (l.drop k)=goP b.devs.length [] l)) (fun i=>l.length - (intOf i).toNat)
  case atStart=>exact ⟨0,Nat.zero_le _,rfl,by show goP _ (l.take 0) (l.drop 0)=_;simp⟩
  case round =>
   obtain ⟨k,hk,rfl,hgo⟩:=hrel;by_cases hlt:k < l.length
   ·obtain ⟨pb,po,rfl,hpb,c1⟩:=HP.out k hlt;have hst:=goP_step (n:=b.devs.length) hlt;rw [hgo.out] at hst;have HT:=Hh (IntsAt.take HP.out k);have hkl:(l.take k).length=k:=by rw [List.length_take];omega
    generalize l[k]=x at c1 hst;cases h2:inB x 0 ((b.devs.length:Int) - 1)
    ·have H2:=Hh h2;rw [h2] at hst;simp only [if_true] at hst;have HST:=Hh hst;clear h2 hst;go_wp2_with (go_at_call 119;(with_reducible refine (inside_at H2.out).mono ?_);rintro e w' ⟨rfl,rfl⟩);go_ret;exact ⟨by rw [HST.out];rfl,HB.out⟩
    ·have H2:=Hh h2;rw [h2] at hst;simp only [Bool.true_eq_false,if_false] at hst;cases h3:decide (x∈l.take k)
     ·have H3:=Hh h3;rw [if_neg (by simpa using h3)] at hst;have HST:=Hh hst;clear h2 h3 hst;go_wp2_with (first | (go_at_call 119;(with_reducible refine (inside_at H2.out).mono ?_);rintro e w' ⟨rfl,rfl⟩) | (go_at_call 118;(have hC:=contains_at (c:=pc) HT.out (by omega) H3.out);rw [hkl] at hC;(with_reducible refine hC.mono ?_);rintro e w' ⟨rfl,rfl⟩));go_round
      case rel=>exact ⟨k+1,hlt,by go_num,by show _=_;exact HST.out.symm⟩
      case measure=>simp [intOf];omega
     ·have H3:=Hh h3;rw [if_pos (by simpa using h3)] at hst;have HST:=Hh hst;clear h2 h3 hst;go_wp2_with (first | (go_at_call 119;(with_reducible refine (inside_at H2.out).mono ?_);rintro e w' ⟨rfl,rfl⟩) | (go_at_call 118;(have hC:=contains_at (c:=pc) HT.out (by omega) H3.out);rw [hkl] at hC;(with_reducible refine hC.mono ?_);rintro e w' ⟨rfl,rfl⟩));go_ret;exact ⟨by rw [HST.out];rfl,HB.out⟩
   ·obtain rfl:k=l.length:=by omega
    have h0:goP b.devs.length [] l=0:=by rw [<- hgo.out];simp [goP]
    have H0:=Hh h0;clear h0;go_wp2;go_ret;exact ⟨by rw [H0.out];rfl,HB.out⟩
end
end Go.Proofs.YtgkajecjbflbbaaGreatDoor.Mt
