/- Leads to the Store laws of chapter 6: AK0 AK1. -/
import Derived.Test.YtfggbepickdokaaGreatDoorT27
import Derived.Conc.Walk
import Derived.Conc.SmallLaws
import Derived.Test.YtfggbepickdokaaGreatDoorT05
set_option maxHeartbeats 200000
set_option maxRecDepth 100000
set_option linter.all false
namespace Go.Proofs.YtfggbepickdokaaGreatDoor.Mt
open Go Go.Conc
structure Stp (ro own own':Hold) (w w':World):Prop where
 holds:Meets w' own' ro
 size:w.heap.size≤w'.heap.size
 kept:∀ r,r < w.heap.size→¬ keyOf own r→w'.heap[r]? = w.heap[r]?
 rest:w'.os=w.os∧w'.tape=w.tape∧w'.output=w.output
 keys:∀ r,keyOf own' r→keyOf own r∨w.heap.size≤r
 keeps:∀ r,keyOf own r→keyOf own' r
section
variable {ro own own':Hold} {w w':World}
theorem Stp.refl (h:Meets w own ro):Stp ro own own w w:=⟨h,Nat.le_refl _,fun _ _ _=>rfl,⟨rfl,rfl,rfl⟩,fun _ h=>.inl h,fun _ h=>h⟩
theorem setCell_block {r k:Nat} {c:Array Value} {t:TypeId} {f:Nat × Nat} {v:Value} (h:w.heap[r]? = some (.cells c t f)):(w.setCell ⟨r,k,none⟩ v).heap[r]? = some (.cells (c.setIfInBounds k v) t f):=by
 unfold World.setCell
 simp [Array.getElem?_modify,h]
theorem setCell_other {r k x:Nat} {v:Value} (h:x≠r):(w.setCell ⟨r,k,none⟩ v).heap[x]? = w.heap[x]? := by
 unfold World.setCell
 simp [Array.getElem?_modify,Ne.symm h]
theorem key_set {F:Hold} {r:Nat} {o:Obj} (x:Nat):keyOf (F.set r o) x↔x=r∨keyOf F x:=by
 constructor
 ·rintro ⟨y,hy⟩
  by_cases e:x=r
  ·exact .inl e
  ·rw [Hold.set_ne _ _ e] at hy;exact .inr ⟨y,hy⟩
 ·intro h
  by_cases e:x=r
  ·subst e;exact ⟨o,Hold.set_same _ _ _⟩
  ·obtain ⟨y,hy⟩:=h.resolve_left e
   exact ⟨y,by rw [Hold.set_ne _ _ e];exact hy⟩
theorem Stp.set (h:Stp ro own own' w w') {r k:Nat} {c:Array Value} {t:TypeId} {f:Nat × Nat} (hr:own' r=some (.cells c t f)) (v:Value) :
 Stp ro own (own'.set r (.cells (c.setIfInBounds k v) t f)) w (w'.setCell ⟨r,k,none⟩ v):=by
 have hne:∀ x o,ro x=some o→x≠r:=fun x o hx e=>by subst e;rw [h.holds.apart x _ hr] at hx;cases hx
 have hrk:keyOf own r∨w.heap.size≤r:=h.keys r ⟨_,hr⟩
 refine ⟨⟨fun x o hx=>?_,fun x o hx=>?_,fun x o hx=>?_⟩,by simpa [World.setCell] using h.size,fun x hx hk=>?_,h.rest,fun x hx=>?_,fun x hx=>?_⟩
 ·by_cases e:x=r
  ·subst e;rw [Hold.set_same] at hx;cases hx;exact setCell_block (h.holds.mine _ _ hr)
  ·rw [Hold.set_ne _ _ e] at hx;rw [setCell_other e];exact h.holds.mine x o hx
 ·rw [setCell_other (hne x o hx)];exact h.holds.shared x o hx
 ·by_cases e:x=r
  ·subst e;exact h.holds.apart x _ hr
  ·rw [Hold.set_ne _ _ e] at hx;exact h.holds.apart x o hx
 ·by_cases e:x=r
  ·subst e;exact absurd hx (by rcases hrk with h1 | h1;exact absurd h1 hk;omega)
  ·rw [setCell_other e];exact h.kept x hx hk
 ·rcases (key_set x).1 hx with e | hx
  ·subst e;exact hrk
  ·exact h.keys x hx
 ·exact (key_set x).2 (.inr (h.keeps x hx))
theorem none_own (h:Meets w own ro):own w.heap.size=none∧ro w.heap.size=none:=by
 constructor
 ·cases hx:own w.heap.size with
  | none=>rfl
  | some o=>exact absurd (h.mine.lt ⟨o,hx⟩) (Nat.lt_irrefl _)
 ·cases hx:ro w.heap.size with
  | none=>rfl
  | some o=>exact absurd (h.shared.lt ⟨o,hx⟩) (Nat.lt_irrefl _)
theorem alloc_block {o:Obj}:(w.alloc o).heap[w.heap.size]? = some o:=by show (w.heap.push o)[w.heap.size]? = _;simp
theorem alloc_other {o:Obj} {x:Nat} (h:x < w.heap.size):(w.alloc o).heap[x]? = w.heap[x]? := by
 show (w.heap.push o)[x]? = _
 rw [Array.getElem?_push,if_neg (by omega)]
theorem Stp.alloc (h:Stp ro own own' w w') (o:Obj):Stp ro own (own'.set w'.heap.size o) w (w'.alloc o):=by
 have hn:=none_own h.holds
 have lt:∀ (F:Hold) x y,Holds w' F→F x=some y→x < w'.heap.size:=fun F x y hF hx=>hF.lt ⟨y,hx⟩
 refine ⟨⟨fun x y hx=>?_,fun x y hx=>?_,fun x y hx=>?_⟩,by have:=h.size;simp;omega,fun x hx hk=>?_,h.rest,fun x hx=>?_,fun x hx=>?_⟩
 ·by_cases e:x=w'.heap.size
  ·subst e;rw [Hold.set_same] at hx;cases hx;exact alloc_block
  ·rw [Hold.set_ne _ _ e] at hx;rw [alloc_other (lt _ _ _ h.holds.mine hx)];exact h.holds.mine x y hx
 ·rw [alloc_other (lt _ _ _ h.holds.shared hx)];exact h.holds.shared x y hx
 ·by_cases e:x=w'.heap.size
  ·subst e;exact hn.2
  ·rw [Hold.set_ne _ _ e] at hx;exact h.holds.apart x y hx
 ·rw [alloc_other (Nat.lt_of_lt_of_le hx h.size)];exact h.kept x hx hk
 ·rcases (key_set x).1 hx with e | hx
  ·subst e;exact .inr h.size
  ·exact h.keys x hx
 ·exact (key_set x).2 (.inr (h.keeps x hx))
theorem EvOwn.mono {e:Event} (h:EvOwn own ro e) (hk:∀ r,keyOf own r→keyOf own' r):EvOwn own' ro e:=by
 obtain ⟨loc,wr,sy⟩:=e
 cases loc with
 | cell a=>exact ⟨h.1,h.2.imp_left (hk _)⟩
 | _=>exact h
end
section
variable {P:Program} {main:Bool} {ro own:Hold} {Q:Act→Hold→Prop} {a:Act} {ops:Array Oper} {i:Nat} {rest:List Nat} {o:Oper} {n:Nat}
theorem wo_any (ho:ops[i]? = some o) (hw:Region.wanted o (yielded ops a.tmps)=true)
 (hev:∀ w,Meets w own ro→∀ e∈(execOp a.eval o).events P w #[],EvOwn own ro e)
 (h:∀ w,Meets w own ro→∀ K:Act→World→Prop,(∀ a' w' own',Stp ro own own' w w'→WO P main ro ops rest n Q a' own'→K a' w')→uponK o a K ((execOp a.eval o).run P w)) :
 WO P main ro ops (i::rest) (n+1) Q a own :=
 wo_cons ho hw fun w hm=>by
  have:=h w hm (fun a' w'=>∃ own',Stp ro own own' w w'∧WO P main ro ops rest n Q a' own') (fun a' w' own' h1 h2=>⟨own',h1,h2⟩)
  revert this
  cases hr:(execOp a.eval o).run P w with
  | ok x w' =>
   cases x with
   | value v =>
    rintro ⟨own',hs,hK⟩
    exact ⟨v,w',own',.inl rfl,⟨hs.holds,hs.size,hs.kept,hs.rest,hs.keys,fun e he=>(hev w hm e he).mono hs.keeps⟩,hK⟩
   | skip =>
    rintro ⟨own',hs,hK⟩
    exact ⟨undef,w',own',.inr ⟨rfl,rfl⟩,⟨hs.holds,hs.size,hs.kept,hs.rest,hs.keys,fun e he=>(hev w hm e he).mono hs.keeps⟩,hK⟩
   | _=>exact fun h=>h.elim
  | halt _ _=>exact fun h=>h.elim
end
def fuel (N:Nat):Code→Nat
 | .seq x y=>fuel N x+fuel N y+1
 | .region _ ops _=>ops.size+1+1
 | .cond _ x y=>max (fuel N x) (fuel N y)+1
 | .block _ c=>fuel N c+2
 | .loop c=>(N+1) * (fuel N c+1)+1
 | _=>1
def WF (P:Program) (main:Bool) (ro:Hold) (N:Nat) (c:Code) (Q:Exit→Act→Hold→Prop) (a:Act) (own:Hold):Prop:=WC P main ro c (fuel N c) Q a own
def WR (P:Program) (main:Bool) (ro:Hold) (ops:Array Oper) (todo:List Nat) (Q:Act→Hold→Prop) (a:Act) (own:Hold):Prop:=WO P main ro ops todo (todo.length+1) Q a own
section
variable {P:Program} {main:Bool} {ro own:Hold} {N:Nat} {Q:Exit→Act→Hold→Prop} {a:Act}
theorem wf_mono {c:Code} {Q':Exit→Act→Hold→Prop} (h:WF P main ro N c Q a own) (hq:∀ e a own,Q e a own→Q' e a own):WF P main ro N c Q' a own:=wc_mono h hq
theorem wf_skip (h:Q .normal a own):WF P main ro N .skip Q a own:=wc_skip h
theorem wf_exit {id:Nat} (h:Q (.exit id) a own):WF P main ro N (.exit id) Q a own:=wc_exit h
theorem wf_seq {x y:Code} (h:WF P main ro N x (ThenW (fun a' o'=>WF P main ro N y Q a' o') Q) a own):WF P main ro N (.seq x y) Q a own:=wc_seq h
theorem wf_cond {c:Operand} {x y:Code} {t:Bool} (hc:a.eval c=.bool t) (h:WF P main ro N (if t then x else y) Q a own):WF P main ro N (.cond c x y) Q a own:=by
 refine wc_more (wc_cond hc h) ?_
 show fuel N (if t then x else y)+1≤max (fuel N x) (fuel N y)+1
 cases t <;> simp <;> omega
theorem wf_block {id:Nat} {c:Code} (h:WF P main ro N c (BlockW id Q) a own):WF P main ro N (.block id c) Q a own:=wc_block h
theorem wf_loop {c:Code} (I:Nat→Act→Hold→Prop) {n:Nat} (hn:n≤N) (h0:I n a own)
 (round:∀ n a own,I n a own→WF P main ro N c (ThenW (fun a' o'=>∃ n',n=n'+1∧I n' a' o') Q) a own):WF P main ro N (.loop c) Q a own:=by
 refine wc_more (wc_loop I (fuel N c) n h0 round) ?_
 show (n+1) * (fuel N c+1)+1≤(N+1) * (fuel N c+1)+1
 have:=Nat.mul_le_mul_right (fuel N c+1) (Nat.succ_le_succ hn)
 exact Nat.succ_le_succ this
theorem wf_region {id:Nat} {ops:Array Oper} (h:WR P main ro ops (List.range ops.size) (fun a' o'=>Q .normal a' o') a own):WF P main ro N (.region id ops false) Q a own:=by
 have:=wc_region (id:=id) h
 rw [List.length_range] at this
 exact this
theorem wr_hide {Q:Act→Hold→Prop} {ops:Array Oper} {todo:List Nat} (h:∀ Q':Act→Hold→Prop,(∀ a o,Q a o→Q' a o)→WR P main ro ops todo Q' a own):WR P main ro ops todo Q a own:=h Q fun _ _ h=>h
theorem wr_nil {Q:Act→Hold→Prop} {ops:Array Oper} (h:Q a own):WR P main ro ops [] Q a own:=wo_nil h
theorem wr_any {Q:Act→Hold→Prop} {ops:Array Oper} {i:Nat} {rest:List Nat} {o:Oper} (ho:ops[i]? = some o) (hw:Region.wanted o (yielded ops a.tmps)=true)
 (hev:∀ w,Meets w own ro→∀ e∈(execOp a.eval o).events P w #[],EvOwn own ro e)
 (h:∀ w,Meets w own ro→∀ K:Act→World→Prop,(∀ a' w' own',Stp ro own own' w w'→WR P main ro ops rest Q a' own'→K a' w')→uponK o a K ((execOp a.eval o).run P w)) :
 WR P main ro ops (i::rest) Q a own:=wo_any ho hw hev h
theorem walk_any {Stop:Goroutine→Hold→Prop} {b:Frame} {k:List Item} {cs:List Frame} {n:Nat} {ops:Array Oper} {i:Nat} {rest:List Nat} {o:Oper} (hb:b.kind≠.early) (ho:ops[i]? = some o) (hw:Region.wanted o (yielded ops a.tmps)=true)
 (hev:∀ w,Meets w own ro→∀ e∈(execOp a.eval o).events P w #[],EvOwn own ro e)
 (h:∀ w,Meets w own ro→∀ K:Act→World→Prop,(∀ a' w' own',Stp ro own own' w w'→Walk P main ro Stop n (G (b.at a' (.inRegion ops rest::k)) cs) own'→K a' w')→uponK o a K ((execOp a.eval o).run P w)) :
 Walk P main ro Stop (n+1) (G (b.at a (.inRegion ops (i::rest)::k)) cs) own:=by
 refine .inr ⟨rfl,fun w hm=>?_⟩
 have:=h w hm (fun a' w'=>∃ own',Stp ro own own' w w'∧Walk P main ro Stop n (G (b.at a' (.inRegion ops rest::k)) cs) own') (fun a' w' own' h1 h2=>⟨own',h1,h2⟩)
 revert this
 cases hr:(execOp a.eval o).run P w with
 | ok x w' =>
  cases x with
  | value v =>
   rintro ⟨own',hs,hK⟩
   exact ⟨_,w',_,own',stepG_value ho hw hb hr,⟨hs.holds,hs.size,hs.kept,hs.rest,hs.keys,fun e he=>(hev w hm e (seen_mem he)).mono hs.keeps⟩,hK⟩
  | skip =>
   rintro ⟨own',hs,hK⟩
   exact ⟨_,w',_,own',stepG_none ho hw hb hr,⟨hs.holds,hs.size,hs.kept,hs.rest,hs.keys,fun e he=>(hev w hm e (seen_mem he)).mono hs.keeps⟩,hK⟩
  | _=>exact fun h=>h.elim
 | halt _ _=>exact fun h=>h.elim
theorem walk_code {Stop:Goroutine→Hold→Prop} {b:Frame} {k:List Item} {cs:List Frame} {c:Code} {R:Act→Hold→Prop} (hb:b.kind≠.early) (h:WF P main ro N c (fun e a' o'=>e=.normal∧R a' o') a own) {m:Nat}
 (hk:∀ a' own',R a' own'→Walk P main ro Stop m (G (b.at a' k) cs) own'):Walk P main ro Stop (m+fuel N c) (G (b.at a (.code c::k)) cs) own :=
 h b k cs Stop m hb fun e a' own' ⟨he,hr⟩=>by subst he;exact hk a' own' hr
end
def roOf (W:World) (cO cD:Nat):Hold:=fun r=>if r=cO∨r=cD then none else W.heap[r]?
section
variable {W w:World} {own:Hold} {cO cD b o:Nat}
theorem ro_block (hm:Meets w own (roOf W cO cD)) (hb:b < W.heap.size) (h1:b≠cO) (h2:b≠cD):w.heap[b]? = W.heap[b]? := by
 have h:roOf W cO cD b=some W.heap[b]:=by unfold roOf;rw [if_neg (by simp [h1,h2]),Array.getElem?_eq_getElem hb]
 rw [hm.shared b _ h,Array.getElem?_eq_getElem hb]
theorem ro_cell (hm:Meets w own (roOf W cO cD)) (hb:b < W.heap.size) (h1:b≠cO) (h2:b≠cD):w.cell? ⟨b,o,none⟩=W.cell? ⟨b,o,none⟩:=World.cell?_of_block (ro_block hm hb h1 h2)
theorem ro_key (hb:b < W.heap.size) (h1:b≠cO) (h2:b≠cD):keyOf (roOf W cO cD) b:=⟨W.heap[b],by unfold roOf;rw [if_neg (by simp [h1,h2]),Array.getElem?_eq_getElem hb]⟩
theorem own_cell {ro:Hold} (hm:Meets w own ro) {c:Array Value} {t:TypeId} {f:Nat × Nat} (h:own b=some (.cells c t f)):w.cell? ⟨b,o,none⟩=c[o]? := by
 unfold World.cell?;rw [hm.mine b _ h];rfl
theorem own_frozen {ro:Hold} (hm:Meets w own ro) {c:Array Value} {t:TypeId} (h:own b=some (.cells c t)):w.frozen? ⟨b,o,none⟩=false:=by
 unfold World.frozen?;rw [hm.mine b _ h];simp
end
end Go.Proofs.YtfggbepickdokaaGreatDoor.Mt
namespace Go.Proofs.YtfggbepickdokaaGreatDoor
namespace Sp
def cntI (l:List (List Int)) (i v:Nat):Int:=((l.countP fun x=>decide ((pad x).getD i 0=(v:Int)):Nat):Int)
def mostI (l:List (List Int)) (i:Nat):Int:=((List.range 6).map (cntI l i)).foldl max 0
theorem cntI_snoc (l:List (List Int)) (x:List Int) (i v:Nat):cntI (l ++ [x]) i v=cntI l i v+if (pad x).getD i 0=(v:Int) then 1 else 0:=by
 unfold cntI
 rw [List.countP_append,List.countP_cons,List.countP_nil]
 split <;> simp_all
theorem cntI_bd (l:List (List Int)) (i v:Nat):0≤cntI l i v∧cntI l i v≤l.length:=by
 unfold cntI
 have:=List.countP_le_length (p:=fun x:List Int=>decide ((pad x).getD i 0=(v:Int))) (l:=l)
 omega
theorem mostI_eq (l:List (List Int)) (i:Nat):mostI l i=max (max (max (max (max (max 0 (cntI l i 0)) (cntI l i 1)) (cntI l i 2)) (cntI l i 3)) (cntI l i 4)) (cntI l i 5):=rfl
theorem mostI_snoc (l:List (List Int)) (x:List Int) (i v:Nat) (hv:(pad x).getD i 0=(v:Int)) (h5:v≤5):mostI (l ++ [x]) i=max (mostI l i) (cntI l i v+1):=by
 rw [mostI_eq,mostI_eq]
 have b:=fun v=>cntI_bd l i v
 have b0:=b 0;have b1:=b 1;have b2:=b 2;have b3:=b 3;have b4:=b 4;have b5:=b 5
 simp only [cntI_snoc,hv]
 rcases (show v=0∨v=1∨v=2∨v=3∨v=4∨v=5 by omega) with rfl | rfl | rfl | rfl | rfl | rfl <;> simp <;> omega
theorem mostI_bd (l:List (List Int)) (i:Nat):0≤mostI l i∧mostI l i≤l.length:=by
 rw [mostI_eq]
 have b:=fun v=>cntI_bd l i v
 have b0:=b 0;have b1:=b 1;have b2:=b 2;have b3:=b 3;have b4:=b 4;have b5:=b 5
 omega
def askStep (st:Int × Int) (x:Nat × Int):Int × Int:=if x.2 < st.2 then ((x.1:Int),x.2) else st
def askI (l:List (List Int)) (n:Nat):Int × Int:=((List.range n).map fun i=>(i,mostI l i)).foldl askStep (-1,(l.length:Int))
end Sp
open Sp
def cntCells (l:List (List Int)) (i:Nat):Array Value:=#[.int .i64 (cntI l i 0),.int .i64 (cntI l i 1),.int .i64 (cntI l i 2),.int .i64 (cntI l i 3),.int .i64 (cntI l i 4),.int .i64 (cntI l i 5)]
theorem cntCells_at (l:List (List Int)) (i:Nat) {v:Nat} (h:v≤5):(cntCells l i)[v]? = some (.int .i64 (cntI l i v)):=by
 rcases (show v=0∨v=1∨v=2∨v=3∨v=4∨v=5 by omega) with rfl | rfl | rfl | rfl | rfl | rfl <;> rfl
theorem cntCells_set (l:List (List Int)) (x:List Int) (i v:Nat) (hv:(pad x).getD i 0=(v:Int)) (h5:v≤5):(cntCells l i).setIfInBounds v (.int .i64 (cntI l i v+1))=cntCells (l ++ [x]) i:=by
 unfold cntCells
 simp only [cntI_snoc,hv]
 rcases (show v=0∨v=1∨v=2∨v=3∨v=4∨v=5 by omega) with rfl | rfl | rfl | rfl | rfl | rfl <;> simp
end Go.Proofs.YtfggbepickdokaaGreatDoor
