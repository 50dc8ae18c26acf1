/- Leads to StoreReal of chapter 6: Farm17 AK0 AK1 AK2. -/
import Derived.Test.YtjdmplhdebgbjaaGreatDoorJ26
import Derived.Conc.Walk
import Derived.Conc.SmallLaws
import Derived.Test.YtjdmplhdebgbjaaGreatDoorJ07
set_option maxHeartbeats 4000000
set_option maxRecDepth 100000
set_option linter.all false
namespace Go.Proofs.YtjdmplhdebgbjaaGreatDoor.Mt
open Go Go.Conc
open Go.ConcN (sumTo upd sumTo_upd upd_ne upd_same sumTo_congr)
theorem farm_leads (F:Farm) (M:∀ b,Master { F with b:=b }) {fr:Frame} {cs:List Frame} {w:World} {own0:Hold} {Z:Frame->List Frame->Hold->Prop}
 (hfin:∀ b g own,(M b).Fin g own->∃ fr cs,g=G fr cs/\Z fr cs own) (hn:0 < F.n) (hW:∀ b,∃ k,Walk F.P true F.ro ((M b).MS 0) k (G fr cs) own0)
 (hm:Meets w own0 F.ro) (ho:Open F w) (two:F.cO≠F.cD) (free:own0 F.cO=none/\own0 F.cD=none) (roFree:F.ro F.cO=none/\F.ro F.cD=none) (rest:w.os=F.os/\w.tape=F.tape/\w.output=F.out/\F.lo<=w.heap.size) :
 Leads F.P (fun fr' cs' w'=>∃ own',Meets w' own' F.ro/\(w'.os=F.os/\w'.tape=F.tape/\w'.output=F.out/\F.lo<=w'.heap.size)/\Z fr' cs' own') fr cs w:=by
 intro gs sl t q hc;have hlt:0 < gs.size:=(Array.getElem?_eq_some_iff.1 hc.at0).1;obtain ⟨k,hk⟩:=hW gs.size;have hrun:∀ g own,(M gs.size).Fin g own->g.status=.running:=fun g own hf=>by
  obtain ⟨fr,cs,rfl,_⟩:=hfin gs.size g own hf;rfl
 have hact:∀ g,ActW { F with b:=gs.size } (fun _=>Ph.quit 0) 0 g↔g=0:=fun g=>by
  constructor
  ·rintro (h | ⟨j,hj,_⟩)
   ·exact h
   ·omega
  ·exact .inl
 have hcore:Core { F with b:=gs.size } (·=0) w t (fun _=>own0) :=
  ⟨FT.of_past hc.past _ _,fun a b r ha hb _ _=>ha.trans hb.symm,fun g _=>hm,ho,two,fun g _=>free,roFree,rest⟩
 have hinv:Inv0 (M gs.size) gs w t q 0 (fun _=>Ph.quit 0) (.start 0 k) (fun _=>own0) :=
  ⟨rfl,hlt,fun i g hi hb hx=>hc.leav.old i g hi hx,fun j hj=>absurd hj (Nat.not_lt_zero _),⟨_,hc.at0,rfl,hn,fun i hi=>absurd hi (Nat.not_lt_zero _),hk⟩,hcore.congr hact,fun j hj=>hc.leav.above j hj⟩
 obtain ⟨N,gs',w',sl',t',q',m',ph',k',own',hr,hi,g,hg,hF⟩:=Inv0.run hrun _ gs w sl t q 0 _ _ _ hinv rfl;obtain ⟨fr',cs',rfl,hZ⟩:=hfin _ _ _ hF;obtain ⟨x,hx,hmn,hall,_⟩:=hi.main;have hA:∀ g,ActW { F with b:=gs.size } ph' m' g->g=0:=fun g hg=>by
  rcases hg with h | ⟨j,hj,_,hd⟩
  ·exact h
  ·rw [hall j hj] at hd;cases hd
 let q2:Nat->Nat:=fun i=>if i < gs.size then q' i else match ph' (i - gs.size) with | .quit k=>k | _=>0
 refine ⟨N,gs',w',sl',t',q2,fr',cs',hr,⟨hg,⟨fun i g hi0 hgi=>?_,fun j hj=>?_⟩,hi.core.trace.past (.inl rfl) hA⟩,own' 0,hi.core.meets 0 (.inl rfl),hi.core.rest,hZ⟩
 ·rcases hi.who hgi with h0 | ⟨_,hb,hq⟩ | ⟨j,hj,rfl,hw⟩
  ·omega
  ·show QuitsD F.P (if i < gs.size then _ else _) _ _;rw [if_pos hb];exact hq
  ·have hd:=hall j hj;have hdf:=hi.deaf (gs.size+j) (Nat.le_add_right _ _);show QuitsD F.P (if gs.size+j < gs.size then _ else match ph' (gs.size+j - gs.size) with | .quit k=>k | _=>0) (Deaf t' (gs.size+j)) g;rw [if_neg (by omega),Nat.add_sub_cancel_left,hdf]
   cases hp:ph' j with
   | quit k=>rw [hp] at hw;exact QuitsD.of_quitsIn hw
   | _=>rw [hp] at hd;cases hd
 ·exact hi.deaf j (by have:=hi.size;simp only at this ⊢;omega)
end Go.Proofs.YtjdmplhdebgbjaaGreatDoor.Mt
namespace Go.Proofs.YtjdmplhdebgbjaaGreatDoor.Mt
open Go Go.Conc
structure Stp (ro own own':Hold) (w w':World):Prop where
 holds:Meets w' own' ro
 size:w.heap.size<=w'.heap.size
 kept:∀ r,r < w.heap.size->¬ keyOf own r->w'.heap[r]? = w.heap[r]?
 rest:w'.os=w.os/\w'.tape=w.tape/\w'.output=w.output
 keys:∀ r,keyOf own' r->keyOf own r∨w.heap.size<=r
 keeps:∀ r,keyOf own r->keyOf own' r
section
variable {ro own own':Hold} {w w':World}
theorem Stp.refl (h:Meets w own ro):Stp ro own own w w:=⟨h,Nat.le_refl _,fun _ _ _=>rfl,⟨rfl,rfl,rfl⟩,fun _ h=>.inl h,fun _ h=>h⟩
theorem setCell_block {r k:Nat} {c:Array Value} {t:TypeId} {f:Nat × Nat} {v:Value} (h:w.heap[r]? = some (.cells c t f)):(w.setCell ⟨r,k,none⟩ v).heap[r]? = some (.cells (c.setIfInBounds k v) t f):=by
 unfold World.setCell;simp [Array.getElem?_modify,h]
theorem setCell_other {r k x:Nat} {v:Value} (h:x≠r):(w.setCell ⟨r,k,none⟩ v).heap[x]? = w.heap[x]? := by
 unfold World.setCell;simp [Array.getElem?_modify,Ne.symm h]
theorem key_set {F:Hold} {r:Nat} {o:Obj} (x:Nat):keyOf (F.set r o) x↔x=r∨keyOf F x:=by
 constructor
 ·rintro ⟨y,hy⟩;by_cases e:x=r
  ·exact .inl e
  ·rw [Hold.set_ne _ _ e] at hy;exact .inr ⟨y,hy⟩
 ·intro h;by_cases e:x=r
  ·subst e;exact ⟨o,Hold.set_same _ _ _⟩
  ·obtain ⟨y,hy⟩:=h.resolve_left e;exact ⟨y,by rw [Hold.set_ne _ _ e];exact hy⟩
theorem Stp.set (h:Stp ro own own' w w') {r k:Nat} {c:Array Value} {t:TypeId} {f:Nat × Nat} (hr:own' r=some (.cells c t f)) (v:Value) :
 Stp ro own (own'.set r (.cells (c.setIfInBounds k v) t f)) w (w'.setCell ⟨r,k,none⟩ v):=by
 have hne:∀ x o,ro x=some o->x≠r:=fun x o hx e=>by subst e;rw [h.holds.apart x _ hr] at hx;cases hx
 have hrk:keyOf own r∨w.heap.size<=r:=h.keys r ⟨_,hr⟩;refine ⟨⟨fun x o hx=>?_,fun x o hx=>?_,fun x o hx=>?_⟩,by simpa [World.setCell] using h.size,fun x hx hk=>?_,h.rest,fun x hx=>?_,fun x hx=>?_⟩
 ·by_cases e:x=r
  ·subst e;rw [Hold.set_same] at hx;cases hx;exact setCell_block (h.holds.mine _ _ hr)
  ·rw [Hold.set_ne _ _ e] at hx;rw [setCell_other e];exact h.holds.mine x o hx
 ·rw [setCell_other (hne x o hx)];exact h.holds.shared x o hx
 ·by_cases e:x=r
  ·subst e;exact h.holds.apart x _ hr
  ·rw [Hold.set_ne _ _ e] at hx;exact h.holds.apart x o hx
 ·by_cases e:x=r
  ·subst e;exact absurd hx (by rcases hrk with h1 | h1;exact absurd h1 hk;omega)
  ·rw [setCell_other e];exact h.kept x hx hk
 ·rcases (key_set x).1 hx with e | hx
  ·subst e;exact hrk
  ·exact h.keys x hx
 ·exact (key_set x).2 (.inr (h.keeps x hx))
theorem none_own (h:Meets w own ro):own w.heap.size=none/\ro w.heap.size=none:=by
 constructor
 ·cases hx:own w.heap.size with
  | none=>rfl
  | some o=>exact absurd (h.mine.lt ⟨o,hx⟩) (Nat.lt_irrefl _)
 ·cases hx:ro w.heap.size with
  | none=>rfl
  | some o=>exact absurd (h.shared.lt ⟨o,hx⟩) (Nat.lt_irrefl _)
theorem alloc_block {o:Obj}:(w.alloc o).heap[w.heap.size]? = some o:=by show (w.heap.push o)[w.heap.size]? = _;simp
theorem alloc_other {o:Obj} {x:Nat} (h:x < w.heap.size):(w.alloc o).heap[x]? = w.heap[x]? := by
 show (w.heap.push o)[x]? = _;rw [Array.getElem?_push,if_neg (by omega)]
theorem Stp.alloc (h:Stp ro own own' w w') (o:Obj):Stp ro own (own'.set w'.heap.size o) w (w'.alloc o):=by
 have hn:=none_own h.holds;have lt:∀ (F:Hold) x y,Holds w' F->F x=some y->x < w'.heap.size:=fun F x y hF hx=>hF.lt ⟨y,hx⟩;refine ⟨⟨fun x y hx=>?_,fun x y hx=>?_,fun x y hx=>?_⟩,by have:=h.size;simp;omega,fun x hx hk=>?_,h.rest,fun x hx=>?_,fun x hx=>?_⟩
 ·by_cases e:x=w'.heap.size
  ·subst e;rw [Hold.set_same] at hx;cases hx;exact alloc_block
  ·rw [Hold.set_ne _ _ e] at hx;rw [alloc_other (lt _ _ _ h.holds.mine hx)];exact h.holds.mine x y hx
 ·rw [alloc_other (lt _ _ _ h.holds.shared hx)];exact h.holds.shared x y hx
 ·by_cases e:x=w'.heap.size
  ·subst e;exact hn.2
  ·rw [Hold.set_ne _ _ e] at hx;exact h.holds.apart x y hx
 ·rw [alloc_other (Nat.lt_of_lt_of_le hx h.size)];exact h.kept x hx hk
 ·rcases (key_set x).1 hx with e | hx
  ·subst e;exact .inr h.size
  ·exact h.keys x hx
 ·exact (key_set x).2 (.inr (h.keeps x hx))
theorem EvOwn.mono {e:Event} (h:EvOwn own ro e) (hk:∀ r,keyOf own r->keyOf own' r):EvOwn own' ro e:=by
 obtain ⟨loc,wr,sy⟩:=e
 cases loc with
 | cell a=>exact ⟨h.1,h.2.imp_left (hk _)⟩
 | _=>exact h
end
section
variable {P:Program} {main:Bool} {ro own:Hold} {Q:Act->Hold->Prop} {a:Act} {ops:Array Oper} {i:Nat} {rest:List Nat} {o:Oper} {n:Nat}
theorem wo_any (ho:ops[i]? = some o) (hw:Region.wanted o (yielded ops a.tmps)=true)
 (hev:∀ w,Meets w own ro->∀ e∈(execOp a.eval o).events P w #[],EvOwn own ro e)
 (h:∀ w,Meets w own ro->∀ K:Act->World->Prop,(∀ a' w' own',Stp ro own own' w w'->WO P main ro ops rest n Q a' own'->K a' w')->uponK o a K ((execOp a.eval o).run P w)) :
 WO P main ro ops (i::rest) (n+1) Q a own :=
 wo_cons ho hw fun w hm=>by
  have:=h w hm (fun a' w'=>∃ own',Stp ro own own' w w'/\WO P main ro ops rest n Q a' own') (fun a' w' own' h1 h2=>⟨own',h1,h2⟩);revert this
  cases hr:(execOp a.eval o).run P w with
  | ok x w' =>
   cases x with
   | value v =>
    rintro ⟨own',hs,hK⟩;exact ⟨v,w',own',.inl rfl,⟨hs.holds,hs.size,hs.kept,hs.rest,hs.keys,fun e he=>(hev w hm e he).mono hs.keeps⟩,hK⟩
   | skip =>
    rintro ⟨own',hs,hK⟩;exact ⟨undef,w',own',.inr ⟨rfl,rfl⟩,⟨hs.holds,hs.size,hs.kept,hs.rest,hs.keys,fun e he=>(hev w hm e he).mono hs.keeps⟩,hK⟩
   | _=>exact fun h=>h.elim
  | halt _ _=>exact fun h=>h.elim
end
def fuel (N:Nat):Code->Nat
 | .seq x y=>fuel N x+fuel N y+1
 | .region _ ops _=>ops.size+1+1
 | .cond _ x y=>max (fuel N x) (fuel N y)+1
 | .block _ c=>fuel N c+2
 | .loop c=>(N+1) * (fuel N c+1)+1
 | _=>1
def WF (P:Program) (main:Bool) (ro:Hold) (N:Nat) (c:Code) (Q:Exit->Act->Hold->Prop) (a:Act) (own:Hold):Prop:=WC P main ro c (fuel N c) Q a own
def WR (P:Program) (main:Bool) (ro:Hold) (ops:Array Oper) (todo:List Nat) (Q:Act->Hold->Prop) (a:Act) (own:Hold):Prop:=WO P main ro ops todo (todo.length+1) Q a own
section
variable {P:Program} {main:Bool} {ro own:Hold} {N:Nat} {Q:Exit->Act->Hold->Prop} {a:Act}
theorem wf_mono {c:Code} {Q':Exit->Act->Hold->Prop} (h:WF P main ro N c Q a own) (hq:∀ e a own,Q e a own->Q' e a own):WF P main ro N c Q' a own:=wc_mono h hq
theorem wf_skip (h:Q .normal a own):WF P main ro N .skip Q a own:=wc_skip h
theorem wf_exit {id:Nat} (h:Q (.exit id) a own):WF P main ro N (.exit id) Q a own:=wc_exit h
theorem wf_seq {x y:Code} (h:WF P main ro N x (ThenW (fun a' o'=>WF P main ro N y Q a' o') Q) a own):WF P main ro N (.seq x y) Q a own:=wc_seq h
theorem wf_cond {c:Operand} {x y:Code} {t:Bool} (hc:a.eval c=.bool t) (h:WF P main ro N (if t then x else y) Q a own):WF P main ro N (.cond c x y) Q a own:=by
 refine wc_more (wc_cond hc h) ?_;show fuel N (if t then x else y)+1<=max (fuel N x) (fuel N y)+1;cases t <;> simp <;> omega
theorem wf_block {id:Nat} {c:Code} (h:WF P main ro N c (BlockW id Q) a own):WF P main ro N (.block id c) Q a own:=wc_block h
theorem wf_loop {c:Code} (I:Nat->Act->Hold->Prop) {n:Nat} (hn:n<=N) (h0:I n a own)
 (round:∀ n a own,I n a own->WF P main ro N c (ThenW (fun a' o'=>∃ n',n=n'+1/\I n' a' o') Q) a own):WF P main ro N (.loop c) Q a own:=by
 refine wc_more (wc_loop I (fuel N c) n h0 round) ?_;show (n+1) * (fuel N c+1)+1<=(N+1) * (fuel N c+1)+1;have:=Nat.mul_le_mul_right (fuel N c+1) (Nat.succ_le_succ hn);exact Nat.succ_le_succ this
theorem wf_region {id:Nat} {ops:Array Oper} (h:WR P main ro ops (List.range ops.size) (fun a' o'=>Q .normal a' o') a own):WF P main ro N (.region id ops false) Q a own:=by
 have:=wc_region (id:=id) h;rw [List.length_range] at this;exact this
theorem wr_hide {Q:Act->Hold->Prop} {ops:Array Oper} {todo:List Nat} (h:∀ Q':Act->Hold->Prop,(∀ a o,Q a o->Q' a o)->WR P main ro ops todo Q' a own):WR P main ro ops todo Q a own:=h Q fun _ _ h=>h
theorem wr_nil {Q:Act->Hold->Prop} {ops:Array Oper} (h:Q a own):WR P main ro ops [] Q a own:=wo_nil h
theorem wr_any {Q:Act->Hold->Prop} {ops:Array Oper} {i:Nat} {rest:List Nat} {o:Oper} (ho:ops[i]? = some o) (hw:Region.wanted o (yielded ops a.tmps)=true)
 (hev:∀ w,Meets w own ro->∀ e∈(execOp a.eval o).events P w #[],EvOwn own ro e)
 (h:∀ w,Meets w own ro->∀ K:Act->World->Prop,(∀ a' w' own',Stp ro own own' w w'->WR P main ro ops rest Q a' own'->K a' w')->uponK o a K ((execOp a.eval o).run P w)) :
 WR P main ro ops (i::rest) Q a own:=wo_any ho hw hev h
theorem walk_any {Stop:Goroutine->Hold->Prop} {b:Frame} {k:List Item} {cs:List Frame} {n:Nat} {ops:Array Oper} {i:Nat} {rest:List Nat} {o:Oper} (hb:b.kind≠.early) (ho:ops[i]? = some o) (hw:Region.wanted o (yielded ops a.tmps)=true)
 (hev:∀ w,Meets w own ro->∀ e∈(execOp a.eval o).events P w #[],EvOwn own ro e)
 (h:∀ w,Meets w own ro->∀ K:Act->World->Prop,(∀ a' w' own',Stp ro own own' w w'->Walk P main ro Stop n (G (b.at a' (.inRegion ops rest::k)) cs) own'->K a' w')->uponK o a K ((execOp a.eval o).run P w)) :
 Walk P main ro Stop (n+1) (G (b.at a (.inRegion ops (i::rest)::k)) cs) own:=by
 refine .inr ⟨rfl,fun w hm=>?_⟩;have:=h w hm (fun a' w'=>∃ own',Stp ro own own' w w'/\Walk P main ro Stop n (G (b.at a' (.inRegion ops rest::k)) cs) own') (fun a' w' own' h1 h2=>⟨own',h1,h2⟩);revert this
 cases hr:(execOp a.eval o).run P w with
 | ok x w' =>
  cases x with
  | value v =>
   rintro ⟨own',hs,hK⟩;exact ⟨_,w',_,own',stepG_value ho hw hb hr,⟨hs.holds,hs.size,hs.kept,hs.rest,hs.keys,fun e he=>(hev w hm e (seen_mem he)).mono hs.keeps⟩,hK⟩
  | skip =>
   rintro ⟨own',hs,hK⟩;exact ⟨_,w',_,own',stepG_none ho hw hb hr,⟨hs.holds,hs.size,hs.kept,hs.rest,hs.keys,fun e he=>(hev w hm e (seen_mem he)).mono hs.keeps⟩,hK⟩
  | _=>exact fun h=>h.elim
 | halt _ _=>exact fun h=>h.elim
theorem walk_code {Stop:Goroutine->Hold->Prop} {b:Frame} {k:List Item} {cs:List Frame} {c:Code} {R:Act->Hold->Prop} (hb:b.kind≠.early) (h:WF P main ro N c (fun e a' o'=>e=.normal/\R a' o') a own) {m:Nat}
 (hk:∀ a' own',R a' own'->Walk P main ro Stop m (G (b.at a' k) cs) own'):Walk P main ro Stop (m+fuel N c) (G (b.at a (.code c::k)) cs) own :=
 h b k cs Stop m hb fun e a' own' ⟨he,hr⟩=>by subst he;exact hk a' own' hr
end
def roOf (W:World) (cO cD:Nat):Hold:=fun r=>if r=cO∨r=cD then none else W.heap[r]?
section
variable {W w:World} {own:Hold} {cO cD b o:Nat}
theorem ro_block (hm:Meets w own (roOf W cO cD)) (hb:b < W.heap.size) (h1:b≠cO) (h2:b≠cD):w.heap[b]? = W.heap[b]? := by
 have h:roOf W cO cD b=some W.heap[b]:=by unfold roOf;rw [if_neg (by simp [h1,h2]),Array.getElem?_eq_getElem hb]
 rw [hm.shared b _ h,Array.getElem?_eq_getElem hb]
theorem ro_cell (hm:Meets w own (roOf W cO cD)) (hb:b < W.heap.size) (h1:b≠cO) (h2:b≠cD):w.cell? ⟨b,o,none⟩=W.cell? ⟨b,o,none⟩:=World.cell?_of_block (ro_block hm hb h1 h2)
theorem ro_key (hb:b < W.heap.size) (h1:b≠cO) (h2:b≠cD):keyOf (roOf W cO cD) b:=⟨W.heap[b],by unfold roOf;rw [if_neg (by simp [h1,h2]),Array.getElem?_eq_getElem hb]⟩
theorem own_cell {ro:Hold} (hm:Meets w own ro) {c:Array Value} {t:TypeId} {f:Nat × Nat} (h:own b=some (.cells c t f)):w.cell? ⟨b,o,none⟩=c[o]? := by
 unfold World.cell?;rw [hm.mine b _ h];rfl
theorem own_frozen {ro:Hold} (hm:Meets w own ro) {c:Array Value} {t:TypeId} (h:own b=some (.cells c t)):w.frozen? ⟨b,o,none⟩=false:=by
 unfold World.frozen?;rw [hm.mine b _ h];simp
end
end Go.Proofs.YtjdmplhdebgbjaaGreatDoor.Mt
namespace Go.Proofs.YtjdmplhdebgbjaaGreatDoor
namespace Sp
def cntI (l:List (List Int)) (i v:Nat):Int:=((l.countP fun x=>decide ((pad x).getD i 0=(v:Int)):Nat):Int)
def mostI (l:List (List Int)) (i:Nat):Int:=((List.range 6).map (cntI l i)).foldl max 0
theorem cntI_snoc (l:List (List Int)) (x:List Int) (i v:Nat):cntI (l ++ [x]) i v=cntI l i v+if (pad x).getD i 0=(v:Int) then 1 else 0:=by
 unfold cntI;rw [List.countP_append,List.countP_cons,List.countP_nil];split <;> simp_all
theorem cntI_bd (l:List (List Int)) (i v:Nat):0<=cntI l i v/\cntI l i v<=l.length:=by
 unfold cntI;have:=List.countP_le_length (p:=fun x:List Int=>decide ((pad x).getD i 0=(v:Int))) (l:=l);omega
theorem mostI_eq (l:List (List Int)) (i:Nat):mostI l i=max (max (max (max (max (max 0 (cntI l i 0)) (cntI l i 1)) (cntI l i 2)) (cntI l i 3)) (cntI l i 4)) (cntI l i 5):=rfl
theorem mostI_snoc (l:List (List Int)) (x:List Int) (i v:Nat) (hv:(pad x).getD i 0=(v:Int)) (h5:v<=5):mostI (l ++ [x]) i=max (mostI l i) (cntI l i v+1):=by
 rw [mostI_eq,mostI_eq];have b:=fun v=>cntI_bd l i v;have b0:=b 0;have b1:=b 1;have b2:=b 2;have b3:=b 3;have b4:=b 4;have b5:=b 5;simp only [cntI_snoc,hv];rcases (show v=0∨v=1∨v=2∨v=3∨v=4∨v=5 by omega) with rfl | rfl | rfl | rfl | rfl | rfl <;> simp <;> omega
theorem mostI_bd (l:List (List Int)) (i:Nat):0<=mostI l i/\mostI l i<=l.length:=by
 rw [mostI_eq];have b:=fun v=>cntI_bd l i v;have b0:=b 0;have b1:=b 1;have b2:=b 2;have b3:=b 3;have b4:=b 4;have b5:=b 5;omega
def askStep (st:Int × Int) (x:Nat × Int):Int × Int:=if x.2 < st.2 then ((x.1:Int),x.2) else st
def askI (l:List (List Int)) (n:Nat):Int × Int:=((List.range n).map fun i=>(i,mostI l i)).foldl askStep (-1,(l.length:Int))
end Sp
open Sp
def cntCells (l:List (List Int)) (i:Nat):Array Value:=#[.int .i64 (cntI l i 0),.int .i64 (cntI l i 1),.int .i64 (cntI l i 2),.int .i64 (cntI l i 3),.int .i64 (cntI l i 4),.int .i64 (cntI l i 5)]
theorem cntCells_at (l:List (List Int)) (i:Nat) {v:Nat} (h:v<=5):(cntCells l i)[v]? = some (.int .i64 (cntI l i v)):=by
 rcases (show v=0∨v=1∨v=2∨v=3∨v=4∨v=5 by omega) with rfl | rfl | rfl | rfl | rfl | rfl <;> rfl
theorem cntCells_set (l:List (List Int)) (x:List Int) (i v:Nat) (hv:(pad x).getD i 0=(v:Int)) (h5:v<=5):(cntCells l i).setIfInBounds v (.int .i64 (cntI l i v+1))=cntCells (l ++ [x]) i:=by
 unfold cntCells;simp only [cntI_snoc,hv];rcases (show v=0∨v=1∨v=2∨v=3∨v=4∨v=5 by omega) with rfl | rfl | rfl | rfl | rfl | rfl <;> simp
end Go.Proofs.YtjdmplhdebgbjaaGreatDoor
namespace Go.Proofs.YtjdmplhdebgbjaaGreatDoor
open Go.RowKit Sp Mt Go.Conc
theorem ev_own {own ro:Hold} {b o:Nat} {wr:Bool} (h:Mt.keyOf own b):EvOwn own ro ⟨.cell ⟨b,o,none⟩,wr,Mode.plain == Mode.atomic⟩:=⟨rfl,.inl h⟩
theorem ev_ro {own ro:Hold} {b o:Nat} (h:Mt.keyOf ro b):EvOwn own ro ⟨.cell ⟨b,o,none⟩,false,Mode.plain == Mode.atomic⟩:=⟨rfl,.inr ⟨rfl,h⟩⟩
theorem key_of {own:Hold} {r:Nat} {o:Obj} (h:own r=some o):Mt.keyOf own r:=⟨o,h⟩
theorem events_max {w:World} {es:Array Event} (x y:Int):Sem.events Tryz.prog (Builtin.max_ #[3,3] 3 #[Value.int IntKind.i64 x,Value.int IntKind.i64 y]) w es=es:=by
 simp [Builtin.max_]
 first | rfl | (unfold Builtin.max2;rfl) | (unfold Builtin.max2;simp)
structure Task (W:World) (cO cD Bl Bo Bd:Nat) (la:Option Addr) (l:List (List Int)) (lc:Nat):Prop where
 l0:W.cell? ⟨Bl,0,none⟩=some (.slice la l.length lc)
 lN:Bl≠cO/\Bl≠cD
 o0:W.cell? ⟨Bo,0,none⟩=some (.chan (some cO))
 oN:Bo≠cO/\Bo≠cD
 d0:W.cell? ⟨Bd,0,none⟩=some (.chan (some cD))
 dN:Bd≠cO/\Bd≠cD
 at_:CamesAt W la l
 off:∀ y,la=some y->y.block≠cO/\y.block≠cD
 few:l.length<=2000
section
variable {W:World} {cO cD Bl Bi Bo Bd:Nat} {la:Option Addr} {l:List (List Int)} {lc i:Nat}
def WkI (W:World) (Bl Bi Bo Bd:Nat) (la:Option Addr) (l:List (List Int)) (lc i:Nat) (m:Nat) (a:Act) (own:Hold):Prop :=
 ∃ k r4 u7 u12 u13 u14 u15 u16 u17 u18 u19 u20 u21 u22 u23 u24 u25 u26 u27 u28 u29,m=l.length - k/\k<=l.length/\a={ tmps:=#[.pointer (some ⟨Bl,0,none⟩),.pointer (some ⟨Bi,0,none⟩),.pointer (some ⟨Bo,0,none⟩),.pointer (some ⟨Bd,0,none⟩),.pointer (some ⟨r4,0,none⟩),.int .i64 (mostI (l.take k) i),U,u7,.agg #[.int .i64 0,.int .i64 0,.int .i64 0,.int .i64 0,.int .i64 0,.int .i64 0],.slice la l.length lc,.int .i64 l.length,.int .i64 k,u12,u13,u14,u15,u16,u17,u18,u19,u20,u21,u22,u23,u24,u25,u26,u27,u28,u29,U,U,U,U,U],defers:=[] }/\own r4=some (.cells (cntCells (l.take k) i) 113)/\own Bi=some (.cells #[.int .i64 i] 3)
def WkZ (W:World) (Bl Bi Bo Bd:Nat) (la:Option Addr) (l:List (List Int)) (lc i:Nat) (a:Act) (own:Hold):Prop :=
 ∃ r4 u7 u12 u13 u14 u15 u16 u17 u18 u19 u20 u21 u22 u23 u24 u25 u26 u27 u28 u29,a={ tmps:=#[.pointer (some ⟨Bl,0,none⟩),.pointer (some ⟨Bi,0,none⟩),.pointer (some ⟨Bo,0,none⟩),.pointer (some ⟨Bd,0,none⟩),.pointer (some ⟨r4,0,none⟩),.int .i64 (mostI l i),U,u7,.agg #[.int .i64 0,.int .i64 0,.int .i64 0,.int .i64 0,.int .i64 0,.int .i64 0],.slice la l.length lc,.int .i64 l.length,.int .i64 l.length,u12,u13,u14,u15,u16,u17,u18,u19,u20,u21,u22,u23,u24,u25,u26,u27,u28,u29,U,U,U,U,U],defers:=[] }/\own Bi=some (.cells #[.int .i64 i] 3)
theorem wk_first {c c1 c2 c3 c4:Code} (hc:Tryz.f60.body=some (.seq c (.seq c1 (.seq (.seq c2 c3) c4)))) {own:Hold} (hi:own Bi=some (.cells #[.int .i64 i] 3)) {N:Nat} :
 WF Tryz.prog false (roOf W cO cD) N c (fun e a' o'=>e=.normal/\∃ r4,a'={ tmps:=#[.pointer (some ⟨Bl,0,none⟩),.pointer (some ⟨Bi,0,none⟩),.pointer (some ⟨Bo,0,none⟩),.pointer (some ⟨Bd,0,none⟩),.pointer (some ⟨r4,0,none⟩),U,U,U,.agg #[.int .i64 0,.int .i64 0,.int .i64 0,.int .i64 0,.int .i64 0,.int .i64 0],U,U,U,U,U,U,U,U,U,U,U,U,U,U,U,U,U,U,U,U,U,U,U,U,U,U],defers:=[] }/\o' r4=some (.cells (cntCells [] i) 113)/\o' Bi=some (.cells #[.int .i64 i] 3)) { tmps:=#[.pointer (some ⟨Bl,0,none⟩),.pointer (some ⟨Bi,0,none⟩),.pointer (some ⟨Bo,0,none⟩),.pointer (some ⟨Bd,0,none⟩),U,U,U,U,U,U,U,U,U,U,U,U,U,U,U,U,U,U,U,U,U,U,U,U,U,U,U,U,U,U,U],defers:=[] } own:=by
 simp only [Tryz.f60,Option.some.injEq,Code.seq.injEq] at hc;obtain ⟨rfl,rfl,⟨rfl,rfl⟩,rfl⟩:=hc;refine wf_region (wr_hide fun Q1 hQ1=>?_);simp only [List.size_toArray,List.length_cons,List.length_nil,Nat.reduceAdd,Nat.zero_add,List.range,List.range.loop];refine wr_any rfl rfl (fun w hm=>by simp [go_sem]) (fun w hm K hK=>?_);go_simp;refine hK _ _ _ (.refl hm) ?_;clear hK hm w K;refine wr_any rfl rfl (fun w hm=>by simp [go_sem]) (fun w hm K hK=>?_);go_simp;refine hK _ _ _ ((Stp.refl hm).alloc _) ?_;have hn4:=(none_own hm).1;obtain ⟨r4,hr4⟩:∃ r,r=w.heap.size:=⟨_,rfl⟩;rw [← hr4] at hn4 ⊢;obtain ⟨own1,ho1⟩:∃ x,x=own.set r4 (.cells #[.int .i64 0,.int .i64 0,.int .i64 0,.int .i64 0,.int .i64 0,.int .i64 0] 113):=⟨_,rfl⟩;rw [← ho1];have h4:own1 r4=some (.cells #[.int .i64 0,.int .i64 0,.int .i64 0,.int .i64 0,.int .i64 0,.int .i64 0] 113):=by rw [ho1,Hold.set_same]
 have hne:Bi≠r4:=fun e=>by rw [e,hn4] at hi;cases hi
 have hi1:own1 Bi=some (.cells #[.int .i64 i] 3):=by rw [ho1,Hold.set_ne _ _ hne];exact hi
 clear hK hm hr4 ho1 hn4 hi w K;refine wr_any rfl rfl (fun w hm=>?_) (fun w hm K hK=>?_)
 ·have c0:=fun k=>own_cell (o:=k) hm h4;have f0:=fun k=>own_frozen (o:=k) hm h4;have e0:=fun (o:Nat) (wr:Bool)=>ev_own (ro:=roOf W cO cD) (o:=o) (wr:=wr) (key_of h4);simp [go_sem,c0,f0,e0]
 have c0:=fun k=>own_cell (o:=k) hm h4;have f0:=fun k=>own_frozen (o:=k) hm h4;go_simp;refine hK _ _ _ ((((((((Stp.refl hm).set h4 _).set (Hold.set_same _ _ _) _).set (Hold.set_same _ _ _) _).set (Hold.set_same _ _ _) _).set (Hold.set_same _ _ _) _).set (Hold.set_same _ _ _) _)) (wr_nil (hQ1 _ _ ⟨rfl,r4,rfl,?_,?_⟩))
 ·rw [Hold.set_same];rfl
 ·rw [Hold.set_ne _ _ hne,Hold.set_ne _ _ hne,Hold.set_ne _ _ hne,Hold.set_ne _ _ hne,Hold.set_ne _ _ hne,Hold.set_ne _ _ hne];exact hi1
theorem wk_loop (T:Task W cO cD Bl Bo Bd la l lc) {c c1 c2 c3 c4:Code} (hc:Tryz.f60.body=some (.seq c (.seq c1 (.seq (.seq c2 c3) c4)))) (hx:∀ x∈l,∃ v:Nat,v<=5/\(pad x).getD i 0=(v:Int)) (h4:∀ x∈l,(pad x).length=4) (hi3:i < 4) {r4:Nat} {own:Hold} {a:Act}
 (hr4:own r4=some (.cells (cntCells [] i) 113)) (hi:own Bi=some (.cells #[.int .i64 i] 3)) (ha:a={ tmps:=#[.pointer (some ⟨Bl,0,none⟩),.pointer (some ⟨Bi,0,none⟩),.pointer (some ⟨Bo,0,none⟩),.pointer (some ⟨Bd,0,none⟩),.pointer (some ⟨r4,0,none⟩),.int .i64 0,U,U,.agg #[.int .i64 0,.int .i64 0,.int .i64 0,.int .i64 0,.int .i64 0,.int .i64 0],.slice la l.length lc,.int .i64 l.length,.int .i64 0,U,U,U,U,U,U,U,U,U,U,U,U,U,U,U,U,U,U,U,U,U,U,U],defers:=[] }) :
 WF Tryz.prog false (roOf W cO cD) 2000 c3 (fun e a' o'=>e=.normal/\WkZ W Bl Bi Bo Bd la l lc i a' o') a own:=by
 simp only [Tryz.f60,Option.some.injEq,Code.seq.injEq] at hc;obtain ⟨rfl,rfl,⟨rfl,rfl⟩,rfl⟩:=hc;refine wf_block (wf_loop (WkI W Bl Bi Bo Bd la l lc i) T.few ⟨0,r4,U,U,U,U,U,U,U,U,U,U,U,U,U,U,U,U,U,U,U,rfl,Nat.zero_le _,ha,by simpa using hr4,hi⟩ ?_);clear ha hr4 hi a own r4;rintro m a own ⟨k,r4,u7,u12,u13,u14,u15,u16,u17,u18,u19,u20,u21,u22,u23,u24,u25,u26,u27,u28,u29,rfl,hkl,rfl,hr4,hi⟩;refine wf_seq (wf_region (wr_hide fun Q1 hQ1=>?_));simp only [List.size_toArray,List.length_cons,List.length_nil,Nat.reduceAdd,Nat.zero_add,List.range,List.range.loop];by_cases hlt:k < l.length
 ·refine wr_any rfl rfl (fun w hm=>by simp [go_sem]) (fun w hm K hK=>?_);go_simp;refine hK _ _ _ (.refl hm) (wr_nil (hQ1 _ _ ?_));clear hK hm w K hQ1 Q1;refine wf_seq (wf_cond (t:=true) rfl (wf_skip ?_));refine wf_seq (wf_block (wf_seq (wf_region (wr_hide fun Q1 hQ1=>?_))));simp only [List.size_toArray,List.length_cons,List.length_nil,Nat.reduceAdd,Nat.zero_add,List.range,List.range.loop];obtain ⟨lb,lo,rfl,hlb,e0,e1,e2,e3⟩:=T.at_ k hlt;obtain ⟨o1,o2⟩:=T.off _ rfl;simp only at o1 o2;obtain ⟨v,hv5,hxv⟩:=hx _ (List.getElem_mem hlt);have hts:=List.take_succ_eq_append_getElem hlt;have hc1:=cntCells_set (l.take k) l[k] i v hxv hv5;have hm1:=mostI_snoc (l.take k) l[k] i v hxv hv5;rw [← hts] at hc1 hm1;have hcat:=cntCells_at (l.take k) i hv5;have hcat2:=cntCells_at (l.take (k+1)) i hv5;have hsn:=cntI_snoc (l.take k) l[k] i v;rw [← hts,if_pos hxv] at hsn;have hb1:=cntI_bd (l.take k) i v;have hb2:=mostI_bd (l.take k) i;have hlk:(l.take k).length<=2000:=Nat.le_trans (List.length_take_le' _ _) T.few;obtain ⟨x0,x1,x2,x3,hxp⟩:=four (h4 _ (List.getElem_mem hlt));rw [hxp] at e0 e1 e2 e3 hxv;simp only [List.getD_cons_zero,List.getD_cons_succ] at e0 e1 e2 e3;have hxi:(#[Value.int .i64 x0,.int .i64 x1,.int .i64 x2,.int .i64 x3]:Array Value)[i]? = some (.int .i64 v):=by
   rcases (show i=0∨i=1∨i=2∨i=3 by omega) with rfl | rfl | rfl | rfl <;> (simp at hxv;simp [hxv])
  clear hxv hts hxp;rw [hsn] at hcat2;generalize cntI (l.take k) i v=cv at hcat hcat2 hc1 hm1 hsn hb1;generalize hmo:mostI (l.take k) i=mv at hm1 hb2 ⊢;have hv0:(0:Int)<=(v:Int):=by omega
  have hv6:(v:Int) < 6:=by omega
  have hi0:(0:Int)<=(i:Int):=by omega
  have hi4:(i:Int) < 4:=by omega
  have hcv:0<=cv/\cv<=2000:=by omega
  have hmv:0<=mv/\mv<=2000:=by omega
  obtain ⟨hcv0,hcv1⟩:=hcv;have hwc:IntKind.i64.wrap (cv+1)=cv+1:=IntWalk.i64_in _ (by omega);have hfew:=T.few;have hmax:(if mv < cv+1 then cv+1 else mv)=max mv (cv+1):=by split <;> omega
  have hk1:((k+1:Nat):Int)=(k:Int)+1:=by omega
  have HMX:=Hh hmax;have HK1:=Hh hk1;clear hmax hk1;have hwk:IntKind.i64.wrap ((k:Int)+1)=((k+1:Nat):Int):=by rw [IntWalk.i64_in _ (by omega)];simp
  obtain ⟨hmv0,hmv1⟩:=hmv;have HM:=Hh hm1;have HC:=Hh hc1;clear hm1 hc1 hsn hmo hb1 hb2 hlk;refine wr_any rfl rfl (fun w hm=>?_) (fun w hm K hK=>?_)
  ·skip
   simp [go_sem,hlt]
  go_simp;refine hK _ _ _ (.refl hm) (?_);clear hK hm w K ;refine wr_any rfl rfl (fun w hm=>?_) (fun w hm K hK=>?_)
  ·skip
   have d0:=(ro_cell (o:=lo+k * 4) hm hlb o1 o2).trans e0;have d1:=(ro_cell (o:=lo+k * 4+1) hm hlb o1 o2).trans e1;have d2:=(ro_cell (o:=lo+k * 4+2) hm hlb o1 o2).trans e2;have d3:=(ro_cell (o:=lo+k * 4+3) hm hlb o1 o2).trans e3;have ev:=fun (o:Nat)=>ev_ro (own:=own) (o:=o) (ro_key hlb o1 o2);simp [go_sem,d0,d1,d2,d3,ev,hlt]
  have d0:=(ro_cell (o:=lo+k * 4) hm hlb o1 o2).trans e0;have d1:=(ro_cell (o:=lo+k * 4+1) hm hlb o1 o2).trans e1;have d2:=(ro_cell (o:=lo+k * 4+2) hm hlb o1 o2).trans e2;have d3:=(ro_cell (o:=lo+k * 4+3) hm hlb o1 o2).trans e3;have ev:=fun (o:Nat)=>ev_ro (own:=own) (o:=o) (ro_key hlb o1 o2);go_simp;refine hK _ _ _ (.refl hm) (?_);clear hK hm w K d0 d1 d2 d3 ev;refine wr_any rfl rfl (fun w hm=>by simp [go_sem]) (fun w hm K hK=>?_);go_simp;refine hK _ _ _ ((Stp.refl hm).alloc _) (?_);have hn7:=(none_own hm).1;obtain ⟨r7,hr7⟩:∃ r,r=w.heap.size:=⟨_,rfl⟩;rw [← hr7] at hn7 ⊢;obtain ⟨own1,ho1⟩:∃ x,x=own.set r7 (.cells #[.int .i64 0,.int .i64 0,.int .i64 0,.int .i64 0] 90):=⟨_,rfl⟩;rw [← ho1];have h7:own1 r7=some (.cells #[.int .i64 0,.int .i64 0,.int .i64 0,.int .i64 0] 90):=by rw [ho1,Hold.set_same]
  have n1:Bi≠r7:=fun e=>by rw [e,hn7] at hi;cases hi
  have n2:r4≠r7:=fun e=>by rw [e,hn7] at hr4;cases hr4
  have hi1:own1 Bi=some (.cells #[.int .i64 i] 3):=by rw [ho1,Hold.set_ne _ _ n1];exact hi
  have hr1:own1 r4=some (.cells (cntCells (l.take k) i) 113):=by rw [ho1,Hold.set_ne _ _ n2];exact hr4
  clear hK hm hr7 ho1 hn7 hi hr4 w K own e0 e1 e2 e3;refine wr_any rfl rfl (fun w hm=>?_) (fun w hm K hK=>?_)
  ·skip
   have c7:=fun (k:Nat)=>own_cell (o:=k) hm h7;have fc7:=fun (k:Nat)=>own_frozen (o:=k) hm h7;have ec7:=fun (o:Nat) (wr:Bool)=>ev_own (ro:=roOf W cO cD) (o:=o) (wr:=wr) (key_of h7);simp [go_sem,c7,fc7,ec7]
  have c7:=fun (k:Nat)=>own_cell (o:=k) hm h7;have fc7:=fun (k:Nat)=>own_frozen (o:=k) hm h7;have ec7:=fun (o:Nat) (wr:Bool)=>ev_own (ro:=roOf W cO cD) (o:=o) (wr:=wr) (key_of h7);go_simp;refine hK _ _ _ (((((Stp.refl hm).set h7 _).set (Hold.set_same _ _ _) _).set (Hold.set_same _ _ _) _).set (Hold.set_same _ _ _) _) (wr_nil (hQ1 _ _ ?_));clear hK hm w K c7 fc7 ec7;obtain ⟨own2,ho2⟩:∃ x,x=(((own1.set r7 (.cells (#[Value.int .i64 0,.int .i64 0,.int .i64 0,.int .i64 0].setIfInBounds 0 (.int .i64 x0)) 90)).set r7 (.cells ((#[Value.int .i64 0,.int .i64 0,.int .i64 0,.int .i64 0].setIfInBounds 0 (.int .i64 x0)).setIfInBounds 1 (.int .i64 x1)) 90)).set r7 (.cells (((#[Value.int .i64 0,.int .i64 0,.int .i64 0,.int .i64 0].setIfInBounds 0 (.int .i64 x0)).setIfInBounds 1 (.int .i64 x1)).setIfInBounds 2 (.int .i64 x2)) 90)).set r7 (.cells ((((#[Value.int .i64 0,.int .i64 0,.int .i64 0,.int .i64 0].setIfInBounds 0 (.int .i64 x0)).setIfInBounds 1 (.int .i64 x1)).setIfInBounds 2 (.int .i64 x2)).setIfInBounds 3 (.int .i64 x3)) 90):=⟨_,rfl⟩;rw [← ho2];have h7b:own2 r7=some (.cells #[.int .i64 x0,.int .i64 x1,.int .i64 x2,.int .i64 x3] 90):=by rw [ho2,Hold.set_same];rfl
  have hi2:own2 Bi=some (.cells #[.int .i64 i] 3):=by rw [ho2,Hold.set_ne _ _ n1,Hold.set_ne _ _ n1,Hold.set_ne _ _ n1,Hold.set_ne _ _ n1];exact hi1
  have hr2:own2 r4=some (.cells (cntCells (l.take k) i) 113):=by rw [ho2,Hold.set_ne _ _ n2,Hold.set_ne _ _ n2,Hold.set_ne _ _ n2,Hold.set_ne _ _ n2];exact hr1
  clear ho2 hi1 hr1 h7 hQ1 Q1 own1;refine wf_seq (wf_region (wr_hide fun Q1 hQ1=>?_));simp only [List.size_toArray,List.length_cons,List.length_nil,Nat.reduceAdd,Nat.zero_add,List.range,List.range.loop];refine wr_any rfl rfl (fun w hm=>?_) (fun w hm K hK=>?_)
  ·skip
   have ci:=fun (k:Nat)=>own_cell (o:=k) hm hi2;have fci:=fun (k:Nat)=>own_frozen (o:=k) hm hi2;have eci:=fun (o:Nat) (wr:Bool)=>ev_own (ro:=roOf W cO cD) (o:=o) (wr:=wr) (key_of hi2);simp [go_sem,ci,fci,eci]
  have ci:=fun (k:Nat)=>own_cell (o:=k) hm hi2;have fci:=fun (k:Nat)=>own_frozen (o:=k) hm hi2;have eci:=fun (o:Nat) (wr:Bool)=>ev_own (ro:=roOf W cO cD) (o:=o) (wr:=wr) (key_of hi2);go_simp;refine hK _ _ _ (.refl hm) (?_);clear hK hm w K ci fci eci;refine wr_any rfl rfl (fun w hm=>?_) (fun w hm K hK=>?_)
  ·skip
   have ea:=events_indexAt_array (P:=Tryz.prog) (w:=w) (es:=#[]) 90 3 4 ⟨r7,0,none⟩ .i64 i Tryz.underlying90 ⟨hi0,hi4⟩;simp [go_sem,ea]
  have ea:=events_indexAt_array (P:=Tryz.prog) (w:=w) (es:=#[]) 90 3 4 ⟨r7,0,none⟩ .i64 i Tryz.underlying90 ⟨hi0,hi4⟩;go_simp;refine hK _ _ _ (.refl hm) (?_);clear hK hm w K ea;refine wr_any rfl rfl (fun w hm=>?_) (fun w hm K hK=>?_)
  ·skip
   have c7:=(own_cell (o:=i) hm h7b).trans hxi;have ec7x:=fun (o:Nat) (wr:Bool)=>ev_own (ro:=roOf W cO cD) (o:=o) (wr:=wr) (key_of h7b);simp [go_sem,c7,ec7x]
  have c7:=(own_cell (o:=i) hm h7b).trans hxi;have ec7x:=fun (o:Nat) (wr:Bool)=>ev_own (ro:=roOf W cO cD) (o:=o) (wr:=wr) (key_of h7b);go_simp;refine hK _ _ _ (.refl hm) (?_);clear hK hm w K c7 ec7x;refine wr_any rfl rfl (fun w hm=>?_) (fun w hm K hK=>?_)
  ·skip
   have ea:=events_indexAt_array (P:=Tryz.prog) (w:=w) (es:=#[]) 113 3 6 ⟨r4,0,none⟩ .i64 v Tryz.underlying113 ⟨hv0,hv6⟩;simp [go_sem,ea]
  have ea:=events_indexAt_array (P:=Tryz.prog) (w:=w) (es:=#[]) 113 3 6 ⟨r4,0,none⟩ .i64 v Tryz.underlying113 ⟨hv0,hv6⟩;go_simp;refine hK _ _ _ (.refl hm) (?_);clear hK hm w K ea;refine wr_any rfl rfl (fun w hm=>?_) (fun w hm K hK=>?_)
  ·skip
   have c4:=(own_cell (o:=v) hm hr2).trans hcat;have ec4x:=fun (o:Nat) (wr:Bool)=>ev_own (ro:=roOf W cO cD) (o:=o) (wr:=wr) (key_of hr2);simp [go_sem,c4,ec4x]
  have c4:=(own_cell (o:=v) hm hr2).trans hcat;have ec4x:=fun (o:Nat) (wr:Bool)=>ev_own (ro:=roOf W cO cD) (o:=o) (wr:=wr) (key_of hr2);go_simp;refine hK _ _ _ (.refl hm) (?_);clear hK hm w K c4 ec4x;refine wr_any rfl rfl (fun w hm=>by simp [go_sem]) (fun w hm K hK=>?_);go_simp;refine hK _ _ _ (.refl hm) (?_);clear hK hm w K ;refine wr_any rfl rfl (fun w hm=>?_) (fun w hm K hK=>?_)
  ·skip
   have ea:=events_indexAt_array (P:=Tryz.prog) (w:=w) (es:=#[]) 113 3 6 ⟨r4,0,none⟩ .i64 v Tryz.underlying113 ⟨hv0,hv6⟩;simp [go_sem,ea]
  have ea:=events_indexAt_array (P:=Tryz.prog) (w:=w) (es:=#[]) 113 3 6 ⟨r4,0,none⟩ .i64 v Tryz.underlying113 ⟨hv0,hv6⟩;go_simp;refine hK _ _ _ (.refl hm) (?_);clear hK hm w K ea;refine wr_any rfl rfl (fun w hm=>?_) (fun w hm K hK=>?_)
  ·skip
   have c4:=(own_cell (o:=v) hm hr2).trans hcat;have f4:=own_frozen (o:=v) hm hr2;have ec4x:=fun (o:Nat) (wr:Bool)=>ev_own (ro:=roOf W cO cD) (o:=o) (wr:=wr) (key_of hr2);simp [go_sem,c4,f4,ec4x]
  have c4:=(own_cell (o:=v) hm hr2).trans hcat;have f4:=own_frozen (o:=v) hm hr2;have ec4x:=fun (o:Nat) (wr:Bool)=>ev_own (ro:=roOf W cO cD) (o:=o) (wr:=wr) (key_of hr2);go_simp;refine hK _ _ _ ((Stp.refl hm).set hr2 _) (wr_nil (hQ1 _ _ ?_));clear hK hm w K c4 f4 ec4x
  (try rw [hwc]);rw [HC.out]
  obtain ⟨own3,ho3⟩:∃ x,x=own2.set r4 (.cells (cntCells (l.take (k+1)) i) 113):=⟨_,rfl⟩;rw [← ho3];have n3:r7≠r4:=Ne.symm n2;have n4:Bi≠r4:=fun e=>by rw [e,hr2] at hi2;injection hi2 with h;injection h with h _;have:=congrArg Array.size h;simp [cntCells] at this
  have h7c:own3 r7=some (.cells #[.int .i64 x0,.int .i64 x1,.int .i64 x2,.int .i64 x3] 90):=by rw [ho3,Hold.set_ne _ _ n3];exact h7b
  have hi3b:own3 Bi=some (.cells #[.int .i64 i] 3):=by rw [ho3,Hold.set_ne _ _ n4];exact hi2
  have hr3:own3 r4=some (.cells (cntCells (l.take (k+1)) i) 113):=by rw [ho3,Hold.set_same]
  clear ho3 hi2 hr2 h7b hQ1 Q1 own2 hcat;refine wf_region (wr_hide fun Q1 hQ1=>?_);simp only [List.size_toArray,List.length_cons,List.length_nil,Nat.reduceAdd,Nat.zero_add,List.range,List.range.loop];refine wr_any rfl rfl (fun w hm=>by simp [go_sem]) (fun w hm K hK=>?_);go_simp;refine hK _ _ _ (.refl hm) (?_);clear hK hm w K ;refine wr_any rfl rfl (fun w hm=>?_) (fun w hm K hK=>?_)
  ·skip
   have ci:=fun (k:Nat)=>own_cell (o:=k) hm hi3b;have fci:=fun (k:Nat)=>own_frozen (o:=k) hm hi3b;have eci:=fun (o:Nat) (wr:Bool)=>ev_own (ro:=roOf W cO cD) (o:=o) (wr:=wr) (key_of hi3b);simp [go_sem,ci,fci,eci]
  have ci:=fun (k:Nat)=>own_cell (o:=k) hm hi3b;have fci:=fun (k:Nat)=>own_frozen (o:=k) hm hi3b;have eci:=fun (o:Nat) (wr:Bool)=>ev_own (ro:=roOf W cO cD) (o:=o) (wr:=wr) (key_of hi3b);go_simp;refine hK _ _ _ (.refl hm) (?_);clear hK hm w K ci fci eci;refine wr_any rfl rfl (fun w hm=>?_) (fun w hm K hK=>?_)
  ·skip
   have ea:=events_indexAt_array (P:=Tryz.prog) (w:=w) (es:=#[]) 90 3 4 ⟨r7,0,none⟩ .i64 i Tryz.underlying90 ⟨hi0,hi4⟩;simp [go_sem,ea]
  have ea:=events_indexAt_array (P:=Tryz.prog) (w:=w) (es:=#[]) 90 3 4 ⟨r7,0,none⟩ .i64 i Tryz.underlying90 ⟨hi0,hi4⟩;go_simp;refine hK _ _ _ (.refl hm) (?_);clear hK hm w K ea;refine wr_any rfl rfl (fun w hm=>?_) (fun w hm K hK=>?_)
  ·skip
   have c7:=(own_cell (o:=i) hm h7c).trans hxi;have ec7x:=fun (o:Nat) (wr:Bool)=>ev_own (ro:=roOf W cO cD) (o:=o) (wr:=wr) (key_of h7c);simp [go_sem,c7,ec7x]
  have c7:=(own_cell (o:=i) hm h7c).trans hxi;have ec7x:=fun (o:Nat) (wr:Bool)=>ev_own (ro:=roOf W cO cD) (o:=o) (wr:=wr) (key_of h7c);go_simp;refine hK _ _ _ (.refl hm) (?_);clear hK hm w K c7 ec7x;refine wr_any rfl rfl (fun w hm=>?_) (fun w hm K hK=>?_)
  ·skip
   have ea:=events_indexAt_array (P:=Tryz.prog) (w:=w) (es:=#[]) 113 3 6 ⟨r4,0,none⟩ .i64 v Tryz.underlying113 ⟨hv0,hv6⟩;simp [go_sem,ea]
  have ea:=events_indexAt_array (P:=Tryz.prog) (w:=w) (es:=#[]) 113 3 6 ⟨r4,0,none⟩ .i64 v Tryz.underlying113 ⟨hv0,hv6⟩;go_simp;refine hK _ _ _ (.refl hm) (?_);clear hK hm w K ea;refine wr_any rfl rfl (fun w hm=>?_) (fun w hm K hK=>?_)
  ·skip
   have c4:=(own_cell (o:=v) hm hr3).trans hcat2;have ec4x:=fun (o:Nat) (wr:Bool)=>ev_own (ro:=roOf W cO cD) (o:=o) (wr:=wr) (key_of hr3);simp [go_sem,c4,ec4x]
  have c4:=(own_cell (o:=v) hm hr3).trans hcat2;have ec4x:=fun (o:Nat) (wr:Bool)=>ev_own (ro:=roOf W cO cD) (o:=o) (wr:=wr) (key_of hr3);go_simp;refine hK _ _ _ (.refl hm) (?_);clear hK hm w K c4 ec4x;refine wr_any rfl rfl (fun w hm=>?_) (fun w hm K hK=>?_)
  ·skip
   have em:=events_max mv (cv+1) (w:=w) (es:=#[]);simp [go_sem,em]
  have em:=events_max mv (cv+1) (w:=w) (es:=#[]);go_simp;refine hK _ _ _ (.refl hm) (?_);clear hK hm w K em;refine wr_any rfl rfl (fun w hm=>by simp [go_sem]) (fun w hm K hK=>?_);go_simp;refine hK _ _ _ (.refl hm) (wr_nil (hQ1 _ _ ?_));clear hK hm w K ;clear hQ1 Q1;refine wf_region (wr_hide fun Q1 hQ1=>?_);simp only [List.size_toArray,List.length_cons,List.length_nil,Nat.reduceAdd,Nat.zero_add,List.range,List.range.loop];refine wr_any rfl rfl (fun w hm=>by simp [go_sem]) (fun w hm K hK=>?_);go_simp;refine hK _ _ _ (.refl hm) (?_);clear hK hm w K ;refine wr_any rfl rfl (fun w hm=>by simp [go_sem]) (fun w hm K hK=>?_);go_simp;refine hK _ _ _ (.refl hm) (wr_nil (hQ1 _ _ ?_));clear hK hm w K ;exact ⟨_,by omega,k+1,r4,_,_,_,_,_,_,_,_,_,_,_,_,_,_,_,_,_,_,_,rfl,by omega,by rw [HM.out,← HMX.out,HK1.out],hr3,hi3b⟩
 ·refine wr_any rfl rfl (fun w hm=>by simp [go_sem]) (fun w hm K hK=>?_);go_simp;refine hK _ _ _ (.refl hm) (wr_nil (hQ1 _ _ ?_));clear hK hm w K hQ1 Q1;refine wf_seq (wf_cond (t:=false) rfl (wf_exit ?_));obtain rfl:k=l.length:=by omega
  simp only [ThenW,BlockW,if_true];exact ⟨trivial,r4,_,_,_,_,_,_,_,_,_,_,_,_,_,_,_,_,_,_,_,by rw [List.take_length],hi⟩
end
end Go.Proofs.YtjdmplhdebgbjaaGreatDoor

