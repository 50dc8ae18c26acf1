/- Leads to StoreReal of chapter 6: V13 V14 V15 V16 Row Co4 G2 G1 G3 Base G4. -/
import Derived.Test.YtjdmplhdebgbjaaGreatDoorJ38
import Derived.Test.YtjdmplhdebgbjaaGreatDoorRows
import Derived.LaidMore
import Derived.ProofKit
import Derived.Conc.Holds
import Derived.SevenTiedAt
set_option maxHeartbeats 1000000
set_option maxRecDepth 100000
set_option linter.all false
namespace Go.Proofs.YtjdmplhdebgbjaaGreatDoor
open Go.RowKit Go.Maps Sp Mt Go.Conc
theorem Twin.raw {n:Nat} {w w1:World} (h:Twin n w w1) {b:Bk} {vr vg vm vs vc:Value} (k:RawAt w b vr vg vm vs vc):RawAt w1 b vr vg vm vs vc:=by
 obtain ⟨h1,h2,⟨a1,c1,e1,h3⟩,⟨a2,c2,e2,h4⟩,a3,c3,e3,h5⟩:=k;refine ⟨h1,h2,⟨a1,c1,e1,h.msgs h3⟩,⟨a2,c2,e2,fun i hi=>?_⟩,a3,c3,e3,h.recs h5⟩;obtain ⟨b,o,e,hlt,pa,pc,q1,q2,q4⟩:=h4 i hi;exact ⟨b,o,e,by rw [h.size];exact hlt,pa,pc,(h.cell _).trans q1,q2,h.parts q4⟩
theorem RawAt.below {w w1:World} (h:Below w.heap.size w w1) {b:Bk} {vr vg vm vs vc:Value} (k:RawAt w b vr vg vm vs vc):RawAt w1 b vr vg vm vs vc:=by
 obtain ⟨h1,h2,⟨a1,c1,e1,h3⟩,⟨a2,c2,e2,h4⟩,a3,c3,e3,h5⟩:=k;exact ⟨h1,h2,⟨a1,c1,e1,h3.below h⟩,⟨a2,c2,e2,h4.below h⟩,a3,c3,e3,h5.below h⟩
theorem Old.raw {w w1:World} (h:Old w w1) {b:Bk} {vr vg vm vs vc:Value} (k:RawAt w b vr vg vm vs vc):RawAt w1 b vr vg vm vs vc:=(on_twin w1 w.tape 0).raw (k.below h.below)
structure LawAt (w:World) (B:Nat) (b:Bk) (l:List Int) (vr vg vm vs vc:Value) (la:Option Addr):Prop where
 c0:w.cell? ⟨B,0,none⟩=some vr
 c1:w.cell? ⟨B,1,none⟩=some vg
 c2:w.cell? ⟨B,2,none⟩=some vm
 c3:w.cell? ⟨B,3,none⟩=some vs
 c4:w.cell? ⟨B,4,none⟩=some vc
 raw:RawAt w b vr vg vm vs vc
 kd:KindsAt w
 im:IntsAt w la l
section
variable {w w1:World} {B:Nat} {b:Bk} {l:List Int} {vr vg vm vs vc:Value} {la:Option Addr}
theorem LawAt.twin {n:Nat} (h:LawAt w B b l vr vg vm vs vc la) (t:Twin n w w1):LawAt w1 B b l vr vg vm vs vc la:=⟨(t.cell _).trans h.c0,(t.cell _).trans h.c1,(t.cell _).trans h.c2,(t.cell _).trans h.c3,(t.cell _).trans h.c4,t.raw h.raw,t.kinds h.kd,t.ints h.im⟩
theorem LawAt.old (h:LawAt w B b l vr vg vm vs vc la) (t:Old w w1):LawAt w1 B b l vr vg vm vs vc la:=⟨t.cell2 h.c0,t.cell2 h.c1,t.cell2 h.c2,t.cell2 h.c3,t.cell2 h.c4,t.raw h.raw,t.kinds h.kd,t.ints h.im⟩
theorem isHistory_at (hB:BookAt w b vr vg vm vs vc) (hN:∀ m∈b.ms,m.name.size<=1000000) (hK:KindsAt w) {lc:Nat} (hL:IntsAt w la l) (hl:l.length<=1000000) {i:Bool} {h:Int} (hi:isHist b l=i) (hh:isHistAl b l=h) :
 Calls Tryz.prog 9 #[.agg #[vr,vg,vm,vs,vc],.slice la l.length lc] w fun e w'=>e=.returned (.tuple #[.bool i,.int .i64 h])/\Below w.heap.size w w':=by
 by_cases h0:h=0
 ·subst h0 hi;exact isHistory_ok hB hN hK hL hh
 ·have:i=false:=by
   rw [← hi];unfold isHist;rw [hh];simp [h0]
  subst this;exact isHistory_no hB hN hK hl hh h0
def thr (b:Bk) (s:Int):List Int:=if throughAl b s=0 then throughR b s else []
theorem thr_len {b:Bk} {s:Int} (hs:∀ x∈b.ss,x.length<=20):(thr b s).length<=1000000:=by
 unfold thr;split
 ·unfold throughR;have:=throughTo_len b s.toNat (((b.ss[s.toNat]?).elim 0 List.length)+1);have h2:((b.ss[s.toNat]?).elim 0 List.length)<=20:=by
   cases h:b.ss[s.toNat]? with
   | none=>simp
   | some x=>exact hs x (List.mem_of_getElem? h)
  omega
 ·simp
theorem ints_nil {a:Option Addr}:IntsAt w a []:=fun i hi=>absurd hi (Nat.not_lt_zero _)
theorem through2_at (hB:BookAt w b vr vg vm vs vc) (hN:∀ m∈b.ms,m.name.size<=1000000) (hK:KindsAt w) {s:Int} {q:List Int} {u:Int} (hq:thr b s=q) (hu:throughAl b s=u) :
 Calls Tryz.prog 10 #[.agg #[vr,vg,vm,vs,vc],.int .i64 s] w fun e w'=>∃ a c,e=.returned (.tuple #[.slice a q.length c,.int .i64 u])/\IntsAt w' a q/\Below w.heap.size w w':=by
 by_cases h0:u=0
 ·subst h0;have:q=throughI b s:=by rw [← hq];unfold thr;rw [if_pos hu,through_same hu]
  subst this;exact through_ok hB hN hK s hu
 ·have:q=[]:=by rw [← hq];unfold thr;rw [if_neg (by rw [hu];exact h0)]
  subst this;refine (through_no hB hN hK s hu h0).mono ?_;rintro e w' ⟨rfl,hb⟩;exact ⟨none,0,rfl,ints_nil,hb⟩
theorem SmallB.names {b:Bk} (h:SmallB b):∀ m∈b.ms,m.name.size<=1000000:=fun m hm=>Nat.le_trans (h.2.2.2.1 m hm) (by decide)
end
end Go.Proofs.YtjdmplhdebgbjaaGreatDoor
namespace Go.Proofs.YtjdmplhdebgbjaaGreatDoor
open Go.RowKit Sp
theorem cellsStr:Tryz.prog.cellsOf 9=1:=by kernel_rfl
theorem cellsInt:Tryz.prog.cellsOf 3=1:=by kernel_rfl
theorem cellsKd:Tryz.prog.cellsOf 82=1:=by kernel_rfl
theorem cellsBook:Tryz.prog.cellsOf 26=5:=by kernel_rfl
theorem cellsMsg:Tryz.prog.cellsOf 37=3:=by kernel_rfl
theorem cellsSes:Tryz.prog.cellsOf 78=1:=by kernel_rfl
theorem cellsPart:Tryz.prog.cellsOf 34=2:=by kernel_rfl
theorem cellsRec:Tryz.prog.cellsOf 84=4:=by kernel_rfl
theorem cellsParts:Tryz.prog.cellsOf 53=1:=by kernel_rfl
theorem cellsMsgs:Tryz.prog.cellsOf 22=1:=by kernel_rfl
theorem cellsSess:Tryz.prog.cellsOf 23=1:=by kernel_rfl
theorem cellsRecs:Tryz.prog.cellsOf 24=1:=by kernel_rfl
theorem addr_plus (b o k:Nat):Addr.add ⟨b,o,none⟩ k=⟨b,o+k,none⟩:=by
 unfold Addr.add;split
 ·rename_i h;subst h;rfl
 ·rfl
theorem spot_of {w:World} {base:Nat} {a:Addr} {k q:Nat} {cs:List Value} (h:w.cells? base (a.add (0 * q)) k=some cs) (hk:0 < k):a.spot=none:=by
 obtain ⟨_,hl,hc⟩:=World.cells?_some h;have:=hc 0 hk;rw [List.getElem?_eq_getElem (by omega)] at this;simpa [Addr.add] using World.cell?_spot this
section
variable {H:Type} {enc:TypeId × Value->H} {w:World} {base:Nat} {sp:Nat->Bool} {held:Bool} {n:Nat} {cs:List Value} {y:DataW H × List MemPlace}
theorem open_msg (h:DataW.trod enc Tryz.prog w base sp held n 37 cs=some y):∃ m:Msg,cs=[.string m.name,.int .i64 m.groups,.int .i64 m.due]:=by
 obtain ⟨xs,k,_,_,hl,hx,hf⟩:=DataW.trod_struct Tryz.underlying37 h;rw [cellsMsg] at hl;have hx3:xs.length=3:=hx;have h0:=hf 0 _ rfl;have h1:=hf 1 _ rfl;have h2:=hf 2 _ rfl
 match cs,hl,xs,hx3 with
 | [a,b,c],_,[x0,x1,x2],_ =>
  simp [cellsStr,cellsInt] at h0 h1 h2;obtain ⟨s,e0,_⟩:=DataW.trod_string Tryz.underlying9 h0;obtain ⟨g,e1,_⟩:=DataW.trod_int Tryz.underlying3 h1;obtain ⟨d,e2,_⟩:=DataW.trod_int Tryz.underlying3 h2;cases e0;cases e1;cases e2;exact ⟨⟨s,g,d⟩,rfl⟩
theorem open_part (h:DataW.trod enc Tryz.prog w base sp held n 34 cs=some y):∃ m:Prt,cs=[.int .i64 m.1,.int .i64 m.2]:=by
 obtain ⟨xs,k,_,_,hl,hx,hf⟩:=DataW.trod_struct Tryz.underlying34 h;rw [cellsPart] at hl;have hx3:xs.length=2:=hx;have h0:=hf 0 _ rfl;have h1:=hf 1 _ rfl
 match cs,hl,xs,hx3 with
 | [a,b],_,[x0,x1],_ =>
  simp [cellsInt] at h0 h1;obtain ⟨g,e1,_⟩:=DataW.trod_int Tryz.underlying3 h0;obtain ⟨d,e2,_⟩:=DataW.trod_int Tryz.underlying3 h1;cases e1;cases e2;exact ⟨(g,d),rfl⟩
theorem open_rec (h:DataW.trod enc Tryz.prog w base sp held n 84 cs=some y):∃ m:Rec,cs=[.int .i64 m.k,.int .i64 m.a,.int .i64 m.b,.int .i64 m.m]:=by
 obtain ⟨xs,k,_,_,hl,hx,hf⟩:=DataW.trod_struct Tryz.underlying84 h;rw [cellsRec] at hl;have hx3:xs.length=4:=hx;have h0:=hf 0 _ rfl;have h1:=hf 1 _ rfl;have h2:=hf 2 _ rfl;have h3:=hf 3 _ rfl
 match cs,hl,xs,hx3 with
 | [a,b,c,d],_,[x0,x1,x2,x3],_ =>
  simp [cellsInt,cellsKd] at h0 h1 h2 h3;obtain ⟨q0,e0,_⟩:=DataW.trod_int Tryz.underlying82 h0;obtain ⟨q1,e1,_⟩:=DataW.trod_int Tryz.underlying3 h1;obtain ⟨q2,e2,_⟩:=DataW.trod_int Tryz.underlying3 h2;obtain ⟨q3,e3,_⟩:=DataW.trod_int Tryz.underlying3 h3;cases e0;cases e1;cases e2;cases e3;exact ⟨⟨q0,q1,q2,q3⟩,rfl⟩
instance : Inhabited Msg := ⟨⟨ByteArray.empty, 0, 0⟩⟩
instance : Inhabited Rec := ⟨⟨0, 0, 0, 0⟩⟩
theorem open_msgs (h:DataW.trod enc Tryz.prog w base (fun _=>true) held n 22 cs=some y):∃ a l c,cs=[.slice a (List.length l) c]/\MsgsAt w a l:=by
 rcases Deep.open_slice Tryz.underlying22 h with ⟨hcs,_⟩ | ⟨a,len,cap,m,k,D,Pl,hcs,hb,hl,hm,hmm,_,hx⟩
 ·exact ⟨none,[],0,hcs,fun i hi=>absurd hi (Nat.not_lt_zero _)⟩
 ·rw [cellsMsg] at hx;simp only [if_true] at hmm;obtain ⟨M,hM⟩:=Deep.choose_lt (α:=Msg) (p:=fun i m=>w.cells? base (a.add (i * 3)) 3=some [.string m.name,.int .i64 m.groups,.int .i64 m.due]) (fun i hi=>by
   obtain ⟨cs',h1,h2⟩:=hx i (show i < m from hi)
   obtain ⟨q,rfl⟩:=open_msg h2
   exact ⟨q,h1⟩)
  refine ⟨some a,(List.range len).map M,cap,by rw [hcs];simp,fun i hi=>?_⟩;have hi2:i < len:=by simpa using hi
  have hs:=spot_of (hM 0 (by omega)) (by decide);obtain ⟨b,o,spot⟩:=a;simp only at hs;subst hs;obtain ⟨_,_,hc⟩:=World.cells?_some (hM i (by omega));have c0:=hc 0 (by decide);have c1:=hc 1 (by decide);have c2:=hc 2 (by decide);simp only [addr_plus,Nat.add_zero,List.getElem?_cons_zero,List.getElem?_cons_succ] at c0 c1 c2;refine ⟨b,o,rfl,lt_of_cell c0,?_,?_,?_⟩ <;> simp only [List.getElem_map,List.getElem_range] <;> assumption
theorem open_parts (h:DataW.trod enc Tryz.prog w base (fun _=>true) held n 53 cs=some y):∃ a l c,cs=[.slice a (List.length l) c]/\List.length l<=c/\PartsAt w a l:=by
 rcases Deep.open_slice Tryz.underlying53 h with ⟨hcs,_⟩ | ⟨a,len,cap,m,k,D,Pl,hcs,hb,hl,hm,hmm,_,hx⟩
 ·exact ⟨none,[],0,hcs,Nat.le_refl _,fun i hi=>absurd hi (Nat.not_lt_zero _)⟩
 ·rw [cellsPart] at hx;simp only [if_true] at hmm;obtain ⟨M,hM⟩:=Deep.choose_lt (α:=Prt) (p:=fun i m=>w.cells? base (a.add (i * 2)) 2=some [.int .i64 m.1,.int .i64 m.2]) (fun i hi=>by
   obtain ⟨cs',h1,h2⟩:=hx i (show i < m from hi)
   obtain ⟨q,rfl⟩:=open_part h2
   exact ⟨q,h1⟩)
  refine ⟨some a,(List.range len).map M,cap,by rw [hcs];simp,by simpa using hl,fun i hi=>?_⟩;have hi2:i < len:=by simpa using hi
  have hs:=spot_of (hM 0 (by omega)) (by decide);obtain ⟨b,o,spot⟩:=a;simp only at hs;subst hs;obtain ⟨_,_,hc⟩:=World.cells?_some (hM i (by omega));have c0:=hc 0 (by decide);have c1:=hc 1 (by decide);simp only [addr_plus,Nat.add_zero,List.getElem?_cons_zero,List.getElem?_cons_succ] at c0 c1;refine ⟨b,o,rfl,lt_of_cell c0,?_,?_⟩ <;> simp only [List.getElem_map,List.getElem_range] <;> assumption
theorem open_recs (h:DataW.trod enc Tryz.prog w base (fun _=>true) held n 24 cs=some y):∃ a l c,cs=[.slice a (List.length l) c]/\RecsAt w a l:=by
 rcases Deep.open_slice Tryz.underlying24 h with ⟨hcs,_⟩ | ⟨a,len,cap,m,k,D,Pl,hcs,hb,hl,hm,hmm,_,hx⟩
 ·exact ⟨none,[],0,hcs,fun i hi=>absurd hi (Nat.not_lt_zero _)⟩
 ·rw [cellsRec] at hx;simp only [if_true] at hmm;obtain ⟨M,hM⟩:=Deep.choose_lt (α:=Rec) (p:=fun i m=>w.cells? base (a.add (i * 4)) 4=some [.int .i64 m.k,.int .i64 m.a,.int .i64 m.b,.int .i64 m.m]) (fun i hi=>by
   obtain ⟨cs',h1,h2⟩:=hx i (show i < m from hi)
   obtain ⟨q,rfl⟩:=open_rec h2
   exact ⟨q,h1⟩)
  refine ⟨some a,(List.range len).map M,cap,by rw [hcs];simp,fun i hi=>?_⟩;have hi2:i < len:=by simpa using hi
  have hs:=spot_of (hM 0 (by omega)) (by decide);obtain ⟨b,o,spot⟩:=a;simp only at hs;subst hs;obtain ⟨_,_,hc⟩:=World.cells?_some (hM i (by omega));have c0:=hc 0 (by decide);have c1:=hc 1 (by decide);have c2:=hc 2 (by decide);have c3:=hc 3 (by decide);simp only [addr_plus,Nat.add_zero,List.getElem?_cons_zero,List.getElem?_cons_succ] at c0 c1 c2 c3;refine ⟨b,o,rfl,lt_of_cell c0,?_,?_,?_,?_⟩ <;> simp only [List.getElem_map,List.getElem_range] <;> assumption
theorem open_sess (h:DataW.trod enc Tryz.prog w base (fun _=>true) held n 23 cs=some y):∃ a l c,cs=[.slice a (List.length l) c]/\SesRaw w a l:=by
 rcases Deep.open_slice Tryz.underlying23 h with ⟨hcs,_⟩ | ⟨a,len,cap,m,k,D,Pl,hcs,hb,hl,hm,hmm,_,hx⟩
 ·exact ⟨none,[],0,hcs,fun i hi=>absurd hi (Nat.not_lt_zero _)⟩
 ·rw [cellsSes] at hx;simp only [if_true] at hmm;obtain ⟨M,hM⟩:=Deep.choose_lt (α:=List Prt) (p:=fun i m=>∃ pa pc,w.cells? base (a.add (i * 1)) 1=some [.slice pa m.length pc]/\m.length<=pc/\PartsAt w pa m) (fun i hi=>by
   obtain ⟨cs',h1,h2⟩:=hx i (show i < m from hi)
   obtain ⟨xs,k',_,_,hl2,hx2,hf⟩:=DataW.trod_struct Tryz.underlying78 h2
   rw [cellsSes] at hl2
   have hx3:xs.length=1:=hx2
   have h0:=hf 0 _ rfl
   match cs',hl2,xs,hx3 with
   | [v],_,[x0],_ =>
    simp [cellsParts] at h0
    obtain ⟨pa,q,pc,e,hq,hp⟩:=open_parts h0
    cases e
    exact ⟨q,pa,pc,h1,hq,hp⟩)
  refine ⟨some a,(List.range len).map M,cap,by rw [hcs];simp,fun i hi=>?_⟩;have hi2:i < len:=by simpa using hi
  obtain ⟨_,_,hM0,_⟩:=hM 0 (by omega);have hs:=spot_of hM0 (by decide);obtain ⟨b,o,spot⟩:=a;simp only at hs;subst hs;obtain ⟨pa,pc,hMi,hq,hp⟩:=hM i (by omega);obtain ⟨_,_,hc⟩:=World.cells?_some hMi;have c0:=hc 0 (by decide);simp only [addr_plus,Nat.add_zero,Nat.mul_one,List.getElem?_cons_zero] at c0;refine ⟨b,o,rfl,lt_of_cell c0,pa,pc,?_,?_,?_⟩ <;> simp only [List.getElem_map,List.getElem_range] <;> assumption
theorem open_book {v:Value} (h:DataW.trod enc Tryz.prog w base (fun _=>true) held n 26 v.cells.toList=some y):∃ b vr vg vm vs vc,v=.agg #[vr,vg,vm,vs,vc]/\RawAt w b vr vg vm vs vc:=by
 obtain ⟨xs,k,_,_,hl,hx,hf⟩:=DataW.trod_struct Tryz.underlying26 h;rw [cellsBook] at hl;obtain ⟨c,rfl⟩:∃ c,v=.agg c:=by
  cases v <;> first | exact ⟨_,rfl⟩ | (simp [Value.cells] at hl)
 simp only [Value.cells] at hl hf;have hx3:xs.length=5:=hx;have h0:=hf 0 _ rfl;have h1:=hf 1 _ rfl;have h2:=hf 2 _ rfl;have h3:=hf 3 _ rfl;have h4:=hf 4 _ rfl;obtain ⟨c⟩:=c;simp only at hl h0 h1 h2 h3 h4
 match c,hl,xs,hx3 with
 | [a0,a1,a2,a3,a4],_,[x0,x1,x2,x3,x4],_ =>
  simp [cellsInt,cellsMsgs,cellsSess,cellsRecs] at h0 h1 h2 h3 h4;obtain ⟨q0,e0,_⟩:=DataW.trod_int Tryz.underlying3 h0;obtain ⟨q1,e1,_⟩:=DataW.trod_int Tryz.underlying3 h1;obtain ⟨ma,ml,mc,e2,hm⟩:=open_msgs h2;obtain ⟨sa,sl,sc,e3,hs⟩:=open_sess h3;obtain ⟨ra,rl,rc,e4,hr⟩:=open_recs h4;cases e0;cases e1;cases e2;cases e3;cases e4;exact ⟨⟨q0,q1,ml,sl,rl⟩,_,_,_,_,_,rfl,rfl,rfl,⟨_,_,rfl,hm⟩,⟨_,_,rfl,hs⟩,_,_,rfl,hr⟩
end
theorem trod_array {H:Type} {enc:TypeId × Value->H} {P:Program} {w:World} {base:Nat} {spare:Nat->Bool} {held:Bool} {fuel n:Nat} {t e:TypeId} {cs:List Value} {x:DataW H × List MemPlace} (ht:P.underlying t=some (.array n e)) (h:DataW.trod enc P w base spare held fuel t cs=some x) :
 ∃ (xs:List (DataW H × List MemPlace)) (m:Nat),x=(.agg (xs.map (·.1)),xs.flatMap (·.2))/\cs.length=P.cellsOf t/\xs.length=n /\
  ∀ (i:Nat),i < n->DataW.trod enc P w base spare held m e ((cs.drop (i * P.cellsOf e)).take (P.cellsOf e))=xs[i]? := by
 cases fuel with
 | zero=>simp [DataW.trod] at h
 | succ m =>
  unfold DataW.trod at h;rw [ht] at h;split at h <;> simp_all;obtain ⟨hl,xs,hp,hd⟩:=h;exact ⟨xs,hd.symm,by simpa using mapM_some_length hp,m,fun i hi=>mapM_some_get hp i i (List.getElem?_range hi)⟩
theorem cellsKindRow:Tryz.prog.cellsOf 152=5:=by kernel_rfl
theorem cellsW:Tryz.prog.cellsOf 9=1:=by kernel_rfl
theorem cellsB:Tryz.prog.cellsOf 4=1:=by kernel_rfl
theorem cellsF1:Tryz.prog.cellsOf 149=1:=by kernel_rfl
theorem cellsF2:Tryz.prog.cellsOf 150=1:=by kernel_rfl
theorem kind_row {w:World} {sp:Nat->Bool} {n:Nat} {cs:List Value} {wd:List UInt8} {ub um:Bool} {b1 b2:UInt8} {r1 r2:List UInt8} {f1 f2:FuncId} {q:List MemPlace}
 (h:DataW.trod (funcToken Tryz.prog) Tryz.prog w 0 sp true n 152 cs=some (.agg [.lit (.string wd),.lit (.bool ub),.lit (.bool um),.held (b1::r1),.held (b2::r2)],q))
 (h1:((List.range Tryz.prog.funcs.size).filter fun f=>(Tryz.prog.funcs[f]?).any (·.name.toUTF8.data.toList == b1::r1))=[f1])
 (h2:((List.range Tryz.prog.funcs.size).filter fun f=>(Tryz.prog.funcs[f]?).any (·.name.toUTF8.data.toList == b2::r2))=[f2]) :
 ∃ s:ByteArray,s.data.toList=wd/\cs=[.string s,.bool ub,.bool um,.func (.func f1) #[] #[],.func (.func f2) #[] #[]]:=by
 obtain ⟨xs,k,_,he,hl,hx,hf⟩:=DataW.trod_struct Tryz.underlying152 h;rw [cellsKindRow] at hl;have hx3:xs.length=5:=hx;have g0:=hf 0 _ rfl;have g1:=hf 1 _ rfl;have g2:=hf 2 _ rfl;have g3:=hf 3 _ rfl;have g4:=hf 4 _ rfl
 match cs,hl,xs,hx3 with
 | [a0,a1,a2,a3,a4],_,[⟨x0,p0⟩,⟨x1,p1⟩,⟨x2,p2⟩,⟨x3,p3⟩,⟨x4,p4⟩],_ =>
  simp only [List.map_cons,List.map_nil,Prod.mk.injEq,DataW.agg.injEq,List.cons.injEq,and_true] at he;obtain ⟨⟨e0,e1,e2,e3,e4⟩,_⟩:=he;subst e0 e1 e2 e3 e4;simp [cellsW,cellsB,cellsF1,cellsF2] at g0 g1 g2 g3 g4;obtain ⟨s,c0,d0,_⟩:=DataW.trod_string Tryz.underlying9 g0;obtain ⟨u,c1,d1⟩:=DataW.trod_bool Tryz.underlying4 g1;obtain ⟨v,c2,d2⟩:=DataW.trod_bool Tryz.underlying4 g2;have c3:=func_of_trod Tryz.underlying149 h1 g3;have c4:=func_of_trod Tryz.underlying150 h2 g4;cases c0;cases c1;cases c2;simp only [Prod.mk.injEq,DataW.lit.injEq,Lit.string.injEq,Lit.bool.injEq,and_true] at d0 d1 d2;obtain ⟨rfl,_⟩:=d1;obtain ⟨rfl,_⟩:=d2;subst c3;subst c4;exact ⟨s,d0.1.symm,rfl⟩
theorem five_at {l:List Value} {k:Nat} {a b c d e:Value} (h:(l.drop k).take 5=[a,b,c,d,e]):l[k]? = some a/\l[k+1]? = some b/\l[k+2]? = some c/\l[k+3]? = some d/\l[k+4]? = some e:=by
 have g:∀ j,j < 5->l[k+j]? = [a,b,c,d,e][j]? := fun j hj=>by
  rw [← h,List.getElem?_take,if_pos hj,List.getElem?_drop]
 exact ⟨g 0 (by decide),g 1 (by decide),g 2 (by decide),g 3 (by decide),g 4 (by decide)⟩
theorem gKinds:Tryz.prog.globalNamed "baudot/store.kinds"=some 0:=by kernel_rfl
theorem tKinds:(Tryz.prog.globals[0]?).map (·.type)=some 153:=by kernel_rfl
theorem kinds_of_laid {W:World} (h:laidMetH Tryz.prog [("baudot/store.kinds",Rows.laid_baudot_store_kinds)] W):KindsAt W:=by
 obtain ⟨g,t,cs,fuel,p,hg,ht,hv,hd⟩:=h.funcs (List.mem_singleton.2 rfl);obtain rfl:=Option.some.inj (gKinds.symm.trans hg);obtain rfl:=Option.some.inj (tKinds.symm.trans ht);obtain ⟨xs,m,he,_,hx,hel⟩:=trod_array Tryz.underlying153 hd;have hcell:∀ i,W.cell? ⟨0,i,none⟩=cs.toList[i]? := fun i=>by
  rw [World.var?_cell hg hv i];simp
 rw [cellsKindRow] at hel;have e0:=hel 0 (by decide);have e1:=hel 1 (by decide);have e2:=hel 2 (by decide);have e3:=hel 3 (by decide);have e4:=hel 4 (by decide);have e5:=hel 5 (by decide)
 match xs,hx with
 | [⟨x0,p0⟩,⟨x1,p1⟩,⟨x2,p2⟩,⟨x3,p3⟩,⟨x4,p4⟩,⟨x5,p5⟩],_ =>
  have hes:[x0,x1,x2,x3,x4,x5]=_:=(DataW.agg.inj (congrArg Prod.fst he)).symm;simp only [List.getElem?_cons_zero,List.getElem?_cons_succ] at e0 e1 e2 e3 e4 e5;injection hes with h0 hes;injection hes with h1 hes;injection hes with h2 hes;injection hes with h3 hes;injection hes with h4 hes;injection hes with h5 hes;subst h0 h1 h2 h3 h4 h5;obtain ⟨s0,w0,c0⟩:=kind_row (f1:=kindMost 0) (f2:=kindRight 0) e0 (by kernel_rfl) (by kernel_rfl);obtain ⟨s1,w1,c1⟩:=kind_row (f1:=kindMost 1) (f2:=kindRight 1) e1 (by kernel_rfl) (by kernel_rfl);obtain ⟨s2,w2,c2⟩:=kind_row (f1:=kindMost 2) (f2:=kindRight 2) e2 (by kernel_rfl) (by kernel_rfl);obtain ⟨s3,w3,c3⟩:=kind_row (f1:=kindMost 3) (f2:=kindRight 3) e3 (by kernel_rfl) (by kernel_rfl);obtain ⟨s4,w4,c4⟩:=kind_row (f1:=kindMost 4) (f2:=kindRight 4) e4 (by kernel_rfl) (by kernel_rfl);obtain ⟨s5,w5,c5⟩:=kind_row (f1:=kindMost 5) (f2:=kindRight 5) e5 (by kernel_rfl) (by kernel_rfl);have z0:=five_at c0;have z1:=five_at c1;have z2:=five_at c2;have z3:=five_at c3;have z4:=five_at c4;have z5:=five_at c5;refine ⟨lt_of_cell ((hcell 0).trans z0.1),fun i hi=>?_⟩
  match i,hi with
  | 0,_=>exact ⟨⟨s0,w0,(hcell _).trans z0.1⟩,(hcell _).trans z0.2.1,(hcell _).trans z0.2.2.1,(hcell _).trans z0.2.2.2.1,(hcell _).trans z0.2.2.2.2⟩
  | 1,_=>exact ⟨⟨s1,w1,(hcell _).trans z1.1⟩,(hcell _).trans z1.2.1,(hcell _).trans z1.2.2.1,(hcell _).trans z1.2.2.2.1,(hcell _).trans z1.2.2.2.2⟩
  | 2,_=>exact ⟨⟨s2,w2,(hcell _).trans z2.1⟩,(hcell _).trans z2.2.1,(hcell _).trans z2.2.2.1,(hcell _).trans z2.2.2.2.1,(hcell _).trans z2.2.2.2.2⟩
  | 3,_=>exact ⟨⟨s3,w3,(hcell _).trans z3.1⟩,(hcell _).trans z3.2.1,(hcell _).trans z3.2.2.1,(hcell _).trans z3.2.2.2.1,(hcell _).trans z3.2.2.2.2⟩
  | 4,_=>exact ⟨⟨s4,w4,(hcell _).trans z4.1⟩,(hcell _).trans z4.2.1,(hcell _).trans z4.2.2.1,(hcell _).trans z4.2.2.2.1,(hcell _).trans z4.2.2.2.2⟩
  | 5,_=>exact ⟨⟨s5,w5,(hcell _).trans z5.1⟩,(hcell _).trans z5.2.1,(hcell _).trans z5.2.2.1,(hcell _).trans z5.2.2.2.1,(hcell _).trans z5.2.2.2.2⟩
  | i+6,h=>omega
end Go.Proofs.YtjdmplhdebgbjaaGreatDoor
namespace Go.Proofs.YtjdmplhdebgbjaaGreatDoor
open Go.ChangeShapes Go.WideShapes Go.ChangeAt Go.RowKit Go.Conc
theorem ownNone:ownKnob Tryz.prog.godebug=none:=by kernel_rfl
theorem laidOutAll:laidOutB Tryz.prog=true:=by kernel_rfl
theorem door_met (os:Os) (args:Array Value):laidMetH Tryz.prog [("baudot/store.kinds",Rows.laid_baudot_store_kinds)] ((World.doorLaid Tryz.prog 20 os).forCall (fun _ _=>0) ⟨#[],args,[]⟩).memory :=
 laidMetH_of_parts3 (fuel:=8) (laidMet_of_run' 8 (by kernel_rfl) (by kernel_rfl)) (by kernel_rfl) (by kernel_rfl)
theorem arg_stays {H:Type} {enc:TypeId × Value->H} {t:TypeId} (hr:Tryz.prog.readableRec t=true) (hrow:t < Tryz.prog.types.size) {W W':World} {v:Value} {d:DataW H} {ps:List MemPlace}
 (h:DataW.Trod enc Tryz.prog W 0 (fun _=>true) true t v d ps) (ho:Old W W') (hlt:∀ x∈ps,x.block < W.heap.size) :
 DataW.Trod enc Tryz.prog W' 0 (fun b=>decide (b < W.heap.size)) true t v d ps :=
 DataW.Trod.of_heap (w:=W'.on W.tape 0) (by rfl) (Below.trod laidOutAll hr hrow h ho.below hlt)
theorem kept_old {W W':World} (ho:Old W W') (may:MemPlace->Prop):W.keptBut W' may:=ho.below.frame may
end Go.Proofs.YtjdmplhdebgbjaaGreatDoor
namespace Go.Proofs.YtjdmplhdebgbjaaGreatDoor
open Go.RowKit Sp Mt Go.Conc
def wps (P:Program):List Code->(Act->World->Prop)->Act->World->Prop
 | [],Q,a,w=>Q a w
 | c::l,Q,a,w=>c.wp P (fun e a' w'=>e=.normal/\a'.defers=[]/\∀ t,wps P l Q a' (w'.on t 0)) a w
theorem wps_mono {P:Program} {Q Q':Act->World->Prop} (hq:∀ a w,Q a w->Q' a w):∀ (l:List Code) {a:Act} {w:World},wps P l Q a w->wps P l Q' a w
 | [],_,_,h=>hq _ _ h
 | c::l,_,_,h=>Code.wp_mono (fun e a' w' ⟨h1,h2,h3⟩=>⟨h1,h2,fun t=>wps_mono hq l (h3 t)⟩) h
def seqs:List Code->Code->Code
 | [],R=>R
 | c::l,R=>.seq c (seqs l R)
section
variable {P:Program} {b:Frame} {k:List Item} {cs:List Frame} {S:Mute} {R:Code}
theorem Like.unat {w w':World} {d:Nat} (h:Like P S w w'):Like P S (w.at d) w':=⟨⟨rfl,rfl,0,rfl,rfl⟩,h.os,h.output,h.size,h.block,h.mute,h.heapOk⟩
theorem wps_leads (hP:ProgOk P) (hb:b.kind=.normal) {Q:Act->World->Prop}:∀ (l:List Code) {a:Act} {w w':World},Like P S w w'->(∀ c∈l,codeOk P c=true)->a.defers=[]->(∀ t,wps P l Q a (w'.on t 0)) ->
 Leads P (fun fr' cs' w1=>∃ a' w1',fr'=b.at a' (.code R::k)/\cs'=cs/\Like P S w1 w1'/\∀ t,Q a' (w1'.on t 0)) (b.at a (.code (seqs l R)::k)) cs w
 | [],a,w,w',hl,_,_,h=>.done ⟨a,w',rfl,rfl,hl,h⟩
 | c::l,a,w,w',hl,hc,hd,h=>by
  refine leads_seq fun d=>?_;refine (wp_leads (Z:=fun a' W=>a'.defers=[]/\∀ t,wps P l Q a' (W.on t 0)) hP (Like.unat (d:=d) hl) (hc c (List.mem_cons_self ..)) hb (by rw [hd];exact fun x hx=>(by cases hx)) fun t=>?_).trans ?_
  ·refine Code.wp_mono ?_ (h t);rintro e a' w2 ⟨he,h1,h2⟩;exact ⟨he,w2.tape,w2.drawn,h1,h2⟩
  ·rintro fr' cs' w1 ⟨a',w1',e1,e2,hl1,t,d,h1,h2⟩;rw [e1,e2];exact wps_leads hP hb l hl1 (fun c hm=>hc c (List.mem_cons_of_mem _ hm)) h1 h2
end
end Go.Proofs.YtjdmplhdebgbjaaGreatDoor
namespace Go.Proofs.YtjdmplhdebgbjaaGreatDoor
open Go.RowKit Go.Maps Sp
section
variable {b:Bk} {vr vg vm vs vc:Value} {w:World}
theorem fit_at (hR:RawAt w b vr vg vm vs vc) {t:Bool} (ht:t=true↔SmallB b/\bookAl b=0) :
 Calls Tryz.prog 4 #[.agg #[vr,vg,vm,vs,vc]] w fun e w'=>e=.returned (.bool t)/\Below w.heap.size w w':=by
 obtain ⟨g,hg⟩:∃ g:Bool,(g=true↔¬ SmallB b):=by
  by_cases h:SmallB b
  ·exact ⟨false,by simp [h]⟩
  ·exact ⟨true,by simp [h]⟩
 have HG:=Hh hg;have HR:=Hh hR;have HT:=Hh ht
 cases g with
 | true =>
  have hns:¬ SmallB b:=hg.1 rfl;obtain rfl:t=false:=by
   cases t
   ·rfl
   ·exact absurd (ht.1 rfl).1 hns
  clear hg hR ht
  go_enter Tryz.func4,Tryz.ntmps4
  go_wp2_with (go_at_call 23;(with_reducible refine (great_at (HR.out.below (bel)) HG.out).mono ?_);rintro e w1 ⟨rfl,hb1⟩);go_ret;exact ⟨rfl,bel⟩
 | false =>
  have hs:SmallB b:=by
   by_cases h:SmallB b
   ·exact h
   ·have:=hg.2 h;cases this
  have HB:=Hh (hR.book hs);have HN:=Hh hs.names;have htt:t=decide (bookAl b=0):=by
   cases t
   ·symm;rw [decide_eq_false_iff_not];intro h;have:=ht.2 ⟨hs,h⟩;cases this
   ·symm;rw [decide_eq_true_iff];exact (ht.1 rfl).2
  subst htt;clear hg hR ht
  go_enter Tryz.func4,Tryz.ntmps4
  go_wp2_with (first
   | (go_at_call 23;(with_reducible refine (great_at (HR.out.below (bel)) HG.out).mono ?_);rintro e w1 ⟨rfl,hb1⟩;obtain ⟨hc1,hf1⟩:=bcell hb1;have hz1:=hb1.size;(try simp at hz1))
   | (go_at_call 24;(with_reducible refine (rCheckBook_at (HB.out.below (bel)) HN.out rfl).mono ?_);rintro e w2 ⟨rfl,hb2⟩))
  go_ret;exact ⟨by rw [Bool.beq_eq_decide_eq];rfl,bel⟩
theorem delivered_no (hB:BookAt w b vr vg vm vs vc) (hN:∀ m∈b.ms,m.name.size<=1000000) (hK:KindsAt w) {t:Int} (ht:openAl b 0=t) (h0:t≠0) :
 Calls Tryz.prog 13 #[.agg #[vr,vg,vm,vs,vc]] w fun e w'=>e=.returned (.tuple #[.slice none 0 0,.int .i64 t])/\Below w.heap.size w w':=by
 have HB:=Hh hB;have HN:=Hh hN;have HK:=Hh hK;have HT:=Hh ht;have HH0:=Hh h0;have hz3:(t != 0)=true:=by simpa using h0
 obtain ⟨rfl,rfl,⟨ma,mc,rfl,_,_⟩,⟨sa,sc,rfl,_,_⟩,ra,rc,rfl,_,_⟩:=id hB;clear hB hN hK ht
 go_enter Tryz.func13,Tryz.ntmps13
 go_wp2_with (go_at_call 39;(with_reducible refine (open_nothing_no (HB.out.below (bel)) HN.out (HK.out.below (bel)) (al:=0) (fun hk W hW=>nothing_any _ _ _ _ _ _) HT.out HH0.out).mono ?_);rintro e w3 ⟨rfl,hb3⟩;obtain ⟨hc3,hf3⟩:=bcell hb3;have hz3:=hb3.size;(try simp at hz3));exact bodyPost_ret (v:=.tuple #[.slice none 0 0,.int .i64 t]) (by simp [results,Tryz.results13,go_sem, *]) rfl ⟨rfl,bel⟩
end
end Go.Proofs.YtjdmplhdebgbjaaGreatDoor
namespace Go.Proofs.YtjdmplhdebgbjaaGreatDoor
open Go.RowKit Sp
theorem goP_ms {b b':Bk} (h:b.ms=b'.ms):∀ (l seen:List Prt),goP b seen l=goP b' seen l
 | [],_=>rfl
 | p::l,seen=>by
  have hp:isPart b p=isPart b' p:=by unfold isPart;rw [h]
  unfold goP;rw [hp,goP_ms h l]
theorem goS_zero {b:Bk}:∀ {l:List (List Prt)},(∀ s∈l,s.length<=5/\goP b [] s=0)->goS b l=0
 | [],_=>rfl
 | s::l,h=>by
  obtain ⟨h1,h2⟩:=h s (List.mem_cons_self ..);unfold goS;rw [if_neg (by omega),if_neg (by simp [h2])];exact goS_zero fun s hs=>h s (List.mem_cons_of_mem _ hs)
theorem goR_zero {b:Bk}:∀ {l:List Rec},(∀ r∈l,recAl b r=0)->goR b l=0
 | [],_=>rfl
 | s::l,h=>by
  unfold goR;rw [if_neg (by simp [h s (List.mem_cons_self ..)])];exact goR_zero fun s hs=>h s (List.mem_cons_of_mem _ hs)
theorem recAl_kind {b:Bk} {r:Rec} (h:recAl b r=0):0<=r.k/\r.k<=5:=by
 unfold recAl at h;split at h
 ·cases h
 ·rename_i hk
  simpa [inB] using hk
theorem recAl_a {b:Bk} {r:Rec} (h:recAl b r=0) (hk:r.k<=3):0<=r.a/\r.a<=(b.ss.length:Int) - 1:=by
 unfold recAl at h;split at h
 ·cases h
 ·split at h
  ·cases h
  ·split at h
   ·cases h
   ·rename_i hm
    unfold most at hm;rw [if_pos hk] at hm;split at hm
    ·rename_i hi;simpa [inB] using hi
    ·cases hm
theorem mem_pasts {b:Bk} {x:List Int}:x∈pasts b↔x.length=b.ss.length/\(∀ i (h:i < x.length),0<=x[i]/\∃ h2:i < b.ss.length,x[i]<=(b.ss[i].length:Int))/\right b x=true:=by
 unfold pasts;rw [mem_pastsFrom];constructor
 ·rintro ⟨suf,rfl,h1,h2,h3⟩;exact ⟨h1,h2,h3⟩
 ·rintro ⟨h1,h2,h3⟩;exact ⟨x,rfl,h1,h2,h3⟩
def Really (b:Bk) (c:List Int):Prop:=c.length=b.ss.length/\∀ i (h:i < c.length),0<=c[i]/\∃ h2:i < b.ss.length,c[i]<=(b.ss[i].length:Int)
def truR (b:Bk) (c:List Int) (r:Rec):Rec :=
 if r.k=0∨r.k=1 then { r with k:=if c.getD r.a.toNat 0=(((b.ss[r.a.toNat]?).elim 0 List.length:Nat):Int) then 0 else 1 }
 else if r.k=2 then { r with m:=min r.m (c.getD r.a.toNat 0) }
 else if r.k=3 then { r with m:=max r.m (c.getD r.a.toNat 0) }
 else if r.k=4 then { r with m:=copies b c (r.a,r.b) }
 else if r.k=5 then { r with m:=haveOf b c r.a }
 else r
def truB (b:Bk) (c:List Int):Bk:={ b with rs:=b.rs.map (truR b c) }
theorem Really.at {b:Bk} {c:List Int} (h:Really b c) {a:Int} (h0:0<=a) (h1:a<=(b.ss.length:Int) - 1):∃ s,b.ss[a.toNat]? = some s/\0<=c.getD a.toNat 0/\c.getD a.toNat 0<=(s.length:Int):=by
 have hl:a.toNat < c.length:=by rw [h.1];omega
 obtain ⟨k1,k2,k3⟩:=h.2 _ hl;refine ⟨b.ss[a.toNat],List.getElem?_eq_getElem k2,?_,?_⟩ <;> simp only [List.getD_eq_getElem?_getD,List.getElem?_eq_getElem hl,Option.getD_some] <;> assumption
theorem copies_bd2 {b:Bk} (hO:BkOk b) (c:List Int) (p:Prt):0<=copies b c p/\copies b c p<=(b.ss.length:Int):=by
 unfold copies;refine ⟨Int.natCast_nonneg _,?_⟩;have hn:=hO.nodup;generalize b.ss=l at hn
 suffices h:(((l.zip c).map fun x=>(x.1.take x.2.toNat).count p).sum)<=l.length by omega
 induction l generalizing c with
 | nil=>simp
 | cons s l ih =>
  cases c with
  | nil=>simp
  | cons x c =>
   simp only [List.zip_cons_cons,List.map_cons,List.sum_cons,List.length_cons];have h1:=ih c fun s hs=>hn s (List.mem_cons_of_mem _ hs);have h2:(s.take x.toNat).count p<=1:=by
    have:(s.take x.toNat).Nodup:=(hn s (List.mem_cons_self ..)).sublist (List.take_sublist ..);rw [this.count];split <;> omega
   omega
theorem have_bd2 (b:Bk) (c:List Int) (m:Int):0<=haveOf b c m/\haveOf b c m<=(((b.ms[m.toNat]?).elim 0 Msg.groups).toNat:Int):=by
 unfold haveOf;refine ⟨Int.natCast_nonneg _,?_⟩;have:=List.length_filter_le (fun (g:Nat)=>decide (0 < copies b c (m,(g:Int)))) (List.range ((b.ms[m.toNat]?).elim 0 Msg.groups).toNat);rw [List.length_range] at this;omega
theorem recAl_parts {b:Bk} {r:Rec} (h:recAl b r=0):(usesB r.k=false->r.b=0)/\(usesMany r.k=false->r.m=0)/\∃ n,most b r=some n/\0<=r.m/\r.m<=n:=by
 unfold recAl at h;split at h
 ·cases h
 ·split at h
  ·cases h
  ·rename_i hh
   split at h
   ·cases h
   ·rename_i n hm
    split at h
    ·rename_i hi
     refine ⟨fun hu=>Classical.byContradiction fun hc=>hh (.inl ⟨hu,hc⟩),fun hu=>Classical.byContradiction fun hc=>hh (.inr ⟨hu,hc⟩),n,hm,?_⟩;simpa [inB] using hi
    ·cases h
theorem recAl_mk {b:Bk} {r:Rec} (h0:0<=r.k/\r.k<=5) (h1:usesB r.k=false->r.b=0) (h2:usesMany r.k=false->r.m=0) {n:Int} (hm:most b r=some n) (h3:0<=r.m/\r.m<=n):recAl b r=0:=by
 unfold recAl;rw [if_neg (by simpa [inB] using h0),if_neg (by rintro (⟨u,v⟩ | ⟨u,v⟩);exact v (h1 u);exact v (h2 u)),hm];simp only;rw [if_pos (by simpa [inB] using h3)]
theorem most_sess {b:Bk} {r:Rec} (hk:r.k<=3) (ha:0<=r.a/\r.a<=(b.ss.length:Int) - 1):most b r=some (((b.ss[r.a.toNat]?).elim 0 List.length:Nat):Int):=by
 unfold most;rw [if_pos hk,if_pos (by simpa [inB] using ha)]
theorem recAl_true {b:Bk} (hO:BkOk b) {c:List Int} (hc:Really b c) {r:Rec} (h:recAl b r=0):recAl b (truR b c r)=0:=by
 obtain ⟨k0,k5⟩:=recAl_kind h;obtain ⟨u1,u2,n,hm,m0,mn⟩:=recAl_parts h;by_cases h3:r.k<=3
 ·have ha:=recAl_a h h3;obtain ⟨s,hs,c0,c1⟩:=hc.at ha.1 ha.2;rw [most_sess h3 ha,hs] at hm;simp only [Option.elim,Option.some.injEq] at hm;unfold truR;split
  ·rename_i h01
   have hb:r.b=0:=u1 (by unfold usesB;simp;omega);have hmm:r.m=0:=u2 (by unfold usesMany;simp;omega);obtain ⟨kk,hkk,hk0,hk1⟩:∃ kk:Int,(if c.getD r.a.toNat 0=(((b.ss[r.a.toNat]?).elim 0 List.length:Nat):Int) then (0:Int) else 1)=kk/\0<=kk/\kk<=1:=⟨_,rfl,by split <;> omega,by split <;> omega⟩;rw [hkk];refine recAl_mk (n:=n) (by show 0<=kk/\kk<=5;omega) (fun _=>hb) (fun _=>hmm) ?_ ⟨m0,mn⟩;exact (most_sess (r:={ r with k:=kk }) (by show kk<=3;omega) ha).trans (by rw [hs];simp [hm])
  ·split
   ·refine recAl_mk (n:=n) ⟨k0,k5⟩ u1 (fun hu=>?_) ?_ (by show 0<=min r.m _/\min r.m _<=n;omega)
    ·have:=u2 hu;exfalso;rename_i h2;rw [h2] at hu;simp [usesMany] at hu
    ·exact (most_sess h3 ha).trans (by rw [hs];simp [hm])
   ·split
    ·refine recAl_mk (n:=n) ⟨k0,k5⟩ u1 (fun hu=>?_) ?_ (by show 0<=max r.m _/\max r.m _<=n;omega)
     ·have:=u2 hu;exfalso;rename_i h2;rw [h2] at hu;simp [usesMany] at hu
     ·exact (most_sess h3 ha).trans (by rw [hs];simp [hm])
    ·exfalso;omega
 ·unfold truR;rw [if_neg (by omega),if_neg (by omega),if_neg (by omega)];split
  ·rename_i h4
   have hb:=copies_bd2 hO c (r.a,r.b);refine recAl_mk (n:=(b.ss.length:Int)) ⟨k0,k5⟩ u1 (fun hu=>?_) ?_ hb
   ·rw [show ({ r with m:=copies b c (r.a,r.b) }:Rec).k=r.k from rfl,h4] at hu;simp [usesMany] at hu
   ·unfold most at hm ⊢;rw [if_neg h3,if_pos h4] at hm;rw [if_neg h3,if_pos h4];split at hm
    ·rename_i hp;exact if_pos hp
    ·cases hm
  ·have h5:r.k=5:=by omega
   rw [if_pos h5];have hb:=have_bd2 b c r.a;unfold most at hm;rw [if_neg h3,if_neg (by omega)] at hm;split at hm
   ·rename_i hi
    have hi2:0<=r.a/\r.a<=(b.ms.length:Int) - 1:=by simpa [inB] using hi
    have hg:0<=((b.ms[r.a.toNat]?).elim 0 Msg.groups):=by
     rw [List.getElem?_eq_getElem (show r.a.toNat < b.ms.length by omega)];exact (hO.groups _ (List.getElem_mem _)).1
    refine recAl_mk (n:=(b.ms[r.a.toNat]?).elim 0 Msg.groups) ⟨k0,k5⟩ u1 (fun hu=>?_) ?_ (by show 0<=haveOf b c r.a/\haveOf b c r.a<=_;omega)
    ·rw [show ({ r with m:=haveOf b c r.a }:Rec).k=r.k from rfl,h5] at hu;simp [usesMany] at hu
    ·unfold most;rw [if_neg h3,if_neg (by show ¬ r.k=4;omega)];exact if_pos hi
   ·cases hm
theorem bookAl_rs {b:Bk} (h:bookAl b=0) {rs:List Rec} (hl:rs.length<=5) (hr:∀ r∈rs,recAl b r=0):bookAl { b with rs:=rs }=0:=by
 obtain ⟨h0,h1,h2,h3⟩:=bookAl_parts h;have h2':sessAl { b with rs:=rs }=0:=by
  unfold sessAl at h2 ⊢;split at h2
  ·cases h2
  ·rename_i hl
   rw [if_neg hl];exact goS_zero fun s hs=>by
    obtain ⟨k1,k2⟩:=goS_ok _ h2 s hs;exact ⟨k1,(goP_ms (b:={ b with rs:=rs }) (b':=b) rfl s []).trans k2⟩
 have h3':recsAl { b with rs:=rs }=0:=by
  unfold recsAl;rw [if_neg (by simpa using hl)];exact goR_zero fun r h=>hr r h
 unfold bookAl;rw [show numbersAl { b with rs:=rs }=0 from h0,show msgsAl { b with rs:=rs }=0 from h1,h2',h3'];rfl
theorem recs_len {b:Bk} (h:bookAl b=0):b.rs.length<=5:=by
 obtain ⟨_,_,_,h3⟩:=bookAl_parts h;unfold recsAl at h3;split at h3
 ·cases h3
 ·omega
theorem bookAl_true {b:Bk} (h:bookAl b=0) {c:List Int} (hc:Really b c):bookAl (truB b c)=0 :=
 bookAl_rs h (by rw [List.length_map];exact recs_len h) fun r hr=>by
  obtain ⟨r0,h0,rfl⟩:=List.mem_map.1 hr;exact recAl_true (bookAl_ok h).1 hc ((bookAl_ok h).2 r0 h0)
theorem rightR_true {b:Bk} {c:List Int} (hc:Really b c) {r:Rec} (h:recAl b r=0):rightR (truB b c) c (truR b c r)=true:=by
 obtain ⟨k0,k5⟩:=recAl_kind h;have hcp:∀ p,copies (truB b c) c p=copies b c p:=fun _=>rfl;have hhv:∀ m,haveOf (truB b c) c m=haveOf b c m:=fun _=>rfl;have hss:(truB b c).ss=b.ss:=rfl;unfold truR;split
 ·rename_i h01
  have ha:=recAl_a h (by omega);obtain ⟨s,hs,c0,c1⟩:=hc.at ha.1 ha.2;have hse:(((b.ss[r.a.toNat]?).elim 0 List.length:Nat):Int)=(s.length:Int):=by rw [hs];rfl
  by_cases he:c.getD r.a.toNat 0=(((b.ss[r.a.toNat]?).elim 0 List.length:Nat):Int)
  ·rw [if_pos he];rw [hse] at he;unfold rightR;simp only [hss,hs,Option.elim,if_true];exact decide_eq_true he
  ·rw [if_neg he];rw [hse] at he;unfold rightR;simp only [hss,hs,Option.elim];rw [if_neg (by decide),if_pos trivial];exact decide_eq_true (by omega)
 ·split
  ·rename_i h2
   unfold rightR;simp [h2];omega
  ·split
   ·rename_i h3
    unfold rightR;simp [h3];omega
   ·split
    ·rename_i h4
     unfold rightR;simp [h4,hcp]
    ·split
     ·rename_i h5
      unfold rightR;simp [h5,hhv]
     ·exfalso;omega
theorem real_past {b:Bk} (h:bookAl b=0) {c:List Int} (hc:Really b c):c∈pasts (truB b c):=by
 refine mem_pasts.2 ⟨hc.1,hc.2,?_⟩;unfold right;rw [List.all_eq_true];intro r hr;obtain ⟨r0,h0,rfl⟩:=List.mem_map.1 hr;exact rightR_true hc ((bookAl_ok h).2 r0 h0)
end Go.Proofs.YtjdmplhdebgbjaaGreatDoor
namespace Go.Proofs.YtjdmplhdebgbjaaGreatDoor
open Go.RowKit Go.Maps Sp Mt Go.Conc
end Go.Proofs.YtjdmplhdebgbjaaGreatDoor
namespace Go.Proofs.YtjdmplhdebgbjaaGreatDoor
open Go.RowKit Sp
def mostJ (x:Int) (l:List Int):Int:=l.foldl max x
theorem neg_least:∀ (l:List Int) (x:Int),- leastI (-x) (negI l)=mostJ x l
 | [],x=>by simp [leastI,mostJ,negI]
 | y::l,x=>by
  have:=neg_least l (max x y);have e:min (-x) (-y)=- max x y:=by omega
  simp only [leastI,mostJ,negI,List.map_cons,List.foldl_cons,e] at this ⊢;exact this
theorem leastI_head (l:List Int):leastI (l.headD 0) l=leastI (l.headD 0) l.tail:=by
 cases l with
 | nil=>rfl
 | cons x l =>
  have e:min x x=x:=by omega
  simp only [leastI,List.headD_cons,List.foldl_cons,List.tail_cons,e]
theorem mostJ_head (l:List Int):mostJ (l.headD 0) l=mostJ (l.headD 0) l.tail:=by
 cases l with
 | nil=>rfl
 | cons x l =>
  have e:max x x=x:=by omega
  simp only [mostJ,List.headD_cons,List.foldl_cons,List.tail_cons,e]
theorem loI_all (b:Bk) (p:Prt):loI b p=leastI ((oftenI b (pasts b) p).headD 0) (oftenI b (pasts b) p):=(leastI_head _).symm
theorem hiI_all (b:Bk) (p:Prt):hiI b p=mostJ ((oftenI b (pasts b) p).headD 0) (oftenI b (pasts b) p):=by
 rw [mostJ_head];exact neg_least _ _
theorem say_one {s m:Int} (hm:0 < m):sayI s m=1↔s=m:=by
 unfold sayI;by_cases h0:s=0
 ·rw [if_pos h0];omega
 ·rw [if_neg h0];by_cases h1:s=m
  ·rw [if_pos h1];omega
  ·rw [if_neg h1];omega
theorem say_two {s m:Int}:sayI s m=2↔s=0:=by
 unfold sayI;by_cases h0:s=0
 ·rw [if_pos h0];omega
 ·rw [if_neg h0];by_cases h1:s=m
  ·rw [if_pos h1];omega
  ·rw [if_neg h1];omega
theorem count_all (l:List Int):countI l 1=(l.length:Int)↔∀ y∈l,0 < y:=by
 unfold countI;rw [Int.ofNat_inj,List.length_filter_eq_length_iff];simp only [decide_eq_true_eq];exact ⟨fun h y hy=>by have:=h y hy;omega,fun h y hy=>by have:=h y hy;omega⟩
theorem count_none (l:List Int) (h0:∀ y∈l,0<=y):countI l 1=0↔∀ y∈l,y=0:=by
 unfold countI;rw [show (0:Int)=((0:Nat):Int) from rfl,Int.ofNat_inj,List.length_eq_zero_iff,List.filter_eq_nil_iff];simp only [decide_eq_true_eq];exact ⟨fun h y hy=>by have:=h y hy;have:=h0 y hy;omega,fun h y hy=>by have:=h y hy;omega⟩
theorem often_len (b:Bk) (l:List (List Int)) (p:Prt):(oftenI b l p).length=l.length:=by simp [oftenI]
end Go.Proofs.YtjdmplhdebgbjaaGreatDoor

