/- StoreLoaded -/
import Derived.Test.YtdjnkplgllakcaaGreatDoorSL26
import Derived.StillTailTactics
set_option maxHeartbeats 4000000
set_option maxRecDepth 100000
set_option linter.all false
namespace Go.Proofs.YtdjnkplgllakcaaGreatDoor
section
open Go.RowKit Sp
def Really (b:Bk) (c:List Int):Prop:=c.length=b.ss.length/\∀ i (h:i < c.length),0<=c[i]/\∃ h2:i < b.ss.length,c[i]<=(b.ss[i].length:Int)
theorem Really.at {b:Bk} {c:List Int} (h:Really b c) {a:Int} (h0:0<=a) (h1:a<=(b.ss.length:Int) - 1):∃ s,b.ss[a.toNat]? = some s/\0<=c.getD a.toNat 0/\c.getD a.toNat 0<=(s.length:Int):=by
 have hl:a.toNat < c.length:=by rw [h.1];omega
 obtain ⟨k1,k2,k3⟩:=h.2 _ hl;refine ⟨b.ss[a.toNat],List.getElem?_eq_getElem k2,?_,?_⟩ <;> simp only [List.getD_eq_getElem?_getD,List.getElem?_eq_getElem hl,Option.getD_some] <;> assumption
end
section
open Go.RowKit Go.Maps Sp Mt Go.Conc
end
section
open Go.RowKit Sp Mt Go.Conc
section
variable {P:Program} {b:Frame} {a:Act} {w:World} {k:List Item} {cs:List Frame} {K:Frame->List Frame->World->Prop}
theorem Twin.refl0 (w:World):Twin 0 w w:=⟨rfl,rfl,rfl,fun _=>rfl,fun _=>rfl,fun _ _=>rfl⟩
theorem Twin.at0 {w w1:World} (h:Twin 0 w w1) (d:Nat):Twin 0 w (w1.at d):=⟨h.os,h.output,h.size,h.cell,h.frozen,h.block⟩
theorem Twin.old0 {w w1 w2:World} (h:Twin 0 w w1) (k:Old w1 w2):Old w w2:=⟨k.os.trans h.os,k.output.trans h.output,by rw [<- h.size];exact k.size,fun i hi=>(k.block i (by rw [h.size];exact hi)).trans (h.block i (Nat.zero_le _))⟩
def LeadsA (P:Program) (K:Frame->List Frame->World->Prop) (fr:Frame) (cs:List Frame) (w:World):Prop:=∀ w',Twin 0 w w'->Leads P K fr cs w'
theorem LeadsA.here {fr:Frame} (h:LeadsA P K fr cs w):Leads P K fr cs w:=h w (Twin.refl0 w)
theorem all_region {id:Nat} {ops:Array Oper} (h:LeadsA P K (b.at a (.inRegion ops (List.range ops.size)::k)) cs w):LeadsA P K (b.at a (.code (.region id ops false)::k)) cs w:=fun _ t=>leads_region fun d=>h _ (t.at0 d)
theorem all_end {ops:Array Oper} (h:LeadsA P K (b.at a k) cs w):LeadsA P K (b.at a (.inRegion ops []::k)) cs w:=fun _ t=>leads_inRegion fun d=>h _ (t.at0 d)
theorem all_seq {x y:Code} (h:LeadsA P K (b.at a (.code x::.code y::k)) cs w):LeadsA P K (b.at a (.code (.seq x y)::k)) cs w:=fun _ t=>leads_seq fun d=>h _ (t.at0 d)
theorem all_ret (h:LeadsA P K { b.at a (.code .ret::k) with mode:=.returning } cs w):LeadsA P K (b.at a (.code .ret::k)) cs w:=fun _ t=>leads_ret fun d=>h _ (t.at0 d)
theorem all_op {ops:Array Oper} {i:Nat} {rest:List Nat} (v:Value) (hb:b.kind=.normal) {o:Oper} (ho:ops[i]? = some o) (hw:Region.wanted o (yielded ops a.tmps)=true)
 (hr:∀ w',(execOp a.eval o).run P w'=.ok (.value v) w') (he:∀ w',(execOp a.eval o).events P w' #[]=#[])
 (h:LeadsA P K (b.at (a.put o.dst v) (.inRegion ops rest::k)) cs w):LeadsA P K (b.at a (.inRegion ops (i::rest)::k)) cs w:=fun _ t =>
 leads_op v hb ho hw (fun d=>hr _) (fun d e hm=>by rw [he] at hm;simp at hm) fun d=>h _ (t.at0 d)
theorem all_call {ops:Array Oper} {i:Nat} {rest:List Nat} (f:FuncId) (args:Array Value) (hb:b.kind=.normal) {o:Oper} (ho:ops[i]? = some o) (hw:Region.wanted o (yielded ops a.tmps)=true)
 (hr:∀ w',(execOp a.eval o).run P w'=.ok (.enter f args) w') (he:∀ w',(execOp a.eval o).events P w' #[]=#[]) {Z:Value->World->Prop}
 (hc:∀ (c:Frame) (w':World),Twin 0 w w'->Leads P (fun fr' cs' w1=>∃ v,fr'=c.finish v/\cs'=cs/\Z v w1) (Frame.enter P f args .normal) (c::cs) w')
 (h:∀ v w1,Z v w1->LeadsA P K (b.at (a.put o.dst v) (.inRegion ops rest::k)) cs w1):LeadsA P K (b.at a (.inRegion ops (i::rest)::k)) cs w:=fun w' t =>
 leads_call hb ho hw (fun d=>hr _) (fun d=>he _) (fun d=>hc _ _ (t.at0 d)) fun v w1 hz=>(h v w1 hz).here
end
section
variable {w:World} {cs:List Frame} {c:Frame}
end
theorem wps_cons {P:Program} {c:Code} {l:List Code} {Q:Act->World->Prop} {a:Act} {w:World} (h:c.wp P (fun e a' w'=>e=.normal/\a'.defers=[]/\∀ X,Twin 0 w' X->wps P l Q a' X) a w):wps P (c::l) Q a w :=
 Code.wp_mono (fun _ _ _ ⟨h1,h2,h3⟩=>⟨h1,h2,fun _=>h3 _ ⟨rfl,rfl,rfl,fun _=>rfl,fun _=>rfl,fun _ _=>rfl⟩⟩) h
theorem Twin.five {n:Nat} {w w1:World} (h:Twin n w w1) {r:Nat} {v0 v1 v2 v3 v4:Value} (k:Five w r v0 v1 v2 v3 v4):Five w1 r v0 v1 v2 v3 v4:=⟨(h.cell _).trans k.c0,(h.cell _).trans k.c1,(h.cell _).trans k.c2,(h.cell _).trans k.c3,(h.cell _).trans k.c4,by rw [h.size];exact k.lt⟩
theorem Old.twin0 {w w1 X:World} (h:Old w w1) (t:Twin 0 w1 X):Old w X:=⟨t.os.trans h.os,t.output.trans h.output,by rw [t.size];exact h.size,fun k hk=>(t.block k (Nat.zero_le _)).trans (h.block k hk)⟩
theorem Old.ofBelow {w w1:World} (h:Below w.heap.size w w1):Old w w1:=⟨h.os,h.output,h.size,h.block⟩
theorem Old.ks {w A B:World} {O:Nat} (h:Old w A) (hO:w.heap.size<=O) (hk:KS (fun k=>k < A.heap.size/\k≠O) A B):Old w B:=⟨hk.os.trans h.os,hk.output.trans h.output,Nat.le_trans h.size hk.size,fun k hkl=>(hk.block k (Nat.lt_of_lt_of_le hkl h.size) ⟨Nat.lt_of_lt_of_le hkl h.size,by omega⟩).trans (h.block k hkl)⟩
def NQ (R:Act->World->Prop):Exit->Act->World->Prop
 | .normal,a,w=>R a w
 | _,_,_=>False
theorem wps_nq {P:Program} {c:Code} {l:List Code} {Q:Act->World->Prop} {a:Act} {w:World} (h:c.wp P (NQ fun a' w'=>a'.defers=[]/\∀ X,Twin 0 w' X->wps P l Q a' X) a w):wps P (c::l) Q a w:=by
 refine wps_cons (Code.wp_mono (fun e a' w' hq=>?_) h);cases e <;> first | exact ⟨rfl,hq.1,hq.2⟩ | exact hq.elim
section
variable {P:Program} {b:Frame} {a:Act} {w:World} {k:List Item} {cs:List Frame} {K:Frame->List Frame->World->Prop}
theorem put_at {a:Act} {j:Nat} {v:Value} (h:j < a.tmps.size):(a.put (some j) v).tmps[j]? = some v:=by
 show (a.tmps.setIfInBounds j v)[j]? = some v;simp [h]
theorem put_keep {a:Act} {j i:Nat} {v:Value} (hne:i≠j):(a.put (some j) v).tmps[i]? = a.tmps[i]? := by
 show (a.tmps.setIfInBounds j v)[i]? = a.tmps[i]?;rw [Array.getElem?_setIfInBounds_ne (by omega)]
theorem wanted_g {o ok:Oper} {ops:Array Oper} {tmps:Array Value} {m j:Nat} {want:Bool} (hg:o.guard=some (m,want)) (hk:ops[m]? = some ok) (hd:ok.dst=some j) (hA:tmps[j]? = some (.bool want)):Region.wanted o (yielded ops tmps)=true:=by
 unfold Region.wanted yielded;rw [hg];simp [hk,hd,hA]
theorem unwanted_g {o ok:Oper} {ops:Array Oper} {tmps:Array Value} {m j:Nat} {want:Bool} (hg:o.guard=some (m,want)) (hk:ops[m]? = some ok) (hd:ok.dst=some j) (hA:tmps[j]? = some (.bool (!want))):Region.wanted o (yielded ops tmps)=false:=by
 unfold Region.wanted yielded;rw [hg];cases want <;> simp [hk,hd,hA]
end
section
variable {P:Program} {b:Frame} {a:Act} {w:World} {k:List Item} {cs:List Frame} {K:Frame->List Frame->World->Prop}
theorem unwanted_u {o ok:Oper} {ops:Array Oper} {tmps:Array Value} {m j:Nat} {want:Bool} (hg:o.guard=some (m,want)) (hk:ops[m]? = some ok) (hd:ok.dst=some j) (hA:tmps[j]? = some undef):Region.wanted o (yielded ops tmps)=false:=by
 unfold Region.wanted yielded;rw [hg];cases want <;> simp [hk,hd,hA] <;> exact fun h=>by cases (show (none:Option Bool)=_ from h)
end
def KnL (a:Act):List (Nat × Value)->Prop
 | []=>True
 | x::l=>a.tmps[x.1]? = some x.2/\KnL a l
structure Kn (a:Act) (n:Nat) (l:List (Nat × Value)):Prop where
 sz:a.tmps.size=n
 df:a.defers=[]
 kn:KnL a l
theorem KnL.get {a:Act} {j:Nat} {v:Value}:∀ {l:List (Nat × Value)},KnL a l->l.lookup j=some v->a.tmps[j]? = some v
 | [],_,e=>by simp at e
 | (i,u)::l,h,e=>by
  rw [List.lookup_cons] at e;by_cases hji:j=i
  ·subst hji;simp at e;rw [<- e];exact h.1
  ·rw [beq_eq_false_iff_ne.2 hji] at e;exact KnL.get h.2 e
theorem KnL.put {a:Act} {j:Nat} {v:Value}:∀ {l:List (Nat × Value)},KnL a l->(l.all fun x=>x.1 != j)=true->KnL (a.put (some j) v) l
 | [],_,_=>trivial
 | x::l,h,e=>by
  simp only [List.all_cons,Bool.and_eq_true,bne_iff_ne] at e;exact ⟨(put_keep e.1).trans h.1,KnL.put h.2 e.2⟩
section
variable {P:Program} {b:Frame} {a:Act} {w:World} {k:List Item} {cs:List Frame} {K:Frame->List Frame->World->Prop} {n:Nat} {l:List (Nat × Value)}
theorem Kn.g (q:Kn a n l) (j:Nat) {v:Value} (e:l.lookup j=some v):a.tmps[j]? = some v:=q.kn.get e
theorem Kn.cons (q:Kn a n l) {j:Nat} (hj:j < n) (e:(l.all fun x=>x.1 != j)=true) (v:Value):Kn (a.put (some j) v) n ((j,v)::l):=⟨(Array.size_setIfInBounds).trans q.sz,q.df,put_at (by rw [q.sz];exact hj),q.kn.put e⟩
theorem st {ops:Array Oper} {i j:Nat} {rest:List Nat} (v:Value) (hb:b.kind=.normal) {o:Oper} (ho:ops[i]? = some o) (hd:o.dst=some j) (hw:Region.wanted o (yielded ops a.tmps)=true)
 (hx:∀ w',(execOp a.eval o).run P w'=.ok (.value v) w'/\(execOp a.eval o).events P w' #[]=#[]) (q:Kn a n l) (hj:j < n) (e:(l.all fun x=>x.1 != j)=true)
 (h:∀ a1,Kn a1 n ((j,v)::l)->LeadsA P K (b.at a1 (.inRegion ops rest::k)) cs w):LeadsA P K (b.at a (.inRegion ops (i::rest)::k)) cs w:=by
 refine all_op v hb ho hw (fun w'=>(hx w').1) (fun w'=>(hx w').2) ?_;rw [hd];exact h _ (q.cons hj e v)
theorem sc {ops:Array Oper} {i j:Nat} {rest:List Nat} (f:FuncId) (args:Array Value) (hb:b.kind=.normal) {o:Oper} (ho:ops[i]? = some o) (hd:o.dst=some j) (hw:Region.wanted o (yielded ops a.tmps)=true)
 (hx:∀ w',(execOp a.eval o).run P w'=.ok (.enter f args) w'/\(execOp a.eval o).events P w' #[]=#[]) (q:Kn a n l) (hj:j < n) (e:(l.all fun x=>x.1 != j)=true) {v:Value}
 (hc:∀ (c:Frame) (w':World),Twin 0 w w'->Leads P (fun fr' cs' w1=>∃ v',fr'=c.finish v'/\cs'=cs/\v'=v/\Old w w1) (Frame.enter P f args .normal) (c::cs) w')
 (h:∀ (a1:Act) (w1:World),Old w w1->Kn a1 n ((j,v)::l)->LeadsA P K (b.at a1 (.inRegion ops rest::k)) cs w1):LeadsA P K (b.at a (.inRegion ops (i::rest)::k)) cs w:=by
 refine all_call f args hb ho hw (fun w'=>(hx w').1) (fun w'=>(hx w').2) (Z:=fun v' w1=>v'=v/\Old w w1) hc ?_;rintro v' w1 ⟨rfl,ho1⟩;rw [hd];exact h _ _ ho1 (q.cons hj e v')
theorem sk {ops:Array Oper} {i j:Nat} {rest:List Nat} {o:Oper} (ho:ops[i]? = some o) (hd:o.dst=some j) (hw:Region.wanted o (yielded ops a.tmps)=false) (q:Kn a n l) (hj:j < n) (e:(l.all fun x=>x.1 != j)=true)
 (h:∀ a1,Kn a1 n ((j,undef)::l)->LeadsA P K (b.at a1 (.inRegion ops rest::k)) cs w):LeadsA P K (b.at a (.inRegion ops (i::rest)::k)) cs w:=fun _ t =>
 leads_go (fun d=>stepG_unwanted ho hw) fun d=>by
  rw [hd];exact h (a.put (some j) undef) (q.cons hj e undef) _ (t.at0 d)
end
def sql:Code->Code
 | .seq a _=>a
 | c=>c
def sqr:Code->Code
 | .seq _ b=>b
 | c=>c
def cnd:Code->Code
 | .cond _ a _=>a
 | c=>c
def sqN:Nat->Code->Code
 | 0,c=>c
 | k+1,c=>sqN k (sqr c)
theorem fr_of {F:(Nat->Value)->Act} {a':Act} (h:a'=F fun i=>a'.tmps.getD i undef):∃ d,a'=F d:=⟨_,h⟩
theorem OldN.refl (n:Nat) (w:World):OldN n w w:=⟨rfl,rfl,Nat.le_refl _,fun _ _=>rfl⟩
theorem OldN.trans {n:Nat} {a b c:World} (h:OldN n a b) (k:OldN n b c):OldN n a c:=⟨k.os.trans h.os,k.output.trans h.output,Nat.le_trans h.size k.size,fun i hi=>(k.block i hi).trans (h.block i hi)⟩
theorem OldN.ks {n O:Nat} {w A B:World} (h:OldN n w A) (hn:n<=w.heap.size) (hO:n<=O) (hk:KS (fun k=>k≠O) A B):OldN n w B:=⟨hk.os.trans h.os,hk.output.trans h.output,Nat.le_trans h.size hk.size,fun k hkl=>(hk.block k (Nat.lt_of_lt_of_le hkl (Nat.le_trans hn h.size)) (by show k≠O;omega)).trans (h.block k hkl)⟩
section
variable {P:Program} {b:Frame} {a:Act} {w:World} {k:List Item} {cs:List Frame} {K:Frame->List Frame->World->Prop}
end
def blk:Code->Code
 | .block _ c=>c
 | c=>c
def lpc:Code->Code
 | .loop c=>c
 | c=>c
end
section
open Go.RowKit Go.Maps Sp
theorem hasNum_at {la:Option Addr} {lc n:Nat} {l:List Int} {x:Int} {w:World} {t:Bool} (hL:IntsAt w la l) (hn:n=l.length) (hl:l.length<=1000000) (h:decide (x∈l)=t) :
 Calls Tryz.prog 45 #[.slice la n lc,.int .i64 x] w fun e w'=>e=.returned (.bool t)/\w'=w:=by
 subst hn;have H:=Hh h;clear h;have HP:=Hh hL;clear hL
 go_enter Tryz.func45,Tryz.ntmps45
 go_wp2;go_loop [5] (fun i=>∃ k:Nat,k<=l.length/\i=.int .i64 k/\Hid (x ∉ l.take k)) (fun i=>l.length - (intOf i).toNat)
 case atStart=>exact ⟨0,Nat.zero_le _,rfl,by simp [Hid]⟩
 case round =>
  obtain ⟨k,hk,rfl,hno⟩:=hrel;by_cases hlt:k < l.length
  ·obtain ⟨lb,lo,rfl,hlb,e0⟩:=HP.out k hlt;have htk:=List.take_succ_eq_append_getElem hlt;have hin:l[k]∈l:=List.getElem_mem hlt;generalize l[k]=q at e0 htk hin;have HTK:=Hh htk;have HIN:=Hh hin;clear htk hin;by_cases hq:q=x
   ·subst hq;have ht:t=true:=by rw [<- H.out];simpa using HIN.out
    subst ht;go_wp2;go_ret;exact ⟨rfl,rfl⟩
   ·have hd:(q == x)=false:=by simpa using hq
    have hn2:x ∉ l.take (k+1):=by
     rw [HTK.out];simp only [List.mem_append,List.mem_singleton,not_or];exact ⟨hno.out,fun h=>hq h.symm⟩
    have HN:=Hh hn2;clear hq hn2;go_wp2;go_round
    case rel=>exact ⟨k+1,by omega,by go_num,HN.out⟩
    case measure=>simp [intOf];omega
  ·have ht:t=false:=by
    have:=hno.out;rw [List.take_of_length_le (by omega)] at this;rw [<- H.out];simpa using this
   subst ht;go_wp2;go_ret;exact ⟨rfl,rfl⟩
end
section
open Go.RowKit Sp
theorem lesser_trans:∀ {a b c:List Int},lesserI a b=true->lesserI b c=true->lesserI a c=true
 | [],[],_,h,_=>by cases h
 | _::_,[],_,h,_=>by simp [lesserI] at h
 | [],_::_,[],_,h=>by simp [lesserI] at h
 | [],_::_,_::_,_,_=>rfl
 | _::_,_::_,[],_,h=>by simp [lesserI] at h
 | x::a,y::b,z::c,h,k=>by
  unfold lesserI at h k ⊢;by_cases e:x=y
  ·subst e;rw [if_pos rfl] at h;by_cases e2:x=z
   ·rw [if_pos e2] at k ⊢;exact lesser_trans h k
   ·rw [if_neg e2] at k ⊢;exact k
  ·rw [if_neg e] at h;by_cases e2:y=z
   ·subst e2;rw [if_neg e];exact h
   ·rw [if_neg e2] at k;simp only [decide_eq_true_eq] at h k;rw [if_neg (by omega)];simp only [decide_eq_true_eq];omega
theorem lesser_irrefl:∀ a:List Int,lesserI a a=false
 | []=>rfl
 | x::a=>by unfold lesserI;rw [if_pos rfl];exact lesser_irrefl a
end
section
open Go.RowKit Go.Maps Sp
def NumsRet (w:World) (l:List Int) (e:Ending) (w':World):Prop:=∃ a c,e=.returned (.slice a l.length c)/\IntsAt w' a l/\Below w.heap.size w w'
section
variable {w:World} {la:Option Addr} {lc n:Nat} {l:List Int}
end
end
section
open Go.RowKit Sp
def LexLt (p q:Prt):Prop:=p.1 < q.1\/p.1=q.1/\p.2 < q.2
theorem partsL_sorted (b:Bk):(partsL b).Pairwise LexLt:=by
 unfold partsL partsTo;rw [List.pairwise_flatMap];refine ⟨fun i _=>?_,?_⟩
 ·unfold partsOf;rw [List.pairwise_map];exact List.pairwise_lt_range.imp fun {a c} h=>.inr ⟨rfl,by show (a:Int) < (c:Int);omega⟩
 ·exact List.pairwise_lt_range.imp fun {i j} h p hp q hq=>by
   unfold partsOf at hp hq;obtain ⟨_,_,rfl⟩:=List.mem_map.1 hp;obtain ⟨_,_,rfl⟩:=List.mem_map.1 hq;exact .inl (by show (i:Int) < (j:Int);omega)
theorem missI_sorted (b:Bk):(missI b).Pairwise LexLt:=(partsL_sorted b).filter _
theorem missI_isPart {b:Bk} {p:Prt} (h:p∈missI b):isPart b p=true:=parts_isPart (List.mem_filter.1 h).1
end
section
open Go.RowKit Go.Maps Sp
def U16sAt (w:World) (a:Option Addr) (l:List Int):Prop:=∀ i (h:i < l.length),∃ b o,a=some ⟨b,o,none⟩/\b < w.heap.size/\w.cell? ⟨b,o+i,none⟩=some (.int .u16 l[i])/\0<=l[i]/\l[i]<=65535
theorem U16sAt.below {w w':World} {a:Option Addr} {l:List Int} (h:U16sAt w a l) (hb:Below w.heap.size w w'):U16sAt w' a l:=fun i hi=>by
 obtain ⟨b,o,e,hlt,h1,h2⟩:=h i hi;exact ⟨b,o,e,Nat.lt_of_lt_of_le hlt hb.size,(hb.cell hlt).trans h1,h2⟩
def choiceI (l:List Int) (k:Nat):Int:=l.getD k 0
theorem choiceI_bd {w:World} {a:Option Addr} {l:List Int} (h:U16sAt w a l) (k:Nat):0<=choiceI l k/\choiceI l k<=65535:=by
 unfold choiceI;by_cases hk:k < l.length
 ·obtain ⟨_,_,_,_,_,h1,h2⟩:=h k hk;simp only [List.getD_eq_getElem?_getD,List.getElem?_eq_getElem hk,Option.getD_some];exact ⟨h1,h2⟩
 ·simp only [List.getD_eq_getElem?_getD,List.getElem?_eq_none (Nat.le_of_not_lt hk),Option.getD_none];omega
section
variable {w:World} {la:Option Addr} {lc n:Nat} {l:List Int}
theorem choice_at (hL:U16sAt w la l) (hn:n=l.length) (k:Nat) {t:Int} (ht:choiceI l k=t) :
 Calls Tryz.prog 43 #[.slice la n lc,.int .i64 k] w fun e w'=>e=.returned (.int .i64 t)/\w'=w:=by
 subst hn ht;unfold choiceI;by_cases hk:k < l.length
 ·obtain ⟨b,o,rfl,hb,h0,h1,h2⟩:=hL k hk;simp only [List.getD_eq_getElem?_getD,List.getElem?_eq_getElem hk,Option.getD_some];generalize l[k]=x at h0 h1 h2;have hw:IntKind.i64.wrap x=x:=wrapI (by omega) (by omega)
  go_enter Tryz.func43,Tryz.ntmps43
  go_wp2;go_ret;exact ⟨rfl,rfl⟩
 ·simp only [List.getD_eq_getElem?_getD,List.getElem?_eq_none (Nat.le_of_not_lt hk),Option.getD_none]
  go_enter Tryz.func43,Tryz.ntmps43
  go_wp2;go_ret;exact ⟨rfl,rfl⟩
end
section
variable {b:Bk} {vr vg vm vs vc:Value} {w:World} {la:Option Addr} {lc n:Nat} {l:List Int}
end
section
variable {b:Bk} {vr vg vm vs vc:Value} {w:World} {la:Option Addr} {lc n:Nat} {l:List Prt}
theorem ordered_at (hB:BookAt w b vr vg vm vs vc) (hG:∀ m∈b.ms,0<=m.groups/\m.groups<=1000) (hL:PartsAt w la l) (hn:n=l.length) (hl:l.length<=1000000) (hp:∀ p∈l,isPart b p=true) (ho:l.Pairwise LexLt) :
 Calls Tryz.prog 8 #[.agg #[vr,vg,vm,vs,vc],.slice la n lc] w fun e w'=>e=.returned (.bool true)/\Below w.heap.size w w':=by
 subst hn;have HB:=Hh hB;have HL:=Hh hL;have HG:=Hh hG;have HP:=Hh hp;have HO:=Hh ho;clear hB hG hL hp ho
 go_enter Tryz.func8,Tryz.ntmps8
 go_wp2;obtain ⟨W0,hW0⟩:∃ W0,W0=w.alloc (.cells #[vr,vg,vm,vs,vc] 26):=⟨_,rfl⟩;rw [<- hW0];have hb0:Below w.heap.size w W0:=by rw [hW0];(exact bel)
 have nn:∀ k u,(#[vr,vg,vm,vs,vc]:Array Value)[k]? = some u->W0.cell? ⟨w.heap.size,k,none⟩=some u:=fun k u hk=>by
  rw [hW0,World.cell?_alloc_at _ _ _ _ rfl];exact hk
 have c0:=nn 0 _ rfl;have c1:=nn 1 _ rfl;have c2:=nn 2 _ rfl;have c3:=nn 3 _ rfl;have c4:=nn 4 _ rfl;have hs0:w.heap.size < W0.heap.size:=by rw [hW0];simp
 have HB0:=Hh hb0;clear hW0 nn hb0;go_loopw [5] (fun i wr=>∃ k:Nat,k<=l.length/\i=.int .i64 k/\Below W0.heap.size W0 wr) (fun i _=>l.length - (intOf i).toNat)
 case atStart=>exact ⟨0,Nat.zero_le _,rfl,Below.refl _ _⟩
 case round =>
  obtain ⟨k,hk,rfl,hW⟩:=hrel;have hWs:=hW.size;have hbr:=Below.next HB0.out hW;by_cases hlt:k < l.length
  ·obtain ⟨lb,lo,rfl,hlb,e0,e1⟩:=HL.out k hlt;have d0:=(hbr.cell (p:=⟨lb,lo+k * 2,none⟩) hlb).trans e0;have d1:=(hbr.cell (p:=⟨lb,lo+k * 2+1,none⟩) hlb).trans e1;have x0:=(hW.cell (p:=⟨w.heap.size,0,none⟩) hs0).trans c0;have x1:=(hW.cell (p:=⟨w.heap.size,1,none⟩) hs0).trans c1;have x2:=(hW.cell (p:=⟨w.heap.size,2,none⟩) hs0).trans c2;have x3:=(hW.cell (p:=⟨w.heap.size,3,none⟩) hs0).trans c3;have x4:=(hW.cell (p:=⟨w.heap.size,4,none⟩) hs0).trans c4;have hlb2:lb < wr.heap.size:=Nat.lt_of_lt_of_le hlb hbr.size;have hx2:w.heap.size < wr.heap.size:=by omega
   have HI:=Hh (HP.out _ (List.getElem_mem hlt));have HBr:=Hh (HB.out.below hbr);by_cases h0:k=0
   ·subst h0;generalize l[0]=q at d0 d1 HI e0 e1;obtain ⟨qm,qg⟩:=q;have d8:wr.cell? ⟨lb,lo,none⟩=some (.int .i64 qm):=by simpa using d0
    have d9:wr.cell? ⟨lb,lo+1,none⟩=some (.int .i64 qg):=by simpa using d1
    clear e0 e1 c0 c1 c2 c3 c4 hbr d0 d1;go_wp2
    (refine wp_region_bel (by kernel_rfl) (by kernel_rfl) ?_;(repeat (go_big_quiet_step ((go_at_call 42;with_reducible exact Calls.bel_of (rIs_at (p:=(qm,qg)) (HBr.out.below (later_below _ _)) HG.out HI.out)))));refine wpQuiet_nil ?_;rintro _ ⟨xq,rfl⟩)
    go_wp2;go_roundw
    case rel=>exact ⟨1,by omega,by go_num,Below.next hW (later_below _ _)⟩
    case measure=>simp [intOf];omega
   ·obtain ⟨j,rfl⟩:∃ j,k=j+1:=⟨k - 1,by omega⟩;obtain ⟨lb',lo',e',hlb',e2,e3⟩:=HL.out j (by omega);cases e';have y0:=(hbr.cell (p:=⟨lb,lo+j * 2,none⟩) hlb).trans e2;have y1:=(hbr.cell (p:=⟨lb,lo+j * 2+1,none⟩) hlb).trans e3;have hlx:=List.pairwise_iff_getElem.1 HO.out j (j+1) (by omega) hlt (by omega);generalize l[j]=r at y0 y1 hlx e2 e3;generalize l[j+1]=q at d0 d1 HI hlx e0 e1;obtain ⟨qm,qg⟩:=q;obtain ⟨rm,rg⟩:=r;simp only at d0 d1 y0 y1;unfold LexLt at hlx;simp only at hlx;have hwj:IntKind.i64.wrap (((j+1:Nat):Int) - 1)=(j:Int):=by rw [wrapI (by omega) (by omega)];simp
    have hgt:decide ((0:Int) < ((j+1:Nat):Int))=true:=by simp
    have h1:decide (qm < rm)=false:=by rw [decide_eq_false_iff_not];omega
    clear e0 e1 e2 e3 c0 c1 c2 c3 c4 hbr;by_cases hm:qm=rm
    ·have h2:(qm == rm)=true:=by rw [beq_iff_eq];exact hm
     have h3:decide (qg<=rg)=false:=by rw [decide_eq_false_iff_not];omega
     clear hlx hm;go_wp2
     (refine wp_region_bel (by kernel_rfl) (by kernel_rfl) ?_;(repeat (go_big_quiet_step ((go_at_call 42;with_reducible exact Calls.bel_of (rIs_at (p:=(qm,qg)) (HBr.out.below (later_below _ _)) HG.out HI.out)))));refine wpQuiet_nil ?_;rintro _ ⟨xq,rfl⟩)
     go_wp2;go_roundw
     case rel=>exact ⟨j+1+1,by omega,by go_num,Below.next hW (later_below _ _)⟩
     case measure=>simp [intOf];omega
    ·have h2:(qm == rm)=false:=by rw [beq_eq_false_iff_ne];exact hm
     clear hlx hm;go_wp2
     (refine wp_region_bel (by kernel_rfl) (by kernel_rfl) ?_;(repeat (go_big_quiet_step ((go_at_call 42;with_reducible exact Calls.bel_of (rIs_at (p:=(qm,qg)) (HBr.out.below (later_below _ _)) HG.out HI.out)))));refine wpQuiet_nil ?_;rintro _ ⟨xq,rfl⟩)
     go_wp2;go_roundw
     case rel=>exact ⟨j+1+1,by omega,by go_num,Below.next hW (later_below _ _)⟩
     case measure=>simp [intOf];omega
  ·obtain rfl:k=l.length:=by omega
   go_wp2;go_ret;exact ⟨rfl,hbr⟩
end
section
variable {b:Bk} {vr vg vm vs vc:Value} {w:World}
theorem loads_at (hB:BookAt w b vr vg vm vs vc) (hms:b.ms.length<=20) {la:Option Addr} {lc n:Nat} {l:List Prt} (hL:PartsAt w la l) (hn:n=l.length) (hll:l.length<=5000) (hp:∀ p∈l,isPart b p=true) :
 Calls Tryz.prog 9 #[.agg #[vr,vg,vm,vs,vc],.slice la n lc] w (NumsRet w (loadsOf b.ms.length l)):=by
 subst hn;have HL:=Hh hL;have HPT:=Hh hp;have hmk:=run_make_row' (P:=Tryz.prog) 35 3 (.int .i64 0) 8 Tryz.underlying35 intInfo rfl .i64 .i64 b.ms.length (by omega) (by omega);obtain ⟨rfl,rfl,⟨ma,mc,rfl,_,_⟩,⟨sa,sc,rfl,_,_⟩,ra,rc,rfl,_,_⟩:=id hB;clear hB hL hp
 go_enter Tryz.func9,Tryz.ntmps9
 go_wp2;obtain ⟨W0,hW0⟩:∃ W0,W0=((w.alloc (.cells #[.int .i64 b.room,.int .i64 b.gap,.slice ma b.ms.length mc,.slice sa b.ss.length sc,.slice ra b.rs.length rc] 26)).alloc (.cells (madeCells #[.int .i64 0] b.ms.length) 3)):=⟨_,rfl⟩;rw [<- hW0];have hb0:Below w.heap.size w W0:=by rw [hW0];(exact bel)
 have hs0:W0.heap.size=w.heap.size+1+1:=by rw [hW0];simp
 have hR:RowAt W0 (w.heap.size+1) (List.replicate b.ms.length 0):=by
  rw [hW0];simpa using RowAt.made (w.alloc (.cells #[.int .i64 b.room,.int .i64 b.gap,.slice ma b.ms.length mc,.slice sa b.ss.length sc,.slice ra b.rs.length rc] 26)) b.ms.length 3
 have HR:=Hh hR;clear hW0 hR hmk;go_loopw [6] (fun i wr=>∃ (k:Nat),k<=l.length/\i=.int .i64 k/\KS (fun j=>j≠w.heap.size+1) W0 wr/\RowAt wr (w.heap.size+1) (loadsOf b.ms.length (l.take k))) (fun i _=>l.length - (intOf i).toNat)
 case atStart=>exact ⟨0,Nat.zero_le _,rfl,KS.refl _ _,by rw [List.take_zero,loadsOf_nil];exact HR.out⟩
 case round =>
  obtain ⟨k,hk,rfl,hW,hrw⟩:=hrel;have hWs:=hW.size;have hRl:=hrw.lt;by_cases hlt:k < l.length
  ·obtain ⟨pb,po,rfl,hpb,d0,d1⟩:=HL.out k hlt;have hpb0:pb < W0.heap.size:=Nat.lt_of_lt_of_le hpb hb0.size;have e0:=(hW.cell (x:=⟨pb,po+k * 2,none⟩) hpb0 (by simp only;omega)).trans ((hb0.cell (p:=⟨pb,po+k * 2,none⟩) hpb).trans d0);have hpr:pb < wr.heap.size:=Nat.lt_of_lt_of_le hpb0 hWs;have hp:=HPT.out _ (List.getElem_mem hlt);obtain ⟨q,hq,hqn⟩:∃ q:Nat,l[k].1=q/\q < b.ms.length:=by
    unfold isPart inB at hp;simp only [Bool.and_eq_true,decide_eq_true_eq] at hp;exact ⟨l[k].1.toNat,by omega,by omega⟩
   have htk:=List.take_succ_eq_append_getElem hlt;have hsn:=loadsOf_snoc b.ms.length (l.take k) l[k] hq hqn;rw [<- htk] at hsn;have hql:q < (loadsOf b.ms.length (l.take k)).length:=by rw [loadsOf_length];exact hqn
   have hc:=hrw.c q hql;have hf:=hrw.f q hql;have hset:=hrw.set hql ((loadsOf b.ms.length (l.take k))[q]+1);rw [<- hsn] at hset;have hbd:=loadsOf_bd b.ms.length (l.take k) _ (List.getElem_mem hql);have htl:=List.length_take_le k l;generalize (loadsOf b.ms.length (l.take k))[q]=y at hc hset hbd;generalize hx:l[k]=x at e0 hq hset d0 d1;obtain ⟨x1,x2⟩:=x;simp only at hq e0 hset;subst hq;have HSET:=Hh hset;have hwy:IntKind.i64.wrap (y+1)=y+1:=IntWalk.i64_in _ (by omega);clear hset hrw htk hsn hx hp d0 d1;go_wp2;go_roundw
   case rel=>exact ⟨k+1,by omega,by go_num,hW.trans (KS.setCell (by simp) _ _),HSET.out⟩
   case measure=>simp [intOf];omega
  ·obtain rfl:k=l.length:=by omega
   rw [List.take_length] at hrw;have HRW:=Hh hrw;clear hrw;go_wp2;go_ret;exact ⟨some ⟨w.heap.size+1,0,none⟩,b.ms.length,by rw [loadsOf_length];rfl,HRW.out.ints,hb0.trans (KS.toBelow (n:=w.heap.size) hW (by omega) (fun k hk=>by omega))⟩
end
end
section
open Go.RowKit Sp
def fitP (n:Int) (x:Int × Int):Prop:=¬ (x.1 < -1\/n<=x.1\/¬ (x.1=-1↔x.2=0))
def heldL:List (Int × Int)->Int->Int
 | [],_=>0
 | x::l,j=>(if x.1=j then x.2 else 0)+heldL l j
def mostL (m:Int):List Int->Int
 | []=>m
 | x::l=>mostL (max m x) l
theorem mostL_le (m:Int):∀ l:List Int,m<=mostL m l:=fun l=>by
 induction l generalizing m with
 | nil=>exact Int.le_refl _
 | cons x l ih=>exact Int.le_trans (by omega) (ih (max m x))
theorem mostL_in (m:Int):∀ (l:List Int),mostL m l=m\/mostL m l∈l:=fun l=>by
 induction l generalizing m with
 | nil=>exact .inl rfl
 | cons x l ih =>
  show mostL (max m x) l=m\/mostL (max m x) l∈x::l;rcases ih (max m x) with h | h
  ·rw [h];by_cases hx:x<=m
   ·exact .inl (by omega)
   ·exact .inr (by rw [show max m x=x by omega];simp)
  ·exact .inr (by simp [h])
theorem mostL_snoc (m:Int) (l:List Int) (x:Int):mostL m (l ++ [x])=max (mostL m l) x:=by
 induction l generalizing m with
 | nil=>rfl
 | cons y l ih=>exact ih _
theorem heldL_none:∀ {l:List (Int × Int)} {j:Int},(∀ x∈l,x.1≠j)->heldL l j=0
 | [],_,_=>rfl
 | x::l,j,h=>by
  unfold heldL;rw [if_neg (h x (by simp)),heldL_none fun y hy=>h y (by simp [hy])];rfl
theorem heldL_nn:∀ {l:List (Int × Int)} {j:Int},(∀ x∈l,0<=x.2)->0<=heldL l j
 | [],_,_=>Int.le_refl _
 | x::l,j,h=>by
  unfold heldL;have h1:=heldL_nn (l:=l) (j:=j) fun y hy=>h y (by simp [hy]);have h2:=h x (by simp);split <;> omega
theorem heldL_pos:∀ {l:List (Int × Int)} {j:Int} {x:Int × Int},(∀ x∈l,0<=x.2)->x∈l->x.1=j->x.2≠0->0 < heldL l j
 | y::l,j,x,h,hx,e,h0=>by
  unfold heldL;have h1:=heldL_nn (l:=l) (j:=j) fun y hy=>h y (by simp [hy]);have h2:=h y (by simp);rcases List.mem_cons.1 hx with rfl | hx
  ·rw [if_pos e];omega
  ·have:=heldL_pos (fun y hy=>h y (by simp [hy])) hx e h0;split <;> omega
theorem getD_set {l:List Int} {k:Nat} (h:k < l.length) (v:Int) (j:Nat):(l.set k v).getD j 0=if k=j then v else l.getD j 0:=by
 simp only [List.getD_eq_getElem?_getD,List.getElem?_set];by_cases e:k=j
 ·subst e;simp [h]
 ·simp [e]
theorem getD_fill (l:List Int) (n j:Nat):(l ++ List.replicate n 0).getD j 0=l.getD j 0:=by
 simp only [List.getD_eq_getElem?_getD];by_cases h:j < l.length
 ·rw [List.getElem?_append_left h]
 ·rw [List.getElem?_append_right (by omega),List.getElem?_eq_none (l:=l) (by omega)]
  cases hg:(List.replicate n (0:Int))[j - l.length]? with
  | none=>rfl
  | some y =>
   have:=List.eq_of_mem_replicate (List.mem_of_getElem? hg);simp [this]
theorem tapeStep_char {n:Int} {out:List Int} {k ld:Int} (h:fitP n (k,ld)):∃ o,tapeStep n out k ld=some o/\(o.length:Int)=max (out.length:Int) (k+1)/\∀ j:Nat,o.getD j 0=out.getD j 0+if k=(j:Int) then ld else 0:=by
 unfold fitP at h;simp only at h;unfold tapeStep;rw [if_neg h];by_cases h0:k < 0
 ·rw [if_pos h0];exact ⟨out,rfl,by omega,fun j=>by rw [if_neg (by omega)];omega⟩
 ·rw [if_neg h0];refine ⟨_,rfl,?_,fun j=>?_⟩
  ·rw [List.length_set,List.length_append,List.length_replicate];omega
  ·rw [getD_set (by rw [List.length_append,List.length_replicate];omega),getD_fill,getD_fill];by_cases e:k.toNat=j
   ·rw [if_pos e,if_pos (by omega),e]
   ·rw [if_neg e,if_neg (by omega)];omega
theorem tapesGo_char {n:Int}:∀ (l:List (Int × Int)) (out:List Int),(∀ x∈l,fitP n x)->∃ o,tapesGo n out l=some o/\(o.length:Int)=mostL ((out.length:Int) - 1) (l.map Prod.fst)+1/\∀ j:Nat,o.getD j 0=out.getD j 0+heldL l j
 | [],out,_=>⟨out,rfl,by simp [mostL],fun j=>by simp [heldL]⟩
 | (k,ld)::l,out,h=>by
  obtain ⟨o1,e1,h1,h2⟩:=tapeStep_char (out:=out) (h (k,ld) (by simp));obtain ⟨o,e2,h3,h4⟩:=tapesGo_char l o1 fun x hx=>h x (by simp [hx]);refine ⟨o,?_,?_,fun j=>?_⟩
  ·show (tapeStep n out k ld).bind _=_;rw [e1];exact e2
  ·rw [h3,h1];show mostL _ _+1=mostL (max _ k) _+1;rw [show max (out.length:Int) (k+1) - 1=max ((out.length:Int) - 1) k by omega]
  ·rw [h4,h2];show _=_+((if k=(j:Int) then ld else 0)+heldL l j);omega
theorem tapesGo_fit {n:Int}:∀ (l:List (Int × Int)) (out o:List Int),tapesGo n out l=some o->∀ x∈l,fitP n x
 | [],_,_,_,x,hx=>by cases hx
 | (k,ld)::l,out,o,h,x,hx=>by
  have h:(tapeStep n out k ld).bind (fun o=>tapesGo n o l)=some o:=h
  cases e:tapeStep n out k ld with
  | none=>rw [e] at h;cases h
  | some o1 =>
   rw [e] at h;rcases List.mem_cons.1 hx with rfl | hx
   ·intro hc;unfold tapeStep at e;rw [if_pos hc] at e;cases e
   ·exact tapesGo_fit l o1 o h x hx
theorem zip_fst {l m:List Int} (h:l.length=m.length):(l.zip m).map Prod.fst=l:=List.map_fst_zip (by omega)
theorem mem_of_held {l:List (Int × Int)} {j:Int} (h:heldL l j≠0):∃ x∈l,x.1=j:=Classical.byContradiction fun hc=>h (heldL_none fun x hx e=>hc ⟨x,hx,e⟩)
theorem planOk_mk {loads plan:List Int} (hl:loads.length=plan.length) (h0:∀ x∈loads,0<=x) (h:∀ x∈plan.zip loads,fitP plan.length x) (ha:∀ k:Nat,(k:Int)<=mostL (-1) plan->(k:Int)∈plan):∃ o,planOk loads plan=some o:=by
 obtain ⟨o,e,h1,h2⟩:=tapesGo_char (plan.zip loads) [] h;rw [zip_fst hl.symm] at h1;refine ⟨o,?_⟩;unfold planOk tapesI;rw [e];show (if 0∈o then none else some o)=some o;rw [if_neg fun hm=>?_];obtain ⟨j,hj,ej⟩:=List.mem_iff_getElem.1 hm;have h3:=h2 j;rw [List.getD_eq_getElem?_getD,List.getElem?_eq_getElem hj,Option.getD_some,ej] at h3;have hin:=ha j (by rw [show ((([]:List Int).length:Int) - 1)=-1 from rfl] at h1;omega);obtain ⟨i,hi,ei⟩:=List.mem_iff_getElem.1 hin;have hz:(plan[i],loads[i]'(by omega))∈plan.zip loads:=List.mem_iff_getElem.2 ⟨i,by rw [List.length_zip];omega,by simp⟩;have hf:=h _ hz;have:=heldL_pos (j:=(j:Int)) (fun x hx=>h0 _ (List.of_mem_zip hx).2) hz ei (fun hc=>hf (.inr (.inr fun hb=>by have:=hb.2 hc;omega)));simp at h3;omega
theorem planOk_inv {loads plan o:List Int} (hl:loads.length=plan.length) (h:planOk loads plan=some o) :
 (∀ x∈plan.zip loads,fitP plan.length x)/\(o.length:Int)=mostL (-1) plan+1/\(∀ k:Nat,k < o.length->(k:Int)∈plan)/\(∀ k:Nat,o.getD k 0=heldL (plan.zip loads) k)/\0 ∉ o:=by
 unfold planOk tapesI at h
 cases e:tapesGo plan.length [] (plan.zip loads) with
 | none=>rw [e] at h;cases h
 | some o1 =>
  rw [e] at h;have h:(if 0∈o1 then none else some o1)=some o:=h;split at h
  ·cases h
  ·rename_i hz
   cases h;have hf:=tapesGo_fit _ _ _ e;obtain ⟨o2,e2,h1,h2⟩:=tapesGo_char (plan.zip loads) [] hf;rw [e] at e2;cases e2;rw [zip_fst hl.symm] at h1;have h3:∀ k:Nat,o.getD k 0=heldL (plan.zip loads) k:=fun k=>by rw [h2 k];simp
   refine ⟨hf,h1,fun k hk=>?_,h3,hz⟩;have hne:heldL (plan.zip loads) k≠0:=fun hc=>hz (by
    rw [<- h3,List.getD_eq_getElem?_getD,List.getElem?_eq_getElem hk,Option.getD_some] at hc
    rw [<- hc];exact List.getElem_mem hk)
   obtain ⟨x,hx,ex⟩:=mem_of_held hne;rw [<- ex];exact (List.of_mem_zip hx).1
theorem plansFrom_in {loads:List Int}:∀ (rest pre suf o:List Int),suf.length=rest.length->planOk loads (pre ++ suf)=some o->(∀ x∈suf.zip rest,fitP loads.length x)->(pre ++ suf,o)∈plansFrom loads pre rest
 | [],pre,suf,o,hl,h,_=>by
  have:suf=[]:=List.length_eq_zero_iff.1 hl;subst this;rw [List.append_nil] at h ⊢;unfold plansFrom;rw [h];simp
 | ld::rest,pre,[],o,hl,h,_=>by simp at hl
 | ld::rest,pre,k::suf,o,hl,h,hf=>by
  have hk:=hf (k,ld) (by simp);unfold plansFrom;refine List.mem_flatMap.2 ⟨k,?_,?_⟩
  ·unfold fitP at hk;simp only at hk;by_cases h0:ld=0
   ·rw [if_pos h0];have:k=-1:=by omega
    simp [this]
   ·rw [if_neg h0];refine List.mem_map.2 ⟨k.toNat,List.mem_range.2 (by omega),by omega⟩
  ·have:=plansFrom_in rest (pre ++ [k]) suf o (by simpa using hl) (by simpa using h) fun x hx=>hf x (by simp [hx]);simpa using this
theorem plansI_in {loads plan o:List Int} (hl:loads.length=plan.length) (h:planOk loads plan=some o):(plan,o)∈plansI loads:=by
 have hf:=(planOk_inv hl h).1;have:=plansFrom_in (loads:=loads) loads [] plan o hl.symm (by simpa using h) (by rw [hl];exact hf);simpa [plansI] using this
theorem lesser_pre:∀ (p a b:List Int),lesserI (p ++ a) (p ++ b)=lesserI a b
 | [],_,_=>rfl
 | x::p,a,b=>by
  have:lesserI (x::(p ++ a)) (x::(p ++ b))=lesserI (p ++ a) (p ++ b):=by rw [lesserI,if_pos rfl]
  exact this.trans (lesser_pre p a b)
theorem plansFrom_pre {loads:List Int}:∀ (rest pre:List Int) (x:List Int × List Int),x∈plansFrom loads pre rest->∃ s,x.1=pre ++ s
 | [],pre,x,h=>by
  unfold plansFrom at h;split at h
  ·simp at h;exact ⟨[],by rw [h];simp⟩
  ·cases h
 | ld::rest,pre,x,h=>by
  unfold plansFrom at h;obtain ⟨k,_,hx⟩:=List.mem_flatMap.1 h;obtain ⟨s,e⟩:=plansFrom_pre rest (pre ++ [k]) x hx;exact ⟨k::s,by rw [e];simp⟩
theorem plansFrom_sorted {loads:List Int}:∀ (rest pre:List Int),(plansFrom loads pre rest).Pairwise fun x y=>lesserI x.1 y.1=true
 | [],pre=>by
  unfold plansFrom;split
  ·exact List.pairwise_singleton _ _
  ·exact List.Pairwise.nil
 | ld::rest,pre=>by
  unfold plansFrom;rw [List.pairwise_flatMap];refine ⟨fun k _=>plansFrom_sorted rest (pre ++ [k]),?_⟩;refine List.Pairwise.imp (R:=fun (a b:Int)=>a < b) (fun {a b} hab x hx y hy=>?_) ?_
  ·obtain ⟨s,e⟩:=plansFrom_pre rest _ x hx;obtain ⟨t,e2⟩:=plansFrom_pre rest _ y hy;rw [e,e2,List.append_assoc,List.append_assoc,lesser_pre];show lesserI (a::s) (b::t)=true;unfold lesserI;rw [if_neg (by omega)];simp [hab]
  ·split
   ·exact List.pairwise_singleton _ _
   ·rw [List.pairwise_map];exact List.pairwise_lt_range.imp fun {a b} h=>by omega
theorem plansI_sorted (loads:List Int):(plansI loads).Pairwise fun x y=>lesserI x.1 y.1=true:=plansFrom_sorted loads []
theorem lesser_asymm {a b:List Int} (h:lesserI a b=true):lesserI b a=false:=by
 cases e:lesserI b a with
 | false=>rfl
 | true=>have:=lesser_trans h e;rw [lesser_irrefl] at this;cases this
def PackInv (b:Bk) (now:Int) (l:List (List Int × List Int)):Option (List Int × List Int)->Prop
 | none=>∀ x∈l,goodI b x.1 x.2 now=false
 | some y=>∃ l1 l2,l=l1 ++ y::l2/\goodI b y.1 y.2 now=true/\(∀ x∈l1,goodI b x.1 x.2 now=true->y.2.length < x.2.length)/\(∀ x∈l2,goodI b x.1 x.2 now=true->y.2.length<=x.2.length)
theorem pack_step {b:Bk} {now:Int} {l:List (List Int × List Int)} {st:Option (List Int × List Int)} (x:List Int × List Int) (h:PackInv b now l st):PackInv b now (l ++ [x]) (packStep b now st x):=by
 unfold packStep
 cases st with
 | none =>
  cases hg:goodI b x.1 x.2 now with
  | false =>
   simp only [Bool.false_and,Bool.false_eq_true,if_false];intro y hy;rcases List.mem_append.1 hy with hy | hy
   ·exact h y hy
   ·rw [List.mem_singleton.1 hy];exact hg
  | true =>
   simp only [Bool.and_true,if_true];exact ⟨l,[],rfl,hg,fun y hy hc=>(by rw [h y hy] at hc;cases hc),fun y hy=>(by cases hy)⟩
 | some y =>
  obtain ⟨l1,l2,rfl,h1,h2,h3⟩:=h;by_cases hc:goodI b x.1 x.2 now=true/\x.2.length < y.2.length
  ·rw [if_pos (by simp [hc.1,hc.2])];refine ⟨l1 ++ y::l2,[],rfl,hc.1,fun z hz hg=>?_,fun z hz=>(by cases hz)⟩;rcases List.mem_append.1 hz with hz | hz
   ·have:=h2 z hz hg;omega
   ·rcases List.mem_cons.1 hz with rfl | hz
    ·exact hc.2
    ·have:=h3 z hz hg;omega
  ·rw [if_neg (by simpa using hc)];refine ⟨l1,l2 ++ [x],by simp,h1,h2,fun z hz hg=>?_⟩;rcases List.mem_append.1 hz with hz | hz
   ·exact h3 z hz hg
   ·rw [List.mem_singleton.1 hz] at hg ⊢;have:¬ x.2.length < y.2.length:=fun h=>hc ⟨hg,h⟩;omega
theorem pack_inv_go (b:Bk) (now:Int):∀ (m l:List (List Int × List Int)) (st:Option (List Int × List Int)),PackInv b now l st->PackInv b now (l ++ m) (m.foldl (packStep b now) st)
 | [],l,st,h=>by simpa using h
 | x::m,l,st,h=>by
  have:=pack_inv_go b now m (l ++ [x]) _ (pack_step x h);simpa using this
theorem pack_inv (b:Bk) (loads:List Int) (now:Int):PackInv b now (plansI loads) (packI b loads now):=by
 have:=pack_inv_go b now (plansI loads) [] none (fun x hx=>by cases hx);simpa [packI] using this
theorem pack_law {b:Bk} {loads:List Int} {now:Int} {y:List Int × List Int} (h:packI b loads now=some y) :
 y∈plansI loads/\goodI b y.1 y.2 now=true/\∀ x∈plansI loads,goodI b x.1 x.2 now=true->y.2.length < x.2.length\/y.2.length=x.2.length/\lesserI x.1 y.1=false:=by
 have hi:=pack_inv b loads now;have hs:=plansI_sorted loads;rw [h] at hi;obtain ⟨l1,l2,e,h1,h2,h3⟩:=hi;rw [e] at hs ⊢;refine ⟨by simp,h1,fun x hx hg=>?_⟩;rcases List.mem_append.1 hx with hx | hx
 ·exact .inl (h2 x hx hg)
 ·rcases List.mem_cons.1 hx with rfl | hx
  ·exact .inr ⟨rfl,lesser_irrefl _⟩
  ·have h4:=h3 x hx hg;have h5:=(List.pairwise_cons.1 (List.pairwise_append.1 hs).2.1).1 x hx;by_cases hl:y.2.length=x.2.length
   ·exact .inr ⟨hl,lesser_asymm h5⟩
   ·exact .inl (by omega)
theorem pack_none {b:Bk} {loads:List Int} {now:Int} (h:packI b loads now=none):∀ x∈plansI loads,goodI b x.1 x.2 now=false:=by
 have hi:=pack_inv b loads now;rw [h] at hi;exact hi
def planGo (p loads:List Int):Nat->List Int × Nat
 | 0=>([],0)
 | k+1=>if loads.getD k 0=0 then ((planGo p loads k).1 ++ [-1],(planGo p loads k).2)
  else ((planGo p loads k).1 ++ [choiceI p k % (((planGo p loads k).2:Int)+1)],if choiceI p k % (((planGo p loads k).2:Int)+1)=((planGo p loads k).2:Int) then (planGo p loads k).2+1 else (planGo p loads k).2)
def turnK (f:Nat) (k:Int):Int:=if 0<=k then (f:Int) - 1 - k else k
def planP (p loads:List Int):List Int:=if choiceI p loads.length % 2=1 then (planGo p loads loads.length).1.map (turnK (planGo p loads loads.length).2) else (planGo p loads loads.length).1
structure PlanV (loads out:List Int) (f:Nat) (k:Nat):Prop where
 len:out.length=k
 few:f<=k
 at':∀ i (h:i < out.length),(loads.getD i 0=0->out[i]=-1)/\(loads.getD i 0≠0->0<=out[i]/\out[i] < (f:Int))
 all:∀ j:Nat,j < f->(j:Int)∈out
theorem planGo_v (p loads:List Int):∀ k,PlanV loads (planGo p loads k).1 (planGo p loads k).2 k
 | 0=>⟨rfl,Nat.le_refl _,fun i h=>absurd h (by simp [planGo]),fun j h=>absurd h (by simp [planGo])⟩
 | k+1=>by
  have ih:=planGo_v p loads k;unfold planGo;obtain ⟨h1,h2,h3,h4⟩:=ih;generalize (planGo p loads k).1=out at *;generalize (planGo p loads k).2=f at *;by_cases h0:loads.getD k 0=0
  ·rw [if_pos h0];refine ⟨by simp [h1],by simp only;omega,fun i hi=>?_,fun j hj=>by simp [h4 j hj]⟩;by_cases hk:i < out.length
   ·simp only [List.getElem_append_left hk];exact h3 i hk
   ·have:i=k:=by simp at hi;omega
    subst this;simp only [List.getElem_append_right (Nat.le_of_not_lt hk),List.getElem_singleton];exact ⟨fun _=>trivial,fun h=>absurd h0 h⟩
  ·rw [if_neg h0];have hc0:=Int.emod_nonneg (choiceI p k) (show ((f:Int)+1)≠0 by omega);have hc1:=Int.emod_lt_of_pos (choiceI p k) (show 0 < ((f:Int)+1) by omega);generalize choiceI p k % ((f:Int)+1)=c at hc0 hc1;by_cases hc:c=(f:Int)
   ·rw [if_pos hc];refine ⟨by simp [h1],by simp only;omega,fun i hi=>?_,fun j hj=>?_⟩
    ·by_cases hk:i < out.length
     ·simp only [List.getElem_append_left hk];exact ⟨(h3 i hk).1,fun h=>by have:=(h3 i hk).2 h;omega⟩
     ·have:i=k:=by simp at hi;omega
      subst this;simp only [List.getElem_append_right (Nat.le_of_not_lt hk),List.getElem_singleton];exact ⟨fun h=>absurd h h0,fun _=>by omega⟩
    ·by_cases hj2:j < f
     ·simp [h4 j hj2]
     ·have:j=f:=by simp only at hj;omega
      subst this;simp [hc]
   ·rw [if_neg hc];refine ⟨by simp [h1],by simp only;omega,fun i hi=>?_,fun j hj=>by simp [h4 j hj]⟩;by_cases hk:i < out.length
    ·simp only [List.getElem_append_left hk];exact h3 i hk
    ·have:i=k:=by simp at hi;omega
     subst this;simp only [List.getElem_append_right (Nat.le_of_not_lt hk),List.getElem_singleton];exact ⟨fun h=>absurd h h0,fun _=>by omega⟩
theorem PlanV.turn {loads out:List Int} {f k:Nat} (h:PlanV loads out f k):PlanV loads (out.map (turnK f)) f k:=by
 obtain ⟨h1,h2,h3,h4⟩:=h;refine ⟨by simp [h1],h2,fun i hi=>?_,fun j hj=>?_⟩
 ·have hk:i < out.length:=by simpa using hi
  rw [List.getElem_map];obtain ⟨h5,h6⟩:=h3 i hk;refine ⟨fun h=>?_,fun h=>?_⟩
  ·rw [h5 h];rfl
  ·have:=h6 h;unfold turnK;rw [if_pos this.1];omega
 ·refine List.mem_map.2 ⟨((f - 1 - j:Nat):Int),h4 _ (by omega),?_⟩;unfold turnK;rw [if_pos (by omega)];omega
theorem planP_v (p loads:List Int):PlanV loads (planP p loads) (planGo p loads loads.length).2 loads.length:=by
 unfold planP;split
 ·exact (planGo_v p loads _).turn
 ·exact planGo_v p loads _
theorem planP_len (p loads:List Int):(planP p loads).length=loads.length:=(planP_v p loads).len
theorem PlanV.ok {loads out:List Int} {f:Nat} (h:PlanV loads out f loads.length) (h0:∀ x∈loads,0<=x):∃ o,planOk loads out=some o:=by
 obtain ⟨h1,h2,h3,h4⟩:=h;have hlt:∀ x∈out,x < (f:Int):=fun x hx=>by
  obtain ⟨i,hi,rfl⟩:=List.mem_iff_getElem.1 hx;obtain ⟨h5,h6⟩:=h3 i hi;by_cases hz:loads.getD i 0=0
  ·rw [h5 hz];omega
  ·exact (h6 hz).2
 refine planOk_mk h1.symm h0 (fun x hx=>?_) (fun k hk=>h4 k ?_)
 ·obtain ⟨i,hi,e⟩:=List.mem_iff_getElem.1 hx;have hi1:i < out.length:=by rw [List.length_zip] at hi;omega
  have hi2:i < loads.length:=by omega
  rw [List.getElem_zip] at e;subst e;obtain ⟨h5,h6⟩:=h3 i hi1;have e2:loads.getD i 0=loads[i]:=by rw [List.getD_eq_getElem?_getD,List.getElem?_eq_getElem hi2,Option.getD_some]
  rw [e2] at h5 h6;unfold fitP;simp only;by_cases hz:loads[i]=0
  ·have:=h5 hz;omega
  ·have:=h6 hz;omega
 ·rcases mostL_in (-1) out with h7 | h7
  ·omega
  ·have:=hlt _ h7;omega
theorem planP_ok (p:List Int) {loads:List Int} (h0:∀ x∈loads,0<=x):∃ o,planOk loads (planP p loads)=some o:=(planP_v p loads).ok h0
end
section
open Go
section
variable {P:Program} {md:Region.Mode} {ops:Array Oper} {Q:Exit->Act->World->Prop} {S T:World->Prop} {d:Nat}
def wpAnyD (P:Program) (md:Region.Mode) (ops:Array Oper) (Q:Exit->Act->World->Prop) (S T:World->Prop) (d:Nat):Nat->Array Bool->Act->World->Prop
 | 0,listed,a,w=>Region.ready md ops listed=[]/\Q .normal a w
 | fuel+1,listed,a,w =>
  (Region.ready md ops listed=[]->Q .normal a w) /\
  ∀ i∈Region.ready md ops listed,wpOp P ops Q i (fun a' w'=>(S w'/\((listed.setIfInBounds i true).getD d true=false->T w'))/\wpAnyD P md ops Q S T d fuel (listed.setIfInBounds i true) a' w') a w
def Down (md:Region.Mode) (ops:Array Oper) (listed:Array Bool):Prop:=∀ (k:Nat) (ok:Oper),ops[k]? = some ok->listed.getD k false=true->∀ e∈ok.after,Region.binds md e=true->listed.getD e.on false=true
theorem Down.set {listed:Array Bool} (h:Down md ops listed) {j:Nat} (hj:j∈Region.ready md ops listed):Down md ops (listed.setIfInBounds j true):=fun k ok hk hl e he hb=>by
 by_cases hjk:j=k
 ·subst hjk;obtain ⟨_,oj,hoj,hall⟩:=mem_ready.1 hj;rw [hoj] at hk;cases hk;exact getD_set_true (hall e he hb)
 ·rw [getD_set_ne false hjk] at hl;exact getD_set_true (h k ok hk hl e he hb)
def AllReadyD (P:Program) (md:Region.Mode) (ops:Array Oper) (Q:Exit->Act->World->Prop) (S T:World->Prop) (d:Nat) (fuel:Nat) (listed:Array Bool) (a:Act) (w:World) (rs:List Nat):Prop :=
 ∀ i∈rs,wpOp P ops Q i (fun a' w'=>(S w'/\((listed.setIfInBounds i true).getD d true=false->T w'))/\wpAnyD P md ops Q S T d fuel (listed.setIfInBounds i true) a' w') a w
theorem AllReadyD.nil {fuel:Nat} {listed:Array Bool} {a:Act} {w:World}:AllReadyD P md ops Q S T d fuel listed a w []:=fun _ h=>by cases h
theorem AllReadyD.pre {fuel:Nat} {listed:Array Bool} {a:Act} {w:World} (i:Nat) {o:Oper} {rs:List Nat} (ho:ops[i]? = some o)
 (h:∀ K':Act->World->Prop,Shut (∀ a w,S w->T w->(S w->T w->wpAnyD P md ops Q S T d fuel (listed.setIfInBounds i true) a w)->K' a w)->if Region.wanted o (yielded ops a.tmps)=true then Oper.wp P o a w K' Q else K' (a.put o.dst undef) w)
 (hs:AllReadyD P md ops Q S T d fuel listed a w rs):AllReadyD P md ops Q S T d fuel listed a w (i::rs):=fun j hj=>by
 rcases List.mem_cons.1 hj with rfl | hj
 ·exact wpOp_step ho (fun K' hK=>h K' (fun a w hS hT hW=>hK a w ⟨⟨hS,fun _=>hT⟩,hW hS hT⟩))
 ·exact hs j hj
end
section
variable {P:Program} {md:Region.Mode} {ops:Array Oper} {Q:Exit->Act->World->Prop} {l:Nat}
end
end
section
open Go.RowKit Go.Maps Sp
structure Two (A:World) (B Bx:Nat) (e:TypeId) (r2:Value) (n2:Nat) (x2:List Value) (r3:Value) (n3:Nat) (x3:List Value) (w:World):Prop where
 ks:KS (fun k=>k < B\/k=Bx) A w
 base:B<=w.heap.size
 o2:w.ownsRow B e 2 r2 n2 x2
 o3:w.ownsRow B e 2 r3 n3 x3
 ap:∀ g,r2.ownBlock=some g->r3.ownBlock≠some g
 b2:∀ g,r2.ownBlock=some g->g≠Bx
 b3:∀ g,r3.ownBlock=some g->g≠Bx
 box:Bx < w.heap.size
structure Lit (B:Nat) (r2 r3:Value) (cs:List Value) (g:Nat) (w:World):Prop where
 lt:g < w.heap.size
 src:∀ j u,cs[j]? = some u->w.cell? (Addr.add ⟨g,0,none⟩ j)=some u
 a2:r2.ownBlock≠some g
 a3:r3.ownBlock≠some g
section
variable {A w w':World} {B Bx n2 n3 m:Nat} {e:TypeId} {r2 r3 v:Value} {x2 x3 xs cs:List Value} {g h:Nat}
theorem Two.lit (t:Two A B Bx e r2 n2 x2 r3 n3 x3 w) (ty:TypeId):Two A B Bx e r2 n2 x2 r3 n3 x3 (w.alloc (.cells cs.toArray ty))/\Lit B r2 r3 cs w.heap.size (w.alloc (.cells cs.toArray ty)):=by
 have hk:KS (fun _=>True) w (w.alloc (.cells cs.toArray ty)):=KS.alloc _ _ _;have hs:(w.alloc (.cells cs.toArray ty)).heap.size=w.heap.size+1:=by simp
 refine ⟨⟨t.ks.trans (KS.alloc _ _ _),by have:=t.base;omega,row_keep' t.o2 hk fun _ _=>trivial,row_keep' t.o3 hk fun _ _=>trivial,t.ap,t.b2,t.b3,by have:=t.box;omega⟩,by omega,cells_new w cs ty,fun e=>?_,fun e=>?_⟩
 ·have:=(ownBlock_row t.o2 _ e).2;omega
 ·have:=(ownBlock_row t.o3 _ e).2;omega
theorem Lit.alloc (k:Lit B r2 r3 cs g w) (o:Obj):Lit B r2 r3 cs g (w.alloc o):=by
 refine ⟨by have:=k.lt;simp;omega,fun j u hj=>?_,k.a2,k.a3⟩;have hb:(Addr.add ⟨g,0,none⟩ j).block=g:=by unfold Addr.add;split <;> rfl
 exact (World.cell?_alloc_lt w o _ (by rw [hb];exact k.lt)).trans (k.src j u hj)
end
end
end Go.Proofs.YtdjnkplgllakcaaGreatDoor
