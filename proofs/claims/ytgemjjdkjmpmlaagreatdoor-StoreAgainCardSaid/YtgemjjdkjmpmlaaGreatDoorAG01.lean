/- Leads to StoreAgain of chapter 6: G3 Law Law3 Co5 G4 G9 U10 U12 U13. -/
import Derived.Test.YtgemjjdkjmpmlaaGreatDoorAG00
import Derived.StillTailTactics
set_option maxHeartbeats 4000000
set_option maxRecDepth 100000
set_option linter.all false
namespace Go.Proofs.YtgemjjdkjmpmlaaGreatDoor
open Go.RowKit Sp
def truR (b:Bk) (c:List Int) (r:Rec):Rec :=
 if r.k=0∨r.k=1 then { r with k:=if c.getD r.a.toNat 0=(((b.ss[r.a.toNat]?).elim 0 List.length:Nat):Int) then 0 else 1 }
 else if r.k=2 then { r with m:=min r.m (c.getD r.a.toNat 0) }
 else if r.k=3 then { r with m:=max r.m (c.getD r.a.toNat 0) }
 else if r.k=4 then { r with m:=copies b c (r.a,r.b) }
 else if r.k=5 then { r with m:=haveOf b c r.a }
 else r
def truB (b:Bk) (c:List Int):Bk:={ b with rs:=b.rs.map (truR b c) }
theorem copies_bd2 {b:Bk} (hO:BkOk b) (c:List Int) (p:Prt):0≤copies b c p∧copies b c p≤(b.ss.length:Int):=by
 unfold copies
 refine ⟨Int.natCast_nonneg _,?_⟩
 have hn:=hO.nodup
 generalize b.ss=l at hn
 suffices h:(((l.zip c).map fun x=>(x.1.take x.2.toNat).count p).sum)≤l.length by omega
 induction l generalizing c with
 | nil=>simp
 | cons s l ih =>
  cases c with
  | nil=>simp
  | cons x c =>
   simp only [List.zip_cons_cons,List.map_cons,List.sum_cons,List.length_cons]
   have h1:=ih c fun s hs=>hn s (List.mem_cons_of_mem _ hs)
   have h2:(s.take x.toNat).count p≤1:=by
    have:(s.take x.toNat).Nodup:=(hn s (List.mem_cons_self ..)).sublist (List.take_sublist ..)
    rw [this.count]
    split <;> omega
   omega
theorem have_bd2 (b:Bk) (c:List Int) (m:Int):0≤haveOf b c m∧haveOf b c m≤(((b.ms[m.toNat]?).elim 0 Msg.groups).toNat:Int):=by
 unfold haveOf
 refine ⟨Int.natCast_nonneg _,?_⟩
 have:=List.length_filter_le (fun (g:Nat)=>decide (0 < copies b c (m,(g:Int)))) (List.range ((b.ms[m.toNat]?).elim 0 Msg.groups).toNat)
 rw [List.length_range] at this
 omega
theorem recAl_parts {b:Bk} {r:Rec} (h:recAl b r=0):(usesB r.k=false→r.b=0)∧(usesMany r.k=false→r.m=0)∧∃ n,most b r=some n∧0≤r.m∧r.m≤n:=by
 unfold recAl at h
 split at h
 ·cases h
 ·split at h
  ·cases h
  ·rename_i hh
   split at h
   ·cases h
   ·rename_i n hm
    split at h
    ·rename_i hi
     refine ⟨fun hu=>Classical.byContradiction fun hc=>hh (.inl ⟨hu,hc⟩),fun hu=>Classical.byContradiction fun hc=>hh (.inr ⟨hu,hc⟩),n,hm,?_⟩
     simpa [inB] using hi
    ·cases h
theorem recAl_mk {b:Bk} {r:Rec} (h0:0≤r.k∧r.k≤5) (h1:usesB r.k=false→r.b=0) (h2:usesMany r.k=false→r.m=0) {n:Int} (hm:most b r=some n) (h3:0≤r.m∧r.m≤n):recAl b r=0:=by
 unfold recAl
 rw [if_neg (by simpa [inB] using h0),if_neg (by rintro (⟨u,v⟩ | ⟨u,v⟩);exact v (h1 u);exact v (h2 u)),hm]
 simp only
 rw [if_pos (by simpa [inB] using h3)]
theorem most_sess {b:Bk} {r:Rec} (hk:r.k≤3) (ha:0≤r.a∧r.a≤(b.ss.length:Int) - 1):most b r=some (((b.ss[r.a.toNat]?).elim 0 List.length:Nat):Int):=by
 unfold most
 rw [if_pos hk,if_pos (by simpa [inB] using ha)]
theorem recAl_true {b:Bk} (hO:BkOk b) {c:List Int} (hc:Really b c) {r:Rec} (h:recAl b r=0):recAl b (truR b c r)=0:=by
 obtain ⟨k0,k5⟩:=recAl_kind h
 obtain ⟨u1,u2,n,hm,m0,mn⟩:=recAl_parts h
 by_cases h3:r.k≤3
 ·have ha:=recAl_a h h3
  obtain ⟨s,hs,c0,c1⟩:=hc.at ha.1 ha.2
  rw [most_sess h3 ha,hs] at hm
  simp only [Option.elim,Option.some.injEq] at hm
  unfold truR
  split
  ·rename_i h01
   have hb:r.b=0:=u1 (by unfold usesB;simp;omega)
   have hmm:r.m=0:=u2 (by unfold usesMany;simp;omega)
   obtain ⟨kk,hkk,hk0,hk1⟩:∃ kk:Int,(if c.getD r.a.toNat 0=(((b.ss[r.a.toNat]?).elim 0 List.length:Nat):Int) then (0:Int) else 1)=kk∧0≤kk∧kk≤1:=⟨_,rfl,by split <;> omega,by split <;> omega⟩
   rw [hkk]
   refine recAl_mk (n:=n) (by show 0≤kk∧kk≤5;omega) (fun _=>hb) (fun _=>hmm) ?_ ⟨m0,mn⟩
   exact (most_sess (r:={ r with k:=kk }) (by show kk≤3;omega) ha).trans (by rw [hs];simp [hm])
  ·split
   ·refine recAl_mk (n:=n) ⟨k0,k5⟩ u1 (fun hu=>?_) ?_ (by show 0≤min r.m _∧min r.m _≤n;omega)
    ·have:=u2 hu;exfalso;rename_i h2;rw [h2] at hu;simp [usesMany] at hu
    ·exact (most_sess h3 ha).trans (by rw [hs];simp [hm])
   ·split
    ·refine recAl_mk (n:=n) ⟨k0,k5⟩ u1 (fun hu=>?_) ?_ (by show 0≤max r.m _∧max r.m _≤n;omega)
     ·have:=u2 hu;exfalso;rename_i h2;rw [h2] at hu;simp [usesMany] at hu
     ·exact (most_sess h3 ha).trans (by rw [hs];simp [hm])
    ·exfalso;omega
 ·unfold truR
  rw [if_neg (by omega),if_neg (by omega),if_neg (by omega)]
  split
  ·rename_i h4
   have hb:=copies_bd2 hO c (r.a,r.b)
   refine recAl_mk (n:=(b.ss.length:Int)) ⟨k0,k5⟩ u1 (fun hu=>?_) ?_ hb
   ·rw [show ({ r with m:=copies b c (r.a,r.b) }:Rec).k=r.k from rfl,h4] at hu;simp [usesMany] at hu
   ·unfold most at hm ⊢
    rw [if_neg h3,if_pos h4] at hm
    rw [if_neg h3,if_pos h4]
    split at hm
    ·rename_i hp;exact if_pos hp
    ·cases hm
  ·have h5:r.k=5:=by omega
   rw [if_pos h5]
   have hb:=have_bd2 b c r.a
   unfold most at hm
   rw [if_neg h3,if_neg (by omega)] at hm
   split at hm
   ·rename_i hi
    have hi2:0≤r.a∧r.a≤(b.ms.length:Int) - 1:=by simpa [inB] using hi
    have hg:0≤((b.ms[r.a.toNat]?).elim 0 Msg.groups):=by
     rw [List.getElem?_eq_getElem (show r.a.toNat < b.ms.length by omega)]
     exact (hO.groups _ (List.getElem_mem _)).1
    refine recAl_mk (n:=(b.ms[r.a.toNat]?).elim 0 Msg.groups) ⟨k0,k5⟩ u1 (fun hu=>?_) ?_ (by show 0≤haveOf b c r.a∧haveOf b c r.a≤_;omega)
    ·rw [show ({ r with m:=haveOf b c r.a }:Rec).k=r.k from rfl,h5] at hu;simp [usesMany] at hu
    ·unfold most
     rw [if_neg h3,if_neg (by show ¬ r.k=4;omega)]
     exact if_pos hi
   ·cases hm
theorem bookAl_rs {b:Bk} (h:bookAl b=0) {rs:List Rec} (hl:rs.length≤5) (hr:∀ r∈rs,recAl b r=0):bookAl { b with rs:=rs }=0:=by
 obtain ⟨h0,h1,h2,h3⟩:=bookAl_parts h
 have h2':sessAl { b with rs:=rs }=0:=by
  unfold sessAl at h2 ⊢
  split at h2
  ·cases h2
  ·rename_i hl
   rw [if_neg hl]
   exact goS_zero fun s hs=>by
    obtain ⟨k1,k2⟩:=goS_ok _ h2 s hs
    exact ⟨k1,(goP_ms (b:={ b with rs:=rs }) (b':=b) rfl s []).trans k2⟩
 have h3':recsAl { b with rs:=rs }=0:=by
  unfold recsAl
  rw [if_neg (by simpa using hl)]
  exact goR_zero fun r h=>hr r h
 unfold bookAl
 rw [show numbersAl { b with rs:=rs }=0 from h0,show msgsAl { b with rs:=rs }=0 from h1,h2',h3']
 rfl
theorem recs_len {b:Bk} (h:bookAl b=0):b.rs.length≤5:=by
 obtain ⟨_,_,_,h3⟩:=bookAl_parts h
 unfold recsAl at h3
 split at h3
 ·cases h3
 ·omega
theorem bookAl_true {b:Bk} (h:bookAl b=0) {c:List Int} (hc:Really b c):bookAl (truB b c)=0 :=
 bookAl_rs h (by rw [List.length_map];exact recs_len h) fun r hr=>by
  obtain ⟨r0,h0,rfl⟩:=List.mem_map.1 hr
  exact recAl_true (bookAl_ok h).1 hc ((bookAl_ok h).2 r0 h0)
theorem rightR_true {b:Bk} {c:List Int} (hc:Really b c) {r:Rec} (h:recAl b r=0):rightR (truB b c) c (truR b c r)=true:=by
 obtain ⟨k0,k5⟩:=recAl_kind h
 have hcp:∀ p,copies (truB b c) c p=copies b c p:=fun _=>rfl
 have hhv:∀ m,haveOf (truB b c) c m=haveOf b c m:=fun _=>rfl
 have hss:(truB b c).ss=b.ss:=rfl
 unfold truR
 split
 ·rename_i h01
  have ha:=recAl_a h (by omega)
  obtain ⟨s,hs,c0,c1⟩:=hc.at ha.1 ha.2
  have hse:(((b.ss[r.a.toNat]?).elim 0 List.length:Nat):Int)=(s.length:Int):=by rw [hs];rfl
  by_cases he:c.getD r.a.toNat 0=(((b.ss[r.a.toNat]?).elim 0 List.length:Nat):Int)
  ·rw [if_pos he]
   rw [hse] at he
   unfold rightR
   simp only [hss,hs,Option.elim,if_true]
   exact decide_eq_true he
  ·rw [if_neg he]
   rw [hse] at he
   unfold rightR
   simp only [hss,hs,Option.elim]
   rw [if_neg (by decide),if_pos trivial]
   exact decide_eq_true (by omega)
 ·split
  ·rename_i h2
   unfold rightR
   simp [h2]
   omega
  ·split
   ·rename_i h3
    unfold rightR
    simp [h3]
    omega
   ·split
    ·rename_i h4
     unfold rightR
     simp [h4,hcp]
    ·split
     ·rename_i h5
      unfold rightR
      simp [h5,hhv]
     ·exfalso;omega
theorem real_past {b:Bk} (h:bookAl b=0) {c:List Int} (hc:Really b c):c∈pasts (truB b c):=by
 refine mem_pasts.2 ⟨hc.1,hc.2,?_⟩
 unfold right
 rw [List.all_eq_true]
 intro r hr
 obtain ⟨r0,h0,rfl⟩:=List.mem_map.1 hr
 exact rightR_true hc ((bookAl_ok h).2 r0 h0)
end Go.Proofs.YtgemjjdkjmpmlaaGreatDoor
namespace Go.Proofs.YtgemjjdkjmpmlaaGreatDoor
open Go.RowKit Sp Mt Go.Conc
section
variable {P:Program} {b:Frame} {a:Act} {w:World} {k:List Item} {cs:List Frame} {K:Frame→List Frame→World→Prop}
theorem Twin.refl0 (w:World):Twin 0 w w:=⟨rfl,rfl,rfl,fun _=>rfl,fun _=>rfl,fun _ _=>rfl⟩
theorem Twin.at0 {w w1:World} (h:Twin 0 w w1) (d:Nat):Twin 0 w (w1.at d):=⟨h.os,h.output,h.size,h.cell,h.frozen,h.block⟩
theorem Twin.old0 {w w1 w2:World} (h:Twin 0 w w1) (k:Old w1 w2):Old w w2:=⟨k.os.trans h.os,k.output.trans h.output,by rw [← h.size];exact k.size,fun i hi=>(k.block i (by rw [h.size];exact hi)).trans (h.block i (Nat.zero_le _))⟩
def LeadsA (P:Program) (K:Frame→List Frame→World→Prop) (fr:Frame) (cs:List Frame) (w:World):Prop:=∀ w',Twin 0 w w'→Leads P K fr cs w'
theorem LeadsA.here {fr:Frame} (h:LeadsA P K fr cs w):Leads P K fr cs w:=h w (Twin.refl0 w)
theorem all_region {id:Nat} {ops:Array Oper} (h:LeadsA P K (b.at a (.inRegion ops (List.range ops.size)::k)) cs w):LeadsA P K (b.at a (.code (.region id ops false)::k)) cs w:=fun _ t=>leads_region fun d=>h _ (t.at0 d)
theorem all_end {ops:Array Oper} (h:LeadsA P K (b.at a k) cs w):LeadsA P K (b.at a (.inRegion ops []::k)) cs w:=fun _ t=>leads_inRegion fun d=>h _ (t.at0 d)
theorem all_seq {x y:Code} (h:LeadsA P K (b.at a (.code x::.code y::k)) cs w):LeadsA P K (b.at a (.code (.seq x y)::k)) cs w:=fun _ t=>leads_seq fun d=>h _ (t.at0 d)
theorem all_ret (h:LeadsA P K { b.at a (.code .ret::k) with mode:=.returning } cs w):LeadsA P K (b.at a (.code .ret::k)) cs w:=fun _ t=>leads_ret fun d=>h _ (t.at0 d)
theorem all_op {ops:Array Oper} {i:Nat} {rest:List Nat} (v:Value) (hb:b.kind=.normal) {o:Oper} (ho:ops[i]? = some o) (hw:Region.wanted o (yielded ops a.tmps)=true)
 (hr:∀ w',(execOp a.eval o).run P w'=.ok (.value v) w') (he:∀ w',(execOp a.eval o).events P w' #[]=#[])
 (h:LeadsA P K (b.at (a.put o.dst v) (.inRegion ops rest::k)) cs w):LeadsA P K (b.at a (.inRegion ops (i::rest)::k)) cs w:=fun _ t =>
 leads_op v hb ho hw (fun d=>hr _) (fun d e hm=>by rw [he] at hm;simp at hm) fun d=>h _ (t.at0 d)
theorem all_call {ops:Array Oper} {i:Nat} {rest:List Nat} (f:FuncId) (args:Array Value) (hb:b.kind=.normal) {o:Oper} (ho:ops[i]? = some o) (hw:Region.wanted o (yielded ops a.tmps)=true)
 (hr:∀ w',(execOp a.eval o).run P w'=.ok (.enter f args) w') (he:∀ w',(execOp a.eval o).events P w' #[]=#[]) {Z:Value→World→Prop}
 (hc:∀ (c:Frame) (w':World),Twin 0 w w'→Leads P (fun fr' cs' w1=>∃ v,fr'=c.finish v∧cs'=cs∧Z v w1) (Frame.enter P f args .normal) (c::cs) w')
 (h:∀ v w1,Z v w1→LeadsA P K (b.at (a.put o.dst v) (.inRegion ops rest::k)) cs w1):LeadsA P K (b.at a (.inRegion ops (i::rest)::k)) cs w:=fun w' t =>
 leads_call hb ho hw (fun d=>hr _) (fun d=>he _) (fun d=>hc _ _ (t.at0 d)) fun v w1 hz=>(h v w1 hz).here
end
section
variable {w:World} {cs:List Frame} {c:Frame}
end
theorem wps_cons {P:Program} {c:Code} {l:List Code} {Q:Act→World→Prop} {a:Act} {w:World} (h:c.wp P (fun e a' w'=>e=.normal∧a'.defers=[]∧∀ X,Twin 0 w' X→wps P l Q a' X) a w):wps P (c::l) Q a w :=
 Code.wp_mono (fun _ _ _ ⟨h1,h2,h3⟩=>⟨h1,h2,fun _=>h3 _ ⟨rfl,rfl,rfl,fun _=>rfl,fun _=>rfl,fun _ _=>rfl⟩⟩) h
theorem Twin.five {n:Nat} {w w1:World} (h:Twin n w w1) {r:Nat} {v0 v1 v2 v3 v4:Value} (k:Five w r v0 v1 v2 v3 v4):Five w1 r v0 v1 v2 v3 v4:=⟨(h.cell _).trans k.c0,(h.cell _).trans k.c1,(h.cell _).trans k.c2,(h.cell _).trans k.c3,(h.cell _).trans k.c4,by rw [h.size];exact k.lt⟩
theorem Old.twin0 {w w1 X:World} (h:Old w w1) (t:Twin 0 w1 X):Old w X:=⟨t.os.trans h.os,t.output.trans h.output,by rw [t.size];exact h.size,fun k hk=>(t.block k (Nat.zero_le _)).trans (h.block k hk)⟩
theorem Old.ofBelow {w w1:World} (h:Below w.heap.size w w1):Old w w1:=⟨h.os,h.output,h.size,h.block⟩
theorem Old.ks {w A B:World} {O:Nat} (h:Old w A) (hO:w.heap.size≤O) (hk:KS (fun k=>k < A.heap.size∧k≠O) A B):Old w B:=⟨hk.os.trans h.os,hk.output.trans h.output,Nat.le_trans h.size hk.size,fun k hkl=>(hk.block k (Nat.lt_of_lt_of_le hkl h.size) ⟨Nat.lt_of_lt_of_le hkl h.size,by omega⟩).trans (h.block k hkl)⟩
theorem row_twin {A B:World} {base e size m:Nat} {v:Value} {xs:List Value} (h:A.ownsRow base e size v m xs) (t:Twin 0 A B):B.ownsRow base e size v m xs:=by
 obtain ⟨h1,h2 | ⟨g,cap,cur,e1,e2,e3,e4⟩⟩:=h
 ·exact ⟨h1,.inl h2⟩
 ·exact ⟨h1,.inr ⟨g,cap,cur,e1,e2,(t.block g (Nat.zero_le _)).trans e3,e4⟩⟩
def NQ (R:Act→World→Prop):Exit→Act→World→Prop
 | .normal,a,w=>R a w
 | _,_,_=>False
theorem wps_nq {P:Program} {c:Code} {l:List Code} {Q:Act→World→Prop} {a:Act} {w:World} (h:c.wp P (NQ fun a' w'=>a'.defers=[]∧∀ X,Twin 0 w' X→wps P l Q a' X) a w):wps P (c::l) Q a w:=by
 refine wps_cons (Code.wp_mono (fun e a' w' hq=>?_) h)
 cases e <;> first | exact ⟨rfl,hq.1,hq.2⟩ | exact hq.elim
section
variable {P:Program} {b:Frame} {a:Act} {w:World} {k:List Item} {cs:List Frame} {K:Frame→List Frame→World→Prop}
theorem put_at {a:Act} {j:Nat} {v:Value} (h:j < a.tmps.size):(a.put (some j) v).tmps[j]? = some v:=by
 show (a.tmps.setIfInBounds j v)[j]? = some v
 simp [h]
theorem put_keep {a:Act} {j i:Nat} {v:Value} (hne:i≠j):(a.put (some j) v).tmps[i]? = a.tmps[i]? := by
 show (a.tmps.setIfInBounds j v)[i]? = a.tmps[i]?
 rw [Array.getElem?_setIfInBounds_ne (by omega)]
end
def KnL (a:Act):List (Nat × Value)→Prop
 | []=>True
 | x::l=>a.tmps[x.1]? = some x.2∧KnL a l
structure Kn (a:Act) (n:Nat) (l:List (Nat × Value)):Prop where
 sz:a.tmps.size=n
 df:a.defers=[]
 kn:KnL a l
theorem KnL.get {a:Act} {j:Nat} {v:Value}:∀ {l:List (Nat × Value)},KnL a l→l.lookup j=some v→a.tmps[j]? = some v
 | [],_,e=>by simp at e
 | (i,u)::l,h,e=>by
  rw [List.lookup_cons] at e
  by_cases hji:j=i
  ·subst hji
   simp at e
   rw [← e]
   exact h.1
  ·rw [beq_eq_false_iff_ne.2 hji] at e
   exact KnL.get h.2 e
theorem KnL.put {a:Act} {j:Nat} {v:Value}:∀ {l:List (Nat × Value)},KnL a l→(l.all fun x=>x.1 != j)=true→KnL (a.put (some j) v) l
 | [],_,_=>trivial
 | x::l,h,e=>by
  simp only [List.all_cons,Bool.and_eq_true,bne_iff_ne] at e
  exact ⟨(put_keep e.1).trans h.1,KnL.put h.2 e.2⟩
section
variable {P:Program} {b:Frame} {a:Act} {w:World} {k:List Item} {cs:List Frame} {K:Frame→List Frame→World→Prop} {n:Nat} {l:List (Nat × Value)}
theorem Kn.g (q:Kn a n l) (j:Nat) {v:Value} (e:l.lookup j=some v):a.tmps[j]? = some v:=q.kn.get e
theorem Kn.cons (q:Kn a n l) {j:Nat} (hj:j < n) (e:(l.all fun x=>x.1 != j)=true) (v:Value):Kn (a.put (some j) v) n ((j,v)::l):=⟨(Array.size_setIfInBounds).trans q.sz,q.df,put_at (by rw [q.sz];exact hj),q.kn.put e⟩
theorem st {ops:Array Oper} {i j:Nat} {rest:List Nat} (v:Value) (hb:b.kind=.normal) {o:Oper} (ho:ops[i]? = some o) (hd:o.dst=some j) (hw:Region.wanted o (yielded ops a.tmps)=true)
 (hx:∀ w',(execOp a.eval o).run P w'=.ok (.value v) w'∧(execOp a.eval o).events P w' #[]=#[]) (q:Kn a n l) (hj:j < n) (e:(l.all fun x=>x.1 != j)=true)
 (h:∀ a1,Kn a1 n ((j,v)::l)→LeadsA P K (b.at a1 (.inRegion ops rest::k)) cs w):LeadsA P K (b.at a (.inRegion ops (i::rest)::k)) cs w:=by
 refine all_op v hb ho hw (fun w'=>(hx w').1) (fun w'=>(hx w').2) ?_
 rw [hd]
 exact h _ (q.cons hj e v)
theorem sc {ops:Array Oper} {i j:Nat} {rest:List Nat} (f:FuncId) (args:Array Value) (hb:b.kind=.normal) {o:Oper} (ho:ops[i]? = some o) (hd:o.dst=some j) (hw:Region.wanted o (yielded ops a.tmps)=true)
 (hx:∀ w',(execOp a.eval o).run P w'=.ok (.enter f args) w'∧(execOp a.eval o).events P w' #[]=#[]) (q:Kn a n l) (hj:j < n) (e:(l.all fun x=>x.1 != j)=true) {v:Value}
 (hc:∀ (c:Frame) (w':World),Twin 0 w w'→Leads P (fun fr' cs' w1=>∃ v',fr'=c.finish v'∧cs'=cs∧v'=v∧Old w w1) (Frame.enter P f args .normal) (c::cs) w')
 (h:∀ (a1:Act) (w1:World),Old w w1→Kn a1 n ((j,v)::l)→LeadsA P K (b.at a1 (.inRegion ops rest::k)) cs w1):LeadsA P K (b.at a (.inRegion ops (i::rest)::k)) cs w:=by
 refine all_call f args hb ho hw (fun w'=>(hx w').1) (fun w'=>(hx w').2) (Z:=fun v' w1=>v'=v∧Old w w1) hc ?_
 rintro v' w1 ⟨rfl,ho1⟩
 rw [hd]
 exact h _ _ ho1 (q.cons hj e v')
end
def sql:Code→Code
 | .seq a _=>a
 | c=>c
def sqr:Code→Code
 | .seq _ b=>b
 | c=>c
def cnd:Code→Code
 | .cond _ a _=>a
 | c=>c
def sqN:Nat→Code→Code
 | 0,c=>c
 | k+1,c=>sqN k (sqr c)
theorem fr_of {F:(Nat→Value)→Act} {a':Act} (h:a'=F fun i=>a'.tmps.getD i undef):∃ d,a'=F d:=⟨_,h⟩
theorem wp_fr {P:Program} {c:Code} {Q:Exit→Act→World→Prop} {w:World} {F:(Nat→Value)→Act} {a:Act} (h:a=F fun i=>a.tmps.getD i undef) (hh:∀ d,c.wp P Q (F d) w):c.wp P Q a w:=by
 rw [h]
 exact hh _
theorem OldN.refl (n:Nat) (w:World):OldN n w w:=⟨rfl,rfl,Nat.le_refl _,fun _ _=>rfl⟩
theorem OldN.trans {n:Nat} {a b c:World} (h:OldN n a b) (k:OldN n b c):OldN n a c:=⟨k.os.trans h.os,k.output.trans h.output,Nat.le_trans h.size k.size,fun i hi=>(k.block i hi).trans (h.block i hi)⟩
theorem OldN.ofOld {n:Nat} {a b:World} (h:Old a b) (hn:n≤a.heap.size):OldN n a b:=⟨h.os,h.output,h.size,fun k hk=>h.block k (Nat.lt_of_lt_of_le hk hn)⟩
theorem OldN.twin0 {n:Nat} {w w1 X:World} (h:OldN n w w1) (t:Twin 0 w1 X):OldN n w X:=⟨t.os.trans h.os,t.output.trans h.output,by rw [t.size];exact h.size,fun k hk=>(t.block k (Nat.zero_le _)).trans (h.block k hk)⟩
theorem OldN.ks {n O:Nat} {w A B:World} (h:OldN n w A) (hn:n≤w.heap.size) (hO:n≤O) (hk:KS (fun k=>k≠O) A B):OldN n w B:=⟨hk.os.trans h.os,hk.output.trans h.output,Nat.le_trans h.size hk.size,fun k hkl=>(hk.block k (Nat.lt_of_lt_of_le hkl (Nat.le_trans hn h.size)) (by show k≠O;omega)).trans (h.block k hkl)⟩
theorem Old.frozen2 {w w1:World} (h:Old w w1) {b:Nat} (hb:b < w.heap.size) (o:Nat):w1.frozen? ⟨b,o,none⟩=w.frozen? ⟨b,o,none⟩:=World.frozen?_of_block (h.block b hb)
theorem Old.ofN {w w1 w2:World} (h:Old w w1) (k:OldN w.heap.size w1 w2):Old w w2:=⟨k.os.trans h.os,k.output.trans h.output,Nat.le_trans h.size k.size,fun i hi=>(k.block i hi).trans (h.block i hi)⟩
theorem pieces_coN {b:Frame} {a:Act} {w:World} {k:List Item} {cs:List Frame} {R:Code} {n:Nat} (hn:n≤w.heap.size) (l:List Code) (hc:∀ c∈l,codeOk Tryz.prog c=true) (hb:b.kind=.normal) (hd:a.defers=[]) {Z:Act→World→Prop} (hZ:∀ a w1 w2,Twin w.heap.size w1 w2→Z a w1→Z a w2)
 (h:∀ W,Twin w.heap.size w W→wps Tryz.prog l (fun a' w2=>Z a' w2∧OldN n W w2) a W) {K:Frame→List Frame→World→Prop} (hk:∀ a' w',Z a' w'→OldN n w w'→Leads Tryz.prog K (b.at a' (.code R::k)) cs w') :
 Leads Tryz.prog K (b.at a (.code (seqs l R)::k)) cs w:=by
 have hl:=muted_like Tryz.prog w
 refine (wps_leads (Q:=fun a' W2=>Z a' W2∧OldN n (muted w) W2) progOk hb l hl hc hd fun t=>?_).trans ?_
 ·refine wps_mono ?_ l (h _ (muted_twin w t))
  rintro a' w2 ⟨h1,h2⟩
  exact ⟨h1,h2.os,h2.output,h2.size,h2.block⟩
 ·rintro fr' cs' w1 ⟨a',w1',e1,e2,h3,hq⟩
  rw [e1,e2]
  obtain ⟨hz,ho⟩:=hq w1'.tape
  exact hk a' w1 (hZ _ _ _ (like_twin hl h3 w1'.tape 0) hz) (like_oldN hn hl h3 (d2:=0) (t:=w1'.tape) (t2:=w1'.tape) ⟨ho.os,rfl,ho.output,ho.size,ho.block⟩)
theorem piece_here {b:Frame} {a:Act} {w:World} {k:List Item} {cs:List Frame} {c:Code} (hc:codeOk Tryz.prog c=true) (hb:b.kind=.normal) (hd:MarksOnly a.defers) {Z:Act→World→Prop} (hZ:∀ a w1 w2,Twin w.heap.size w1 w2→Z a w1→Z a w2)
 (h:∀ W,Twin w.heap.size w W→c.wp Tryz.prog (PZ W Z) a W) {K:Frame→List Frame→World→Prop} (hk:∀ a' w',Z a' w'→Old w w'→Leads Tryz.prog K (b.at a' k) cs w') :
 Leads Tryz.prog K (b.at a (.code c::k)) cs w:=by
 refine (piece_co hc hb hd hZ h).trans ?_
 rintro fr' cs' w' ⟨a',rfl,rfl,hz,ho⟩
 exact hk a' w' hz ho
section
variable {P:Program} {b:Frame} {a:Act} {w:World} {k:List Item} {cs:List Frame} {K:Frame→List Frame→World→Prop}
theorem leads_inLoop {c:Code} (h:∀ d,Leads P K (b.at a (.code c::.inLoop c::k)) cs (w.at d)):Leads P K (b.at a (.inLoop c::k)) cs w:=leads_go (fun d=>rfl) h
end
def blk:Code→Code
 | .block _ c=>c
 | c=>c
def lpc:Code→Code
 | .loop c=>c
 | c=>c
end Go.Proofs.YtgemjjdkjmpmlaaGreatDoor
namespace Go.Proofs.YtgemjjdkjmpmlaaGreatDoor
open Go.RowKit Sp
theorem count_all (l:List Int):countI l 1=(l.length:Int)↔∀ y∈l,0 < y:=by
 unfold countI
 rw [Int.ofNat_inj,List.length_filter_eq_length_iff]
 simp only [decide_eq_true_eq]
 exact ⟨fun h y hy=>by have:=h y hy;omega,fun h y hy=>by have:=h y hy;omega⟩
theorem often_len (b:Bk) (l:List (List Int)) (p:Prt):(oftenI b l p).length=l.length:=by simp [oftenI]
theorem past_len {b:Bk} {x:List Int} (hx:x∈pasts b):x.length=b.ss.length:=(mem_pasts.1 hx).1
theorem past_came {b:Bk} {x:List Int} (hx:x∈pasts b):Came b x:=by
 obtain ⟨h1,h2,_⟩:=mem_pasts.1 hx
 intro i hi
 obtain ⟨k1,k2,k3⟩:=h2 i (by omega)
 simp only [List.getD_eq_getElem?_getD,List.getElem?_eq_getElem (show i < x.length by omega),Option.getD_some]
 exact ⟨k1,k3⟩
def LexLt (p q:Prt):Prop:=p.1 < q.1∨p.1=q.1∧p.2 < q.2
theorem partsL_sorted (b:Bk):(partsL b).Pairwise LexLt:=by
 unfold partsL partsTo
 rw [List.pairwise_flatMap]
 refine ⟨fun i _=>?_,?_⟩
 ·unfold partsOf
  rw [List.pairwise_map]
  exact List.pairwise_lt_range.imp fun {a c} h=>.inr ⟨rfl,by show (a:Int) < (c:Int);omega⟩
 ·exact List.pairwise_lt_range.imp fun {i j} h p hp q hq=>by
   unfold partsOf at hp hq
   obtain ⟨_,_,rfl⟩:=List.mem_map.1 hp
   obtain ⟨_,_,rfl⟩:=List.mem_map.1 hq
   exact .inl (by show (i:Int) < (j:Int);omega)
theorem missI_sorted (b:Bk):(missI b).Pairwise LexLt:=(partsL_sorted b).filter _
theorem missI_isPart {b:Bk} {p:Prt} (h:p∈missI b):isPart b p=true:=parts_isPart (List.mem_filter.1 h).1
theorem copies_nn (b:Bk) (x:List Int) (p:Prt):0≤copies b x p:=by unfold copies;exact Int.natCast_nonneg _
theorem mem_miss {b:Bk} {p:Prt}:p∈missI b↔p∈partsL b∧∃ x∈pasts b,copies b x p=0:=by
 unfold missI missL
 rw [List.mem_filter]
 refine and_congr_right fun _=>?_
 unfold isMiss
 rw [decide_eq_true_iff]
 have hle:countI (oftenI b (pasts b) p) 1≤((pasts b).length:Int):=by
  have:=List.length_filter_le (fun k=>decide ((1:Int)≤k)) (oftenI b (pasts b) p)
  rw [often_len] at this
  unfold countI
  omega
 have h:=count_all (oftenI b (pasts b) p)
 rw [often_len] at h
 constructor
 ·intro hlt
  refine Classical.byContradiction fun hc=>?_
  have:=h.2 fun y hy=>by
   obtain ⟨x,hx,rfl⟩:=List.mem_map.1 hy
   have h0:=copies_nn b x p
   have h1:copies b x p≠0:=fun e=>hc ⟨x,hx,e⟩
   omega
  omega
 ·rintro ⟨x,hx,e⟩
  have:countI (oftenI b (pasts b) p) 1≠((pasts b).length:Int):=fun e2=>by
   have:=h.1 e2 _ (List.mem_map.2 ⟨x,hx,rfl⟩)
   omega
  omega
end Go.Proofs.YtgemjjdkjmpmlaaGreatDoor
namespace Go.Proofs.YtgemjjdkjmpmlaaGreatDoor
open Go.RowKit Go.Maps Sp
def U16sAt (w:World) (a:Option Addr) (l:List Int):Prop:=∀ i (h:i < l.length),∃ b o,a=some ⟨b,o,none⟩∧b < w.heap.size∧w.cell? ⟨b,o+i,none⟩=some (.int .u16 l[i])∧0≤l[i]∧l[i]≤65535
theorem U16sAt.below {w w':World} {a:Option Addr} {l:List Int} (h:U16sAt w a l) (hb:Below w.heap.size w w'):U16sAt w' a l:=fun i hi=>by
 obtain ⟨b,o,e,hlt,h1,h2⟩:=h i hi
 exact ⟨b,o,e,Nat.lt_of_lt_of_le hlt hb.size,(hb.cell hlt).trans h1,h2⟩
def choiceI (l:List Int) (k:Nat):Int:=l.getD k 0
theorem choiceI_bd {w:World} {a:Option Addr} {l:List Int} (h:U16sAt w a l) (k:Nat):0≤choiceI l k∧choiceI l k≤65535:=by
 unfold choiceI
 by_cases hk:k < l.length
 ·obtain ⟨_,_,_,_,_,h1,h2⟩:=h k hk
  simp only [List.getD_eq_getElem?_getD,List.getElem?_eq_getElem hk,Option.getD_some]
  exact ⟨h1,h2⟩
 ·simp only [List.getD_eq_getElem?_getD,List.getElem?_eq_none (Nat.le_of_not_lt hk),Option.getD_none]
  omega
section
variable {w:World} {la:Option Addr} {lc n:Nat} {l:List Int}
theorem choice_at (hL:U16sAt w la l) (hn:n=l.length) (k:Nat) {t:Int} (ht:choiceI l k=t) :
 Calls Tryz.prog 65 #[.slice la n lc,.int .i64 k] w fun e w'=>e=.returned (.int .i64 t)∧w'=w:=by
 subst hn ht
 unfold choiceI
 by_cases hk:k < l.length
 ·obtain ⟨b,o,rfl,hb,h0,h1,h2⟩:=hL k hk
  simp only [List.getD_eq_getElem?_getD,List.getElem?_eq_getElem hk,Option.getD_some]
  generalize l[k]=x at h0 h1 h2
  have hw:IntKind.i64.wrap x=x:=wrapI (by omega) (by omega)
  go_enter Tryz.func65,Tryz.ntmps65
  go_wp2
  go_ret
  exact ⟨rfl,rfl⟩
 ·simp only [List.getD_eq_getElem?_getD,List.getElem?_eq_none (Nat.le_of_not_lt hk),Option.getD_none]
  go_enter Tryz.func65,Tryz.ntmps65
  go_wp2
  go_ret
  exact ⟨rfl,rfl⟩
end
def camePK (b:Bk) (p:List Int) (k:Nat):List Int:=(List.range k).map fun i=>choiceI p i % ((((b.ss[i]?).elim 0 List.length:Nat):Int)+1)
def cameP (b:Bk) (p:List Int):List Int:=camePK b p b.ss.length
theorem camePK_len (b:Bk) (p:List Int) (k:Nat):(camePK b p k).length=k:=by simp [camePK]
theorem camePK_succ (b:Bk) (p:List Int) {k:Nat} (h:k < b.ss.length):camePK b p (k+1)=camePK b p k ++ [choiceI p k % ((b.ss[k].length:Int)+1)]:=by
 unfold camePK
 rw [List.range_succ,List.map_append,List.map_cons,List.map_nil,List.getElem?_eq_getElem h]
 rfl
theorem cameP_really (b:Bk) (p:List Int):Really b (cameP b p):=by
 unfold cameP
 refine ⟨camePK_len _ _ _,fun i h=>?_⟩
 have hi:i < b.ss.length:=by rw [camePK_len] at h;exact h
 have e:(camePK b p b.ss.length)[i]=choiceI p i % ((b.ss[i].length:Int)+1):=by
  have e2:∀ (f:Nat→Int) (n m:Nat) (h:m < ((List.range n).map f).length),((List.range n).map f)[m]=f m:=fun f n m h=>by simp
  rw [show (camePK b p b.ss.length)[i]=choiceI p i % ((((b.ss[i]?).elim 0 List.length:Nat):Int)+1) from e2 _ _ _ _,List.getElem?_eq_getElem hi]
  rfl
 rw [e]
 have h0:=Int.emod_nonneg (choiceI p i) (show ((b.ss[i].length:Int)+1)≠0 by omega)
 have h1:=Int.emod_lt_of_pos (choiceI p i) (show 0 < ((b.ss[i].length:Int)+1) by omega)
 exact ⟨h0,hi,by omega⟩
section
variable {b:Bk} {vr vg vm vs vc:Value} {w:World} {la:Option Addr} {lc n:Nat} {l:List Int}
def RowRet (w:World) (l:List Int) (e:Ending) (w':World):Prop:=∃ a c,e=.returned (.slice a l.length c)∧w'.ownsRow w.heap.size 3 1 (.slice a l.length c) l.length (l.map (Value.int .i64))∧Below w.heap.size w w'
theorem came_at (hB:BookAt w b vr vg vm vs vc) (hs1:b.ss.length≤20) (hs2:∀ s∈b.ss,s.length≤20) (hL:U16sAt w la l) (hn:n=l.length) :
 Calls Tryz.prog 15 #[.agg #[vr,vg,vm,vs,vc],.slice la n lc] w (RowRet w (cameP b l)):=by
 subst hn
 obtain ⟨sa,sc,rfl,hSS,_⟩:=hB.ss
 have HSS:=Hh hSS
 have HL:=Hh hL
 have HS2:=Hh hs2
 clear hSS hL hs2 hB
 go_enter Tryz.func15,Tryz.ntmps15
 go_wp2
 obtain ⟨W0,hW0⟩:∃ W0,W0=w.alloc (.cells #[vr,vg,vm,.slice sa b.ss.length sc,vc] 26):=⟨_,rfl⟩
 rw [← hW0]
 have hb0:Below w.heap.size w W0:=by rw [hW0];(exact bel)
 have hsz:W0.heap.size=w.heap.size+1:=by rw [hW0];simp
 have c3:W0.cell? ⟨w.heap.size,3,none⟩=some (.slice sa b.ss.length sc):=by rw [hW0,World.cell?_alloc_at _ _ _ _ rfl];rfl
 have HB0:=Hh hb0
 have hlw:w.heap.size < W0.heap.size:=by omega
 clear hW0 hb0
 go_loopw [5,6] (fun v t wr=>∃ (k:Nat) (a:Option Addr) (c:Nat),k≤b.ss.length∧t=.int .i64 k∧v=.slice a k c∧Hid (wr.ownsRow W0.heap.size 3 1 (.slice a k c) k ((camePK b l k).map (Value.int .i64)))∧Below W0.heap.size W0 wr) (fun _ t _=>b.ss.length - (intOf t).toNat)
 case atStart=>exact ⟨0,none,0,Nat.zero_le _,rfl,rfl,by show World.ownsRow _ _ _ _ _ _ _;simpa [camePK] using World.ownsRow_nil _ _ _ _,Below.refl _ _⟩
 case round =>
  obtain ⟨k,a,c,hk,rfl,rfl,HROW,hW⟩:=hrel
  have hWs:=hW.size
  have d3:=(hW.cell (p:=⟨w.heap.size,3,none⟩) hlw).trans c3
  have hlr:w.heap.size < wr.heap.size:=by omega
  by_cases hlt:k < b.ss.length
  ·obtain ⟨sb,so,rfl,hsb,pa,pc,e0,hpc,_,_⟩:=HSS.out k hlt
   have hsb0:sb < W0.heap.size:=by omega
   have f0:=(HB0.out.cell (p:=⟨sb,so+k,none⟩) hsb).trans e0
   have d0:=(hW.cell (p:=⟨sb,so+k,none⟩) hsb0).trans f0
   have hsbr:sb < wr.heap.size:=by omega
   have hl20:=HS2.out _ (List.getElem_mem hlt)
   have hsn:=camePK_succ b l hlt
   generalize b.ss[k].length=ln at d0 hl20 hsn f0 e0 hpc
   obtain ⟨hc0,hc1⟩:=choiceI_bd HL.out k
   generalize hcv:choiceI l k=cv at hc0 hc1 hsn
   have HCV:=Hh hcv
   have HSN:=Hh hsn
   have HALL:=Hh (fun (w':World) (h:Below W0.heap.size W0 w')=>(⟨h,(h.cell (p:=⟨w.heap.size,3,none⟩) hlw).trans c3,(h.cell (p:=⟨sb,so+k,none⟩) hsb0).trans f0⟩:Below W0.heap.size W0 w'∧w'.cell? ⟨w.heap.size,3,none⟩=some (.slice (some ⟨sb,so,none⟩) b.ss.length sc)∧w'.cell? ⟨sb,so+k,none⟩=some (.slice pa ln pc)))
   have hw1:IntKind.i64.wrap ((ln:Int)+1)=(ln:Int)+1:=wrapI (by omega) (by omega)
   have hnz:((ln:Int)+1 == 0)=false:=by rw [beq_eq_false_iff_ne];omega
   have hnz2:¬ ((ln:Int)+1=0):=by omega
   have htm:cv.tmod ((ln:Int)+1)=cv % ((ln:Int)+1):=Int.tmod_eq_emod_of_nonneg hc0
   have hc0':(0:Int)≤cv:=hc0
   have hl1:(1:Int)≤(ln:Int)+1:=by omega
   have hl2:(ln:Int)+1≤21:=by omega
   clear hcv hsn f0 e0 hpc
   go_wp2
   go_region_held3 (fun w'=>Below W0.heap.size W0 w'∧w'.cell? ⟨w.heap.size,3,none⟩=some (.slice (some ⟨sb,so,none⟩) b.ss.length sc)∧w'.cell? ⟨sb,so+k,none⟩=some (.slice pa ln pc))
    ((go_split_ands;exact HALL.out _ (bel)))
    (first
      | (go_at_call 65;go_split_ands;(with_reducible refine (choice_at (HL.out.below (Below.next HB0.out ‹Below W0.heap.size W0 _›)) rfl k HCV.out).mono ?_);rintro e w1 ⟨rfl,rfl⟩)
      | (refine step_appW W0 rfl _ _ 30 rfl 3 Tryz.underlying30 intInfo rfl (by omega) (.slice a k c) k ((camePK b l k).map (Value.int .i64)) rfl (some ⟨wr.heap.size,0,none⟩) 1 1 [.int .i64 (cv % ((ln:Int)+1))] rfl rfl (by simp [Value.oneCell']) (k+1) rfl (by omega) ?_ ?_ ?_ ?_;(focus ((exact bel)));exact row_keep' HROW.out ((KS.alloc (fun _=>True) _ _).trans (KS.drew _ _)) (fun _ _=>trivial);exact (src_new wr [.int .i64 (cv % ((ln:Int)+1))] 3 rfl 1).ks (KS.drew (fun _=>True) _) (fun ad e=>by cases e;exact ⟨by simp,trivial⟩);intro a4 c4 w4 hown4 hks4 hbw4)
      | fail "no arm")
   have HO:=Hh hown4
   have HB4:=Hh hbw4
   clear hown4 hbw4 hks4 hw1 hnz hnz2 htm hl1 hl2
   go_wp2
   go_roundw
   case rel=>exact ⟨k+1,a4,c4,by omega,by go_num,rfl,by rw [HSN.out,List.map_append];exact HO,HB4.out⟩
   case measure=>simp [intOf];omega
  ·obtain rfl:k=b.ss.length:=by omega
   go_wp2
   go_ret
   exact ⟨a,c,by rw [show (cameP b l).length=b.ss.length from camePK_len _ _ _];rfl,by rw [show (cameP b l).length=b.ss.length from camePK_len _ _ _];exact ownsRow_base HROW.out (by omega),Below.next HB0.out hW⟩
end
theorem hasPart_at {pa:Option Addr} {pc n:Nat} {l:List Prt} {p:Prt} {w:World} {t:Bool} (hP:PartsAt w pa l) (hn:n=l.length) (hl:l.length≤1000000) (h:decide (p∈l)=t) :
 Calls Tryz.prog 21 #[.slice pa n pc,.agg #[.int .i64 p.1,.int .i64 p.2]] w fun e w'=>e=.returned (.bool t)∧Below w.heap.size w w':=by
 subst hn
 obtain ⟨pm,pg⟩:=p
 have H:=Hh h;clear h
 have HP:=Hh hP;clear hP
 go_enter Tryz.func21,Tryz.ntmps21
 go_wp2
 obtain ⟨W0,hW0⟩:∃ W0,W0=w.alloc (.cells #[.int .i64 pm,.int .i64 pg] 41):=⟨_,rfl⟩
 rw [← hW0]
 have hb0:Below w.heap.size w W0:=by rw [hW0];(exact bel)
 have c0:W0.cell? ⟨w.heap.size,0,none⟩=some (.int .i64 pm):=by rw [hW0,World.cell?_alloc_at _ _ _ _ rfl];rfl
 have c1:W0.cell? ⟨w.heap.size,1,none⟩=some (.int .i64 pg):=by rw [hW0,World.cell?_alloc_at _ _ _ _ rfl];rfl
 have hs0:w.heap.size < W0.heap.size:=by rw [hW0];simp
 clear hW0
 go_loopw [5] (fun i wr=>∃ k:Nat,k≤l.length∧i=.int .i64 k∧Hid ((pm,pg) ∉ l.take k)∧Below W0.heap.size W0 wr) (fun i _=>l.length - (intOf i).toNat)
 case atStart=>exact ⟨0,Nat.zero_le _,rfl,by simp [Hid],Below.refl _ _⟩
 case round =>
  obtain ⟨k,hk,rfl,hno,hW⟩:=hrel
  have hWs:=hW.size
  by_cases hlt:k < l.length
  ·obtain ⟨lb,lo,rfl,hlb,e0,e1⟩:=HP.out k hlt
   have hb1:=Below.next hb0 hW
   have d0:=(hb1.cell hlb).trans e0
   have d1:=(hb1.cell hlb).trans e1
   have x0:=(hW.cell (p:=⟨w.heap.size,0,none⟩) hs0).trans c0
   have x1:=(hW.cell (p:=⟨w.heap.size,1,none⟩) hs0).trans c1
   have hlb2:lb < wr.heap.size:=Nat.lt_of_lt_of_le hlb hb1.size
   have hx2:w.heap.size < wr.heap.size:=by omega
   have htk:=List.take_succ_eq_append_getElem hlt
   have hin:l[k]∈l:=List.getElem_mem hlt
   generalize l[k]=q at d0 d1 htk hin
   obtain ⟨qm,qg⟩:=q
   simp only at d0 d1
   have HTK:=Hh htk
   have HIN:=Hh hin
   clear htk e0 e1 c0 c1 hin
   by_cases hq:qm=pm∧qg=pg
   ·obtain ⟨rfl,rfl⟩:=hq
    have heq:=fun w=>(eqPart qm qg qm qg w).trans (by simp:_=Result.ok (Value.bool true) w)
    have ht:t=true:=by rw [← H.out];simpa using HIN.out
    subst ht
    go_wp2
    go_quiet (fail)
    go_wp2
    go_ret
    exact ⟨rfl,bel⟩
   ·have heq:=fun w=>(eqPart qm qg pm pg w).trans (show _=Result.ok (Value.bool false) w by
     have:(qm == pm && qg == pg)=false:=by simpa using hq
     rw [this])
    have hn2:(pm,pg) ∉ l.take (k+1):=by
     rw [HTK.out]
     simp only [List.mem_append,List.mem_singleton,Prod.mk.injEq,not_or]
     exact ⟨hno.out,fun h=>hq ⟨h.1.symm,h.2.symm⟩⟩
    have HN:=Hh hn2
    clear hq hn2
    go_wp2
    go_quiet (fail)
    go_wp2
    go_roundw
    case rel=>exact ⟨k+1,by omega,by go_num,HN.out,bel⟩
    case measure=>simp [intOf];omega
  ·have ht:t=false:=by
    have:=hno.out
    rw [List.take_of_length_le (by omega)] at this
    rw [← H.out];simpa using this
   subst ht
   go_wp2
   go_ret
   exact ⟨rfl,bel⟩
section
variable {b:Bk} {vr vg vm vs vc:Value} {w:World} {la:Option Addr} {lc n:Nat} {l:List Prt}
theorem ordered_at (hB:BookAt w b vr vg vm vs vc) (hG:∀ m∈b.ms,0≤m.groups∧m.groups≤1000) (hL:PartsAt w la l) (hn:n=l.length) (hl:l.length≤1000000) (hp:∀ p∈l,isPart b p=true) (ho:l.Pairwise LexLt) :
 Calls Tryz.prog 18 #[.agg #[vr,vg,vm,vs,vc],.slice la n lc] w fun e w'=>e=.returned (.bool true)∧Below w.heap.size w w':=by
 subst hn
 have HB:=Hh hB
 have HL:=Hh hL
 have HG:=Hh hG
 have HP:=Hh hp
 have HO:=Hh ho
 clear hB hG hL hp ho
 go_enter Tryz.func18,Tryz.ntmps18
 go_wp2
 obtain ⟨W0,hW0⟩:∃ W0,W0=w.alloc (.cells #[vr,vg,vm,vs,vc] 26):=⟨_,rfl⟩
 rw [← hW0]
 have hb0:Below w.heap.size w W0:=by rw [hW0];(exact bel)
 have nn:∀ k u,(#[vr,vg,vm,vs,vc]:Array Value)[k]? = some u→W0.cell? ⟨w.heap.size,k,none⟩=some u:=fun k u hk=>by
  rw [hW0,World.cell?_alloc_at _ _ _ _ rfl];exact hk
 have c0:=nn 0 _ rfl
 have c1:=nn 1 _ rfl
 have c2:=nn 2 _ rfl
 have c3:=nn 3 _ rfl
 have c4:=nn 4 _ rfl
 have hs0:w.heap.size < W0.heap.size:=by rw [hW0];simp
 have HB0:=Hh hb0
 clear hW0 nn hb0
 go_loopw [5] (fun i wr=>∃ k:Nat,k≤l.length∧i=.int .i64 k∧Below W0.heap.size W0 wr) (fun i _=>l.length - (intOf i).toNat)
 case atStart=>exact ⟨0,Nat.zero_le _,rfl,Below.refl _ _⟩
 case round =>
  obtain ⟨k,hk,rfl,hW⟩:=hrel
  have hWs:=hW.size
  have hbr:=Below.next HB0.out hW
  by_cases hlt:k < l.length
  ·obtain ⟨lb,lo,rfl,hlb,e0,e1⟩:=HL.out k hlt
   have d0:=(hbr.cell (p:=⟨lb,lo+k * 2,none⟩) hlb).trans e0
   have d1:=(hbr.cell (p:=⟨lb,lo+k * 2+1,none⟩) hlb).trans e1
   have x0:=(hW.cell (p:=⟨w.heap.size,0,none⟩) hs0).trans c0
   have x1:=(hW.cell (p:=⟨w.heap.size,1,none⟩) hs0).trans c1
   have x2:=(hW.cell (p:=⟨w.heap.size,2,none⟩) hs0).trans c2
   have x3:=(hW.cell (p:=⟨w.heap.size,3,none⟩) hs0).trans c3
   have x4:=(hW.cell (p:=⟨w.heap.size,4,none⟩) hs0).trans c4
   have hlb2:lb < wr.heap.size:=Nat.lt_of_lt_of_le hlb hbr.size
   have hx2:w.heap.size < wr.heap.size:=by omega
   have HI:=Hh (HP.out _ (List.getElem_mem hlt))
   have HBr:=Hh (HB.out.below hbr)
   by_cases h0:k=0
   ·subst h0
    generalize l[0]=q at d0 d1 HI e0 e1
    obtain ⟨qm,qg⟩:=q
    have d8:wr.cell? ⟨lb,lo,none⟩=some (.int .i64 qm):=by simpa using d0
    have d9:wr.cell? ⟨lb,lo+1,none⟩=some (.int .i64 qg):=by simpa using d1
    clear e0 e1 c0 c1 c2 c3 c4 hbr d0 d1
    go_wp2
    (refine wp_region_bel (by kernel_rfl) (by kernel_rfl) ?_;(repeat (go_big_quiet_step ((go_at_call 69;with_reducible exact Calls.bel_of (rIs_at (p:=(qm,qg)) (HBr.out.below (later_below _ _)) HG.out HI.out)))));refine wpQuiet_nil ?_;rintro _ ⟨xq,rfl⟩)
    go_wp2
    go_roundw
    case rel=>exact ⟨1,by omega,by go_num,Below.next hW (later_below _ _)⟩
    case measure=>simp [intOf];omega
   ·obtain ⟨j,rfl⟩:∃ j,k=j+1:=⟨k - 1,by omega⟩
    obtain ⟨lb',lo',e',hlb',e2,e3⟩:=HL.out j (by omega)
    cases e'
    have y0:=(hbr.cell (p:=⟨lb,lo+j * 2,none⟩) hlb).trans e2
    have y1:=(hbr.cell (p:=⟨lb,lo+j * 2+1,none⟩) hlb).trans e3
    have hlx:=List.pairwise_iff_getElem.1 HO.out j (j+1) (by omega) hlt (by omega)
    generalize l[j]=r at y0 y1 hlx e2 e3
    generalize l[j+1]=q at d0 d1 HI hlx e0 e1
    obtain ⟨qm,qg⟩:=q
    obtain ⟨rm,rg⟩:=r
    simp only at d0 d1 y0 y1
    unfold LexLt at hlx
    simp only at hlx
    have hwj:IntKind.i64.wrap (((j+1:Nat):Int) - 1)=(j:Int):=by rw [wrapI (by omega) (by omega)];simp
    have hgt:decide ((0:Int) < ((j+1:Nat):Int))=true:=by simp
    have h1:decide (qm < rm)=false:=by rw [decide_eq_false_iff_not];omega
    clear e0 e1 e2 e3 c0 c1 c2 c3 c4 hbr
    by_cases hm:qm=rm
    ·have h2:(qm == rm)=true:=by rw [beq_iff_eq];exact hm
     have h3:decide (qg≤rg)=false:=by rw [decide_eq_false_iff_not];omega
     clear hlx hm
     go_wp2
     (refine wp_region_bel (by kernel_rfl) (by kernel_rfl) ?_;(repeat (go_big_quiet_step ((go_at_call 69;with_reducible exact Calls.bel_of (rIs_at (p:=(qm,qg)) (HBr.out.below (later_below _ _)) HG.out HI.out)))));refine wpQuiet_nil ?_;rintro _ ⟨xq,rfl⟩)
     go_wp2
     go_roundw
     case rel=>exact ⟨j+1+1,by omega,by go_num,Below.next hW (later_below _ _)⟩
     case measure=>simp [intOf];omega
    ·have h2:(qm == rm)=false:=by rw [beq_eq_false_iff_ne];exact hm
     clear hlx hm
     go_wp2
     (refine wp_region_bel (by kernel_rfl) (by kernel_rfl) ?_;(repeat (go_big_quiet_step ((go_at_call 69;with_reducible exact Calls.bel_of (rIs_at (p:=(qm,qg)) (HBr.out.below (later_below _ _)) HG.out HI.out)))));refine wpQuiet_nil ?_;rintro _ ⟨xq,rfl⟩)
     go_wp2
     go_roundw
     case rel=>exact ⟨j+1+1,by omega,by go_num,Below.next hW (later_below _ _)⟩
     case measure=>simp [intOf];omega
  ·obtain rfl:k=l.length:=by omega
   go_wp2
   go_ret
   exact ⟨rfl,hbr⟩
end
def PartsAll (w:World) (l:List Prt) (e:Ending) (w':World):Prop:=∃ a c,e=.returned (.slice a l.length c)∧PartsAt w' a l∧Below w.heap.size w w'
section
variable {b:Bk} {vr vg vm vs vc:Value} {w:World}
theorem rPartsOf_all (hB:BookAt w b vr vg vm vs vc) (hO:BkOk b) (hms:b.ms.length≤20) :
 Calls Tryz.prog 19 #[.agg #[vr,vg,vm,vs,vc]] w (PartsAll w (partsL b)):=by
 obtain ⟨ma,mc,rfl,hM,_⟩:=hB.ms
 have HM:=Hh hM
 have HBD:=Hh (parts_bd hO)
 have HG:=Hh hO.groups
 clear hM hB hO
 obtain ⟨i0,hi,hz0,hz1,hz2⟩:=info_parts partInfo
 go_enter Tryz.func19,Tryz.ntmps19
 go_wp2
 obtain ⟨W0,hW0⟩:∃ W0,W0=w.alloc (.cells #[vr,vg,.slice ma b.ms.length mc,vs,vc] 26):=⟨_,rfl⟩
 rw [← hW0]
 have hb0:Below w.heap.size w W0:=by rw [hW0];(exact bel)
 have hsz:W0.heap.size=w.heap.size+1:=by rw [hW0];simp
 have c2:W0.cell? ⟨w.heap.size,2,none⟩=some (.slice ma b.ms.length mc):=by rw [hW0,World.cell?_alloc_at _ _ _ _ rfl];rfl
 have HB0:=Hh hb0
 have hlw:w.heap.size < W0.heap.size:=by omega
 clear hW0 hb0
 go_loopw [3,4] (fun v t wr=>∃ (k:Nat) (a:Option Addr) (c n:Nat),k≤b.ms.length∧t=.int .i64 k∧v=.slice a n c∧Hid (n=(partsTo b k).length)∧Hid (wr.ownsRow W0.heap.size 41 2 (.slice a n c) n ((partsTo b k).flatMap cellsQ))∧Below W0.heap.size W0 wr) (fun _ t _=>b.ms.length - (intOf t).toNat)
 case atStart=>exact ⟨0,none,0,0,Nat.zero_le _,rfl,rfl,rfl,by show World.ownsRow _ _ _ _ _ _ _;simpa [partsTo] using World.ownsRow_nil _ _ _ _,Below.refl _ _⟩
 case round =>
  obtain ⟨k,a,c,n,hk,rfl,rfl,HN,HROW,hW⟩:=hrel
  have hWs:=hW.size
  have d2:=(hW.cell (p:=⟨w.heap.size,2,none⟩) hlw).trans c2
  have hlr:w.heap.size < wr.heap.size:=by omega
  by_cases hlt:k < b.ms.length
  ·obtain ⟨mb,mo,rfl,hmb,_,eg,_⟩:=HM.out k hlt
   have hmb0:mb < W0.heap.size:=by omega
   have fg:=(HB0.out.cell (p:=⟨mb,mo+k * 3+1,none⟩) hmb).trans eg
   obtain ⟨hg0,hg1⟩:=HG.out _ (List.getElem_mem hlt)
   have hsu:=partsTo_succ b k
   have hnx:=fun g (h:g < ((b.ms[k]?).elim 0 Msg.groups).toNat)=>parts_next b hlt h
   have hge:(b.ms[k]?).elim 0 Msg.groups=b.ms[k].groups:=by rw [List.getElem?_eq_getElem hlt];rfl
   rw [hge] at hsu hnx
   generalize b.ms[k].groups=gr at fg hg0 hg1 hsu hnx eg
   obtain ⟨m,rfl⟩:∃ m:Nat,gr=m:=⟨gr.toNat,by omega⟩
   rw [Int.toNat_natCast] at hsu hnx
   have HSU:=Hh hsu
   have HNX:=Hh hnx
   clear hsu hnx hge eg
   go_wp2
   go_loopw [3,5] (fun v t wo=>∃ (g:Nat) (a:Option Addr) (c n:Nat),g≤m∧t=.int .i64 g∧v=.slice a n c∧Hid (n=(partsTo b k ++ partsOf k g).length)∧Hid (wo.ownsRow W0.heap.size 41 2 (.slice a n c) n ((partsTo b k ++ partsOf k g).flatMap cellsQ))∧Below W0.heap.size W0 wo) (fun _ t _=>m - (intOf t).toNat)
   case atStart=>exact ⟨0,a,c,n,Nat.zero_le _,rfl,rfl,by show n=_;rw [HN.out];simp [partsOf],by simpa [Hid,partsOf] using HROW.out,hW⟩
   case round =>
    obtain ⟨g,a2,c2',n2,hg,rfl,rfl,HN2,HROW2,hW2⟩:=hrel
    have hWs2:=hW2.size
    have x2:=(hW2.cell (p:=⟨w.heap.size,2,none⟩) hlw).trans c2
    have xg:=(hW2.cell (p:=⟨mb,mo+k * 3+1,none⟩) hmb0).trans fg
    by_cases hlg:g < m
    ·obtain ⟨suf,hsuf⟩:=HNX.out g hlg
     have hbd:=HBD.out
     rw [hsuf,List.length_append,← HN2.out,List.length_cons] at hbd
     have hn5:n2≤5000:=by omega
     have hne:partsTo b k ++ partsOf k (g+1)=(partsTo b k ++ partsOf k g) ++ [((k:Int),(g:Int))]:=by rw [partsOf_succ,List.append_assoc]
     have HNE:=Hh hne
     clear hsuf hbd hne
     go_wp2_with (at_builtin;go_loud (refine wpList_append_own _ rfl _ _ 33 rfl W0.heap.size 41 i0 (.agg #[.int .i64 0,.int .i64 0]) 2 16 Tryz.underlying33 hi hz0 hz1 hz2 rfl (by decide) _ _ _ rfl (HROW2.out.alloc _) ⟨wr.heap.size,0,none⟩ 1 1 [.int .i64 (k:Int),.int .i64 (g:Int)] rfl rfl (cells_new _ _ _) (by simp [Value.oneCell']) (by unfold maxLen;omega) (by omega) (by simp;omega) ?_;intro v' w5 hown' hgrow _;obtain ⟨g',cap',rfl⟩:=ownsRow_succ hown';have hb5:=below_own (HROW2.out.alloc (.cells #[.int .i64 (k:Int),.int .i64 (g:Int)] 41)) hgrow (by simp;omega)))
     have hb6:Below W0.heap.size W0 w5:=(hW2.alloc (by omega) _).trans hb5
     have HO:=Hh hown'
     have HB6:=Hh hb6
     clear hb5 hb6 hown' hgrow
     go_roundw
     case rel=>exact ⟨g+1,some ⟨g',0,none⟩,cap',n2+1,by omega,by go_num,rfl,by show n2+1=_;rw [HNE.out,List.length_append,← HN2.out];rfl,by rw [HNE.out,List.flatMap_append];exact HO.out,HB6.out⟩
     case measure=>simp [intOf];omega
    ·obtain rfl:g=m:=by omega
     go_wp2
     go_roundw
     case rel=>exact ⟨k+1,a2,c2',n2,by omega,by go_num,rfl,by show n2=_;rw [HSU.out];exact HN2.out,by rw [HSU.out];exact HROW2,hW2⟩
     case measure=>simp [intOf];omega
  ·obtain rfl:k=b.ms.length:=by omega
   go_wp2
   go_ret
   exact ⟨a,c,by rw [HN.out];rfl,parts_of_row (by have:=HROW.out;rwa [HN.out] at this),Below.next HB0.out hW⟩
end
end Go.Proofs.YtgemjjdkjmpmlaaGreatDoor
