/- Leads to StoreReached of chapter 6: RF0 Law Law3 RF1 RF2. -/
import Derived.Test.YtgemjjdkjmpmlaaGreatDoorRF01
set_option maxHeartbeats 16000000
set_option maxRecDepth 100000
set_option linter.all false
namespace Go.Proofs.YtgemjjdkjmpmlaaGreatDoor
open Go.RowKit Go.Maps Sp Mt Go.Conc
variable {B pl iN mN pc xc dc P Q C ec wn:Nat} {b:Bk} {s s2 s3 g u c lo hi gr:Int} {vr vg vm vs vc x:Value} {w w0:World} {pa xa da ea:Option Addr} {q dq sn:List Int} {d:Nat→Value}
section
variable {b:Bk} {vr vg vm vs vc:Value} {w:World}
def cameQ (b:Bk) (p:Prt):Int:=if groupAl b p=0 then sayI (countI (oftenI b (pasts b) p) 1) (pasts b).length else 0
def loQ (b:Bk) (p:Prt):Int:=if groupAl b p=0 then loI b p else 0
def hiQ (b:Bk) (p:Prt):Int:=if groupAl b p=0 then hiI b p else 0
def delQ (b:Bk):List Int:=if openAl b 0=0 then deliveredI b else []
theorem came2_at (hB:BookAt w b vr vg vm vs vc) (hN:∀ m∈b.ms,m.name.size≤1000000) (hK:KindsAt w) (m g:Int) {c u:Int} (hc:cameQ b (m,g)=c) (hu:groupAl b (m,g)=u) :
 Calls Tryz.prog 48 #[.agg #[vr,vg,vm,vs,vc],.int .i64 m,.int .i64 g] w fun e w'=>e=.returned (.tuple #[.int .i64 c,.int .i64 u])∧Below w.heap.size w w':=by
 subst hc hu
 unfold cameQ
 by_cases h:groupAl b (m,g)=0
 ·rw [if_pos h,h]
  exact came_ok hB hN hK m g h
 ·rw [if_neg h]
  exact came_no hB hN hK m g rfl h
theorem copies2_at (hB:BookAt w b vr vg vm vs vc) (hN:∀ m∈b.ms,m.name.size≤1000000) (hK:KindsAt w) (m g:Int) {lo hi u:Int} (hl:loQ b (m,g)=lo) (hh:hiQ b (m,g)=hi) (hu:groupAl b (m,g)=u) :
 Calls Tryz.prog 50 #[.agg #[vr,vg,vm,vs,vc],.int .i64 m,.int .i64 g] w fun e w'=>e=.returned (.tuple #[.agg #[.int .i64 lo,.int .i64 hi],.int .i64 u])∧Below w.heap.size w w':=by
 subst hl hh hu
 unfold loQ hiQ
 by_cases h:groupAl b (m,g)=0
 ·rw [if_pos h,if_pos h,h]
  exact copies_api_ok hB hN hK m g h
 ·rw [if_neg h,if_neg h]
  exact copies_api_no hB hN hK m g rfl h
theorem delivered2_at (hB:BookAt w b vr vg vm vs vc) (hN:∀ m∈b.ms,m.name.size≤1000000) (hK:KindsAt w) {q:List Int} {u:Int} (hq:delQ b=q) (hu:openAl b 0=u) :
 Calls Tryz.prog 39 #[.agg #[vr,vg,vm,vs,vc]] w fun e w'=>∃ a c,e=.returned (.tuple #[.slice a q.length c,.int .i64 u])∧IntsAt w' a q∧Below w.heap.size w w':=by
 subst hq hu
 unfold delQ
 by_cases h:openAl b 0=0
 ·rw [if_pos h,h]
  exact delivered_ok hB hN hK h
 ·rw [if_neg h]
  refine (delivered_no hB hN hK rfl h).mono ?_
  rintro e w' ⟨rfl,hb⟩
  exact ⟨none,0,rfl,ints_nil,hb⟩
end
def ListI (w:World) (a:Option Addr) (ls:List (List Int)):Prop:=∀ i (h:i < ls.length),∃ b o xa xc,a=some ⟨b,o,none⟩∧b < w.heap.size∧w.cell? ⟨b,o+i,none⟩=some (.slice xa ls[i].length xc)∧IntsAt w xa ls[i]
theorem ListI.of {w:World} {a:Option Addr} {ls:List (List Int)} (h:ListsAt w a ls):ListI w a ls:=fun i hi=>by
 obtain ⟨b,o,e,hlt,v,hc,hv⟩:=h i hi
 obtain ⟨xa,xc,rfl,hx,_⟩:=hv.form
 exact ⟨b,o,xa,xc,e,hlt,hc,hx⟩
theorem ListI.old {w w1:World} {a:Option Addr} {ls:List (List Int)} (h:ListI w a ls) (t:Old w w1):ListI w1 a ls:=fun i hi=>by
 obtain ⟨b,o,xa,xc,e,hlt,hc,hx⟩:=h i hi
 exact ⟨b,o,xa,xc,e,Nat.lt_of_lt_of_le hlt t.size,t.cell2 hc,t.ints hx⟩
theorem ListI.twin {n:Nat} {w w1:World} {a:Option Addr} {ls:List (List Int)} (h:ListI w a ls) (t:Twin n w w1):ListI w1 a ls:=fun i hi=>by
 obtain ⟨b,o,xa,xc,e,hlt,hc,hx⟩:=h i hi
 exact ⟨b,o,xa,xc,e,by rw [t.size];exact hlt,(t.cell _).trans hc,t.ints hx⟩
end Go.Proofs.YtgemjjdkjmpmlaaGreatDoor
namespace Go.Proofs.YtgemjjdkjmpmlaaGreatDoor
open Go.RowKit Sp Mt Go.Conc
section
variable {P:Program} {b:Frame} {a:Act} {w:World} {k:List Item} {cs:List Frame} {K:Frame→List Frame→World→Prop}
theorem Twin.refl0 (w:World):Twin 0 w w:=⟨rfl,rfl,rfl,fun _=>rfl,fun _=>rfl,fun _ _=>rfl⟩
theorem Twin.at0 {w w1:World} (h:Twin 0 w w1) (d:Nat):Twin 0 w (w1.at d):=⟨h.os,h.output,h.size,h.cell,h.frozen,h.block⟩
theorem Twin.old0 {w w1 w2:World} (h:Twin 0 w w1) (k:Old w1 w2):Old w w2:=⟨k.os.trans h.os,k.output.trans h.output,by rw [← h.size];exact k.size,fun i hi=>(k.block i (by rw [h.size];exact hi)).trans (h.block i (Nat.zero_le _))⟩
def LeadsA (P:Program) (K:Frame→List Frame→World→Prop) (fr:Frame) (cs:List Frame) (w:World):Prop:=∀ w',Twin 0 w w'→Leads P K fr cs w'
theorem LeadsA.here {fr:Frame} (h:LeadsA P K fr cs w):Leads P K fr cs w:=h w (Twin.refl0 w)
theorem all_region {id:Nat} {ops:Array Oper} (h:LeadsA P K (b.at a (.inRegion ops (List.range ops.size)::k)) cs w):LeadsA P K (b.at a (.code (.region id ops false)::k)) cs w:=fun _ t=>leads_region fun d=>h _ (t.at0 d)
theorem all_end {ops:Array Oper} (h:LeadsA P K (b.at a k) cs w):LeadsA P K (b.at a (.inRegion ops []::k)) cs w:=fun _ t=>leads_inRegion fun d=>h _ (t.at0 d)
theorem all_seq {x y:Code} (h:LeadsA P K (b.at a (.code x::.code y::k)) cs w):LeadsA P K (b.at a (.code (.seq x y)::k)) cs w:=fun _ t=>leads_seq fun d=>h _ (t.at0 d)
theorem all_ret (h:LeadsA P K { b.at a (.code .ret::k) with mode:=.returning } cs w):LeadsA P K (b.at a (.code .ret::k)) cs w:=fun _ t=>leads_ret fun d=>h _ (t.at0 d)
theorem all_op {ops:Array Oper} {i:Nat} {rest:List Nat} (v:Value) (hb:b.kind=.normal) {o:Oper} (ho:ops[i]? = some o) (hw:Region.wanted o (yielded ops a.tmps)=true)
 (hr:∀ w',(execOp a.eval o).run P w'=.ok (.value v) w') (he:∀ w',(execOp a.eval o).events P w' #[]=#[])
 (h:LeadsA P K (b.at (a.put o.dst v) (.inRegion ops rest::k)) cs w):LeadsA P K (b.at a (.inRegion ops (i::rest)::k)) cs w:=fun _ t =>
 leads_op v hb ho hw (fun d=>hr _) (fun d e hm=>by rw [he] at hm;simp at hm) fun d=>h _ (t.at0 d)
theorem all_call {ops:Array Oper} {i:Nat} {rest:List Nat} (f:FuncId) (args:Array Value) (hb:b.kind=.normal) {o:Oper} (ho:ops[i]? = some o) (hw:Region.wanted o (yielded ops a.tmps)=true)
 (hr:∀ w',(execOp a.eval o).run P w'=.ok (.enter f args) w') (he:∀ w',(execOp a.eval o).events P w' #[]=#[]) {Z:Value→World→Prop}
 (hc:∀ (c:Frame) (w':World),Twin 0 w w'→Leads P (fun fr' cs' w1=>∃ v,fr'=c.finish v∧cs'=cs∧Z v w1) (Frame.enter P f args .normal) (c::cs) w')
 (h:∀ v w1,Z v w1→LeadsA P K (b.at (a.put o.dst v) (.inRegion ops rest::k)) cs w1):LeadsA P K (b.at a (.inRegion ops (i::rest)::k)) cs w:=fun w' t =>
 leads_call hb ho hw (fun d=>hr _) (fun d=>he _) (fun d=>hc _ _ (t.at0 d)) fun v w1 hz=>(h v w1 hz).here
end
section
variable {w:World} {cs:List Frame} {c:Frame}
end
theorem wps_cons {P:Program} {c:Code} {l:List Code} {Q:Act→World→Prop} {a:Act} {w:World} (h:c.wp P (fun e a' w'=>e=.normal∧a'.defers=[]∧∀ X,Twin 0 w' X→wps P l Q a' X) a w):wps P (c::l) Q a w :=
 Code.wp_mono (fun _ _ _ ⟨h1,h2,h3⟩=>⟨h1,h2,fun _=>h3 _ ⟨rfl,rfl,rfl,fun _=>rfl,fun _=>rfl,fun _ _=>rfl⟩⟩) h
theorem Twin.five {n:Nat} {w w1:World} (h:Twin n w w1) {r:Nat} {v0 v1 v2 v3 v4:Value} (k:Five w r v0 v1 v2 v3 v4):Five w1 r v0 v1 v2 v3 v4:=⟨(h.cell _).trans k.c0,(h.cell _).trans k.c1,(h.cell _).trans k.c2,(h.cell _).trans k.c3,(h.cell _).trans k.c4,by rw [h.size];exact k.lt⟩
theorem Old.twin0 {w w1 X:World} (h:Old w w1) (t:Twin 0 w1 X):Old w X:=⟨t.os.trans h.os,t.output.trans h.output,by rw [t.size];exact h.size,fun k hk=>(t.block k (Nat.zero_le _)).trans (h.block k hk)⟩
theorem Old.ofBelow {w w1:World} (h:Below w.heap.size w w1):Old w w1:=⟨h.os,h.output,h.size,h.block⟩
theorem Old.ks {w A B:World} {O:Nat} (h:Old w A) (hO:w.heap.size≤O) (hk:KS (fun k=>k < A.heap.size∧k≠O) A B):Old w B:=⟨hk.os.trans h.os,hk.output.trans h.output,Nat.le_trans h.size hk.size,fun k hkl=>(hk.block k (Nat.lt_of_lt_of_le hkl h.size) ⟨Nat.lt_of_lt_of_le hkl h.size,by omega⟩).trans (h.block k hkl)⟩
def NQ (R:Act→World→Prop):Exit→Act→World→Prop
 | .normal,a,w=>R a w
 | _,_,_=>False
theorem wps_nq {P:Program} {c:Code} {l:List Code} {Q:Act→World→Prop} {a:Act} {w:World} (h:c.wp P (NQ fun a' w'=>a'.defers=[]∧∀ X,Twin 0 w' X→wps P l Q a' X) a w):wps P (c::l) Q a w:=by
 refine wps_cons (Code.wp_mono (fun e a' w' hq=>?_) h)
 cases e <;> first | exact ⟨rfl,hq.1,hq.2⟩ | exact hq.elim
section
variable {P:Program} {b:Frame} {a:Act} {w:World} {k:List Item} {cs:List Frame} {K:Frame→List Frame→World→Prop}
theorem put_at {a:Act} {j:Nat} {v:Value} (h:j < a.tmps.size):(a.put (some j) v).tmps[j]? = some v:=by
 show (a.tmps.setIfInBounds j v)[j]? = some v
 simp [h]
theorem put_keep {a:Act} {j i:Nat} {v:Value} (hne:i≠j):(a.put (some j) v).tmps[i]? = a.tmps[i]? := by
 show (a.tmps.setIfInBounds j v)[i]? = a.tmps[i]?
 rw [Array.getElem?_setIfInBounds_ne (by omega)]
theorem wanted_g {o ok:Oper} {ops:Array Oper} {tmps:Array Value} {m j:Nat} {want:Bool} (hg:o.guard=some (m,want)) (hk:ops[m]? = some ok) (hd:ok.dst=some j) (hA:tmps[j]? = some (.bool want)):Region.wanted o (yielded ops tmps)=true:=by
 unfold Region.wanted yielded
 rw [hg]
 simp [hk,hd,hA]
end
def KnL (a:Act):List (Nat × Value)→Prop
 | []=>True
 | x::l=>a.tmps[x.1]? = some x.2∧KnL a l
structure Kn (a:Act) (n:Nat) (l:List (Nat × Value)):Prop where
 sz:a.tmps.size=n
 df:a.defers=[]
 kn:KnL a l
theorem KnL.get {a:Act} {j:Nat} {v:Value}:∀ {l:List (Nat × Value)},KnL a l→l.lookup j=some v→a.tmps[j]? = some v
 | [],_,e=>by simp at e
 | (i,u)::l,h,e=>by
  rw [List.lookup_cons] at e
  by_cases hji:j=i
  ·subst hji
   simp at e
   rw [← e]
   exact h.1
  ·rw [beq_eq_false_iff_ne.2 hji] at e
   exact KnL.get h.2 e
theorem KnL.put {a:Act} {j:Nat} {v:Value}:∀ {l:List (Nat × Value)},KnL a l→(l.all fun x=>x.1 != j)=true→KnL (a.put (some j) v) l
 | [],_,_=>trivial
 | x::l,h,e=>by
  simp only [List.all_cons,Bool.and_eq_true,bne_iff_ne] at e
  exact ⟨(put_keep e.1).trans h.1,KnL.put h.2 e.2⟩
section
variable {P:Program} {b:Frame} {a:Act} {w:World} {k:List Item} {cs:List Frame} {K:Frame→List Frame→World→Prop} {n:Nat} {l:List (Nat × Value)}
theorem Kn.g (q:Kn a n l) (j:Nat) {v:Value} (e:l.lookup j=some v):a.tmps[j]? = some v:=q.kn.get e
theorem Kn.cons (q:Kn a n l) {j:Nat} (hj:j < n) (e:(l.all fun x=>x.1 != j)=true) (v:Value):Kn (a.put (some j) v) n ((j,v)::l):=⟨(Array.size_setIfInBounds).trans q.sz,q.df,put_at (by rw [q.sz];exact hj),q.kn.put e⟩
theorem st {ops:Array Oper} {i j:Nat} {rest:List Nat} (v:Value) (hb:b.kind=.normal) {o:Oper} (ho:ops[i]? = some o) (hd:o.dst=some j) (hw:Region.wanted o (yielded ops a.tmps)=true)
 (hx:∀ w',(execOp a.eval o).run P w'=.ok (.value v) w'∧(execOp a.eval o).events P w' #[]=#[]) (q:Kn a n l) (hj:j < n) (e:(l.all fun x=>x.1 != j)=true)
 (h:∀ a1,Kn a1 n ((j,v)::l)→LeadsA P K (b.at a1 (.inRegion ops rest::k)) cs w):LeadsA P K (b.at a (.inRegion ops (i::rest)::k)) cs w:=by
 refine all_op v hb ho hw (fun w'=>(hx w').1) (fun w'=>(hx w').2) ?_
 rw [hd]
 exact h _ (q.cons hj e v)
theorem sr {ops:Array Oper} {i j:Nat} {rest:List Nat} (v:Value) (hb:b.kind=.normal) {o:Oper} (ho:ops[i]? = some o) (hd:o.dst=some j) (hw:Region.wanted o (yielded ops a.tmps)=true)
 (hr:∀ w',Twin 0 w w'→(execOp a.eval o).run P w'=.ok (.value v) w') (he:∀ w',Twin 0 w w'→∀ e∈(execOp a.eval o).events P w' #[],EvOk w'.heap.size e) (q:Kn a n l) (hj:j < n) (e:(l.all fun x=>x.1 != j)=true)
 (h:∀ a1,Kn a1 n ((j,v)::l)→LeadsA P K (b.at a1 (.inRegion ops rest::k)) cs w):LeadsA P K (b.at a (.inRegion ops (i::rest)::k)) cs w:=fun w1 t =>
 leads_op v hb ho hw (fun d=>hr _ (t.at0 d)) (fun d e hm=>he _ (t.at0 d) e hm) fun d=>by
  rw [hd]
  exact h _ (q.cons hj e v) _ (t.at0 d)
theorem sc {ops:Array Oper} {i j:Nat} {rest:List Nat} (f:FuncId) (args:Array Value) (hb:b.kind=.normal) {o:Oper} (ho:ops[i]? = some o) (hd:o.dst=some j) (hw:Region.wanted o (yielded ops a.tmps)=true)
 (hx:∀ w',(execOp a.eval o).run P w'=.ok (.enter f args) w'∧(execOp a.eval o).events P w' #[]=#[]) (q:Kn a n l) (hj:j < n) (e:(l.all fun x=>x.1 != j)=true) {v:Value}
 (hc:∀ (c:Frame) (w':World),Twin 0 w w'→Leads P (fun fr' cs' w1=>∃ v',fr'=c.finish v'∧cs'=cs∧v'=v∧Old w w1) (Frame.enter P f args .normal) (c::cs) w')
 (h:∀ (a1:Act) (w1:World),Old w w1→Kn a1 n ((j,v)::l)→LeadsA P K (b.at a1 (.inRegion ops rest::k)) cs w1):LeadsA P K (b.at a (.inRegion ops (i::rest)::k)) cs w:=by
 refine all_call f args hb ho hw (fun w'=>(hx w').1) (fun w'=>(hx w').2) (Z:=fun v' w1=>v'=v∧Old w w1) hc ?_
 rintro v' w1 ⟨rfl,ho1⟩
 rw [hd]
 exact h _ _ ho1 (q.cons hj e v')
end
def sql:Code→Code
 | .seq a _=>a
 | c=>c
def sqr:Code→Code
 | .seq _ b=>b
 | c=>c
def cnd:Code→Code
 | .cond _ a _=>a
 | c=>c
def sqN:Nat→Code→Code
 | 0,c=>c
 | k+1,c=>sqN k (sqr c)
theorem fr_of {F:(Nat→Value)→Act} {a':Act} (h:a'=F fun i=>a'.tmps.getD i undef):∃ d,a'=F d:=⟨_,h⟩
theorem wp_fr {P:Program} {c:Code} {Q:Exit→Act→World→Prop} {w:World} {F:(Nat→Value)→Act} {a:Act} (h:a=F fun i=>a.tmps.getD i undef) (hh:∀ d,c.wp P Q (F d) w):c.wp P Q a w:=by
 rw [h]
 exact hh _
end Go.Proofs.YtgemjjdkjmpmlaaGreatDoor
namespace Go.Proofs.YtgemjjdkjmpmlaaGreatDoor
open Go.RowKit Go.Maps Sp Mt Go.Conc
variable {B pl iN mN pc xc dc P Q C ec wn:Nat} {b:Bk} {s s2 s3 g u c lo hi gr:Int} {vr vg vm vs vc x:Value} {w w0:World} {pa xa da ea:Option Addr} {q dq sn:List Int} {d:Nat→Value}
noncomputable def rp (k:Nat):Code:=sql (sqN k (Tryz.f11.body.getD .skip))
theorem reBody_eq:Tryz.f11.body=some (.seq ((rp 0)) (.seq ((rp 1)) (.seq ((rp 2)) (.seq ((rp 3)) (.seq ((rp 4)) (.seq ((rp 5)) (.seq ((rp 6)) (.seq ((rp 7)) (.seq ((rp 8)) (.seq ((rp 9)) (.seq ((rp 10)) (.seq ((rp 11)) (.seq ((rp 12)) (.seq ((rp 13)) (.seq ((rp 14)) (.seq ((rp 15)) (.seq ((rp 16)) (.seq ((rp 17)) (.seq ((rp 18)) (.seq (rp 19) .ret)))))))))))))))))))):=by kernel_rfl
theorem rp1_eq:rp 1=.seq (sql (rp 1)) (.cond (.tmp 46) (cnd (sqr (rp 1))) .skip):=by kernel_rfl
theorem rp11_eq:rp 11=.seq (sql (rp 11)) (.cond (.tmp 114) (cnd (sqr (rp 11))) .skip):=by kernel_rfl
def frI (x0 x1 x2 x3:Value) (d:Nat→Value):Act:={ tmps:=#[x0,x1,x2,x3,d 4,d 5,d 6,d 7,d 8,d 9,d 10,d 11,d 12,d 13,d 14,d 15,d 16,d 17,d 18,d 19,d 20,d 21,d 22,d 23,d 24,d 25,d 26,d 27,d 28,d 29,d 30,d 31,d 32,d 33,d 34,d 35,d 36,d 37,d 38,d 39,d 40,d 41,d 42,d 43,d 44,d 45,d 46,d 47,d 48,d 49,d 50,d 51,d 52,d 53,d 54,d 55,d 56,d 57,d 58,d 59,d 60,d 61,d 62,d 63,d 64,d 65,d 66,d 67,d 68,d 69,d 70,d 71,d 72,d 73,d 74,d 75,d 76,d 77,d 78,d 79,d 80,d 81,d 82,d 83,d 84,d 85,d 86,d 87,d 88,d 89,d 90,d 91,d 92,d 93,d 94,d 95,d 96,d 97,d 98,d 99,d 100,d 101,d 102,d 103,d 104,d 105,d 106,d 107,d 108,d 109,d 110,d 111,d 112,d 113,d 114,d 115,d 116,d 117,d 118,d 119,d 120,d 121,d 122,d 123,d 124,d 125,d 126,d 127,d 128,d 129,d 130,d 131,d 132,d 133,d 134,d 135,d 136,d 137,d 138,d 139,d 140,d 141,d 142,d 143,d 144,d 145,d 146,d 147,d 148,d 149,d 150,d 151,d 152,d 153,d 154,d 155,d 156,d 157,d 158,d 159,d 160,d 161,d 162,d 163,d 164,d 165,d 166,d 167,d 168,d 169,d 170,d 171,d 172,d 173,d 174,d 175,d 176,d 177,d 178,d 179,d 180,d 181,d 182,d 183,d 184,d 185,d 186,d 187,d 188,d 189,d 190,d 191,d 192,d 193,d 194,d 195,d 196,d 197,d 198,d 199,d 200,d 201,d 202,d 203,d 204,d 205,d 206,d 207,d 208,d 209,d 210,d 211,d 212,d 213,d 214,d 215,d 216,d 217,d 218,d 219,d 220,d 221,d 222,d 223,d 224,d 225,d 226,d 227,d 228,d 229,d 230,d 231,d 232,d 233,d 234,d 235,d 236,d 237,d 238,d 239,d 240,d 241,d 242,d 243,d 244,d 245,d 246,d 247,d 248,d 249,d 250,d 251,d 252,d 253,d 254,d 255,d 256,d 257,d 258,d 259,d 260,d 261,d 262,d 263,d 264,d 265,d 266,d 267,d 268,d 269,d 270,d 271,d 272,d 273,d 274,d 275,d 276,d 277,d 278,d 279,d 280,d 281,d 282,d 283,d 284,d 285,d 286,d 287,d 288,d 289,d 290,d 291,d 292,d 293,d 294,d 295,d 296,d 297,d 298,d 299,d 300,d 301,d 302,d 303,d 304,d 305,d 306,d 307,d 308,d 309,d 310,d 311,d 312,d 313],defers:=[] }
def frG (B:Nat) (s s2 s3:Int) (vr vg vm vs vc x:Value) (d:Nat→Value):Act:={ tmps:=#[.agg #[vr,vg,vm,vs,vc],.int .u8 s,.int .u8 s2,.int .u8 s3,.pointer (some ⟨B,0,none⟩),d 5,d 6,d 7,.bool false,d 9,d 10,d 11,d 12,d 13,d 14,d 15,d 16,d 17,d 18,d 19,d 20,d 21,d 22,d 23,d 24,d 25,d 26,d 27,d 28,d 29,d 30,d 31,d 32,d 33,d 34,d 35,d 36,d 37,d 38,d 39,d 40,d 41,d 42,d 43,d 44,d 45,x,d 47,d 48,d 49,d 50,d 51,d 52,d 53,d 54,d 55,d 56,d 57,d 58,d 59,d 60,d 61,d 62,d 63,d 64,d 65,d 66,d 67,d 68,d 69,d 70,d 71,d 72,d 73,d 74,d 75,d 76,d 77,d 78,d 79,d 80,d 81,d 82,d 83,d 84,d 85,d 86,d 87,d 88,d 89,d 90,d 91,d 92,d 93,d 94,d 95,d 96,d 97,d 98,d 99,d 100,d 101,d 102,d 103,d 104,d 105,d 106,d 107,d 108,d 109,d 110,d 111,d 112,d 113,d 114,d 115,d 116,d 117,d 118,d 119,d 120,d 121,d 122,d 123,d 124,d 125,d 126,d 127,d 128,d 129,d 130,d 131,d 132,d 133,d 134,d 135,d 136,d 137,d 138,d 139,d 140,d 141,d 142,d 143,d 144,d 145,d 146,d 147,d 148,d 149,d 150,d 151,d 152,d 153,d 154,d 155,d 156,d 157,d 158,d 159,d 160,d 161,d 162,d 163,d 164,d 165,d 166,d 167,d 168,d 169,d 170,d 171,d 172,d 173,d 174,d 175,d 176,d 177,d 178,d 179,d 180,d 181,d 182,d 183,d 184,d 185,d 186,d 187,d 188,d 189,d 190,d 191,d 192,d 193,d 194,d 195,d 196,d 197,d 198,d 199,d 200,d 201,d 202,d 203,d 204,d 205,d 206,d 207,d 208,d 209,d 210,d 211,d 212,d 213,d 214,d 215,d 216,d 217,d 218,d 219,d 220,d 221,d 222,d 223,d 224,d 225,d 226,d 227,d 228,d 229,d 230,d 231,d 232,d 233,d 234,d 235,d 236,d 237,d 238,d 239,d 240,d 241,d 242,d 243,d 244,d 245,d 246,d 247,d 248,d 249,d 250,d 251,d 252,d 253,d 254,d 255,d 256,d 257,d 258,d 259,d 260,d 261,d 262,d 263,d 264,d 265,d 266,d 267,d 268,d 269,d 270,d 271,d 272,d 273,d 274,d 275,d 276,d 277,d 278,d 279,d 280,d 281,d 282,d 283,d 284,d 285,d 286,d 287,d 288,d 289,d 290,d 291,d 292,d 293,d 294,d 295,d 296,d 297,d 298,d 299,d 300,d 301,d 302,d 303,d 304,d 305,d 306,d 307,d 308,d 309,d 310,d 311,d 312,d 313],defers:=[] }
def frA (B pl iN mN pc xc dc P Q:Nat) (s s2 s3 u c:Int) (vr vg vm vs vc:Value) (pa xa da:Option Addr) (q dq:List Int) (d:Nat→Value):Act:={ tmps:=#[.agg #[vr,vg,vm,vs,vc],.int .u8 s,.int .u8 s2,.int .u8 s3,.pointer (some ⟨B,0,none⟩),d 5,d 6,d 7,.bool false,.slice pa pl pc,.int .i64 (iN:Int),.int .i64 (mN:Int),.pointer (some ⟨P,0,none⟩),.int .i64 (pl:Int),.int .i64 0,.slice xa q.length xc,.int .i64 u,.int .i64 c,.int .i64 u,.pointer (some ⟨Q,0,none⟩),.int .i64 u,.slice da dq.length dc,.int .i64 u,d 23,d 24,d 25,d 26,d 27,d 28,d 29,d 30,d 31,d 32,d 33,d 34,d 35,d 36,d 37,d 38,d 39,d 40,d 41,d 42,d 43,d 44,d 45,d 46,d 47,d 48,d 49,d 50,d 51,d 52,d 53,d 54,d 55,d 56,d 57,d 58,d 59,d 60,d 61,d 62,d 63,d 64,d 65,d 66,d 67,d 68,d 69,d 70,d 71,d 72,d 73,d 74,d 75,d 76,d 77,d 78,d 79,d 80,d 81,d 82,d 83,d 84,d 85,d 86,d 87,d 88,d 89,d 90,d 91,d 92,d 93,d 94,d 95,d 96,d 97,d 98,d 99,d 100,d 101,d 102,d 103,d 104,d 105,d 106,d 107,d 108,d 109,d 110,d 111,d 112,d 113,d 114,d 115,d 116,d 117,d 118,d 119,d 120,d 121,d 122,d 123,d 124,d 125,d 126,d 127,d 128,d 129,d 130,d 131,d 132,d 133,d 134,d 135,d 136,d 137,d 138,d 139,d 140,d 141,d 142,d 143,d 144,d 145,d 146,d 147,d 148,d 149,d 150,d 151,d 152,d 153,d 154,d 155,d 156,d 157,d 158,d 159,d 160,d 161,d 162,d 163,d 164,d 165,d 166,d 167,d 168,d 169,d 170,d 171,d 172,d 173,d 174,d 175,d 176,d 177,d 178,d 179,d 180,d 181,d 182,d 183,d 184,d 185,d 186,d 187,d 188,d 189,d 190,d 191,d 192,d 193,d 194,d 195,d 196,d 197,d 198,d 199,d 200,d 201,d 202,d 203,d 204,d 205,d 206,d 207,d 208,d 209,d 210,d 211,d 212,d 213,d 214,d 215,d 216,d 217,d 218,d 219,d 220,d 221,d 222,d 223,d 224,d 225,d 226,d 227,d 228,d 229,d 230,d 231,d 232,d 233,d 234,d 235,d 236,d 237,d 238,d 239,d 240,d 241,d 242,d 243,d 244,d 245,d 246,d 247,d 248,d 249,d 250,d 251,d 252,d 253,d 254,d 255,d 256,d 257,d 258,d 259,d 260,d 261,d 262,d 263,d 264,d 265,d 266,d 267,d 268,d 269,d 270,d 271,d 272,d 273,d 274,d 275,d 276,d 277,d 278,d 279,d 280,d 281,d 282,d 283,d 284,d 285,d 286,d 287,d 288,d 289,d 290,d 291,d 292,d 293,d 294,d 295,d 296,d 297,d 298,d 299,d 300,d 301,d 302,d 303,d 304,d 305,d 306,d 307,d 308,d 309,d 310,d 311,d 312,d 313],defers:=[] }
def frL (B pl iN mN pc xc dc P Q C:Nat) (s s2 s3 c:Int) (vr vg vm vs vc:Value) (pa xa da:Option Addr) (q dq:List Int) (x y:Value) (d:Nat→Value):Act:={ tmps:=#[.agg #[vr,vg,vm,vs,vc],.int .u8 s,.int .u8 s2,.int .u8 s3,.pointer (some ⟨B,0,none⟩),d 5,d 6,d 7,d 8,.slice pa pl pc,.int .i64 (iN:Int),.int .i64 (mN:Int),.pointer (some ⟨P,0,none⟩),.int .i64 (pl:Int),.int .i64 0,.slice xa q.length xc,.int .i64 0,.int .i64 c,.int .i64 0,.pointer (some ⟨Q,0,none⟩),.int .i64 0,.slice da dq.length dc,.int .i64 0,x,.pointer (some ⟨C,0,none⟩),y,d 26,d 27,d 28,d 29,d 30,d 31,d 32,d 33,d 34,d 35,d 36,d 37,d 38,d 39,d 40,d 41,d 42,d 43,d 44,d 45,d 46,d 47,d 48,d 49,d 50,d 51,d 52,d 53,d 54,d 55,d 56,d 57,d 58,d 59,d 60,d 61,d 62,d 63,d 64,d 65,d 66,d 67,d 68,d 69,d 70,d 71,d 72,d 73,d 74,d 75,d 76,d 77,d 78,d 79,d 80,d 81,d 82,d 83,d 84,d 85,d 86,d 87,d 88,d 89,d 90,d 91,d 92,d 93,d 94,d 95,d 96,d 97,d 98,d 99,d 100,d 101,d 102,d 103,d 104,d 105,d 106,d 107,d 108,d 109,d 110,d 111,d 112,d 113,d 114,d 115,d 116,d 117,d 118,d 119,d 120,d 121,d 122,d 123,d 124,d 125,d 126,d 127,d 128,d 129,d 130,d 131,d 132,d 133,d 134,d 135,d 136,d 137,d 138,d 139,d 140,d 141,d 142,d 143,d 144,d 145,d 146,d 147,d 148,d 149,d 150,d 151,d 152,d 153,d 154,d 155,d 156,d 157,d 158,d 159,d 160,d 161,d 162,d 163,d 164,d 165,d 166,d 167,d 168,d 169,d 170,d 171,d 172,d 173,d 174,d 175,d 176,d 177,d 178,d 179,d 180,d 181,d 182,d 183,d 184,d 185,d 186,d 187,d 188,d 189,d 190,d 191,d 192,d 193,d 194,d 195,d 196,d 197,d 198,d 199,d 200,d 201,d 202,d 203,d 204,d 205,d 206,d 207,d 208,d 209,d 210,d 211,d 212,d 213,d 214,d 215,d 216,d 217,d 218,d 219,d 220,d 221,d 222,d 223,d 224,d 225,d 226,d 227,d 228,d 229,d 230,d 231,d 232,d 233,d 234,d 235,d 236,d 237,d 238,d 239,d 240,d 241,d 242,d 243,d 244,d 245,d 246,d 247,d 248,d 249,d 250,d 251,d 252,d 253,d 254,d 255,d 256,d 257,d 258,d 259,d 260,d 261,d 262,d 263,d 264,d 265,d 266,d 267,d 268,d 269,d 270,d 271,d 272,d 273,d 274,d 275,d 276,d 277,d 278,d 279,d 280,d 281,d 282,d 283,d 284,d 285,d 286,d 287,d 288,d 289,d 290,d 291,d 292,d 293,d 294,d 295,d 296,d 297,d 298,d 299,d 300,d 301,d 302,d 303,d 304,d 305,d 306,d 307,d 308,d 309,d 310,d 311,d 312,d 313],defers:=[] }
def RZ0 (b:Bk) (s s2 s3:Int) (vr vg vm vs vc:Value) (a':Act) (w2:World):Prop:=∃ B x,(∃ d,a'=frG B s s2 s3 vr vg vm vs vc x d)∧LawAt w2 B b [] vr vg vm vs vc none
theorem re_0 (hR:RawAt w b vr vg vm vs vc) (hK:KindsAt w):(rp 0).wp Tryz.prog (PZ w (RZ0 b s s2 s3 vr vg vm vs vc)) (frI (.agg #[vr,vg,vm,vs,vc]) (.int .u8 s) (.int .u8 s2) (.int .u8 s3) d) w:=by
 simp only [rp,sqN,sql,sqr,cnd,Tryz.f11,Option.getD_some,frI]
 have HR:=Hh hR
 have HK:=Hh hK
 clear hR hK
 go_wp2
 have hbw:Below w.heap.size w (w.alloc (.cells #[vr,vg,vm,vs,vc] 26)):=bel
 refine ⟨rfl,⟨w.heap.size,d 46,fr_of (by kernel_rfl),?_,?_,?_,?_,?_,HR.out.below hbw,HK.out.below hbw,ints_nil⟩,hbw⟩ <;> (rw [World.cell?_alloc_at _ _ _ _ rfl];rfl)
def RZ1 (B:Nat) (s s2 s3:Int) (vr vg vm vs vc:Value) (x:Bool) (a':Act) (w2:World):Prop:=∃ d,a'=frG B s s2 s3 vr vg vm vs vc (.bool x) d
theorem re_1 {y:Bool} (hE:LawAt w B b [] vr vg vm vs vc none) (hx:y=true↔¬ ((SmallB b∧bookAl b=0)∧b.ss≠[]∧b.ms≠[])):(sql (rp 1)).wp Tryz.prog (PZ w (RZ1 B s s2 s3 vr vg vm vs vc y)) (frG B s s2 s3 vr vg vm vs vc x d) w:=by
 simp only [rp,sqN,sql,sqr,cnd,Tryz.f11,Option.getD_some,frG]
 have hrw:=hE.raw
 obtain ⟨x0,x1,x2,x3,x4,_,_,_⟩:=hE
 have HRW:=Hh hrw
 have hB0:=lt_of_cell x0
 simp only at hB0
 obtain ⟨rfl,rfl,⟨ma,mc,rfl,_⟩,⟨sa,sc,rfl,_⟩,ra,rc,rfl,_⟩:=hrw
 by_cases hs:SmallB b∧bookAl b=0
 ·have HG:=Hh (show (true=true↔SmallB b∧bookAl b=0) by simp [hs])
  by_cases hl:b.ss=[]
  ·obtain rfl:y=true:=hx.2 fun h=>h.2.1 hl
   have e0:((b.ss.length:Int) == 0)=true:=by simp [hl]
   clear hs hx hl
   go_wp2_with (go_at_call 13;(with_reducible refine (fit_at HRW.out HG.out).mono ?_);rintro e w1 ⟨rfl,hb1⟩;obtain ⟨hc1,hf1⟩:=bcell hb1;have hz1:=hb1.size)
   exact ⟨rfl,fr_of (by kernel_rfl),bel⟩
  ·have e0:((b.ss.length:Int) == 0)=false:=by simp [hl]
   by_cases hm:b.ms=[]
   ·obtain rfl:y=true:=hx.2 fun h=>h.2.2 hm
    have e1:((b.ms.length:Int) == 0)=true:=by simp [hm]
    clear hs hx hl hm
    go_wp2_with (go_at_call 13;(with_reducible refine (fit_at HRW.out HG.out).mono ?_);rintro e w1 ⟨rfl,hb1⟩;obtain ⟨hc1,hf1⟩:=bcell hb1;have hz1:=hb1.size)
    exact ⟨rfl,fr_of (by kernel_rfl),bel⟩
   ·obtain rfl:y=false:=by
     cases y with
     | false=>rfl
     | true=>exact absurd ⟨hs,hl,hm⟩ (hx.1 rfl)
    have e1:((b.ms.length:Int) == 0)=false:=by simp [hm]
    clear hs hx hl hm
    go_wp2_with (go_at_call 13;(with_reducible refine (fit_at HRW.out HG.out).mono ?_);rintro e w1 ⟨rfl,hb1⟩;obtain ⟨hc1,hf1⟩:=bcell hb1;have hz1:=hb1.size)
    exact ⟨rfl,fr_of (by kernel_rfl),bel⟩
 ·have HG:=Hh (show (false=true↔SmallB b∧bookAl b=0) by simp [hs])
  obtain rfl:y=true:=hx.2 fun h=>hs h.1
  clear hs hx
  go_wp2_with (go_at_call 13;(with_reducible refine (fit_at HRW.out HG.out).mono ?_);rintro e w1 ⟨rfl,hb1⟩;obtain ⟨hc1,hf1⟩:=bcell hb1;have hz1:=hb1.size)
  exact ⟨rfl,fr_of (by kernel_rfl),bel⟩
structure RSt (w:World) (B:Nat) (b:Bk) (vr vg vm vs vc:Value) (pa xa da:Option Addr) (P Q:Nat) (m g lo hi:Int) (q dq:List Int):Prop where
 law:LawAt w B b [] vr vg vm vs vc none
 ls:ListI w pa (pasts b)
 xs:IntsAt w xa q
 ds:IntsAt w da dq
 p0:w.cell? ⟨P,0,none⟩=some (.int .i64 m)
 p1:w.cell? ⟨P,1,none⟩=some (.int .i64 g)
 q0:w.cell? ⟨Q,0,none⟩=some (.int .i64 lo)
 q1:w.cell? ⟨Q,1,none⟩=some (.int .i64 hi)
section
variable {w1:World} {m:Int}
theorem RSt.old (h:RSt w B b vr vg vm vs vc pa xa da P Q m g lo hi q dq) (t:Old w w1):RSt w1 B b vr vg vm vs vc pa xa da P Q m g lo hi q dq:=⟨h.law.old t,h.ls.old t,t.ints h.xs,t.ints h.ds,t.cell2 h.p0,t.cell2 h.p1,t.cell2 h.q0,t.cell2 h.q1⟩
theorem RSt.twin {n:Nat} (h:RSt w B b vr vg vm vs vc pa xa da P Q m g lo hi q dq) (t:Twin n w w1):RSt w1 B b vr vg vm vs vc pa xa da P Q m g lo hi q dq:=⟨h.law.twin t,h.ls.twin t,t.ints h.xs,t.ints h.ds,(t.cell _).trans h.p0,(t.cell _).trans h.p1,(t.cell _).trans h.q0,(t.cell _).trans h.q1⟩
end
variable {B pl iN mN pc xc dc P Q C ec wn:Nat} {b:Bk} {s s2 s3 g u c lo hi gr:Int} {vr vg vm vs vc x:Value} {w w0:World} {pa xa da ea:Option Addr} {q dq sn:List Int} {d:Nat→Value}
def RZA (B pl iN mN:Nat) (s s2 s3:Int) (vr vg vm vs vc:Value) (b:Bk) (g u c lo hi:Int) (q dq:List Int) (a':Act) (w2:World):Prop:=∃ pa pc xa xc da dc P Q,(∃ d,a'=frA B pl iN mN pc xc dc P Q s s2 s3 u c vr vg vm vs vc pa xa da q dq d)∧RSt w2 B b vr vg vm vs vc pa xa da P Q (mN:Int) g lo hi q dq
theorem re_A (hE:LawAt w B b [] vr vg vm vs vc none) (hS:SmallB b) (hk:bookAl b=0) (hpl:(pasts b).length=pl) (hn:0 < b.ss.length) (hm:0 < b.ms.length)
 (hs0:0≤s) (hs1:s≤255) (ht0:0≤s2) (ht1:s2≤255) (hv0:0≤s3) (hv1:s3≤255) (hi1:s % (b.ss.length:Int)=(iN:Int)) (hi2:s2 % (b.ms.length:Int)=(mN:Int)) (hmN:mN < b.ms.length) (hgr:b.ms[mN].groups=gr) (hgr0:1≤gr) (hgr1:gr≤4) (hi3:s3 % gr=g)
 (hq:thr b (iN:Int)=q) (hu:throughAl b (iN:Int)=u) (hc2:cameQ b ((mN:Int),g)=c) (hu2:groupAl b ((mN:Int),g)=u) (hlo:loQ b ((mN:Int),g)=lo) (hhi:hiQ b ((mN:Int),g)=hi) (hdq:delQ b=dq) (hu3:openAl b 0=u) :
 wps Tryz.prog [rp 2,rp 3,rp 4,rp 5,rp 6,rp 7,rp 8,rp 9,rp 10] (fun a' w2=>RZA B pl iN mN s s2 s3 vr vg vm vs vc b g u c lo hi q dq a' w2∧Old w w2) (frG B s s2 s3 vr vg vm vs vc x d) w:=by
 unfold frG
 have hn20:b.ss.length≤20:=hS.2.1
 have hm20:b.ms.length≤20:=hS.1
 have HS:=Hh hS
 have HN:=Hh hS.names
 have HAL:=Hh hk
 have HO:=Hh (bookAl_ok hk)
 have HPL:=Hh hpl
 have HH:=Hh (show histN b=(pl:Int) by unfold histN;rw [if_pos hk,hpl])
 have HI1:=Hh hi1
 have HI2:=Hh hi2
 have HI3:=Hh hi3
 have HQ:=Hh hq
 have HU:=Hh hu
 have HC2:=Hh hc2
 have HU2:=Hh hu2
 have HLO:=Hh hlo
 have HHI:=Hh hhi
 have HDQ:=Hh hdq
 have HU3:=Hh hu3
 have hnz:((b.ss.length:Int) == 0)=false:=by rw [beq_eq_false_iff_ne];omega
 have hmz:((b.ms.length:Int) == 0)=false:=by rw [beq_eq_false_iff_ne];omega
 have hgz:(gr == 0)=false:=by rw [beq_eq_false_iff_ne];omega
 have e0:((pl:Int) != (pl:Int))=false:=by simp
 clear hS hk hpl hi1 hi2 hi3 hq hu hc2 hu2 hlo hhi hdq hu3
 obtain ⟨rfl,rfl,⟨ma,mc,rfl,hM⟩,⟨sa,sc,rfl,_⟩,ra,rc,rfl,_⟩:=hE.raw
 obtain ⟨mb,mo,rfl,hmb,_,hgc,_⟩:=hM mN hmN
 rw [hgr] at hgc
 have GC:=Hh hgc
 clear hgc hM hgr
 refine wps_nq ?_
 obtain ⟨cc,hcc⟩:∃ c,rp 2=c:=⟨_,rfl⟩
 rw [hcc]
 simp only [rp,sqN,sql,sqr,cnd,Tryz.f11,Option.getD_some] at hcc
 subst hcc
 obtain ⟨c0,c1,c2,c3,c4,_,_,_⟩:=id hE
 have HBx:=Hh (hE.raw.book HS.out)
 have HKx:=Hh hE.kd
 have EE:=Hh hE
 clear hE
 have hB0:=lt_of_cell c0
 simp only at hB0
 go_wp2_with (go_at_call 22;(with_reducible refine (rPastsOf_at HBx.out HO.out.1 HO.out.2).mono ?_);rintro e w1 ⟨pa,pc,pvs,rfl,hrow1,hl1,hb1⟩;rw [HPL.out])
 have hli:=ListI.of (lists_of_row hrow1 hl1)
 clear hrow1 hl1
 refine ⟨rfl,fun X1 t1=>?_⟩
 have o1:=Old.twin0 (Old.ofBelow hb1) t1
 have E1:=EE.out.old o1
 have OO1:=Hh (o1)
 replace GC:=Hh (o1.cell2 GC.out)
 have LI:=Hh (hli.twin t1)
 clear hli
 clear c0 c1 c2 c3 c4 HBx HKx EE t1 o1 hB0 hb1
 refine wps_nq ?_
 obtain ⟨cc,hcc⟩:∃ c,rp 3=c:=⟨_,rfl⟩
 rw [hcc]
 simp only [rp,sqN,sql,sqr,cnd,Tryz.f11,Option.getD_some] at hcc
 subst hcc
 obtain ⟨c0,c1,c2,c3,c4,_,_,_⟩:=id E1
 have HBx:=Hh (E1.raw.book HS.out)
 have HKx:=Hh E1.kd
 have EE:=Hh E1
 clear E1
 have hB0:=lt_of_cell c0
 simp only at hB0
 have hws:IntKind.i64.wrap s=s:=wrapI (by omega) (by omega)
 have hwm:IntKind.i64.wrap s2=s2:=wrapI (by omega) (by omega)
 go_quiet (fail)
 clear hws hwm
 simp only [Int.tmod_eq_emod_of_nonneg hs0,Int.tmod_eq_emod_of_nonneg ht0,HI1.out,HI2.out]
 refine ⟨rfl,fun X2 t1=>?_⟩
 have o1:=Old.twin0 (Old.ofBelow (w:=X1) (by first | exact Below.refl _ _ | (exact bel))) t1
 have E2:=EE.out.old o1
 have OO2:=Hh (OO1.out.trans o1)
 replace GC:=Hh (o1.cell2 GC.out)
 replace LI:=Hh (LI.out.old o1)
 clear c0 c1 c2 c3 c4 HBx HKx EE t1 o1 hB0 OO1
 refine wps_nq ?_
 obtain ⟨cc,hcc⟩:∃ c,rp 4=c:=⟨_,rfl⟩
 rw [hcc]
 simp only [rp,sqN,sql,sqr,cnd,Tryz.f11,Option.getD_some] at hcc
 subst hcc
 obtain ⟨c0,c1,c2,c3,c4,_,_,_⟩:=id E2
 have HBx:=Hh (E2.raw.book HS.out)
 have HKx:=Hh E2.kd
 have EE:=Hh E2
 clear E2
 have hB0:=lt_of_cell c0
 simp only at hB0
 have gc:=GC.out
 have hmb2:=lt_of_cell gc
 simp only at hmb2
 go_wp2_with (go_at_call 57;(refine (part_at _ _ _).mono ?_);rintro e w1 ⟨rfl,hb0⟩)
 rw [HI3.out]
 have hb1:Below X2.heap.size X2 (w1.alloc (.cells #[.int .i64 (mN:Int),.int .i64 g] 41)):=bel
 have hp0:(w1.alloc (.cells #[.int .i64 (mN:Int),.int .i64 g] 41)).cell? ⟨w1.heap.size,0,none⟩=some (.int .i64 (mN:Int)):=by rw [World.cell?_alloc_at _ _ _ _ rfl];rfl
 have hp1:(w1.alloc (.cells #[.int .i64 (mN:Int),.int .i64 g] 41)).cell? ⟨w1.heap.size,1,none⟩=some (.int .i64 g):=by rw [World.cell?_alloc_at _ _ _ _ rfl];rfl
 refine ⟨rfl,fun X3 t1=>?_⟩
 have o1:=Old.twin0 (Old.ofBelow hb1) t1
 have E3:=EE.out.old o1
 have OO3:=Hh (OO2.out.trans o1)
 replace LI:=Hh (LI.out.old o1)
 have P0:=Hh ((t1.cell _).trans hp0)
 have P1:=Hh ((t1.cell _).trans hp1)
 clear hp0 hp1 hb0
 clear c0 c1 c2 c3 c4 HBx HKx EE t1 o1 hB0 hb1 OO2
 generalize w1.heap.size=P at P0 P1 ⊢
 refine wps_nq ?_
 obtain ⟨cc,hcc⟩:∃ c,rp 5=c:=⟨_,rfl⟩
 rw [hcc]
 simp only [rp,sqN,sql,sqr,cnd,Tryz.f11,Option.getD_some] at hcc
 subst hcc
 obtain ⟨c0,c1,c2,c3,c4,_,_,_⟩:=id E3
 have HBx:=Hh (E3.raw.book HS.out)
 have HKx:=Hh E3.kd
 have EE:=Hh E3
 clear E3
 have hB0:=lt_of_cell c0
 simp only at hB0
 go_wp2_with (go_at_call 24;(with_reducible refine (histories2_at HBx.out HN.out HKx.out HH.out HAL.out).mono ?_);rintro e w1 ⟨rfl,hb1⟩)
 refine ⟨rfl,fun X4 t1=>?_⟩
 have o1:=Old.twin0 (Old.ofBelow hb1) t1
 have E4:=EE.out.old o1
 have OO4:=Hh (OO3.out.trans o1)
 replace LI:=Hh (LI.out.old o1)
 replace P0:=Hh (o1.cell2 P0.out)
 replace P1:=Hh (o1.cell2 P1.out)
 clear c0 c1 c2 c3 c4 HBx HKx EE t1 o1 hB0 hb1 OO3
 refine wps_nq ?_
 obtain ⟨cc,hcc⟩:∃ c,rp 6=c:=⟨_,rfl⟩
 rw [hcc]
 simp only [rp,sqN,sql,sqr,cnd,Tryz.f11,Option.getD_some] at hcc
 subst hcc
 obtain ⟨c0,c1,c2,c3,c4,_,_,_⟩:=id E4
 have HBx:=Hh (E4.raw.book HS.out)
 have HKx:=Hh E4.kd
 have EE:=Hh E4
 clear E4
 have hB0:=lt_of_cell c0
 simp only at hB0
 go_wp2_with (go_at_call 40;(with_reducible refine (through2_at HBx.out HN.out HKx.out HQ.out HU.out).mono ?_);rintro e w1 ⟨xa,xc,rfl,hx1,hb1⟩)
 refine ⟨rfl,fun X5 t1=>?_⟩
 have o1:=Old.twin0 (Old.ofBelow hb1) t1
 have E5:=EE.out.old o1
 have OO5:=Hh (OO4.out.trans o1)
 replace LI:=Hh (LI.out.old o1)
 replace P0:=Hh (o1.cell2 P0.out)
 replace P1:=Hh (o1.cell2 P1.out)
 have XI:=Hh (t1.ints hx1)
 clear hx1
 clear c0 c1 c2 c3 c4 HBx HKx EE t1 o1 hB0 hb1 OO4
 refine wps_nq ?_
 obtain ⟨cc,hcc⟩:∃ c,rp 7=c:=⟨_,rfl⟩
 rw [hcc]
 simp only [rp,sqN,sql,sqr,cnd,Tryz.f11,Option.getD_some] at hcc
 subst hcc
 obtain ⟨c0,c1,c2,c3,c4,_,_,_⟩:=id E5
 have HBx:=Hh (E5.raw.book HS.out)
 have HKx:=Hh E5.kd
 have EE:=Hh E5
 clear E5
 have hB0:=lt_of_cell c0
 simp only at hB0
 have p1:=P1.out
 have hP2:=lt_of_cell p1
 simp only at hP2
 go_wp2_with (go_at_call 48;(with_reducible refine (came2_at HBx.out HN.out HKx.out _ _ HC2.out HU2.out).mono ?_);rintro e w1 ⟨rfl,hb1⟩)
 clear p1 hP2
 refine ⟨rfl,fun X6 t1=>?_⟩
 have o1:=Old.twin0 (Old.ofBelow hb1) t1
 have E6:=EE.out.old o1
 have OO6:=Hh (OO5.out.trans o1)
 replace LI:=Hh (LI.out.old o1)
 replace P0:=Hh (o1.cell2 P0.out)
 replace P1:=Hh (o1.cell2 P1.out)
 replace XI:=Hh (o1.ints XI.out)
 clear c0 c1 c2 c3 c4 HBx HKx EE t1 o1 hB0 hb1 OO5
 refine wps_nq ?_
 obtain ⟨cc,hcc⟩:∃ c,rp 8=c:=⟨_,rfl⟩
 rw [hcc]
 simp only [rp,sqN,sql,sqr,cnd,Tryz.f11,Option.getD_some] at hcc
 subst hcc
 obtain ⟨c0,c1,c2,c3,c4,_,_,_⟩:=id E6
 have HBx:=Hh (E6.raw.book HS.out)
 have HKx:=Hh E6.kd
 have EE:=Hh E6
 clear E6
 have hB0:=lt_of_cell c0
 simp only at hB0
 have p1:=P1.out
 have hP2:=lt_of_cell p1
 simp only at hP2
 go_wp2_with (go_at_call 50;(with_reducible refine (copies2_at HBx.out HN.out HKx.out _ _ HLO.out HHI.out HU2.out).mono ?_);rintro e w1 ⟨rfl,hb0⟩)
 have hb1:Below X6.heap.size X6 (w1.alloc (.cells #[.int .i64 lo,.int .i64 hi] 90)):=bel
 have hp0:(w1.alloc (.cells #[.int .i64 lo,.int .i64 hi] 90)).cell? ⟨w1.heap.size,0,none⟩=some (.int .i64 lo):=by rw [World.cell?_alloc_at _ _ _ _ rfl];rfl
 have hp1:(w1.alloc (.cells #[.int .i64 lo,.int .i64 hi] 90)).cell? ⟨w1.heap.size,1,none⟩=some (.int .i64 hi):=by rw [World.cell?_alloc_at _ _ _ _ rfl];rfl
 clear p1 hP2
 refine ⟨rfl,fun X7 t1=>?_⟩
 have o1:=Old.twin0 (Old.ofBelow hb1) t1
 have E7:=EE.out.old o1
 have OO7:=Hh (OO6.out.trans o1)
 replace LI:=Hh (LI.out.old o1)
 replace P0:=Hh (o1.cell2 P0.out)
 replace P1:=Hh (o1.cell2 P1.out)
 replace XI:=Hh (o1.ints XI.out)
 have Q0:=Hh ((t1.cell _).trans hp0)
 have Q1:=Hh ((t1.cell _).trans hp1)
 clear hp0 hp1 hb0
 clear c0 c1 c2 c3 c4 HBx HKx EE t1 o1 hB0 hb1 OO6
 generalize w1.heap.size=Q at Q0 Q1 ⊢
 refine wps_nq ?_
 obtain ⟨cc,hcc⟩:∃ c,rp 9=c:=⟨_,rfl⟩
 rw [hcc]
 simp only [rp,sqN,sql,sqr,cnd,Tryz.f11,Option.getD_some] at hcc
 subst hcc
 obtain ⟨c0,c1,c2,c3,c4,_,_,_⟩:=id E7
 have HBx:=Hh (E7.raw.book HS.out)
 have HKx:=Hh E7.kd
 have EE:=Hh E7
 clear E7
 have hB0:=lt_of_cell c0
 simp only at hB0
 go_wp2_with (go_at_call 39;(with_reducible refine (delivered2_at HBx.out HN.out HKx.out HDQ.out HU3.out).mono ?_);rintro e w1 ⟨da,dc,rfl,hx1,hb1⟩)
 refine ⟨rfl,fun X8 t1=>?_⟩
 have o1:=Old.twin0 (Old.ofBelow hb1) t1
 have E8:=EE.out.old o1
 have OO8:=Hh (OO7.out.trans o1)
 replace LI:=Hh (LI.out.old o1)
 replace P0:=Hh (o1.cell2 P0.out)
 replace P1:=Hh (o1.cell2 P1.out)
 replace XI:=Hh (o1.ints XI.out)
 replace Q0:=Hh (o1.cell2 Q0.out)
 replace Q1:=Hh (o1.cell2 Q1.out)
 have DI:=Hh (t1.ints hx1)
 clear hx1
 clear c0 c1 c2 c3 c4 HBx HKx EE t1 o1 hB0 hb1 OO7
 refine wps_nq ?_
 obtain ⟨cc,hcc⟩:∃ c,rp 10=c:=⟨_,rfl⟩
 rw [hcc]
 simp only [rp,sqN,sql,sqr,cnd,Tryz.f11,Option.getD_some] at hcc
 subst hcc
 obtain ⟨c0,c1,c2,c3,c4,_,_,_⟩:=id E8
 have HBx:=Hh (E8.raw.book HS.out)
 have HKx:=Hh E8.kd
 have EE:=Hh E8
 clear E8
 have hB0:=lt_of_cell c0
 simp only at hB0
 go_wp2
 refine ⟨rfl,fun X9 t1=>?_⟩
 have o1:=Old.twin0 (Old.ofBelow (w:=X8) (by first | exact Below.refl _ _ | (exact bel))) t1
 have E9:=EE.out.old o1
 have OO9:=Hh (OO8.out.trans o1)
 replace LI:=Hh (LI.out.old o1)
 replace P0:=Hh (o1.cell2 P0.out)
 replace P1:=Hh (o1.cell2 P1.out)
 replace XI:=Hh (o1.ints XI.out)
 replace Q0:=Hh (o1.cell2 Q0.out)
 replace Q1:=Hh (o1.cell2 Q1.out)
 replace DI:=Hh (o1.ints DI.out)
 clear c0 c1 c2 c3 c4 HBx HKx EE t1 o1 hB0 OO8
 exact ⟨⟨pa,pc,xa,xc,da,dc,P,Q,fr_of (by kernel_rfl),E9,LI.out,XI.out,DI.out,P0.out,P1.out,Q0.out,Q1.out⟩,OO9.out⟩
end Go.Proofs.YtgemjjdkjmpmlaaGreatDoor
