/- StoreLoaded -/
import Derived.Test.YtdjnkplgllakcaaGreatDoorProg
import Derived.WalkSpells
import Derived.BigQuiet
import Derived.Lib.Hide
import Derived.DeepKeys4
set_option maxHeartbeats 1000000
set_option maxRecDepth 100000
set_option linter.all false
namespace Go.Proofs.YtdjnkplgllakcaaGreatDoor
abbrev U : Value := undef
theorem Hh {p : Prop} (h : p) : RowKit.Hid p := Lib.hid h
end Go.Proofs.YtdjnkplgllakcaaGreatDoor
namespace Go.Proofs.YtdjnkplgllakcaaGreatDoor
namespace Sp
abbrev Prt:=Int × Int
structure Msg where
 name:ByteArray
 groups:Int
 due:Int
structure Rec where
 k:Int
 a:Int
 b:Int
 m:Int
structure Bk where
 room:Int
 gap:Int
 ms:List Msg
 ss:List (List Prt)
 rs:List Rec
def inB (n low high:Int):Bool:=decide (low<=n/\n<=high)
def letter (c:UInt8):Bool:=decide (97<=c.toNat/\c.toNat<=122)
def digit (c:UInt8):Bool:=decide (48<=c.toNat/\c.toNat<=57)
def okAt (i:Nat) (c:UInt8):Bool:=letter c || (decide (0 < i) && digit c)
def okName (l:List UInt8):Bool:=(List.range l.length).all fun i=>okAt i (l.getD i 0)
def isName (l:List UInt8):Bool:=okName l && inB l.length 1 9
def isPart (b:Bk) (p:Prt):Bool:=inB p.1 0 ((b.ms.length:Int) - 1) && inB p.2 0 (((b.ms[p.1.toNat]?).elim 0 Msg.groups) - 1)
def numbersAl (b:Bk):Int:=if inB b.room 1 20 && inB b.gap 0 99 then 0 else 1
def goM (seen:List (List UInt8)):List Msg->Int
 | []=>0
 | m::l=>if isName m.name.data.toList=false then 4 else if m.name.data.toList∈seen then 5 else if inB m.groups 1 4=false\/inB m.due 0 999=false then 1 else goM (m.name.data.toList::seen) l
def msgsAl (b:Bk):Int:=if 5 < b.ms.length then 2 else goM [] b.ms
def goP (b:Bk) (seen:List Prt):List Prt->Int
 | []=>0
 | p::l=>if isPart b p=false then 6 else if p∈seen then 5 else goP b (p::seen) l
def goS (b:Bk):List (List Prt)->Int
 | []=>0
 | s::l=>if 5 < s.length then 2 else if goP b [] s≠0 then goP b [] s else goS b l
def sessAl (b:Bk):Int:=if 4 < b.ss.length then 2 else goS b b.ss
def usesB (k:Int):Bool:=decide (k=4)
def usesMany (k:Int):Bool:=decide (2<=k)
def most (b:Bk) (r:Rec):Option Int :=
 if r.k<=3 then (if inB r.a 0 ((b.ss.length:Int) - 1) then some (((b.ss[r.a.toNat]?).elim 0 List.length:Nat):Int) else none)
 else if r.k=4 then (if isPart b (r.a,r.b) then some (b.ss.length:Int) else none)
 else (if inB r.a 0 ((b.ms.length:Int) - 1) then some ((b.ms[r.a.toNat]?).elim 0 Msg.groups) else none)
def recAl (b:Bk) (r:Rec):Int :=
 if inB r.k 0 5=false then 1
 else if (usesB r.k=false/\r.b≠0)\/(usesMany r.k=false/\r.m≠0) then 1
 else match most b r with
  | none=>6
  | some n=>if inB r.m 0 n then 0 else 1
def goR (b:Bk):List Rec->Int
 | []=>0
 | r::l=>if recAl b r≠0 then recAl b r else goR b l
def recsAl (b:Bk):Int:=if 5 < b.rs.length then 2 else goR b b.rs
def bookAl (b:Bk):Int:=if numbersAl b≠0 then numbersAl b else if msgsAl b≠0 then msgsAl b else if sessAl b≠0 then sessAl b else recsAl b
def copies (b:Bk) (c:List Int) (p:Prt):Int:=(((b.ss.zip c).map fun x=>(x.1.take x.2.toNat).count p).sum:Nat)
def haveOf (b:Bk) (c:List Int) (m:Int):Int:=(((List.range ((b.ms[m.toNat]?).elim 0 Msg.groups).toNat).filter fun (g:Nat)=>decide (0 < copies b c (m,(g:Int)))).length:Nat)
def rightR (b:Bk) (c:List Int) (r:Rec):Bool :=
 if r.k=0 then decide (c.getD r.a.toNat 0=(((b.ss[r.a.toNat]?).elim 0 List.length:Nat):Int))
 else if r.k=1 then decide (c.getD r.a.toNat 0 < (((b.ss[r.a.toNat]?).elim 0 List.length:Nat):Int))
 else if r.k=2 then decide (r.m<=c.getD r.a.toNat 0)
 else if r.k=3 then decide (c.getD r.a.toNat 0<=r.m)
 else if r.k=4 then decide (copies b c (r.a,r.b)=r.m)
 else decide (haveOf b c r.a=r.m)
def right (b:Bk) (c:List Int):Bool:=b.rs.all (rightR b c)
def pastsFrom (b:Bk) (pre:List Int):List (List Prt)->List (List Int)
 | []=>if right b pre then [pre] else []
 | s::l=>(List.range (s.length+1)).flatMap fun (n:Nat)=>pastsFrom b (pre ++ [(n:Int)]) l
def pasts (b:Bk):List (List Int):=pastsFrom b [] b.ss
end Sp
end Go.Proofs.YtdjnkplgllakcaaGreatDoor
namespace Go.Proofs.YtdjnkplgllakcaaGreatDoor
open Go.RowKit Sp
theorem below_drewN {B:Nat} {a w:World} (h:Below B a w) {n:Nat}:Below B a (w.drewN n):=⟨h.os,h.tape,h.output,h.size,h.block⟩
theorem Below.next {w a b:World} (h:Below w.heap.size w a) (k:Below a.heap.size a b):Below w.heap.size w b:=h.trans (k.mono h.size)
theorem Below.al {w a:World} (h:Below w.heap.size w a) (o:Obj):Below w.heap.size w (a.alloc o):=h.alloc h.size o
theorem Below.wr {B:Nat} {a w:World} (h:Below B a w) {p:Addr} (hp:B<=p.block) (u:Value):Below B a (w.setCell p u):=h.setCell hp u
theorem Below.gr {w a c:World} {r:Nat} (h:Below w.heap.size w a) (hg:a.grownBy c (some r)) (hr:w.heap.size<=r):Below w.heap.size w c:=h.grown hg h.size fun k e=>by cases e;exact hr
theorem Below.alN {n:Nat} {w a:World} (h:Below n w a) (hn:n<=w.heap.size) (o:Obj):Below n w (a.alloc o):=h.alloc (Nat.le_trans hn h.size) o
theorem Below.nxN {n:Nat} {w a b:World} (h:Below n w a) (hn:n<=w.heap.size) (k:Below a.heap.size a b):Below n w b:=h.trans (k.mono (Nat.le_trans hn h.size))
theorem Below.grN {n:Nat} {w a c:World} {r:Nat} (h:Below n w a) (hn:n<=w.heap.size) (hg:a.grownBy c (some r)) (hr:n<=r):Below n w c:=h.grown hg (Nat.le_trans hn h.size) fun k e=>by cases e;exact hr
theorem bel {n:Nat} {w a:World} (h:Below n w a:=by repeat (first | (with_reducible first | exact Below.refl _ _ | assumption | refine below_drewN ?_ | refine Below.drew ?_ | refine Below.al ?_ _ | refine Below.next ?_ (by with_reducible assumption) | refine Below.gr ?_ (by with_reducible assumption) (by first | omega | (simp;done) | (simp;omega)) | refine Below.wr ?_ (by first | omega | (simp;done) | (simp;omega)) _ | refine Below.alN ?_ (by omega) _ | refine Below.nxN ?_ (by omega) (by with_reducible assumption) | refine Below.grN ?_ (by omega) (by with_reducible assumption) (by first | omega | (simp;done) | (simp;omega))))):Below n w a:=h
theorem bal (w:World) (o:Obj):Below w.heap.size w (w.alloc o):=(Below.refl _ _).alloc (Nat.le_refl _) o
theorem lt_of_cell {w:World} {a:Addr} {v:Value} (h:w.cell? a=some v):a.block < w.heap.size:=by
 unfold World.cell? at h
 cases ho:w.heap[a.block]? with
 | none=>simp [ho] at h
 | some o=>exact (Array.getElem?_eq_some_iff.1 ho).1
def MsgsAt (w:World) (a:Option Addr) (l:List Msg):Prop:=∀ i (h:i < l.length),∃ b o,a=some ⟨b,o,none⟩/\b < w.heap.size /\
 w.cell? ⟨b,o+i * 3,none⟩=some (.string l[i].name)/\w.cell? ⟨b,o+i * 3+1,none⟩=some (.int .i64 l[i].groups)/\w.cell? ⟨b,o+i * 3+2,none⟩=some (.int .i64 l[i].due)
def PartsAt (w:World) (a:Option Addr) (l:List Prt):Prop:=∀ i (h:i < l.length),∃ b o,a=some ⟨b,o,none⟩/\b < w.heap.size /\
 w.cell? ⟨b,o+i * 2,none⟩=some (.int .i64 l[i].1)/\w.cell? ⟨b,o+i * 2+1,none⟩=some (.int .i64 l[i].2)
def SessAt (w:World) (a:Option Addr) (l:List (List Prt)):Prop:=∀ i (h:i < l.length),∃ b o,a=some ⟨b,o,none⟩/\b < w.heap.size /\
 ∃ pa pc,w.cell? ⟨b,o+i,none⟩=some (.slice pa l[i].length pc)/\l[i].length<=pc/\l[i].length<=1000000/\PartsAt w pa l[i]
def RecsAt (w:World) (a:Option Addr) (l:List Rec):Prop:=∀ i (h:i < l.length),∃ b o,a=some ⟨b,o,none⟩/\b < w.heap.size /\
 w.cell? ⟨b,o+i * 4,none⟩=some (.int .i64 l[i].k)/\w.cell? ⟨b,o+i * 4+1,none⟩=some (.int .i64 l[i].a)/\w.cell? ⟨b,o+i * 4+2,none⟩=some (.int .i64 l[i].b)/\w.cell? ⟨b,o+i * 4+3,none⟩=some (.int .i64 l[i].m)
structure BookAt (w:World) (b:Bk) (vr vg vm vs vc:Value):Prop where
 room:vr=.int .i64 b.room
 gap:vg=.int .i64 b.gap
 ms:∃ a c,vm=.slice a b.ms.length c/\MsgsAt w a b.ms/\b.ms.length<=1000000
 ss:∃ a c,vs=.slice a b.ss.length c/\SessAt w a b.ss/\b.ss.length<=1000000
 rs:∃ a c,vc=.slice a b.rs.length c/\RecsAt w a b.rs/\b.rs.length<=1000000
section
variable {w w':World}
theorem MsgsAt.below {a:Option Addr} {l:List Msg} (h:MsgsAt w a l) (hb:Below w.heap.size w w'):MsgsAt w' a l:=fun i hi=>by
 obtain ⟨b,o,e,hlt,h1,h2,h3⟩:=h i hi;exact ⟨b,o,e,Nat.lt_of_lt_of_le hlt hb.size,(hb.cell hlt).trans h1,(hb.cell hlt).trans h2,(hb.cell hlt).trans h3⟩
theorem PartsAt.below {a:Option Addr} {l:List Prt} (h:PartsAt w a l) (hb:Below w.heap.size w w'):PartsAt w' a l:=fun i hi=>by
 obtain ⟨b,o,e,hlt,h1,h2⟩:=h i hi;exact ⟨b,o,e,Nat.lt_of_lt_of_le hlt hb.size,(hb.cell hlt).trans h1,(hb.cell hlt).trans h2⟩
theorem SessAt.below {a:Option Addr} {l:List (List Prt)} (h:SessAt w a l) (hb:Below w.heap.size w w'):SessAt w' a l:=fun i hi=>by
 obtain ⟨b,o,e,hlt,pa,pc,h1,h2,h3,h4⟩:=h i hi;exact ⟨b,o,e,Nat.lt_of_lt_of_le hlt hb.size,pa,pc,(hb.cell hlt).trans h1,h2,h3,h4.below hb⟩
theorem RecsAt.below {a:Option Addr} {l:List Rec} (h:RecsAt w a l) (hb:Below w.heap.size w w'):RecsAt w' a l:=fun i hi=>by
 obtain ⟨b,o,e,hlt,h1,h2,h3,h4⟩:=h i hi;exact ⟨b,o,e,Nat.lt_of_lt_of_le hlt hb.size,(hb.cell hlt).trans h1,(hb.cell hlt).trans h2,(hb.cell hlt).trans h3,(hb.cell hlt).trans h4⟩
theorem BookAt.below {b:Bk} {vr vg vm vs vc:Value} (h:BookAt w b vr vg vm vs vc) (hb:Below w.heap.size w w'):BookAt w' b vr vg vm vs vc:=by
 obtain ⟨h1,h2,⟨a1,c1,e1,h3,g1⟩,⟨a2,c2,e2,h4,g2⟩,a3,c3,e3,h5,g3⟩:=h;exact ⟨h1,h2,⟨a1,c1,e1,h3.below hb,g1⟩,⟨a2,c2,e2,h4.below hb,g2⟩,a3,c3,e3,h5.below hb,g3⟩
end
theorem inside_any (n low high:Int) (w:World):Calls Tryz.prog 58 #[.int .i64 n,.int .i64 low,.int .i64 high] w fun e w'=>e=.returned (.bool (inB n low high))/\w'=w:=by
 by_cases h1:low<=n
 ·by_cases h2:n<=high
  ·go_enter Tryz.func58,Tryz.ntmps58
   go_wp2;go_ret;exact ⟨by simp [inB,h1,h2],rfl⟩
  ·go_enter Tryz.func58,Tryz.ntmps58
   go_wp2;go_ret;exact ⟨by simp [inB,h1,h2],rfl⟩
 ·go_enter Tryz.func58,Tryz.ntmps58
  go_wp2;go_ret;exact ⟨by simp [inB];omega,rfl⟩
theorem inside_at {n low high:Int} {b:Bool} {w:World} (h:inB n low high=b):Calls Tryz.prog 58 #[.int .i64 n,.int .i64 low,.int .i64 high] w fun e w'=>e=.returned (.bool b)/\w'=w :=
 (inside_any _ _ _ _).mono fun _ _ ⟨a,b⟩=>⟨h ▸ a,b⟩
theorem numbers_any (b:Bk) (me se re:Value) (w:World) :
 Calls Tryz.prog 87 #[.agg #[.int .i64 b.room,.int .i64 b.gap,me,se,re]] w fun e w'=>e=.returned (.int .i64 (numbersAl b))/\Below w.heap.size w w':=by
 obtain ⟨room,gap,ms,ss,rs⟩:=b;dsimp only;cases h1:inB room 1 20
 ·have ha:numbersAl ⟨room,gap,ms,ss,rs⟩=1:=by simp [numbersAl,h1]
  have H1:=Hh h1;clear h1;rw [ha];clear ha
  go_enter Tryz.func87,Tryz.ntmps87
  go_wp2_with (go_at_call 58;(with_reducible refine (inside_at H1.out).mono ?_);rintro e w' ⟨rfl,rfl⟩);go_ret;exact ⟨rfl,bel⟩
 ·cases h2:inB gap 0 99
  all_goals
   first
    | have ha:numbersAl ⟨room,gap,ms,ss,rs⟩=0:=by simp [numbersAl,h1,h2]
    | have ha:numbersAl ⟨room,gap,ms,ss,rs⟩=1:=by simp [numbersAl,h1,h2]
   have H1:=Hh h1;clear h1;have H2:=Hh h2;clear h2;rw [ha];clear ha
   go_enter Tryz.func87,Tryz.ntmps87
   go_wp2_with (first | (go_at_call 58;(with_reducible refine (inside_at H1.out).mono ?_);rintro e w' ⟨rfl,rfl⟩) | (go_at_call 58;(with_reducible refine (inside_at H2.out).mono ?_);rintro e w' ⟨rfl,rfl⟩));go_ret;exact ⟨rfl,bel⟩
theorem isPart_no1 (vr vg:Value) (ma:Option Addr) (ml mc:Nat) (se re:Value) (m g:Int) (w:World) (hl:ml<=1000000) (h:inB m 0 ((ml:Int) - 1)=false) :
 Calls Tryz.prog 95 #[.agg #[vr,vg,.slice ma ml mc,se,re],.agg #[.int .i64 m,.int .i64 g]] w fun e w'=>e=.returned (.bool false)/\Below w.heap.size w w':=by
 have e1:IntKind.i64.wrap ((ml:Int) - 1)=(ml:Int) - 1:=IntWalk.i64_in _ (by omega);have H:=Hh h;clear h
 go_enter Tryz.func95,Tryz.ntmps95
 go_wp2;go_quiet ((go_at_call 58;with_reducible exact Calls.quiet_of_same (inside_at H.out)));go_wp2;go_ret;exact ⟨rfl,bel⟩
theorem isPart_at1 (vr vg:Value) (mb mo:Nat) (ml mc:Nat) (se re:Value) (m g gr:Int) (w:World) (hl:ml<=1000000) (h:inB m 0 ((ml:Int) - 1)=true) (hm1:0<=m) (hm2:m < ml)
 (hg1:0<=gr) (hg2:gr<=1000) (hlt:mb < w.heap.size) (hc:w.cell? ⟨mb,mo+m.toNat * 3+1,none⟩=some (.int .i64 gr)) {t:Bool} (h2:inB g 0 (gr - 1)=t) :
 Calls Tryz.prog 95 #[.agg #[vr,vg,.slice (some ⟨mb,mo,none⟩) ml mc,se,re],.agg #[.int .i64 m,.int .i64 g]] w fun e w'=>e=.returned (.bool t)/\Below w.heap.size w w':=by
 have e1:IntKind.i64.wrap ((ml:Int) - 1)=(ml:Int) - 1:=IntWalk.i64_in _ (by omega);have e2:IntKind.i64.wrap (gr - 1)=gr - 1:=IntWalk.i64_in _ (by omega);have H:=Hh h;clear h;have H2:=Hh h2;clear h2
 go_enter Tryz.func95,Tryz.ntmps95
 go_wp2;go_quiet ((first | (go_at_call 58;with_reducible exact Calls.quiet_of_same (inside_at H.out)) | (go_at_call 58;with_reducible exact Calls.quiet_of_same (inside_at H2.out))));go_wp2;go_ret;exact ⟨rfl,bel⟩
theorem isPart_at {b:Bk} {vr vg vm vs vc:Value} {p:Prt} {w:World} {t:Bool} (hB:BookAt w b vr vg vm vs vc) (hG:∀ m∈b.ms,0<=m.groups/\m.groups<=1000) (h:isPart b p=t) :
 Calls Tryz.prog 95 #[.agg #[vr,vg,vm,vs,vc],.agg #[.int .i64 p.1,.int .i64 p.2]] w fun e w'=>e=.returned (.bool t)/\Below w.heap.size w w':=by
 obtain ⟨ma,mc,rfl,hM,hl⟩:=hB.ms;unfold isPart at h;cases h1:inB p.1 0 ((b.ms.length:Int) - 1)
 ·simp only [h1,Bool.false_and] at h;subst h;exact isPart_no1 _ _ _ _ _ _ _ _ _ _ hl h1
 ·simp only [h1,Bool.true_and] at h;have h1':=h1;simp only [inB,decide_eq_true_eq] at h1';have hi:p.1.toNat < b.ms.length:=by omega
  obtain ⟨mb,mo,rfl,hlt,_,hc,_⟩:=hM _ hi;rw [List.getElem?_eq_getElem hi] at h;have:=hG _ (List.getElem_mem hi);exact isPart_at1 _ _ _ _ _ _ _ _ _ _ _ _ hl h1 h1'.1 (by omega) this.1 this.2 hlt hc h
theorem bytes_of {P:Program} (w:World) (src dst e:TypeId) (s:ByteArray) (hs:P.underlying src=some .string) (hd:P.underlying dst=some (.slice e)) (he:P.underlying e=some (.int .u8)) :
 ∃ cap w1,(convert src dst (.string s)).run P w=.ok (.slice (some ⟨w.heap.size,0,none⟩) s.size cap) w1/\(∀ k (h:k < s.size),w1.cell? ⟨w.heap.size,k,none⟩=some (.int .u8 (s.data[k].toNat:Int)))/\Below w.heap.size w w1:=by
 refine ⟨_,_,run_bytes_of_string w src dst e s hs hd he,fun k h=>?_,(Below.refl _ _).drew.alloc (Nat.le_refl _) _⟩;rw [show w.heap.size=w.drew.heap.size from rfl,World.cell?_alloc_mark];unfold bytesRow;rw [Array.getElem?_append_left (by simpa using h)];simp [h]
theorem isName_at (s:ByteArray) (w:World) (hs:s.size<=1000000) {t:Bool} (h:isName s.data.toList=t) :
 Calls Tryz.prog 106 #[.string s] w fun e w'=>e=.returned (.bool t)/\Below w.heap.size w w':=by
 have H:=Hh h;clear h;obtain ⟨cap,w1,hrun,hcell,hbel⟩:=bytes_of (P:=Tryz.prog) w 9 177 5 s Tryz.underlying9 Tryz.underlying177 Tryz.underlying5
 go_enter Tryz.func106,Tryz.ntmps106
 go_wp2;go_loop [8] (fun i=>∃ k:Nat,k<=s.size/\i=.int .i64 k/\∀ j,j < k->okAt j (s.data.toList.getD j 0)=true) (fun i=>s.size - (intOf i).toNat)
 case atStart=>exact ⟨0,Nat.zero_le _,rfl,fun j hj=>absurd hj (Nat.not_lt_zero _)⟩
 case round =>
  obtain ⟨k,hk,rfl,hok⟩:=hrel;by_cases hlt:k < s.size
  ·have hc:=hcell k hlt;have hok1:okAt k (s.data.toList.getD k 0)=okAt k s.data[k]:=by simp [hlt]
   obtain ⟨n,hn⟩:∃ n:Nat,s.data[k].toNat=n:=⟨_,rfl⟩;have hokn:okAt k s.data[k]=(decide (97<=n/\n<=122) || (decide (0 < k) && decide (48<=n/\n<=57))):=by simp [okAt,letter,digit,hn]
   rw [hn] at hc;have H1:=Hh hok1;have H2:=Hh hokn;clear hok1 hokn hn hcell;have H3:=Hh hok;clear hok;have hcases:(97<=n/\n<=122)\/(97<=n/\122 < n/\0 < k)\/(97<=n/\122 < n/\k<=0)\/(n < 97/\k<=0)\/(n < 97/\0 < k/\n < 48)\/(n < 97/\0 < k/\48<=n/\n<=57)\/(n < 97/\0 < k/\48<=n/\57 < n):=by omega
   have yes:((97<=n/\n<=122)\/(0 < k/\48<=n/\n<=57))->∀ j,j < k+1->okAt j (s.data.toList.getD j 0)=true:=fun hh j hj=>by
    by_cases hjk:j < k
    ·exact H3.out j hjk
    ·obtain rfl:j=k:=by omega
     rw [H1.out,H2.out];simp;omega
   have no:¬ ((97<=n/\n<=122)\/(0 < k/\48<=n/\n<=57))->t=false:=fun hh=>by
    have h0:okAt k s.data[k]=false:=by
     rw [H2.out];simp;omega
    rw [<- H.out];simp only [isName,okName];have:((List.range s.data.toList.length).all fun i=>okAt i (s.data.toList.getD i 0))=false:=by
     rw [List.all_eq_false];refine ⟨k,by simpa using hlt,?_⟩;rw [H1.out,h0];simp
    rw [this,Bool.false_and]
   rcases hcases with ⟨g1,g2⟩ | ⟨g1,g2,g3⟩ | ⟨g1,g2,g3⟩ | ⟨g1,g3⟩ | ⟨g1,g2,g3⟩ | ⟨g1,g2,g3,g4⟩ | ⟨g1,g2,g3,g4⟩
   case inl | inr.inr.inr.inr.inr.inl =>
    have Y:=Hh (yes (by omega));clear yes no;go_wp2
    all_goals first
     | (exfalso;simp_all;omega)
     | (go_round
        case rel=>exact ⟨k+1,hlt,by go_num,Y.out⟩
        case measure=>simp [intOf];omega)
   all_goals
    have N:=no (by omega);clear yes no;subst N;go_wp2
    all_goals first
     | (exfalso;simp_all;omega)
     | (go_ret
        exact ⟨rfl,hbel⟩)
  ·have hke:k=s.size:=by omega
   have hN:okName s.data.toList=true:=by
    simp only [okName,List.all_eq_true,List.mem_range];exact fun j hj=>hok j (by rw [hke];simpa using hj)
   have hI:inB s.size 1 9=t:=by rw [<- H.out];simp [isName,hN]
   have HI:=Hh hI;clear hI hN hke hok hcell hrun;go_wp2_with (go_at_call 58;(with_reducible refine (inside_at HI.out).mono ?_);rintro e w' ⟨rfl,rfl⟩);go_ret;exact ⟨rfl,hbel⟩
end Go.Proofs.YtdjnkplgllakcaaGreatDoor
namespace Go.Proofs.YtdjnkplgllakcaaGreatDoor
open Go Go.Maps Go.RowKit
section
variable {P:Program} {w:World} {k e:TypeId} {b n:Nat}
def SetAt (w:World) (P:Program) (k e:TypeId) (b n:Nat) (keys:List Value):Prop :=
 ∃ D:DataW Unit,w.ownsMap P k (plainElem P e) b n D/\IsMap D/\∀ key kl,keyOf P k key=some kl ->
  (key∈keys->D.atKey kl (.lit (.bool false))=.lit (.bool true))/\(key ∉ keys->D.atKey kl (.lit (.bool false))=.lit (.bool false))
theorem ownsMap_same {H:Type} {R:Value->Option (DataW H × List MemPlace)} {w w':World} {D:DataW H} (h:w.ownsMap P k R b n D) (hb:w'.heap[b]? = w.heap[b]?):w'.ownsMap P k R b n D:=by
 obtain ⟨es,clock,h1,h2⟩:=h;exact ⟨es,clock,hb.trans h1,h2⟩
theorem SetAt.same {keys:List Value} {w':World} (h:SetAt w P k e b n keys) (hb:w'.heap[b]? = w.heap[b]?):SetAt w' P k e b n keys:=by
 obtain ⟨D,h1,h2⟩:=h;exact ⟨D,ownsMap_same h1 hb,h2⟩
theorem SetAt.lt {keys:List Value} (h:SetAt w P k e b n keys):b < w.heap.size:=by
 obtain ⟨D,h1,_⟩:=h;exact h1.lt
theorem SetAt.below {keys:List Value} {w':World} (h:SetAt w P k e b n keys) (hb:Below w.heap.size w w'):SetAt w' P k e b n keys:=h.same (hb.block _ h.lt)
theorem SetAt.al {keys:List Value} (h:SetAt w P k e b n keys) (o:Obj):SetAt (w.alloc o) P k e b n keys:=h.same (Below.heap_alloc w o b h.lt)
theorem SetAt.made (w:World) (P:Program) (k e:TypeId):SetAt (w.alloc (.map #[] 0)) P k e w.heap.size 0 [] :=
 ⟨.map [],World.ownsMap_made w P k _,isMap_empty,fun _ _ _=>⟨fun h=>(by cases h),fun _=>rfl⟩⟩
theorem plainElem_bool_inv {H:Type} (he:P.underlying e=some .bool) {v:Value} {z:DataW H × List MemPlace} (h:plainElem P e v=some z):∃ x,v=.bool x/\z=(.lit (.bool x),[]):=by
 unfold plainElem at h;rw [he] at h;cases v <;> simp at h;exact ⟨_,rfl,h.symm⟩
theorem SetAt.run {keys:List Value} (h:SetAt w P k e b n keys) (K:Keyed P k) {t:TypeId} (ht:P.underlying t=some (.map k e)) (he:P.underlying e=some .bool) (hz:(zeroValue e).run P w=.ok (.bool false) w)
 {key:Value} {kl:Lit} (hkey:keyOf P k key=some kl) {r:Bool} (hr:r=true↔key∈keys):(Instr.lookup t (.map (some b)) key false).run P w=.ok (.bool r) w:=by
 obtain ⟨D,h1,h2,h3⟩:=h;obtain ⟨v,ps,hrun,hv⟩:=h1.lookup K ht hz (plainElem_bool he false) hkey;obtain ⟨x,rfl,hx⟩:=plainElem_bool_inv he hv;obtain ⟨y,n⟩:=h3 key kl hkey;simp only [Prod.mk.injEq] at hx;have hxr:x=r:=by
  cases r with
  | true=>rw [y (hr.1 rfl)] at hx;simpa using hx.1.symm
  | false=>rw [n (fun hh=>by simpa using hr.2 hh)] at hx;simpa using hx.1.symm
 rw [hrun,hxr]
theorem SetAt.put {keys:List Value} (h:SetAt w P k e b n keys) (K:Keyed P k) {t:TypeId} (ht:P.underlying t=some (.map k e)) (he:P.underlying e=some .bool) (hn:n < maxLen)
 {key:Value} {kl:Lit} (hkey:keyOf P k key=some kl):∃ w',(Instr.mapUpdate t (.map (some b)) key (.bool true)).run P w=.ok () w'/\SetAt w' P k e b (n+1) (key::keys)/\w.grownBy w' (some b):=by
 obtain ⟨D,h1,h2,h3⟩:=h;obtain ⟨w',hrun,hown,hg⟩:=h1.update K ht hn hkey (plainElem_bool he true);refine ⟨w',hrun,⟨_,hown,h2.put _ _,fun key' kl' hkey'=>?_⟩,hg⟩;by_cases e1:key'=key
 ·subst e1;rw [hkey] at hkey';cases hkey';exact ⟨fun _=>atKey_put_same h2 (K.key hkey) _ _,fun hh=>absurd (List.mem_cons_self ..) hh⟩
 ·have hne:kl'≠kl:=fun e2=>e1 (K.inj (e2 ▸ hkey') hkey);rw [atKey_put_other hne];obtain ⟨y,n⟩:=h3 key' kl' hkey';exact ⟨fun hh=>y (by simpa [e1] using hh),fun hh=>n (fun h4=>hh (List.mem_cons_of_mem _ h4))⟩
theorem wpList_lookup_set {ops:Array Oper} {rest:List Oper} {o:Oper} {a:Act} {Q:Exit->Act->World->Prop}
 (hg:o.guard=none) (m x:Operand) (t:TypeId) (hop:o.op=Op.lookup t m x false) (K:Keyed P k) (ht:P.underlying t=some (.map k e)) (he:P.underlying e=some .bool) (hz:(zeroValue e).run P w=.ok (.bool false) w)
 {keys:List Value} (hm:a.eval m=.map (some b)) (h:SetAt w P k e b n keys) {key:Value} {kl:Lit} (hx:a.eval x=key) (hkey:keyOf P k key=some kl) {r:Bool} (hr:r=true↔key∈keys)
 (hK:wpList P ops Q rest (a.put o.dst (.bool r)) w):wpList P ops Q (o::rest) a w:=by
 refine wpList_plain hg fun K' hK'=>?_;unfold Oper.wp;simp [execOp,hop,hm,hx,h.run K ht he hz hkey hr,Result.andThen];exact hK' _ _ hK
theorem wpList_lookup_set_yes {ops:Array Oper} {rest:List Oper} {o:Oper} {a:Act} {Q:Exit->Act->World->Prop}
 (hg:o.guard=none) (m x:Operand) (t:TypeId) (hop:o.op=Op.lookup t m x false) (K:Keyed P k) (ht:P.underlying t=some (.map k e)) (he:P.underlying e=some .bool) (hz:(zeroValue e).run P w=.ok (.bool false) w)
 {keys:List Value} (hm:a.eval m=.map (some b)) (h:SetAt w P k e b n keys) {key:Value} {kl:Lit} (hkey:keyOf P k key=some kl) (hr:key∈keys) (hx:a.eval x=key)
 (hK:wpList P ops Q rest (a.put o.dst (.bool true)) w):wpList P ops Q (o::rest) a w :=
 wpList_lookup_set hg m x t hop K ht he hz hm h hx hkey ⟨fun _=>hr,fun _=>rfl⟩ hK
theorem wpList_lookup_set_no {ops:Array Oper} {rest:List Oper} {o:Oper} {a:Act} {Q:Exit->Act->World->Prop}
 (hg:o.guard=none) (m x:Operand) (t:TypeId) (hop:o.op=Op.lookup t m x false) (K:Keyed P k) (ht:P.underlying t=some (.map k e)) (he:P.underlying e=some .bool) (hz:(zeroValue e).run P w=.ok (.bool false) w)
 {keys:List Value} (hm:a.eval m=.map (some b)) (h:SetAt w P k e b n keys) {key:Value} {kl:Lit} (hkey:keyOf P k key=some kl) (hr:key ∉ keys) (hx:a.eval x=key)
 (hK:wpList P ops Q rest (a.put o.dst (.bool false)) w):wpList P ops Q (o::rest) a w :=
 wpList_lookup_set hg m x t hop K ht he hz hm h hx hkey ⟨fun h=>(by cases h),fun h=>absurd h hr⟩ hK
theorem wpList_put_set {ops:Array Oper} {rest:List Oper} {o:Oper} {a:Act} {Q:Exit->Act->World->Prop}
 (hg:o.guard=none) (m x v:Operand) (t:TypeId) (hop:o.op=Op.mapUpdate t m x v) (K:Keyed P k) (ht:P.underlying t=some (.map k e)) (he:P.underlying e=some .bool) (hn:n < maxLen)
 {keys:List Value} (hm:a.eval m=.map (some b)) (h:SetAt w P k e b n keys) {key:Value} {kl:Lit} (hkey:keyOf P k key=some kl) (hx:a.eval x=key) (hv:a.eval v=.bool true)
 (hK:∀ w',SetAt w' P k e b (n+1) (key::keys)->w.grownBy w' (some b)->wpList P ops Q rest (a.put o.dst undef) w'):wpList P ops Q (o::rest) a w:=by
 refine wpList_plain hg fun K' hK'=>?_;obtain ⟨w',hrun,h1,h2⟩:=h.put K ht he hn hkey;unfold Oper.wp;simp [execOp,hop,hm,hx,hv,hrun,Result.andThen];exact hK' _ _ (hK w' h1 h2)
end
end Go.Proofs.YtdjnkplgllakcaaGreatDoor
namespace Go.Proofs.YtdjnkplgllakcaaGreatDoor
open Go.RowKit Go.Maps Sp
theorem bcell {W w1:World} (hb:Below W.heap.size W w1):(∀ b o,b < W.heap.size->w1.cell? ⟨b,o,none⟩=W.cell? ⟨b,o,none⟩)/\(∀ b o,b < W.heap.size->w1.frozen? ⟨b,o,none⟩=W.frozen? ⟨b,o,none⟩) :=
 ⟨fun b o h=>hb.cell (p:=⟨b,o,none⟩) h,fun b o h=>hb.frozen (p:=⟨b,o,none⟩) h⟩
def strV (l:List UInt8):Value:=.string ⟨l.toArray⟩
theorem strV_inj {a b:List UInt8} (h:strV a=strV b):a=b:=by
 unfold strV at h;have:=congrArg (fun v=>match v with | Value.string s=>s.data.toList | _=>[]) h;simpa using this
theorem mem_strV {l:List UInt8} {seen:List (List UInt8)}:strV l∈seen.map strV↔l∈seen:=by
 constructor
 ·intro h;obtain ⟨x,hx,e⟩:=List.mem_map.1 h;rw [<- strV_inj e];exact hx
 ·exact fun h=>List.mem_map_of_mem h
theorem keyS {P:Program} {k:TypeId} (hk:P.underlying k=some .string) {s:ByteArray} (hs:s.size<=maxLen):keyOf P k (.string s)=some (.string s.data.toList):=by
 simp [keyOf,hk,mapKey,hs]
theorem zeroBool (w:World):(zeroValue 4).run Tryz.prog w=.ok (.bool false) w:=by kernel_rfl
theorem messages_at {b:Bk} {vr vg vm vs vc:Value} {w:World} (hB:BookAt w b vr vg vm vs vc) (hN:∀ m∈b.ms,m.name.size<=1000000) {t:Int} (h:msgsAl b=t) :
 Calls Tryz.prog 88 #[.agg #[vr,vg,vm,vs,vc]] w fun e w'=>e=.returned (.int .i64 t)/\Below w.heap.size w w':=by
 obtain ⟨ma,mc,rfl,hM,hl⟩:=hB.ms;unfold msgsAl at h;by_cases h5:5 < b.ms.length
 ·rw [if_pos h5] at h;subst h
  go_enter Tryz.func88,Tryz.ntmps88
  go_wp2;go_ret;exact ⟨rfl,bel⟩
 ·rw [if_neg h5] at h;have H:=Hh h;clear h hB;have HM:=Hh hM;clear hM;have HN:=Hh hN;clear hN;have hmm:=@run_makeMap Tryz.prog
  go_enter Tryz.func88,Tryz.ntmps88
  go_wp2;have hs0:=SetAt.made (w.alloc (.cells #[vr,vg,.slice ma b.ms.length mc,vs,vc] 88)) Tryz.prog 9 4;rw [World.size_alloc] at hs0;go_loopw [16] (fun i wr=>∃ (k:Nat) (seen:List (List UInt8)),k<=b.ms.length/\i=.int .i64 k/\Hid (goM seen (b.ms.drop k)=t)/\SetAt wr Tryz.prog 9 4 (w.heap.size+1) k (seen.map strV)/\Below w.heap.size w wr) (fun i _=>b.ms.length - (intOf i).toNat)
  case atStart=>exact ⟨0,[],Nat.zero_le _,rfl,by simpa [Hid] using H.out,hs0,bel⟩
  case round =>
   obtain ⟨k,seen,hk,rfl,hG,hS,hW⟩:=hrel;by_cases hlt:k < b.ms.length
   ·obtain ⟨mb,mo,rfl,hmb,h0,h1,h2⟩:=HM.out k hlt;have c0:=(hW.cell hmb).trans h0;have c1:=(hW.cell hmb).trans h1;have c2:=(hW.cell hmb).trans h2;have hmb2:mb < wr.heap.size:=Nat.lt_of_lt_of_le hmb hW.size;clear h0 h1 h2 hs0;have hG':=hG.out;rw [List.drop_eq_getElem_cons hlt,goM] at hG';clear hG;have hnm:b.ms[k].name.size<=1000000:=HN.out _ (List.getElem_mem hlt);generalize hm:b.ms[k]=m at c0 c1 c2 hG' hnm;obtain ⟨nm,gr,du⟩:=m;dsimp only at c0 c1 c2 hG' hnm;have hkey:=keyS (P:=Tryz.prog) (s:=nm) Tryz.underlying9 (by unfold maxLen;omega);have HM:=Hh hm;clear hm;cases hn:isName nm.data.toList
    ·have H1:=Hh hn;simp only [hn,if_true] at hG';subst hG';clear hn;go_wp2_with (go_at_call 106;(with_reducible refine (isName_at _ _ hnm H1.out).mono ?_);rintro e w1 ⟨rfl,hb1⟩);go_ret;exact ⟨rfl,bel⟩
    ·have H1:=Hh hn;simp only [hn,if_false,Bool.true_eq_false] at hG';clear hn;by_cases hmem:nm.data.toList∈seen
     ·simp only [hmem,if_true] at hG';subst hG';have HR:=Hh ((show strV nm.data.toList=Value.string nm from rfl) ▸ mem_strV.2 hmem);clear hmem;go_wp2_with (first
       | (go_at_call 106;(with_reducible refine (isName_at _ _ hnm H1.out).mono ?_);rintro e w1 ⟨rfl,hb1⟩;obtain ⟨hc1,hf1⟩:=bcell hb1;have hS1:=(hS.al _).below hb1;have hz1:=hb1.size)
       | (at_lookup;refine wpList_lookup_set_yes rfl _ _ 161 rfl (string_keyed Tryz.underlying9) Tryz.underlying161 Tryz.underlying4 (zeroBool _) rfl hS1 hkey HR.out rfl ?_))
      go_ret;exact ⟨rfl,bel⟩
     ·simp only [hmem,if_false] at hG';have HR:=Hh (show Value.string nm ∉ seen.map strV from fun h=>hmem (mem_strV.1 ((show strV nm.data.toList=Value.string nm from rfl) ▸ h)));clear hmem;by_cases hb:inB gr 1 4=false
      ·have H2:=Hh hb;simp only [hb,true_or,if_true] at hG';subst hG';clear hb;go_wp2_with (first
        | (go_at_call 106;(with_reducible refine (isName_at _ _ hnm H1.out).mono ?_);rintro e w1 ⟨rfl,hb1⟩;obtain ⟨hc1,hf1⟩:=bcell hb1;have hS1:=(hS.al _).below hb1;have hz1:=hb1.size)
        | (at_lookup;refine wpList_lookup_set_no rfl _ _ 161 rfl (string_keyed Tryz.underlying9) Tryz.underlying161 Tryz.underlying4 (zeroBool _) rfl hS1 hkey HR.out rfl ?_)
        | (go_at_call 58;(with_reducible refine (inside_at H2.out).mono ?_);rintro e w' ⟨rfl,rfl⟩))
       go_ret;exact ⟨rfl,bel⟩
      ·have hb:=(Bool.not_eq_false _).mp hb;have H2:=Hh hb;by_cases hd:inB du 0 999=false
       ·have H3:=Hh hd;simp only [hd,or_true,if_true] at hG';subst hG';clear hb hd;go_wp2_with (first
         | (go_at_call 106;(with_reducible refine (isName_at _ _ hnm H1.out).mono ?_);rintro e w1 ⟨rfl,hb1⟩;obtain ⟨hc1,hf1⟩:=bcell hb1;have hS1:=(hS.al _).below hb1;have hz1:=hb1.size)
         | (at_lookup;refine wpList_lookup_set_no rfl _ _ 161 rfl (string_keyed Tryz.underlying9) Tryz.underlying161 Tryz.underlying4 (zeroBool _) rfl hS1 hkey HR.out rfl ?_)
         | (go_at_call 58;(with_reducible refine (inside_at H2.out).mono ?_);rintro e w' ⟨rfl,rfl⟩)
         | (go_at_call 58;(with_reducible refine (inside_at H3.out).mono ?_);rintro e w' ⟨rfl,rfl⟩))
        go_ret;exact ⟨rfl,bel⟩
       ·have hd:=(Bool.not_eq_false _).mp hd;have H3:=Hh hd;simp only [hb,hd,Bool.true_eq_false,or_self,if_false] at hG';have HG:=Hh hG';clear hb hd hG';go_wp2_with (first
         | (go_at_call 106;(with_reducible refine (isName_at _ _ hnm H1.out).mono ?_);rintro e w1 ⟨rfl,hb1⟩;obtain ⟨hc1,hf1⟩:=bcell hb1;have hS1:=(hS.al _).below hb1;have hz1:=hb1.size)
         | (at_lookup;refine wpList_lookup_set_no rfl _ _ 161 rfl (string_keyed Tryz.underlying9) Tryz.underlying161 Tryz.underlying4 (zeroBool _) rfl hS1 hkey HR.out rfl ?_)
         | (go_at_call 58;(with_reducible refine (inside_at H2.out).mono ?_);rintro e w' ⟨rfl,rfl⟩)
         | (go_at_call 58;(with_reducible refine (inside_at H3.out).mono ?_);rintro e w' ⟨rfl,rfl⟩)
         | (at_mapUpdate;refine wpList_put_set rfl _ _ _ 161 rfl (string_keyed Tryz.underlying9) Tryz.underlying161 Tryz.underlying4 (by unfold maxLen;omega) rfl hS1 hkey rfl rfl ?_;intro w2 hS2 hg2))
        go_roundw
        case rel=>exact ⟨k+1,nm.data.toList::seen,by omega,by go_num,HG.out,hS2,bel⟩
        case measure=>simp [intOf];omega
   ·have:goM seen (b.ms.drop k)=t:=hG.out;rw [List.drop_eq_nil_of_le (by omega)] at this;simp only [goM] at this;subst this;clear hs0;go_wp2;go_ret;exact ⟨rfl,bel⟩
theorem rin_any (n low high:Int) (w:World):Calls Tryz.prog 51 #[.int .i64 n,.int .i64 low,.int .i64 high] w fun e w'=>e=.returned (.bool (inB n low high))/\w'=w:=by
 by_cases h1:low<=n
 ·by_cases h2:n<=high
  ·go_enter Tryz.func51,Tryz.ntmps51
   go_wp2;go_ret;exact ⟨by simp [inB,h1,h2],rfl⟩
  ·go_enter Tryz.func51,Tryz.ntmps51
   go_wp2;go_ret;exact ⟨by simp [inB,h1,h2],rfl⟩
 ·go_enter Tryz.func51,Tryz.ntmps51
  go_wp2;go_ret;exact ⟨by simp [inB];omega,rfl⟩
theorem rin_at {n low high:Int} {b:Bool} {w:World} (h:inB n low high=b):Calls Tryz.prog 51 #[.int .i64 n,.int .i64 low,.int .i64 high] w fun e w'=>e=.returned (.bool b)/\w'=w :=
 (rin_any _ _ _ _).mono fun _ _ ⟨a,b⟩=>⟨h ▸ a,b⟩
theorem there_at {n:Int} {m:Nat} {b:Bool} {w:World} (hm:m<=1000000) (h:inB n 0 ((m:Int) - 1)=b):Calls Tryz.prog 77 #[.int .i64 n,.int .i64 m] w fun e w'=>e=.returned (.bool b)/\w'=w:=by
 have e1:IntKind.i64.wrap ((m:Int) - 1)=(m:Int) - 1:=IntWalk.i64_in _ (by omega);have H:=Hh h;clear h
 go_enter Tryz.func77,Tryz.ntmps77
 go_wp2_with (go_at_call 51;(with_reducible refine (rin_at H.out).mono ?_);rintro e w' ⟨rfl,rfl⟩);go_ret;exact ⟨rfl,rfl⟩
theorem thereI_at {n m:Int} {b:Bool} {w:World} (hm:0<=m/\m<=1000000) (h:inB n 0 (m - 1)=b):Calls Tryz.prog 77 #[.int .i64 n,.int .i64 m] w fun e w'=>e=.returned (.bool b)/\w'=w:=by
 obtain ⟨k,rfl⟩:∃ k:Nat,m=k:=⟨m.toNat,by omega⟩;exact there_at (by omega) h
def partV (p:Prt):Value:=.agg #[.int .i64 p.1,.int .i64 p.2]
theorem partV_inj {p q:Prt} (h:partV p=partV q):p=q:=by
 obtain ⟨a,b⟩:=p;obtain ⟨c,d⟩:=q;simp [partV] at h;rw [h.1,h.2]
theorem mem_partV {p:Prt} {seen:List Prt}:partV p∈seen.map partV↔p∈seen:=by
 constructor
 ·intro h;obtain ⟨x,hx,e⟩:=List.mem_map.1 h;rw [<- partV_inj e];exact hx
 ·exact fun h=>List.mem_map_of_mem h
theorem partWide:(match Tryz.prog.underlying 85 with | some (.array _ _) | some (.struct _)=>true | _=>false)=true:=by rw [Tryz.underlying85]
theorem prog_laidOut:laidOutB Tryz.prog=true:=by kernel_rfl
theorem partKeyed:Keyed Tryz.prog 85:=Keyed.of_law (deep_law_laid prog_laidOut (m:=2) (by omega) (of_decide_eq_true (by kernel_rfl)) (by kernel_rfl) partWide)
theorem partKeyType:Tryz.prog.keyType 85=true:=by kernel_rfl
theorem partCells:Tryz.prog.cellsOf 85=2:=by kernel_rfl
theorem intCells:Tryz.prog.cellsOf 3=1:=by kernel_rfl
theorem typesSize:∃ m,Tryz.prog.types.size=m+1+1:=by
 have:2<=Tryz.prog.types.size:=of_decide_eq_true (by kernel_rfl);exact ⟨_,(Nat.sub_add_cancel this).symm⟩
def i64ok (a:Int):Prop:=(Lit.int .i64 a).wf=true
theorem partKey (p:Prt) (h1:i64ok p.1) (h2:i64ok p.2):∃ kl,keyOf Tryz.prog 85 (partV p)=some kl:=by
 refine ⟨.string (keyBytes [.int .i64 p.1,.int .i64 p.2]),?_⟩;obtain ⟨m,hm⟩:=typesSize;unfold keyOf;simp only [Tryz.underlying85];rw [if_pos (by simp [partKeyType,Value.formed,Tryz.underlying85,partCells,partV]),hm];unfold Program.keyLits;simp only [Tryz.underlying85,Value.cells,partV];rw [if_pos (by rw [partCells];exact ⟨rfl,by simp⟩)];unfold i64ok at h1 h2;simp [Program.keyLits,intCells,Tryz.underlying3,h1,h2]
theorem isPart_bounds {b:Bk} (hG:∀ m∈b.ms,0<=m.groups/\m.groups<=1000) (hl:b.ms.length<=1000000) {p:Prt} (h:isPart b p=true):i64ok p.1/\i64ok p.2:=by
 unfold isPart inB at h;simp only [Bool.and_eq_true,decide_eq_true_eq] at h;have hi:p.1.toNat < b.ms.length:=by omega
 rw [List.getElem?_eq_getElem hi] at h;have:=hG _ (List.getElem_mem hi);simp only [Option.elim] at h;have e1:IntKind.i64.min=-9223372036854775808:=rfl;have e2:IntKind.i64.max=9223372036854775807:=rfl;refine ⟨?_,?_⟩ <;> (unfold i64ok;simp [Lit.wf,e1,e2];omega)
structure Five (w:World) (r:Nat) (v0 v1 v2 v3 v4:Value):Prop where
 c0:w.cell? ⟨r,0,none⟩=some v0
 c1:w.cell? ⟨r,1,none⟩=some v1
 c2:w.cell? ⟨r,2,none⟩=some v2
 c3:w.cell? ⟨r,3,none⟩=some v3
 c4:w.cell? ⟨r,4,none⟩=some v4
 lt:r < w.heap.size
theorem Five.new (w:World) (v0 v1 v2 v3 v4:Value) (t:TypeId):Five (w.alloc (.cells #[v0,v1,v2,v3,v4] t)) w.heap.size v0 v1 v2 v3 v4 :=
 ⟨by simp,by simp,by simp,by simp,by simp,by simp⟩
theorem Five.below {w w':World} {r:Nat} {v0 v1 v2 v3 v4:Value} (h:Five w r v0 v1 v2 v3 v4) {n:Nat} (hb:Below n w w') (hr:r < n):Five w' r v0 v1 v2 v3 v4 :=
 ⟨(hb.cell hr).trans h.c0,(hb.cell hr).trans h.c1,(hb.cell hr).trans h.c2,(hb.cell hr).trans h.c3,(hb.cell hr).trans h.c4,Nat.lt_of_lt_of_le h.lt hb.size⟩
theorem sessions_at {b:Bk} {vr vg vm vs vc:Value} {w:World} (hB:BookAt w b vr vg vm vs vc) (hG:∀ m∈b.ms,0<=m.groups/\m.groups<=1000) {t:Int} (h:sessAl b=t) :
 Calls Tryz.prog 89 #[.agg #[vr,vg,vm,vs,vc]] w fun e w'=>e=.returned (.int .i64 t)/\Below w.heap.size w w':=by
 obtain ⟨sa,sc,rfl,hM,hl⟩:=hB.ss;unfold sessAl at h;by_cases h4:4 < b.ss.length
 ·rw [if_pos h4] at h;subst h
  go_enter Tryz.func89,Tryz.ntmps89
  go_wp2;go_ret;exact ⟨rfl,bel⟩
 ·rw [if_neg h4] at h;have H:=Hh h;clear h;have HB:=Hh hB;clear hB;have HG:=Hh hG;clear hG;have HM:=Hh hM;clear hM;have hmm:=@run_makeMap Tryz.prog
  go_enter Tryz.func89,Tryz.ntmps89
  go_wp2;obtain ⟨W0,hW0⟩:∃ W0,W0=w.alloc (.cells #[vr,vg,vm,.slice sa b.ss.length sc,vc] 88):=⟨_,rfl⟩;rw [<- hW0];have five:=Five.new w vr vg vm (.slice sa b.ss.length sc) vc 88;rw [<- hW0] at five;have hb0:Below w.heap.size w W0:=by rw [hW0];(exact bel)
  have hB0:=HB.out.below hb0;have HS:Hid (SessAt W0 sa b.ss):=by obtain ⟨_,_,e,h,_⟩:=hB0.ss;cases e;exact h
  clear HM;clear hW0;go_loopw [17] (fun i wr=>∃ (k:Nat),k<=b.ss.length/\i=.int .i64 k/\Hid (goS b (b.ss.drop k)=t)/\Below W0.heap.size W0 wr) (fun i _=>b.ss.length - (intOf i).toNat)
  case atStart=>exact ⟨0,Nat.zero_le _,rfl,H.out,Below.refl _ _⟩
  case round =>
   obtain ⟨k,hk,rfl,hG0,hW⟩:=hrel;obtain ⟨wo,rfl⟩:∃ wo:World,wo=wr:=⟨_,rfl⟩;have hWs:=hW.size;by_cases hlt:k < b.ss.length
   ·obtain ⟨sb,so,rfl,hsb,pa,pc,h0,hpc,hpl,hP⟩:=HS.out k hlt;have c0:=(hW.cell hsb).trans h0;have hsb2:sb < wo.heap.size:=Nat.lt_of_lt_of_le hsb hW.size;have hP0:=Hh hP;clear hP;have hG':=hG0.out;rw [List.drop_eq_getElem_cons hlt,goS] at hG';clear hG0 h0;generalize hs:b.ss[k]=s at c0 hG' hpc hpl hP0;have HSS:=Hh hs;clear hs;by_cases h5:5 < s.length
    ·rw [if_pos h5] at hG';subst hG';go_wp2;go_ret;exact ⟨rfl,bel⟩
    ·rw [if_neg h5] at hG';have HG1:=Hh hG';clear hG';go_wp2;obtain ⟨W1,hW1⟩:∃ W1,W1=(wo.alloc (.cells #[.slice pa s.length pc] 73)).alloc (.map #[] 0):=⟨_,rfl⟩;rw [<- hW1];have hs1:wo.heap.size+2<=W1.heap.size:=by rw [hW1];simp
     have hset:=SetAt.made (wo.alloc (.cells #[.slice pa s.length pc] 73)) Tryz.prog 85 4;rw [World.size_alloc,<- hW1] at hset;have hb1:Below wo.heap.size wo W1:=by rw [hW1];(exact bel)
     have fiveo:=five.below hW five.lt;have hBo:=hB0.below hW;have HPo:=Hh (show PartsAt wo pa s from hP0.out.below hW);have HBo:=Hh hBo;clear hBo;have hW1b:Below W0.heap.size W0 W1:=hW.trans (hb1.mono hWs);clear hW1;go_loopw [29] (fun i wr=>∃ (j:Nat) (seen:List Prt),j<=s.length/\i=.int .i64 j/\Hid (goP b seen (s.drop j)=goP b [] s)/\SetAt wr Tryz.prog 85 4 (wo.heap.size+1) j (seen.map partV)/\Below (wo.heap.size+1) W1 wr) (fun i _=>s.length - (intOf i).toNat)
     case atStart=>exact ⟨0,[],Nat.zero_le _,rfl,by simp [Hid],hset,Below.refl _ _⟩
     case round =>
      obtain ⟨j,seen,hj,rfl,hQ,hS,hWi⟩:=hrel;have hWis:=hWi.size;have hWo:Below wo.heap.size wo wr:=hb1.trans (hWi.mono (by omega));by_cases hltj:j < s.length
      ·obtain ⟨pb,po,rfl,hpb,p0,p1⟩:=HPo.out j hltj;have d0:=(hWo.cell hpb).trans p0;have d1:=(hWo.cell hpb).trans p1;have hpb2:pb < wr.heap.size:=by omega
       have five2:=fiveo.below hWo (Nat.lt_of_lt_of_le five.lt hWs);have hQ':=hQ.out;rw [List.drop_eq_getElem_cons hltj,goP] at hQ';clear hQ p0 p1;generalize hp:s[j]=p at d0 d1 hQ';obtain ⟨pm,pg⟩:=p;dsimp only at d0 d1;have HP2:=Hh hp;clear hp;obtain ⟨y0,y1,y2,y3,y4,ylt⟩:=five2;have HBr:=Hh (HBo.out.below hWo);cases hi:isPart b (pm,pg)
       ·have H1:=Hh hi;simp only [hi,if_true] at hQ';have hG2:=HG1.out;rw [<- hQ',if_pos (by decide)] at hG2;subst hG2;clear hi hQ';go_wp2_with (go_at_call 95;(with_reducible refine (isPart_at (p:=(pm,pg)) (HBr.out.below (bal _ _)) HG.out H1.out).mono ?_);rintro e w1 ⟨rfl,hc1⟩;obtain ⟨hcc,hcf⟩:=bcell hc1;have hS1:=(hS.al _).below hc1;have hz1:=hc1.size);go_ret;exact ⟨rfl,bel⟩
       ·have H1:=Hh hi;simp only [hi,Bool.true_eq_false,if_false] at hQ';obtain ⟨kl,hkey⟩:=partKey (pm,pg) (isPart_bounds HG.out (by have:=HBo.out.ms;obtain ⟨_,_,_,_,h⟩:=this;exact h) hi).1 (isPart_bounds HG.out (by have:=HBo.out.ms;obtain ⟨_,_,_,_,h⟩:=this;exact h) hi).2;clear hi;by_cases hmem:(pm,pg)∈seen
        ·have HR:=Hh (mem_partV.2 hmem);simp only [hmem,if_true] at hQ';have hG2:=HG1.out;rw [<- hQ',if_pos (by decide)] at hG2;subst hG2;clear hmem hQ';go_wp2_with (first
          | (go_at_call 95;(with_reducible refine (isPart_at (p:=(pm,pg)) (HBr.out.below (bal _ _)) HG.out H1.out).mono ?_);rintro e w1 ⟨rfl,hc1⟩;obtain ⟨hcc,hcf⟩:=bcell hc1;have hS1:=(hS.al _).below hc1;have hz1:=hc1.size)
          | (at_lookup;refine wpList_lookup_set_yes rfl _ _ 162 rfl partKeyed Tryz.underlying162 Tryz.underlying4 (zeroBool _) rfl hS1 hkey HR.out rfl ?_))
         go_ret;exact ⟨rfl,bel⟩
        ·have HR:=Hh (fun h=>hmem (mem_partV.1 h));simp only [hmem,if_false] at hQ';have HQ:=Hh hQ';clear hmem hQ';go_wp2_with (first
          | (go_at_call 95;(with_reducible refine (isPart_at (p:=(pm,pg)) (HBr.out.below (bal _ _)) HG.out H1.out).mono ?_);rintro e w1 ⟨rfl,hc1⟩;obtain ⟨hcc,hcf⟩:=bcell hc1;have hS1:=(hS.al _).below hc1;have hz1:=hc1.size)
          | (at_lookup;refine wpList_lookup_set_no rfl _ _ 162 rfl partKeyed Tryz.underlying162 Tryz.underlying4 (zeroBool _) rfl hS1 hkey HR.out rfl ?_)
          | (at_mapUpdate;refine wpList_put_set rfl _ _ _ 162 rfl partKeyed Tryz.underlying162 Tryz.underlying4 (by unfold maxLen;omega) rfl hS1 hkey rfl rfl ?_;intro w2 hS2 hg2))
         go_roundw
         case rel=>exact ⟨j+1,(pm,pg)::seen,by omega,by go_num,HQ.out,hS2,bel⟩
         case measure=>simp [intOf];omega
      ·have hQ':goP b seen (s.drop j)=goP b [] s:=hQ.out;rw [List.drop_eq_nil_of_le (by omega)] at hQ';simp only [goP] at hQ';have hG2:=HG1.out;rw [<- hQ',if_neg (by decide)] at hG2;have HG2:=Hh hG2;clear hQ' hG2 hQ;go_wp2;go_roundw
       case rel=>exact ⟨k+1,by omega,by go_num,HG2.out,bel⟩
       case measure=>simp [intOf];omega
   ·have:goS b (b.ss.drop k)=t:=hG0.out;rw [List.drop_eq_nil_of_le (by omega)] at this;simp only [goS] at this;subst this;go_wp2;go_ret;exact ⟨rfl,bel⟩
end Go.Proofs.YtdjnkplgllakcaaGreatDoor
namespace Go.Proofs.YtdjnkplgllakcaaGreatDoor
open Go Go.RowKit
structure Bel (W:World) where
 w:World
 h:Below W.heap.size W w
instance (W : World) : Inhabited (Bel W) := ⟨⟨W, Below.refl _ _⟩⟩
def later (W:World) (x:Bel W):World:=x.w
section
variable {W:World} {x:Bel W} {b o:Nat}
theorem later_below (W:World) (x:Bel W):Below W.heap.size W (later W x):=x.h
theorem cell?_later (h:b < W.heap.size):(later W x).cell? ⟨b,o,none⟩=W.cell? ⟨b,o,none⟩:=x.h.cell (p:=⟨b,o,none⟩) h
theorem frozen?_later (h:b < W.heap.size):(later W x).frozen? ⟨b,o,none⟩=W.frozen? ⟨b,o,none⟩:=x.h.frozen (p:=⟨b,o,none⟩) h
attribute [go_sem] cell?_later frozen?_later
theorem Calls.bel_of {P:Program} {f:FuncId} {args:Array Value} {v:Value}
 (h:Calls P f args (later W x) fun e w'=>e=.returned v/\Below (later W x).heap.size (later W x) w'):Calls P f args (later W x) fun e w''=>e=.returned v/\∃ y,w''=later W y :=
 h.mono fun _ w' ⟨he,hb⟩=>⟨he,⟨w',Below.next x.h hb⟩,rfl⟩
theorem wp_region_bel {P:Program} {id:Nat} {Q:Exit->Act->World->Prop} {a:Act} {l:List Oper} (hm:P.follows .mixedOrders=true) (hB:Region.lexB .any l.toArray=true)
 (h:wpQuiet P l.toArray (fun w'=>∃ x,w'=later W x) (fun a'=>∀ w',(∃ x,w'=later W x)->Q .normal a' w') l a):(Code.region id l.toArray true).wp P Q a W :=
 wp_region_quiet (C:=fun w'=>∃ x,w'=later W x) hm hB ⟨⟨{ W with drawn:=W.drawn+1 },⟨rfl,rfl,rfl,Nat.le_refl _,fun _ _=>rfl⟩⟩,rfl⟩ (by simpa using h)
end
end Go.Proofs.YtdjnkplgllakcaaGreatDoor
namespace Go.Proofs.YtdjnkplgllakcaaGreatDoor
open Go.RowKit Go.Maps Sp
theorem kind4_at {b:Bk} {vr vg vm vs vc:Value} {w:World} (hB:BookAt w b vr vg vm vs vc) (hG:∀ m∈b.ms,0<=m.groups/\m.groups<=1000) (k:Value) (p:Prt) (m:Value) {t:Bool} (h:isPart b p=t) :
 Calls Tryz.prog 154 #[.agg #[vr,vg,vm,vs,vc],.agg #[k,.int .i64 p.1,.int .i64 p.2,m]] w fun e w'=>e=.returned (.tuple #[.int .i64 (b.ss.length:Int),.bool t])/\Below w.heap.size w w':=by
 obtain ⟨sa,sc,rfl,hM,hl⟩:=hB.ss;have HB:=Hh hB;clear hB hM;have HG:=Hh hG;clear hG;have H:=Hh h;clear h
 go_enter Tryz.func154,Tryz.ntmps154
 go_wp2
 (refine wp_region_bel (by kernel_rfl) (by kernel_rfl) ?_;(repeat (go_big_quiet_step ((go_at_call 95;with_reducible exact Calls.bel_of (isPart_at (p:=p) (HB.out.below (Below.next (Below.al (Below.al (Below.refl _ _) _) _) (later_below _ _))) HG.out H.out)))));refine wpQuiet_nil ?_;rintro _ ⟨xq,rfl⟩)
 go_wp2
 go_ret2
 exact ⟨rfl,by have:=later_below _ xq;(exact bel)⟩
theorem inB_nat {a:Int} {n:Nat}:inB a 0 ((n:Int) - 1)=true↔0<=a/\a.toNat < n:=by
 unfold inB;simp only [decide_eq_true_eq];omega
theorem kind0_no {b:Bk} {vr vg vm vs vc:Value} {w:World} (hB:BookAt w b vr vg vm vs vc) (k:Value) (a:Int) (v3 v4:Value) (h:inB a 0 ((b.ss.length:Int) - 1)=false) :
 Calls Tryz.prog 149 #[.agg #[vr,vg,vm,vs,vc],.agg #[k,.int .i64 a,v3,v4]] w fun e w'=>e=.returned (.tuple #[.int .i64 0,.bool false])/\Below w.heap.size w w':=by
 obtain ⟨sa,sc,rfl,hM,hl⟩:=hB.ss;have e1:IntKind.i64.wrap ((b.ss.length:Int) - 1)=(b.ss.length:Int) - 1:=IntWalk.i64_in _ (by omega);have H:=Hh h;clear h hB hM
 go_enter Tryz.func149,Tryz.ntmps149
 go_wp2_with (go_at_call 58;(with_reducible refine (inside_at H.out).mono ?_);rintro e w' ⟨rfl,rfl⟩)
 go_ret2
 exact ⟨rfl,bel⟩
theorem kind0_yes {b:Bk} {vr vg vm vs vc:Value} {w:World} (hB:BookAt w b vr vg vm vs vc) (k:Value) (a:Int) (v3 v4:Value) (h:inB a 0 ((b.ss.length:Int) - 1)=true) :
 Calls Tryz.prog 149 #[.agg #[vr,vg,vm,vs,vc],.agg #[k,.int .i64 a,v3,v4]] w fun e w'=>e=.returned (.tuple #[.int .i64 (((b.ss[a.toNat]?).elim 0 List.length:Nat):Int),.bool true])/\Below w.heap.size w w':=by
 obtain ⟨sa,sc,rfl,hM,hl⟩:=hB.ss;obtain ⟨h1,h2⟩:=inB_nat.1 h;obtain ⟨sb,so,rfl,hsb,pa,pc,c0,hpc,hpl,_⟩:=hM _ h2;have e1:IntKind.i64.wrap ((b.ss.length:Int) - 1)=(b.ss.length:Int) - 1:=IntWalk.i64_in _ (by omega);rw [List.getElem?_eq_getElem h2,Option.elim];have h3:a < b.ss.length:=by omega
 generalize hs:b.ss[a.toNat]=s at *;have H:=Hh h;have HS:=Hh hs;clear h hB hM hs
 go_enter Tryz.func149,Tryz.ntmps149
 go_wp2_with (go_at_call 58;(with_reducible refine (inside_at H.out).mono ?_);rintro e w' ⟨rfl,rfl⟩)
 go_ret2
 exact ⟨rfl,bel⟩
theorem kind5_no {b:Bk} {vr vg vm vs vc:Value} {w:World} (hB:BookAt w b vr vg vm vs vc) (k:Value) (a:Int) (v3 v4:Value) (h:inB a 0 ((b.ms.length:Int) - 1)=false) :
 Calls Tryz.prog 156 #[.agg #[vr,vg,vm,vs,vc],.agg #[k,.int .i64 a,v3,v4]] w fun e w'=>e=.returned (.tuple #[.int .i64 0,.bool false])/\Below w.heap.size w w':=by
 obtain ⟨sa,sc,rfl,hM,hl⟩:=hB.ms;have e1:IntKind.i64.wrap ((b.ms.length:Int) - 1)=(b.ms.length:Int) - 1:=IntWalk.i64_in _ (by omega);have H:=Hh h;clear h hB hM
 go_enter Tryz.func156,Tryz.ntmps156
 go_wp2_with (go_at_call 58;(with_reducible refine (inside_at H.out).mono ?_);rintro e w' ⟨rfl,rfl⟩)
 go_ret2
 exact ⟨rfl,bel⟩
theorem kind5_yes {b:Bk} {vr vg vm vs vc:Value} {w:World} (hB:BookAt w b vr vg vm vs vc) (k:Value) (a:Int) (v3 v4:Value) (h:inB a 0 ((b.ms.length:Int) - 1)=true) :
 Calls Tryz.prog 156 #[.agg #[vr,vg,vm,vs,vc],.agg #[k,.int .i64 a,v3,v4]] w fun e w'=>e=.returned (.tuple #[.int .i64 ((b.ms[a.toNat]?).elim 0 Msg.groups),.bool true])/\Below w.heap.size w w':=by
 obtain ⟨sa,sc,rfl,hM,hl⟩:=hB.ms;obtain ⟨h1,h2⟩:=inB_nat.1 h;obtain ⟨sb,so,rfl,hsb,c0,c1,c2⟩:=hM _ h2;have e1:IntKind.i64.wrap ((b.ms.length:Int) - 1)=(b.ms.length:Int) - 1:=IntWalk.i64_in _ (by omega);rw [List.getElem?_eq_getElem h2,Option.elim];have h3:a < b.ms.length:=by omega
 generalize hs:b.ms[a.toNat]=s at *;have H:=Hh h;have HS:=Hh hs;clear h hB hM hs
 go_enter Tryz.func156,Tryz.ntmps156
 go_wp2_with (go_at_call 58;(with_reducible refine (inside_at H.out).mono ?_);rintro e w' ⟨rfl,rfl⟩)
 go_ret2
 exact ⟨rfl,bel⟩
end Go.Proofs.YtdjnkplgllakcaaGreatDoor
