/- FaultCalls -/
import Derived.Test.YtgkajecjbflbbaaGreatDoorGBase
set_option maxHeartbeats 8000000
set_option maxRecDepth 100000
set_option linter.all false
namespace Go.Proofs.YtgkajecjbflbbaaGreatDoor
namespace Mt
open Go Go.RowKit
@[go_sem] theorem mz_call33 (args:Array Value) (w:World):Sem.run Mz.prog (callFunc 33 args) w=.ok (.enter 33 args) w:=mz_calls (by kernel_rfl) Tryz.func33 (by kernel_rfl) (by kernel_rfl) args w
@[go_sem] theorem mz_call39 (args:Array Value) (w:World):Sem.run Mz.prog (callFunc 39 args) w=.ok (.enter 39 args) w:=mz_calls (by kernel_rfl) Tryz.func39 (by kernel_rfl) (by kernel_rfl) args w
@[go_sem] theorem mz_call50 (args:Array Value) (w:World):Sem.run Mz.prog (callFunc 50 args) w=.ok (.enter 50 args) w:=mz_calls (by kernel_rfl) Tryz.func50 (by kernel_rfl) (by kernel_rfl) args w
@[go_sem] theorem mz_call70 (args:Array Value) (w:World):Sem.run Mz.prog (callFunc 70 args) w=.ok (.enter 70 args) w:=mz_calls (by kernel_rfl) Tryz.func70 (by kernel_rfl) (by kernel_rfl) args w
@[go_sem] theorem mz_call72 (args:Array Value) (w:World):Sem.run Mz.prog (callFunc 72 args) w=.ok (.enter 72 args) w:=mz_calls (by kernel_rfl) Tryz.func72 (by kernel_rfl) (by kernel_rfl) args w
@[go_sem] theorem mz_call73 (args:Array Value) (w:World):Sem.run Mz.prog (callFunc 73 args) w=.ok (.enter 73 args) w:=mz_calls (by kernel_rfl) Tryz.func73 (by kernel_rfl) (by kernel_rfl) args w
@[go_sem] theorem mz_call83 (args:Array Value) (w:World):Sem.run Mz.prog (callFunc 83 args) w=.ok (.enter 83 args) w:=mz_calls (by kernel_rfl) Tryz.func83 (by kernel_rfl) (by kernel_rfl) args w
@[go_sem] theorem mz_call86 (args:Array Value) (w:World):Sem.run Mz.prog (callFunc 86 args) w=.ok (.enter 86 args) w:=mz_calls (by kernel_rfl) Tryz.func86 (by kernel_rfl) (by kernel_rfl) args w
@[go_sem] theorem mz_call104 (args:Array Value) (w:World):Sem.run Mz.prog (callFunc 104 args) w=.ok (.enter 104 args) w:=mz_calls (by kernel_rfl) Tryz.func104 (by kernel_rfl) (by kernel_rfl) args w
@[go_sem] theorem mz_call125 (args:Array Value) (w:World):Sem.run Mz.prog (callFunc 125 args) w=.ok (.enter 125 args) w:=mz_calls (by kernel_rfl) Tryz.func125 (by kernel_rfl) (by kernel_rfl) args w
@[go_sem] theorem mz_call151 (args:Array Value) (w:World):Sem.run Mz.prog (callFunc 151 args) w=.ok (.enter 151 args) w:=mz_calls (by kernel_rfl) Tryz.func151 (by kernel_rfl) (by kernel_rfl) args w
@[go_sem] theorem mz_call152 (args:Array Value) (w:World):Sem.run Mz.prog (callFunc 152 args) w=.ok (.enter 152 args) w:=mz_calls (by kernel_rfl) Tryz.func152 (by kernel_rfl) (by kernel_rfl) args w
theorem bal (w:World) (o:Obj):Below w.heap.size w (w.alloc o):=(Below.refl _ _).alloc (Nat.le_refl _) o
end Mt
section
open Go.RowKit Sp
theorem bal (w:World) (o:Obj):Below w.heap.size w (w.alloc o):=(Below.refl _ _).alloc (Nat.le_refl _) o
section
variable {w w':World}
end
end
section
open Go.RowKit Go.Maps Sp
section
variable {b:Bk} {vr vg vm vs vc:Value} {w:World}
theorem ownsRow_base {w:World} {base base' e size n:Nat} {v:Value} {xs:List Value} (h:w.ownsRow base e size v n xs) (hb:base'<=base):w.ownsRow base' e size v n xs:=by
 obtain ⟨h1,h2 | ⟨g,cap,cur,e1,e2,e3,e4⟩⟩:=h
 ·exact ⟨h1,.inl h2⟩
 ·exact ⟨h1,.inr ⟨g,cap,cur,e1,Nat.le_trans hb e2,e3,e4⟩⟩
end
end
section
open Go.RowKit Sp
section
variable {w w':World} {a:Option Addr}
theorem ints_of_row {base n c:Nat} {l:List Int} (h:w.ownsRow base 3 1 (.slice a n c) n (l.map (Value.int .i64))):IntsAt w a l:=fun i hi=>by
 obtain ⟨g,rfl,_,h2,h3⟩:=row_cell h i (by simpa using hi);refine ⟨g,0,rfl,h2,?_⟩;rw [Nat.zero_add,h3];simp [hi]
end
end
section
open Go.RowKit Go.Maps Sp
def sayI (s m:Int):Int:=if s=0 then 2 else if s=m then 1 else 0
section
variable {b:Bk} {vr vg vm vs vc:Value}
theorem KS.own {p:Nat->Prop} {a b:World} {v:Value} (h:a.grownBy b v.ownBlock) (hp:∀ g,v.ownBlock=some g->¬ p g):KS p a b :=
 ⟨h.os,h.tape,h.output,h.size,fun k hk hpk=>h.block k hk (fun e=>hp k e.symm hpk)⟩
theorem ownBlock_row {w:World} {base e size n:Nat} {v:Value} {xs:List Value} (h:w.ownsRow base e size v n xs):∀ g,v.ownBlock=some g->base<=g/\g < w.heap.size:=fun g hg=>by
 obtain ⟨_,⟨rfl,_⟩ | ⟨g',cap,cur,rfl,e2,e3,_⟩⟩:=h
 ·cases hg
 ·cases hg;exact ⟨e2,(Array.getElem?_eq_some_iff.1 e3).1⟩
end
end
namespace Mt
open Go Go.RowKit Go.Maps
attribute [local go_sem] Oper.semAt_some
section
variable {b:Fbk} {vm vd vt:Value} {w:World}
theorem passApi_no {l:List Int} {pa:Option Addr} {pc:Nat} (hB:FBookAt w b vm vd vt) (hN:∀ m∈b.devs,m.name.size<=1000000) (hA:ActsAt w) (hp:IntsAt w pa l) (hl:l.length<=1000000) (hpc:l.length<=pc) {t:Int} (h:openAl b (pathAl b.devs.length l)=t) (h0:t≠0) :
 Calls Mz.prog 17 #[.agg #[vm,vd,vt],.slice pa l.length pc] w fun e w'=>e=.returned (.tuple #[.int .i64 0,.int .i64 t])/\Below w.heap.size w w':=by
 have HB:=Hh hB;have HN:=Hh hN;have HA:=Hh hA;have H:=Hh h;have HK:=Hh (passAsk hB hp hl hpc);have hz3:(t != 0)=true:=by simpa using h0
 obtain ⟨rfl,⟨da,dc,rfl,_,_⟩,ta,tc,rfl,_,_⟩:=hB;clear hN h hA hp
 go_enter (mz_func (i:=17) rfl Tryz.func17),Tryz.ntmps17
 go_wp2_with (go_at_call 64;(with_reducible refine (open_no (HB.out.below (bel)) HN.out (HA.out.below (bel)) (fun _ _=>mz_call65 _ _) (HK.out _ (bel) (by simp) (cell_last (by simp))) H.out h0).mono ?_);rintro e w1 ⟨rfl,hb1⟩);exact bodyPost_ret (v:=.tuple #[.int .i64 0,.int .i64 t]) (by simp [results,Tryz.results17,go_sem, *]) rfl ⟨rfl,bel⟩
theorem soundApi_no {l:List Int} {pa:Option Addr} {pc:Nat} (hB:FBookAt w b vm vd vt) (hN:∀ m∈b.devs,m.name.size<=1000000) (hA:ActsAt w) (hp:IntsAt w pa l) (hl:l.length<=1000000) (hpc:l.length<=pc) {t:Int} (h:openAl b (pathAl b.devs.length l)=t) (h0:t≠0) :
 Calls Mz.prog 19 #[.agg #[vm,vd,vt],.slice pa l.length pc] w fun e w'=>e=.returned (.tuple #[.int .i64 0,.int .i64 t])/\Below w.heap.size w w':=by
 have HB:=Hh hB;have HN:=Hh hN;have HA:=Hh hA;have H:=Hh h;have HK:=Hh (soundAsk hB hp hl hpc);have hz3:(t != 0)=true:=by simpa using h0
 obtain ⟨rfl,⟨da,dc,rfl,_,_⟩,ta,tc,rfl,_,_⟩:=hB;clear hN h hA hp
 go_enter (mz_func (i:=19) rfl Tryz.func19),Tryz.ntmps19
 go_wp2_with (go_at_call 64;(with_reducible refine (open_no (HB.out.below (bel)) HN.out (HA.out.below (bel)) (fun _ _=>mz_call74 _ _) (HK.out _ (bel) (by simp) (cell_last (by simp))) H.out h0).mono ?_);rintro e w1 ⟨rfl,hb1⟩);exact bodyPost_ret (v:=.tuple #[.int .i64 0,.int .i64 t]) (by simp [results,Tryz.results19,go_sem, *]) rfl ⟨rfl,bel⟩
end
def sayI (s m:Int):Int:=if s=0 then 2 else if s=m then 1 else 0
theorem rSay_at (s m:Int) (w:World) {t:Int} (ht:sayI s m=t):Calls Mz.prog 73 #[.int .i64 s,.int .i64 m] w fun e w'=>e=.returned (.int .i64 t)/\w'=w:=by
 unfold sayI at ht;by_cases h0:s=0
 ·rw [if_pos h0] at ht;subst h0 ht
  go_enter (mz_func (i:=73) rfl Tryz.func73),Tryz.ntmps73
  go_wp2;go_ret;exact ⟨rfl,rfl⟩
 ·rw [if_neg h0] at ht;have h1:(s == 0)=false:=by rw [beq_eq_false_iff_ne];exact h0
  by_cases h2:s=m
  ·rw [if_pos h2] at ht;subst h2 ht;clear h0
   go_enter (mz_func (i:=73) rfl Tryz.func73),Tryz.ntmps73
   go_wp2;go_ret;exact ⟨rfl,rfl⟩
  ·rw [if_neg h2] at ht;have h3:(s == m)=false:=by rw [beq_eq_false_iff_ne];exact h2
   subst ht;clear h0 h2
   go_enter (mz_func (i:=73) rfl Tryz.func73),Tryz.ntmps73
   go_wp2;go_ret;exact ⟨rfl,rfl⟩
attribute [local go_sem] Oper.semAt_some
def stL (n:Nat) (s:Nat->Nat):List Int:=(List.range n).map fun i=>(s i:Int)
theorem stL_len (n:Nat) (s:Nat->Nat):(stL n s).length=n:=by simp [stL]
theorem stL_get {n:Nat} {s:Nat->Nat} {i:Nat} (h:i < (stL n s).length):(stL n s)[i]=(s i:Int):=by simp [stL]
section
variable {w:World} {sa pa:Option Addr} {l:List Int} {sc pc n:Nat} {s:Nat->Nat}
theorem rPlayOf_at (hS:IntsAt w sa (stL n s)) (hn:n<=1000000) (hp:IntsAt w pa l) (hl:∀ x∈l,0<=x/\x < (n:Int)) (hs:∀ k,s k < 3) (hll:l.length<=1000000) {r:Bool} {m:Nat} (h:playI s l=(r,m)) :
 Calls Mz.prog 72 #[.slice sa n sc,.slice pa l.length pc] w fun e w'=>e=.returned (.tuple #[.bool r,.int .i64 (m:Int)])/\w'=w:=by
 have H:=Hh h;have HS:=Hh hS;have HP:=Hh hp;have HL:=Hh hl;have HSB:=Hh hs;clear h hS hp hl hs
 go_enter (mz_func (i:=72) rfl Tryz.func72),Tryz.ntmps72
 go_wp2;go_loop [6] (fun i=>∃ k:Nat,k<=l.length/\i=.int .i64 k/\Hid (plays s (stepsOf l) (l.length - k) k=(r,m))) (fun i=>l.length - (intOf i).toNat)
 case atStart=>exact ⟨0,Nat.zero_le _,rfl,by show plays s (stepsOf l) (l.length - 0) 0=_;exact H.out⟩
 case round =>
  obtain ⟨k,hk,rfl,hgo⟩:=hrel;have hgo2:=hgo.out;clear hgo;by_cases hlt:k < l.length
  ·obtain ⟨pb,po,rfl,hpb,c0⟩:=HP.out k hlt;have hxb:=HL.out l[k] (List.getElem_mem hlt);have hsk:stepsOf l k=l[k].toNat:=by simp [stepsOf,List.getD,hlt]
   obtain ⟨x,hx⟩:∃ x,l[k]=x:=⟨_,rfl⟩;rw [hx] at c0 hxb hsk;obtain ⟨xn,rfl⟩:∃ xn:Nat,x=(xn:Int):=⟨x.toNat,by omega⟩;rw [Int.toNat_natCast] at hsk;have hxI:(xn:Int) < (n:Int):=by omega
   have hxn:xn < (stL n s).length:=by rw [stL_len];omega
   obtain ⟨sb,so,rfl,hsb,d0⟩:=HS.out xn hxn;rw [stL_get] at d0;have h3:=HSB.out xn;have e1:l.length - k=(l.length - (k+1))+1:=by omega
   rw [e1] at hgo2;unfold plays at hgo2;rw [hsk] at hgo2;clear hx hsk;obtain ⟨v,hv⟩:∃ v,s xn=v:=⟨_,rfl⟩;rw [hv] at d0 hgo2 h3;clear hv;have hv3:v=0\/v=1\/v=2:=by omega
   rcases hv3 with rfl | rfl | rfl
   ·rw [if_pos rfl] at hgo2;have HG:=Hh hgo2;have d1:w.cell? ⟨sb,so+xn,none⟩=some (.int .i64 0):=d0;clear hgo2 d0;go_wp2;go_round
    case rel=>exact ⟨k+1,hlt,by go_num,HG.out⟩
    case measure=>simp [intOf];omega
   ·rw [if_neg (by decide)] at hgo2;have d1:w.cell? ⟨sb,so+xn,none⟩=some (.int .i64 1):=d0;obtain ⟨rfl,rfl⟩:r=false/\m=k:=by
     have:=Prod.mk.inj hgo2;exact ⟨by rw [<- this.1];rfl,this.2.symm⟩
    clear hgo2 d0;go_wp2;exact bodyPost_ret (v:=.tuple #[.bool false,.int .i64 (m:Int)]) (by simp [results,Tryz.results72,go_sem, *]) rfl ⟨rfl,rfl⟩
   ·rw [if_neg (by decide)] at hgo2;have d1:w.cell? ⟨sb,so+xn,none⟩=some (.int .i64 2):=d0;obtain ⟨rfl,rfl⟩:r=true/\m=k:=by
     have:=Prod.mk.inj hgo2;exact ⟨by rw [<- this.1];rfl,this.2.symm⟩
    clear hgo2 d0;go_wp2;exact bodyPost_ret (v:=.tuple #[.bool true,.int .i64 (m:Int)]) (by simp [results,Tryz.results72,go_sem, *]) rfl ⟨rfl,rfl⟩
  ·obtain rfl:k=l.length:=by omega
   rw [Nat.sub_self] at hgo2;obtain ⟨rfl,rfl⟩:r=true/\m=l.length:=by
    have:=Prod.mk.inj hgo2;exact ⟨this.1.symm,this.2.symm⟩
   clear hgo2;go_wp2;exact bodyPost_ret (v:=.tuple #[.bool true,.int .i64 (l.length:Int)]) (by simp [results,Tryz.results72,go_sem, *]) rfl ⟨rfl,rfl⟩
end
def canI (m:Dev) (v:Nat):Bool:=decide (v=0) || (decide (v=1) && m.held) || (decide (v=2) && m.blind)
theorem rCan_at (m:Dev) {v:Nat} (hv:v < 3) (w:World):Calls Mz.prog 152 #[.agg #[.string m.name,.bool m.held,.bool m.blind,.int .i64 m.time],.int .i64 (v:Int)] w fun e w'=>e=.returned (.bool (canI m v))/\Below w.heap.size w w':=by
 obtain ⟨nm,he,bl,du⟩:=m;have hv3:v=0\/v=1\/v=2:=by omega
 rcases hv3 with rfl | rfl | rfl <;> cases he <;> cases bl
 all_goals
  simp only [canI]
  go_enter (mz_func (i:=152) rfl Tryz.func152),Tryz.ntmps152
  go_wp2;go_ret;exact ⟨rfl,bel⟩
attribute [local go_sem] Oper.semAt_some
def TestsOk (b:Fbk):Prop:=∀ t∈b.tests,(∀ x∈t.path,0<=x/\x < (b.devs.length:Int))/\0<=t.seen/\t.seen<=2
section
variable {b:Fbk} {vm vd vt:Value} {w:World} {sa:Option Addr} {sc:Nat} {s:Nat->Nat}
theorem rRight_at (hB:FBookAt w b vm vd vt) (hS:IntsAt w sa (stL b.devs.length s)) (hs:∀ k,s k < 3) (hO:TestsOk b) {t:Bool} (h:goR s b.tests=t) :
 Calls Mz.prog 151 #[.agg #[vm,vd,vt],.slice sa b.devs.length sc] w fun e w'=>e=.returned (.bool t)/\Below w.heap.size w w':=by
 obtain ⟨rfl,⟨da,dc,rfl,hD,hdl⟩,ta,tc,rfl,hT,htl⟩:=hB;have hb0:Below w.heap.size w (w.alloc (.cells #[.int .i64 b.most,.slice da b.devs.length dc,.slice ta b.tests.length tc] 25)):=bel;have H:=Hh h;have HS:=Hh (hS.below hb0);have HT:=Hh (hT.below hb0);have HO:=Hh hO;have HSB:=Hh hs;clear h hS hT hO hs hD
 go_enter (mz_func (i:=151) rfl Tryz.func151),Tryz.ntmps151
 go_wp2;obtain ⟨W0,hW0⟩:∃ W0,W0=w.alloc (.cells #[.int .i64 b.most,.slice da b.devs.length dc,.slice ta b.tests.length tc] 25):=⟨_,rfl⟩;rw [<- hW0] at hb0 HS HT ⊢;have q2:W0.cell? ⟨w.heap.size,2,none⟩=some (.slice ta b.tests.length tc):=by rw [hW0,World.cell?_alloc_at _ _ _ _ rfl];rfl
 have HB:=Hh hb0;have hs0:w.heap.size < W0.heap.size:=by rw [hW0];simp
 clear hW0 hb0;go_loop [5] (fun i=>∃ k:Nat,k<=b.tests.length/\i=.int .i64 k/\Hid (goR s (b.tests.drop k)=t)) (fun i=>b.tests.length - (intOf i).toNat)
 case atStart=>exact ⟨0,Nat.zero_le _,rfl,by show goR s (b.tests.drop 0)=t;exact H.out⟩
 case round =>
  obtain ⟨k,hk,rfl,hgo⟩:=hrel;have hgo2:=hgo.out;clear hgo;by_cases hlt:k < b.tests.length
  ·obtain ⟨tb,to,rfl,htb,pa,pc,c0,hpc,hpl,hpi,c1⟩:=HT.out k hlt;have hok:=HO.out b.tests[k] (List.getElem_mem hlt);rw [List.drop_eq_getElem_cons hlt] at hgo2;unfold goR at hgo2;obtain ⟨⟨r,m⟩,hrm⟩:∃ rm,playI s b.tests[k].path=rm:=⟨_,rfl⟩;have HPL:=Hh (rPlayOf_at (sc:=sc) (pc:=pc) HS.out hdl hpi hok.1 HSB.out hpl hrm);rw [hrm] at hgo2;obtain ⟨sv,hsv⟩:∃ sv,b.tests[k].seen=sv:=⟨_,rfl⟩;rw [hsv] at hgo2 c1 hok;obtain ⟨pth,hpth⟩:∃ p,b.tests[k].path=p:=⟨_,rfl⟩;rw [hpth] at c0 hpc hpl HPL;have hsv3:sv=0\/sv=1\/sv=2:=by omega
   clear hok hpi hrm hsv hpth;rcases hsv3 with rfl | rfl | rfl
   ·rw [if_pos rfl] at hgo2;have HG:=Hh hgo2;clear hgo2;go_wp2_with (go_at_call 72;(with_reducible refine (HPL.out).mono ?_);rintro e w' ⟨rfl,rfl⟩);go_round
    case rel=>exact ⟨k+1,hlt,by go_num,HG.out⟩
    case measure=>simp [intOf];omega
   ·rw [if_neg (by decide)] at hgo2;cases r
    ·have ht:t=false:=by rw [<- hgo2];rfl
     subst ht;clear hgo2;go_wp2_with (go_at_call 72;(with_reducible refine (HPL.out).mono ?_);rintro e w' ⟨rfl,rfl⟩);go_ret;exact ⟨rfl,HB.out⟩
    ·have HG:=Hh (show goR s (b.tests.drop (k+1))=t from hgo2);clear hgo2;go_wp2_with (go_at_call 72;(with_reducible refine (HPL.out).mono ?_);rintro e w' ⟨rfl,rfl⟩);go_round
     case rel=>exact ⟨k+1,hlt,by go_num,HG.out⟩
     case measure=>simp [intOf];omega
   ·rw [if_neg (by decide)] at hgo2;cases r
    ·have HG:=Hh (show goR s (b.tests.drop (k+1))=t from hgo2);clear hgo2;go_wp2_with (go_at_call 72;(with_reducible refine (HPL.out).mono ?_);rintro e w' ⟨rfl,rfl⟩);go_round
     case rel=>exact ⟨k+1,hlt,by go_num,HG.out⟩
     case measure=>simp [intOf];omega
    ·have ht:t=false:=by rw [<- hgo2];rfl
     subst ht;clear hgo2;go_wp2_with (go_at_call 72;(with_reducible refine (HPL.out).mono ?_);rintro e w' ⟨rfl,rfl⟩);go_ret;exact ⟨rfl,HB.out⟩
  ·obtain rfl:k=b.tests.length:=by omega
   rw [List.drop_length] at hgo2;have ht:t=true:=hgo2.symm;subst ht;clear hgo2;go_wp2;go_ret;exact ⟨rfl,HB.out⟩
end
end Mt
section
open Go.RowKit Go.Maps Sp
section
variable {P:Program}
theorem run_app {X:World} {base:Nat} {t ty e:TypeId} {z:Value} {bytes:Nat} (ht:P.underlying t=some (.slice e)) (hi:(P.info? e).map (fun i=>(i.zero,i.size,i.bytes))=some (some z,1,bytes)) (hzs:z.cells.size=1) (hby:bytes<=100)
 {v:Value} {n:Nat} {xs:List Value} (hown:X.ownsRow base e 1 v n xs) {sa:Option Addr} {m c:Nat} {news:List Value} (hl:news.length=m) (hnews:Src1 X sa c news) (h1:∀ u∈news,u.oneCell'=true) (hnm:n+m<=1000000) (hbase:base<=X.heap.size) :
 ∃ a' c' w',(Builtin.append_ #[t,t] ty #[v,.slice sa m c]).run P X=.ok (.slice a' (n+m) c') w'/\w'.ownsRow base e 1 (.slice a' (n+m) c') (n+m) (xs ++ news)/\X.grownBy w' v.ownBlock:=by
 obtain ⟨i,hi,hz,hsz,hb⟩:=info_parts hi;obtain ⟨hn0,hcell⟩:=hnews
 cases sa with
 | some ad =>
  have hbm:(n+m) * bytes<=140737488355328:=by have:=Nat.mul_le_mul hnm hby;omega
  obtain ⟨v',w',hr,h2,h3,_,_⟩:=run_append_own_at (P:=P) X base t ty e i z 1 bytes ht hi hz hsz hb hzs (by decide) v n xs hown ad m c news (by simpa using hl) (fun j u hj=>by
   obtain ⟨ad',e',hc⟩:=hcell j u hj
   cases e'
   exact hc) h1 (by unfold maxLen;omega) hbm hbase
  rcases h2.2 with ⟨h4,h5⟩ | ⟨g,cap,cur,h4,_⟩
  ·subst h4;have hn:n=0/\m=0:=by omega
   obtain ⟨rfl,rfl⟩:=hn;exact ⟨none,0,w',hr,h2,h3⟩
  ·subst h4;exact ⟨_,_,w',hr,h2,h3⟩
 | none =>
  obtain ⟨rfl,rfl⟩:=hn0 rfl;simp only [List.length_nil] at hl;subst hl;have hshape:∃ a' c',v=.slice a' n c'/\n<=c':=by
   rcases hown.2 with ⟨rfl,rfl⟩ | ⟨g,cap,cur,rfl,_,_,h,_⟩
   ·exact ⟨none,0,rfl,Nat.le_refl _⟩
   ·exact ⟨_,_,rfl,h⟩
  obtain ⟨a',c',rfl,hle⟩:=hshape;refine ⟨a',c',X,?_,by simpa using hown,⟨rfl,rfl,rfl,Nat.le_refl _,fun _ _ _=>rfl⟩⟩;exact run_append_nothing (P:=P) X t t ty e i ht hi a' n c' hle (.slice none 0 0) ⟨.inl ⟨e,ht⟩,fun w'=>rfl,rfl,rfl,by simp,by simp⟩
theorem step_app {X W:World} {B:Nat} {ops:Array Oper} {o:Oper} {a:Act} {K:Act->World->Prop} {Q:Exit->Act->World->Prop} {E:Prop} (hgd:o.guard=none) (s x:Operand) (t:TypeId)
 (ho:o.op=.call { callee:=.builtin .append,args:=#[s,x],argTypes:=#[t,t] }) (base:Nat) (e:TypeId) {z:Value} {bytes:Nat} (ht:P.underlying t=some (.slice e)) (hi:(P.info? e).map (fun i=>(i.zero,i.size,i.bytes))=some (some z,1,bytes)) (hzs:z.cells.size=1) (hby:bytes<=100)
 {v:Value} {n:Nat} {xs:List Value} (hs:a.eval s=v) (hown:X.ownsRow base e 1 v n xs) {sa:Option Addr} {m c:Nat} {news:List Value} (hx:a.eval x=.slice sa m c) (hl:news.length=m) (hnews:Src1 X sa c news) (h1:∀ u∈news,u.oneCell'=true)
 {r:Nat} (hr:n+m=r) (hnm:r<=1000000) (hbase:base<=X.heap.size) (hW:Below B W X) (hB:B<=base)
 (h:∀ a' c' w',w'.ownsRow base e 1 (.slice a' r c') r (xs ++ news)->KS (fun k=>v.ownBlock≠some k) X w'->Below B W w'->K (a.put o.dst (.slice a' r c')) w') :
 if Region.wanted o (yielded ops a.tmps)=true then Oper.wp P o a X K Q else E:=by
 subst hr;have hw:Region.wanted o (yielded ops a.tmps)=true:=by simp [Region.wanted,hgd]
 rw [if_pos hw];obtain ⟨a',c',w',hrun,h2,h3⟩:=run_app (P:=P) (ty:=o.type) ht hi hzs hby hown hl hnews h1 hnm hbase;unfold Oper.wp execOp;simp only [ho,resolve,invoke,builtin,Sem.run_bind,Sem.run_pure,Result.andThen_ok,List.map_toArray,List.map_cons,List.map_nil,hs,hx,hrun];exact h a' c' w' h2 (KS.own h3 fun g hg=>by simp [hg]) (hW.trans ((below_own hown h3 hbase).mono hB))
theorem step_appW {X:World} {ops:Array Oper} {o:Oper} {a:Act} {K:Act->World->Prop} {Q:Exit->Act->World->Prop} {E:Prop} (W:World) (hgd:o.guard=none) (s x:Operand) (t:TypeId)
 (ho:o.op=.call { callee:=.builtin .append,args:=#[s,x],argTypes:=#[t,t] }) (e:TypeId) {z:Value} {bytes:Nat} (ht:P.underlying t=some (.slice e)) (hi:(P.info? e).map (fun i=>(i.zero,i.size,i.bytes))=some (some z,1,bytes)) (hzs:z.cells.size=1) (hby:bytes<=100)
 (v:Value) (n:Nat) (xs:List Value) (hs:a.eval s=v) (sa:Option Addr) (m c:Nat) (news:List Value) (hx:a.eval x=.slice sa m c) (hl:news.length=m) (h1:∀ u∈news,u.oneCell'=true)
 (r:Nat) (hr:n+m=r) (hnm:r<=1000000) (hW:Below W.heap.size W X) (hown:X.ownsRow W.heap.size e 1 v n xs) (hnews:Src1 X sa c news)
 (h:∀ a' c' w',w'.ownsRow W.heap.size e 1 (.slice a' r c') r (xs ++ news)->KS (fun k=>v.ownBlock≠some k) X w'->Below W.heap.size W w'->K (a.put o.dst (.slice a' r c')) w') :
 if Region.wanted o (yielded ops a.tmps)=true then Oper.wp P o a X K Q else E :=
 step_app hgd s x t ho _ e ht hi hzs hby hs hown hx hl hnews h1 hr hnm hW.size hW (Nat.le_refl _) h
theorem Src1.ks {X Y:World} {sa:Option Addr} {c:Nat} {news:List Value} (h:Src1 X sa c news) {p:Nat->Prop} (hk:KS p X Y) (hp:∀ ad,sa=some ad->ad.block < X.heap.size/\p ad.block):Src1 Y sa c news :=
 ⟨h.1,fun j u hj=>by
   obtain ⟨ad,e,hc⟩:=h.2 j u hj
   obtain ⟨h1,h2⟩:=hp ad e
   have hb:(Addr.add ad j).block=ad.block:=by unfold Addr.add;split <;> rfl
   exact ⟨ad,e,(hk.cell (x:=ad.add j) (by rw [hb];exact h1) (by rw [hb];exact h2)).trans hc⟩⟩
end
theorem src_new (w:World) (cs:List Value) (t:TypeId) {n:Nat} (hn:n=w.heap.size) (c:Nat):Src1 (w.alloc (.cells cs.toArray t)) (some ⟨n,0,none⟩) c cs:=by
 subst hn;exact ⟨fun h=>(by cases h),fun j u hj=>⟨_,rfl,cells_new w cs t j u hj⟩⟩
def IntsV (w:World) (v:Value) (l:List Int):Prop:=w.ownsRow 0 3 1 v l.length (l.map (Value.int .i64))
def ListsV (w:World) (vs:List Value) (ls:List (List Int)):Prop:=vs.length=ls.length/\∀ (i:Nat) (v:Value) (l:List Int),vs[i]? = some v->ls[i]? = some l->IntsV w v l
def ListsAt (w:World) (a:Option Addr) (ls:List (List Int)):Prop:=∀ i (h:i < ls.length),∃ b o,a=some ⟨b,o,none⟩/\b < w.heap.size/\∃ v,w.cell? ⟨b,o+i,none⟩=some v/\IntsV w v ls[i]
section
variable {w w':World}
theorem IntsV.form {v:Value} {l:List Int} (h:IntsV w v l):∃ a c,v=.slice a l.length c/\IntsAt w a l/\(a=none->c=0)/\l.length<=c:=by
 rcases id h with ⟨hl,⟨rfl,h2⟩ | ⟨g,cap,cur,rfl,_,_,hle,_⟩⟩
 ·refine ⟨none,0,by rw [h2],fun i hi=>by omega,fun _=>rfl,by omega⟩
 ·exact ⟨_,_,rfl,ints_of_row h,fun h=>(by cases h),hle⟩
theorem IntsV.of {base n c:Nat} {a:Option Addr} {l:List Int} (h:w.ownsRow base 3 1 (.slice a n c) n (l.map (Value.int .i64))):IntsV w (.slice a n c) l:=by
 have hn:n=l.length:=by have:=h.1;simp at this;omega
 subst hn;exact h.mono (Nat.zero_le _)
theorem IntsV.below {v:Value} {l:List Int} (h:IntsV w v l) (hb:Below w.heap.size w w'):IntsV w' v l:=ownsRow_below h hb
theorem row_keep' {p:Nat->Prop} {A B:World} {base e size n:Nat} {v:Value} {xs:List Value} (h:A.ownsRow base e size v n xs) (hk:KS p A B) (hp:∀ g,v.ownBlock=some g->p g):B.ownsRow base e size v n xs:=by
 obtain ⟨h1,h2 | ⟨g,cap,cur,rfl,e2,e3,e4⟩⟩:=h
 ·exact ⟨h1,.inl h2⟩
 ·exact ⟨h1,.inr ⟨g,cap,cur,rfl,e2,(hk.block g (Array.getElem?_eq_some_iff.1 e3).1 (hp g rfl)).trans e3,e4⟩⟩
theorem rows_apart' {A:World} {b1 e1 s1 n1 b2 e2 s2 n2:Nat} {v1 v2:Value} {x1 x2:List Value} (h1:A.ownsRow b1 e1 s1 v1 n1 x1) (h2:A.ownsRow b2 e2 s2 v2 n2 x2) (he:e1≠e2):∀ g,v1.ownBlock=some g->v2.ownBlock≠some g:=fun g hg hg2=>by
 obtain ⟨_,⟨rfl,_⟩ | ⟨g1,c1,cur1,rfl,_,e3,_⟩⟩:=h1
 ·cases hg
 ·obtain ⟨_,⟨rfl,_⟩ | ⟨g2,c2,cur2,rfl,_,f3,_⟩⟩:=h2
  ·cases hg2
  ·cases hg;cases hg2;rw [e3] at f3;cases f3;exact he rfl
theorem ListsV.below {vs:List Value} {ls:List (List Int)} (h:ListsV w vs ls) (hb:Below w.heap.size w w'):ListsV w' vs ls:=⟨h.1,fun i v l h1 h2=>(h.2 i v l h1 h2).below hb⟩
theorem ListsV.keep {vs:List Value} {ls:List (List Int)} (h:ListsV w vs ls) {base e size n:Nat} {v:Value} {xs:List Value} (hrow:w.ownsRow base e size v n xs) (he:3≠e) (hk:KS (fun k=>v.ownBlock≠some k) w w'):ListsV w' vs ls :=
 ⟨h.1,fun i u l h1 h2=>row_keep' (h.2 i u l h1 h2) hk fun g hg=>rows_apart' (h.2 i u l h1 h2) hrow he g hg⟩
theorem ListsV.nil (w:World):ListsV w [] []:=⟨rfl,fun i v l h=>by simp at h⟩
theorem ListsV.append {vs us:List Value} {ls ms:List (List Int)} (h:ListsV w vs ls) (k:ListsV w us ms):ListsV w (vs ++ us) (ls ++ ms):=by
 refine ⟨by rw [List.length_append,List.length_append,h.1,k.1],fun i v l h1 h2=>?_⟩;by_cases hi:i < vs.length
 ·rw [List.getElem?_append_left hi] at h1;rw [List.getElem?_append_left (by rw [<- h.1];exact hi)] at h2;exact h.2 i v l h1 h2
 ·rw [List.getElem?_append_right (by omega)] at h1;rw [List.getElem?_append_right (by rw [<- h.1];omega),<- h.1] at h2;exact k.2 _ v l h1 h2
theorem ListsV.single {v:Value} {l:List Int} (h:IntsV w v l):ListsV w [v] [l]:=⟨rfl,fun i u m h1 h2=>by
 cases i with
 | zero=>simp only [List.getElem?_cons_zero,Option.some.injEq] at h1 h2;rw [<- h1,<- h2];exact h
 | succ i=>simp at h1⟩
theorem lists_of_row {base e n c:Nat} {a:Option Addr} {vs:List Value} {ls:List (List Int)} (h:w.ownsRow base e 1 (.slice a n c) n vs) (k:ListsV w vs ls):ListsAt w a ls:=fun i hi=>by
 have hv:i < vs.length:=by rw [k.1];exact hi
 obtain ⟨g,rfl,_,h2,h3⟩:=row_cell h i hv;exact ⟨g,0,rfl,h2,vs[i],by rw [Nat.zero_add,h3,List.getElem?_eq_getElem hv],k.2 i _ _ (List.getElem?_eq_getElem hv) (List.getElem?_eq_getElem hi)⟩
theorem src_row {base e n c:Nat} {a:Option Addr} {vs:List Value} (h:w.ownsRow base e 1 (.slice a n c) n vs):Src1 w a c vs:=by
 obtain ⟨hl,⟨h1,h2⟩ | ⟨g,cap,cur,h1,_⟩⟩:=id h
 ·cases h1;have hv:vs=[]:=List.length_eq_zero_iff.1 (by rw [hl]);subst hv;exact ⟨fun _=>⟨rfl,rfl⟩,fun j u hj=>by simp at hj⟩
 ·cases h1;exact ⟨fun h=>(by cases h),fun j u hj=>⟨_,rfl,h.cells (g:=g) rfl j u hj⟩⟩
end
end
namespace Mt
open Go Go.RowKit Go.Maps
def StaV (w:World) (v:Value) (l:List Int):Prop:=w.ownsRow 0 54 1 v l.length (l.map (Value.int .i64))
def StaLV (w:World) (vs:List Value) (ls:List (List Int)):Prop:=vs.length=ls.length/\∀ (i:Nat) (v:Value) (l:List Int),vs[i]? = some v->ls[i]? = some l->StaV w v l
def StaAt (w:World) (a:Option Addr) (ls:List (List Int)):Prop:=∀ i (h:i < ls.length),∃ b o,a=some ⟨b,o,none⟩/\b < w.heap.size/\∃ v,w.cell? ⟨b,o+i,none⟩=some v/\StaV w v ls[i]
section
variable {w w':World}
theorem StaV.form {v:Value} {l:List Int} (h:StaV w v l):∃ a c,v=.slice a l.length c/\IntsAt w a l/\(a=none->c=0)/\l.length<=c:=by
 rcases id h with ⟨hl,⟨rfl,h2⟩ | ⟨g,cap,cur,rfl,_,_,hle,_⟩⟩
 ·refine ⟨none,0,by rw [h2],fun i hi=>by omega,fun _=>rfl,by omega⟩
 ·exact ⟨_,_,rfl,ints_row h,fun h=>(by cases h),hle⟩
theorem StaV.of {base n c:Nat} {a:Option Addr} {l:List Int} (h:w.ownsRow base 54 1 (.slice a n c) n (l.map (Value.int .i64))):StaV w (.slice a n c) l:=by
 have hn:n=l.length:=by have:=h.1;simp at this;omega
 subst hn;exact h.mono (Nat.zero_le _)
theorem StaV.nil (w:World):StaV w (.slice none 0 0) []:=World.ownsRow_nil w 0 54 1
theorem StaV.below {v:Value} {l:List Int} (h:StaV w v l) (hb:Below w.heap.size w w'):StaV w' v l:=ownsRow_below h hb
theorem row_keep' {p:Nat->Prop} {A B:World} {base e size n:Nat} {v:Value} {xs:List Value} (h:A.ownsRow base e size v n xs) (hk:KS p A B) (hp:∀ g,v.ownBlock=some g->p g):B.ownsRow base e size v n xs:=by
 obtain ⟨h1,h2 | ⟨g,cap,cur,rfl,e2,e3,e4⟩⟩:=h
 ·exact ⟨h1,.inl h2⟩
 ·exact ⟨h1,.inr ⟨g,cap,cur,rfl,e2,(hk.block g (Array.getElem?_eq_some_iff.1 e3).1 (hp g rfl)).trans e3,e4⟩⟩
theorem rows_apart' {A:World} {b1 e1 s1 n1 b2 e2 s2 n2:Nat} {v1 v2:Value} {x1 x2:List Value} (h1:A.ownsRow b1 e1 s1 v1 n1 x1) (h2:A.ownsRow b2 e2 s2 v2 n2 x2) (he:e1≠e2):∀ g,v1.ownBlock=some g->v2.ownBlock≠some g:=fun g hg hg2=>by
 obtain ⟨_,⟨rfl,_⟩ | ⟨g1,c1,cur1,rfl,_,e3,_⟩⟩:=h1
 ·cases hg
 ·obtain ⟨_,⟨rfl,_⟩ | ⟨g2,c2,cur2,rfl,_,f3,_⟩⟩:=h2
  ·cases hg2
  ·cases hg;cases hg2;rw [e3] at f3;cases f3;exact he rfl
theorem StaLV.below {vs:List Value} {ls:List (List Int)} (h:StaLV w vs ls) (hb:Below w.heap.size w w'):StaLV w' vs ls:=⟨h.1,fun i v l h1 h2=>(h.2 i v l h1 h2).below hb⟩
theorem StaLV.keep {vs:List Value} {ls:List (List Int)} (h:StaLV w vs ls) {base e size n:Nat} {v:Value} {xs:List Value} (hrow:w.ownsRow base e size v n xs) (he:54≠e) (hk:KS (fun k=>v.ownBlock≠some k) w w'):StaLV w' vs ls :=
 ⟨h.1,fun i u l h1 h2=>row_keep' (h.2 i u l h1 h2) hk fun g hg=>rows_apart' (h.2 i u l h1 h2) hrow he g hg⟩
theorem StaLV.nil (w:World):StaLV w [] []:=⟨rfl,fun i v l h=>by simp at h⟩
theorem StaLV.append {vs us:List Value} {ls ms:List (List Int)} (h:StaLV w vs ls) (k:StaLV w us ms):StaLV w (vs ++ us) (ls ++ ms):=by
 refine ⟨by rw [List.length_append,List.length_append,h.1,k.1],fun i v l h1 h2=>?_⟩;by_cases hi:i < vs.length
 ·rw [List.getElem?_append_left hi] at h1;rw [List.getElem?_append_left (by rw [<- h.1];exact hi)] at h2;exact h.2 i v l h1 h2
 ·rw [List.getElem?_append_right (by omega)] at h1;rw [List.getElem?_append_right (by rw [<- h.1];omega),<- h.1] at h2;exact k.2 _ v l h1 h2
theorem StaLV.single {v:Value} {l:List Int} (h:StaV w v l):StaLV w [v] [l]:=⟨rfl,fun i u m h1 h2=>by
 cases i with
 | zero=>simp only [List.getElem?_cons_zero,Option.some.injEq] at h1 h2;rw [<- h1,<- h2];exact h
 | succ i=>simp at h1⟩
theorem StaLV.one {vs:List Value} {ls:List (List Int)} (h:StaLV w vs ls):∀ u∈vs,u.oneCell'=true:=fun u hu=>by
 obtain ⟨i,hi,rfl⟩:=List.mem_iff_getElem.1 hu;obtain ⟨a,c,e,_⟩:=(h.2 i vs[i] (ls[i]'(by rw [<- h.1];exact hi)) (List.getElem?_eq_getElem hi) (List.getElem?_eq_getElem _)).form;rw [e];rfl
theorem sta_of_row {base e n c:Nat} {a:Option Addr} {vs:List Value} {ls:List (List Int)} (h:w.ownsRow base e 1 (.slice a n c) n vs) (k:StaLV w vs ls):StaAt w a ls:=fun i hi=>by
 have hv:i < vs.length:=by rw [k.1];exact hi
 obtain ⟨g,rfl,_,h2,h3⟩:=row_cell h i hv;exact ⟨g,0,rfl,h2,vs[i],by rw [Nat.zero_add,h3,List.getElem?_eq_getElem hv],k.2 i _ _ (List.getElem?_eq_getElem hv) (List.getElem?_eq_getElem hi)⟩
end
attribute [local go_sem] Oper.semAt_some
theorem staElem:(Mz.prog.info? 54).map (fun i=>(i.zero,i.size,i.bytes))=some (some (.int .i64 0),1,8):=by
 show (Tryz.prog.info? _).map _=_
 kernel_rfl
theorem staInfo:(Mz.prog.info? 52).map (fun i=>(i.zero,i.size,i.bytes))=some (some (.slice none 0 0),1,24):=by
 show (Tryz.prog.info? _).map _=_
 kernel_rfl
def pastsL (b:Fbk):List Dev->List Int->Nat->List (List Int)
 | [],pre,_=>if goR (stepsOf pre) b.tests then [pre] else []
 | d::l,pre,left=>(List.range 3).flatMap fun k=>if (k=0\/0 < left)/\canI d k=true then pastsL b l (pre ++ [(k:Int)]) (if k=0 then left else left - 1) else []
def SOut (W:World) (ls:List (List Int)) (e:Ending) (W':World):Prop:=∃ a c vs,e=.returned (.slice a ls.length c)/\W'.ownsRow W.heap.size 52 1 (.slice a ls.length c) ls.length vs/\StaLV W' vs ls/\Below W.heap.size W W'
theorem staV_pre {w:World} {B n c:Nat} {a:Option Addr} {pre:List Int} {k:Int} (h:w.ownsRow B 54 1 (.slice a n c) n ([] ++ pre.map (Value.int .i64) ++ [.int .i64 k])):StaV w (.slice a n c) (pre ++ [k]):=StaV.of (l:=pre ++ [k]) (by simpa using h)
theorem flat_succ' (f:Nat->List (List Int)) (k:Nat):(List.range (k+1)).flatMap f=(List.range k).flatMap f ++ f k:=by
 rw [List.range_succ,List.flatMap_append];simp
section
variable {b:Fbk} {vm vd vt:Value} {w:World}
theorem rPasts_leaf (hB:FBookAt w b vm vd vt) (hO:TestsOk b) {pre:List Int} (hl:pre.length=b.devs.length) (hp:∀ x∈pre,0<=x/\x < 3) {la:Option Addr} {lc:Nat} {left:Int} (hL:StaV w (.slice la pre.length lc) pre) :
 Calls Mz.prog 104 #[.agg #[vm,vd,vt],.slice la pre.length lc,.int .i64 left] w (SOut w (if goR (stepsOf pre) b.tests then [pre] else [])):=by
 obtain ⟨_,_,e,hI,_⟩:=hL.form;cases e;have hst:stL b.devs.length (stepsOf pre)=pre:=by
  apply List.ext_getElem
  ·rw [stL_len];exact hl.symm
  ·intro i h1 h2;have:=hp _ (List.getElem_mem h2);rw [stL_get];simp [stepsOf,List.getD,h2];omega
 have hs3:∀ k,stepsOf pre k < 3:=fun k=>by
  unfold stepsOf;by_cases h:k < pre.length
  ·have:=hp _ (List.getElem_mem h);simp [List.getD,h];omega
  ·simp [List.getD,h]
 have HB:=Hh hB;have HO:=Hh hO;have HI:=Hh (show IntsAt w la (stL b.devs.length (stepsOf pre)) by rw [hst];exact hI);have HS:=Hh hs3;have HL:=Hh hL;obtain ⟨rfl,⟨da,dc,rfl,_,_⟩,ta,tc,rfl,_,_⟩:=hB;have heq:((pre.length:Int) == (b.devs.length:Int))=true:=by simp;omega
 clear hO hI hL hp hst hs3;generalize hn:pre.length=n at heq;have HN:=Hh hn;have hnd:n=b.devs.length:=by omega
 clear hn hl;subst hnd;cases ht:goR (stepsOf pre) b.tests
 ·have HT:=Hh ht;clear ht
  go_enter (mz_func (i:=104) rfl Tryz.func104),Tryz.ntmps104
  go_wp2_with (go_at_call 151;(with_reducible refine (rRight_at (HB.out.below (bel)) (HI.out.below (bel)) HS.out HO.out HT.out).mono ?_);rintro e w1 ⟨rfl,hb1⟩);go_ret;exact ⟨none,0,[],rfl,World.ownsRow_nil _ _ _ _,StaLV.nil _,bel⟩
 ·have HT:=Hh ht;clear ht
  go_enter (mz_func (i:=104) rfl Tryz.func104),Tryz.ntmps104
  go_wp2_with (go_at_call 151;(with_reducible refine (rRight_at (HB.out.below (bel)) (HI.out.below (bel)) HS.out HO.out HT.out).mono ?_);rintro e w1 ⟨rfl,hb1⟩);go_ret;have hbw:Below w.heap.size w w1:=bel;refine ⟨some ⟨w1.heap.size,0,none⟩,1,[.slice la b.devs.length lc],rfl,World.ownsRow_lit w1 #[.slice la b.devs.length lc] 1 hbw.size (by decide) rfl,StaLV.single ?_,bel⟩;rw [<- HN.out];exact (HL.out.below hbw).below (bal _ _)
theorem rPasts_step (hB:FBookAt w b vm vd vt) (h6:b.devs.length<=6) {pre:List Int} {d:Dev} {l:List Dev} {left:Nat} (hlf:left<=2) (hs:b.devs.drop pre.length=d::l) {f:Nat->List (List Int)} (hfb:∀ k,(f k).length<=1000)
 (hno:∀ k,¬ ((k=0\/0 < left)/\canI d k=true)->f k=[])
 (hin:∀ k:Nat,k < 3->(k=0\/0 < left)/\canI d k=true->∀ W la lc,Below w.heap.size w W->StaV W (.slice la (pre.length+1) lc) (pre ++ [(k:Int)])->Calls Mz.prog 104 #[.agg #[vm,vd,vt],.slice la (pre.length+1) lc,.int .i64 (((if k=0 then left else left - 1):Nat):Int)] W (SOut W (f k)))
 {la:Option Addr} {lc:Nat} (hL:StaV w (.slice la pre.length lc) pre) :
 Calls Mz.prog 104 #[.agg #[vm,vd,vt],.slice la pre.length lc,.int .i64 (left:Int)] w (SOut w ((List.range 3).flatMap f)):=by
 have hlt:pre.length < b.devs.length:=by
  apply Classical.byContradiction;intro h;rw [List.drop_eq_nil_of_le (by omega)] at hs;cases hs
 have hsx:b.devs[pre.length]=d:=by
  rw [List.drop_eq_getElem_cons hlt] at hs;exact (List.cons.inj hs).1
 obtain ⟨rfl,⟨da,dc,rfl,hD,hdl⟩,ta,tc,rfl,_,_⟩:=hB;obtain ⟨db,dof,rfl,hdb,c0,c1,c2,c3⟩:=hD pre.length hlt;rw [hsx] at c0 c1 c2 c3;obtain ⟨_,_,e,hI,hz,hlc⟩:=hL.form;cases e;have hlat0:∀ ad,la=some ad->ad.block < w.heap.size:=fun ad e=>(ownBlock_row hL ad.block (by rw [e];rfl)).2;have HLAT:=Hh hlat0;have HNO:=Hh hno;have HIN:=Hh hin;have HFB:=Hh hfb;have HI:=Hh hI;have HZ:=Hh hz;have HCAN:=Hh (fun (k:Nat) (hk:k < 3) (W:World)=>rCan_at d hk W);obtain ⟨nm,he,bl,du⟩:=d;simp only at c0 c1 c2 c3 HCAN;have heq:((pre.length:Int) == (b.devs.length:Int))=false:=by simp;omega
 have hpi:(pre.length:Int) < b.devs.length:=by omega
 have hp6:pre.length < 6:=by omega
 clear hlat0 hno hin hfb hI hz hD hs hsx hL hlt;generalize hpn:pre.length=pn at heq hpi hp6 c0 c1 c2 c3 hlc HIN;have HPN:=Hh hpn;clear hpn
 go_enter (mz_func (i:=104) rfl Tryz.func104),Tryz.ntmps104
 go_wp2;obtain ⟨W0,hW0⟩:∃ W0,W0=w.alloc (.cells #[.int .i64 b.most,.slice (some ⟨db,dof,none⟩) b.devs.length dc,.slice ta b.tests.length tc] 25):=⟨_,rfl⟩;rw [<- hW0];have hb0:Below w.heap.size w W0:=by rw [hW0];(exact bel)
 have nn:∀ k u,(#[.int .i64 b.most,.slice (some ⟨db,dof,none⟩) b.devs.length dc,.slice ta b.tests.length tc]:Array Value)[k]? = some u->W0.cell? ⟨w.heap.size,k,none⟩=some u:=fun k u hk=>by
  rw [hW0,World.cell?_alloc_at _ _ _ _ rfl];exact hk
 have hs0:w.heap.size < W0.heap.size:=by rw [hW0];simp
 have hall:∀ w':World,Below W0.heap.size W0 w'->(Below W0.heap.size W0 w'/\w'.cell? ⟨w.heap.size,0,none⟩=some (.int .i64 b.most)/\w'.cell? ⟨w.heap.size,1,none⟩=some (.slice (some ⟨db,dof,none⟩) b.devs.length dc)/\w'.cell? ⟨w.heap.size,2,none⟩=some (.slice ta b.tests.length tc)):=fun w' h =>
  ⟨h,(h.cell (p:=⟨w.heap.size,0,none⟩) hs0).trans (nn 0 _ rfl),(h.cell (p:=⟨w.heap.size,1,none⟩) hs0).trans (nn 1 _ rfl),(h.cell (p:=⟨w.heap.size,2,none⟩) hs0).trans (nn 2 _ rfl)⟩
 have HALL:=Hh hall;clear hW0 nn hall;go_loopw [7,8] (fun v i wr=>∃ (k:Nat) (a:Option Addr) (c:Nat) (vs:List Value),k<=3/\i=.int .i64 k/\v=.slice a ((List.range k).flatMap f).length c/\wr.ownsRow W0.heap.size 52 1 (.slice a ((List.range k).flatMap f).length c) ((List.range k).flatMap f).length vs/\StaLV wr vs ((List.range k).flatMap f)/\Below W0.heap.size W0 wr) (fun _ i _=>3 - (intOf i).toNat)
 case atStart=>exact ⟨0,none,0,[],Nat.zero_le _,rfl,rfl,World.ownsRow_nil _ _ _ _,StaLV.nil _,Below.refl _ _⟩
 case round =>
  obtain ⟨k,a,c,vs,hk,rfl,rfl,hrow,hlv,hW⟩:=hrel;have hWs:=hW.size;obtain ⟨wo,rfl⟩:∃ x,x=wr:=⟨_,rfl⟩;obtain ⟨_,m0,m1,m2⟩:=HALL.out _ hW;have hbw:=Below.next hb0 hW;have hx1:w.heap.size < wo.heap.size:=by omega
  have d0:=(hbw.cell hdb).trans c0;have d1:=(hbw.cell hdb).trans c1;have d2:=(hbw.cell hdb).trans c2;have d3:=(hbw.cell hdb).trans c3;have hdb2:db < wo.heap.size:=Nat.lt_of_lt_of_le hdb hbw.size;have HROW:=Hh hrow;have HLV:=Hh hlv;by_cases hlt:k < 3
  ·have hfl:=flat_succ' f k;have hfb:((List.range k).flatMap f).length<=k * 1000:=by
    clear hrow hlv HROW HLV hfl hk hlt
    induction k with
    | zero=>simp
    | succ k ih =>
     rw [flat_succ',List.length_append];have:=HFB.out k;omega
   have hf1:=HFB.out k;have HFL:=Hh hfl;have HCN:=Hh (HCAN.out k hlt);have hkI:(k:Int)<=2:=by omega
   clear hrow hlv hfl;by_cases hok:(k=0\/0 < left)/\canI ⟨nm,he,bl,du⟩ k=true
   ·have HCALL:=Hh (HIN.out k hlt hok);have hcan:=hok.2;have HCN2:=Hh (show ∀ W,Calls Mz.prog 152 #[.agg #[.string nm,.bool he,.bool bl,.int .i64 du],.int .i64 (k:Int)] W fun e w'=>e=.returned (.bool true)/\Below W.heap.size W w' from fun W=>by have:=HCN.out W;rw [hcan] at this;exact this);have HOK:=Hh hok;clear hok hcan HCN;generalize hout:(List.range k).flatMap f=out at hfb HROW HLV HFL;generalize hnew:f k=new at hf1 HFL HCALL;have HO1:=Hh hout;have HNW:=Hh hnew;clear hout hnew;have HLEN:=Hh (show (pre.map (Value.int .i64)).length=pn by rw [List.length_map];exact HPN.out);have HONE:=Hh (show ∀ u∈pre.map (Value.int .i64),u.oneCell'=true from fun u hu=>by obtain ⟨x,_,rfl⟩:=List.mem_map.1 hu;rfl);have hk0I:(0:Int)<=(k:Int):=by omega
    have hl0:¬ ((left:Int) < 0):=by omega
    by_cases hk0:k=0
    ·have hcl:=HCALL.out;rw [if_pos hk0] at hcl;have HCALL:=Hh hcl;have hkb:((k:Int) != 0)=false:=by simp [hk0]
     clear hcl hk0 HOK;go_wp2_with (go_at_call 152;(with_reducible refine (HCN2.out _).mono ?_);rintro e w1 ⟨rfl,hb1⟩);have hW1:Below W0.heap.size W0 w1:=Below.next hW hb1;have hbw1:Below w.heap.size w w1:=Below.next hbw hb1;have hown1:=ownsRow_below HROW.out hb1;have hlv1:=HLV.out.below hb1;have HROW1:=Hh hown1;have HLV1:=Hh hlv1;have HSRC:=Hh (show Src1 w1 la lc (pre.map (Value.int .i64)) from ints_src (HI.out.below hbw1) HZ.out);have HLT:=Hh (show ∀ ad,la=some ad->ad.block < w1.heap.size from fun ad e=>Nat.lt_of_lt_of_le (HLAT.out ad e) hbw1.size);have hs1:w.heap.size < w1.heap.size:=by have:=hW1.size;omega
     have h0s:=hW1.size;obtain ⟨_,n0,n1,n2⟩:=HALL.out _ hW1;clear hown1 hlv1 d0 d1 d2 d3 m0 m1 m2 hW hb1;go_wp2;go_region_held3 (fun w'=>Below W0.heap.size W0 w'/\w'.cell? ⟨w.heap.size,0,none⟩=some (.int .i64 b.most)/\w'.cell? ⟨w.heap.size,1,none⟩=some (.slice (some ⟨db,dof,none⟩) b.devs.length dc)/\w'.cell? ⟨w.heap.size,2,none⟩=some (.slice ta b.tests.length tc))
      ((go_split_ands;exact HALL.out _ (bel)))
     (first
       | (refine step_appW w1 rfl _ _ 52 rfl 54 (mzu Tryz.underlying52) staElem rfl (by omega) (.slice (some ⟨w1.heap.size,0,none⟩) 0 0) 0 [] rfl la pn lc (pre.map (Value.int .i64)) rfl HLEN.out HONE.out pn (by omega) (by omega) ?_ ?_ ?_ ?_;(focus ((exact bel)));exact own_lit rfl (Nat.le_refl _);exact (HSRC.out).ks (KS.all (show Below w1.heap.size w1 _ from bel) (fun _=>True)) (fun ad e=>⟨HLT.out ad e,trivial⟩);intro a2 c2 w2 hown2 hks2 hbw2)
       | (refine step_appW w1 rfl _ _ 52 rfl 54 (mzu Tryz.underlying52) staElem rfl (by omega) (.slice (some ⟨w1.heap.size,0,none⟩) 0 0) 0 [] rfl la pn lc (pre.map (Value.int .i64)) rfl HLEN.out HONE.out pn (by omega) (by omega) ?_ ?_ ?_ ?_;(focus ((exact bel)));exact (own_lit (w:=w1.drew) rfl (Nat.le_refl _)).alloc _;exact (HSRC.out).ks (KS.all (show Below w1.heap.size w1 _ from bel) (fun _=>True)) (fun ad e=>⟨HLT.out ad e,trivial⟩);intro a2 c2 w2 hown2 hks2 hbw2;have hsrc2:Src1 w2 (some ⟨w1.heap.size+1,0,none⟩) 1 [.int .i64 k]:=(src_new (w1.drew.alloc (.cells #[] 54)) [.int .i64 k] 54 (n:=w1.heap.size+1) (by simp) 1).ks hks2 (fun ad e=>by cases e;exact ⟨by simp,by simp [Value.ownBlock]⟩))
       | (refine step_appW w1 rfl _ _ 52 rfl 54 (mzu Tryz.underlying52) staElem rfl (by omega) (.slice (some ⟨w1.heap.size+1,0,none⟩) 0 0) 0 [] rfl la pn lc (pre.map (Value.int .i64)) rfl HLEN.out HONE.out pn (by omega) (by omega) ?_ ?_ ?_ ?_;(focus ((exact bel)));exact own_lit (by simp) (by omega);exact (HSRC.out).ks (KS.all (show Below w1.heap.size w1 _ from bel) (fun _=>True)) (fun ad e=>⟨HLT.out ad e,trivial⟩);intro a2 c2 w2 hown2 hks2 hbw2;have hsrc2:Src1 w2 (some ⟨w1.heap.size,0,none⟩) 1 [.int .i64 k]:=((src_new w1.drew [.int .i64 k] 54 (n:=w1.heap.size) rfl 1).ks (KS.alloc (fun _=>True) _ (.cells #[] 54)) (fun ad e=>by cases e;exact ⟨by simp,trivial⟩)).ks hks2 (fun ad e=>by cases e;exact ⟨by simp;omega,by simp [Value.ownBlock]⟩))
       | (refine step_appW w1 rfl _ _ 52 rfl 54 (mzu Tryz.underlying52) staElem rfl (by omega) (.slice a2 pn c2) pn ([] ++ pre.map (Value.int .i64)) rfl (some ⟨w2.heap.size,0,none⟩) 1 1 [.int .i64 k] rfl rfl (by simp [Value.oneCell']) (pn+1) rfl (by omega) ?_ ?_ ?_ ?_;(focus ((exact bel)));exact hown2.alloc _;exact src_new w2 [.int .i64 k] 54 rfl 1;intro a4 c4 w4 hown4 hks4 hbw4)
       | (refine step_appW w1 rfl _ _ 52 rfl 54 (mzu Tryz.underlying52) staElem rfl (by omega) (.slice a2 pn c2) pn ([] ++ pre.map (Value.int .i64)) rfl (some ⟨w1.heap.size+1,0,none⟩) 1 1 [.int .i64 k] rfl rfl (by simp [Value.oneCell']) (pn+1) rfl (by omega) ?_ ?_ ?_ ?_;(focus ((exact bel)));exact hown2;exact hsrc2;intro a4 c4 w4 hown4 hks4 hbw4)
       | (refine step_appW w1 rfl _ _ 52 rfl 54 (mzu Tryz.underlying52) staElem rfl (by omega) (.slice a2 pn c2) pn ([] ++ pre.map (Value.int .i64)) rfl (some ⟨w1.heap.size,0,none⟩) 1 1 [.int .i64 k] rfl rfl (by simp [Value.oneCell']) (pn+1) rfl (by omega) ?_ ?_ ?_ ?_;(focus ((exact bel)));exact hown2;exact hsrc2;intro a4 c4 w4 hown4 hks4 hbw4)
       | (go_at_call 104;go_split_ands;(with_reducible refine (HCALL.out w4 a4 c4 (Below.next hbw1 hbw4) (staV_pre hown4)).mono ?_);rintro e w5 ⟨a5,c5,vs5,rfl,hrow5,hl5,hb5⟩;have hbr5:Below w1.heap.size w1 w5:=Below.next hbw4 hb5;have hown5:=ownsRow_below HROW1.out hbr5)
       | (refine step_appW W0 rfl _ _ 43 rfl 52 (mzu Tryz.underlying43) staInfo rfl (by omega) (.slice a out.length c) out.length vs rfl a5 new.length c5 vs5 rfl hl5.1 hl5.one (out.length+new.length) rfl (by omega) ?_ ?_ ?_ ?_;exact Below.next hW1 hbr5;exact hown5;exact src_row hrow5;intro a6 c6 w6 hown6 hks6 hbw6))
     all_goals
      have hl6:=((HLV1.out.below hbr5).append hl5).keep hown5 (by decide) hks6;rw [<- HFL.out] at hl6;have hlen6:out.length+new.length=((List.range (k+1)).flatMap f).length:=by rw [HFL.out,List.length_append]
      rw [hlen6] at hown6;have HL6:=Hh hl6;have HR6:=Hh hown6;have HE6:=Hh hlen6;have HB6:=Hh hbw6;clear hl6 hown6 hlen6 hks6;go_wp2;go_roundw
      case rel=>exact ⟨k+1,a6,c6,_,by omega,by go_num,by rw [HE6.out],HR6.out,HL6.out,HB6.out⟩
      case measure=>simp [intOf];omega
    ·have hcl:=HCALL.out;rw [if_neg hk0] at hcl;have hkb:((k:Int) != 0)=true:=by simp;omega
     have hlp:0 < left:=by have:=HOK.out.1;omega
     obtain ⟨lf,hlf2⟩:∃ lf:Nat,left - 1=lf:=⟨_,rfl⟩;rw [hlf2] at hcl;have hwl:IntKind.i64.wrap ((left:Int) - 1)=(lf:Int):=by rw [IntWalk.i64_in _ (by omega)];omega
     have hl2:¬ ((lf:Int) < 0):=by omega
     have HCALL:=Hh hcl;clear hcl hk0 HOK hlf2 hlp;go_wp2_with (go_at_call 152;(with_reducible refine (HCN2.out _).mono ?_);rintro e w1 ⟨rfl,hb1⟩);have hW1:Below W0.heap.size W0 w1:=Below.next hW hb1;have hbw1:Below w.heap.size w w1:=Below.next hbw hb1;have hown1:=ownsRow_below HROW.out hb1;have hlv1:=HLV.out.below hb1;have HROW1:=Hh hown1;have HLV1:=Hh hlv1;have HSRC:=Hh (show Src1 w1 la lc (pre.map (Value.int .i64)) from ints_src (HI.out.below hbw1) HZ.out);have HLT:=Hh (show ∀ ad,la=some ad->ad.block < w1.heap.size from fun ad e=>Nat.lt_of_lt_of_le (HLAT.out ad e) hbw1.size);have hs1:w.heap.size < w1.heap.size:=by have:=hW1.size;omega
     have h0s:=hW1.size;obtain ⟨_,n0,n1,n2⟩:=HALL.out _ hW1;clear hown1 hlv1 d0 d1 d2 d3 m0 m1 m2 hW hb1;go_wp2;go_region_held3 (fun w'=>Below W0.heap.size W0 w'/\w'.cell? ⟨w.heap.size,0,none⟩=some (.int .i64 b.most)/\w'.cell? ⟨w.heap.size,1,none⟩=some (.slice (some ⟨db,dof,none⟩) b.devs.length dc)/\w'.cell? ⟨w.heap.size,2,none⟩=some (.slice ta b.tests.length tc))
      ((go_split_ands;exact HALL.out _ (bel)))
     (first
       | (refine step_appW w1 rfl _ _ 52 rfl 54 (mzu Tryz.underlying52) staElem rfl (by omega) (.slice (some ⟨w1.heap.size,0,none⟩) 0 0) 0 [] rfl la pn lc (pre.map (Value.int .i64)) rfl HLEN.out HONE.out pn (by omega) (by omega) ?_ ?_ ?_ ?_;(focus ((exact bel)));exact own_lit rfl (Nat.le_refl _);exact (HSRC.out).ks (KS.all (show Below w1.heap.size w1 _ from bel) (fun _=>True)) (fun ad e=>⟨HLT.out ad e,trivial⟩);intro a2 c2 w2 hown2 hks2 hbw2)
       | (refine step_appW w1 rfl _ _ 52 rfl 54 (mzu Tryz.underlying52) staElem rfl (by omega) (.slice (some ⟨w1.heap.size,0,none⟩) 0 0) 0 [] rfl la pn lc (pre.map (Value.int .i64)) rfl HLEN.out HONE.out pn (by omega) (by omega) ?_ ?_ ?_ ?_;(focus ((exact bel)));exact (own_lit (w:=w1.drew) rfl (Nat.le_refl _)).alloc _;exact (HSRC.out).ks (KS.all (show Below w1.heap.size w1 _ from bel) (fun _=>True)) (fun ad e=>⟨HLT.out ad e,trivial⟩);intro a2 c2 w2 hown2 hks2 hbw2;have hsrc2:Src1 w2 (some ⟨w1.heap.size+1,0,none⟩) 1 [.int .i64 k]:=(src_new (w1.drew.alloc (.cells #[] 54)) [.int .i64 k] 54 (n:=w1.heap.size+1) (by simp) 1).ks hks2 (fun ad e=>by cases e;exact ⟨by simp,by simp [Value.ownBlock]⟩))
       | (refine step_appW w1 rfl _ _ 52 rfl 54 (mzu Tryz.underlying52) staElem rfl (by omega) (.slice (some ⟨w1.heap.size+1,0,none⟩) 0 0) 0 [] rfl la pn lc (pre.map (Value.int .i64)) rfl HLEN.out HONE.out pn (by omega) (by omega) ?_ ?_ ?_ ?_;(focus ((exact bel)));exact own_lit (by simp) (by omega);exact (HSRC.out).ks (KS.all (show Below w1.heap.size w1 _ from bel) (fun _=>True)) (fun ad e=>⟨HLT.out ad e,trivial⟩);intro a2 c2 w2 hown2 hks2 hbw2;have hsrc2:Src1 w2 (some ⟨w1.heap.size,0,none⟩) 1 [.int .i64 k]:=((src_new w1.drew [.int .i64 k] 54 (n:=w1.heap.size) rfl 1).ks (KS.alloc (fun _=>True) _ (.cells #[] 54)) (fun ad e=>by cases e;exact ⟨by simp,trivial⟩)).ks hks2 (fun ad e=>by cases e;exact ⟨by simp;omega,by simp [Value.ownBlock]⟩))
       | (refine step_appW w1 rfl _ _ 52 rfl 54 (mzu Tryz.underlying52) staElem rfl (by omega) (.slice a2 pn c2) pn ([] ++ pre.map (Value.int .i64)) rfl (some ⟨w2.heap.size,0,none⟩) 1 1 [.int .i64 k] rfl rfl (by simp [Value.oneCell']) (pn+1) rfl (by omega) ?_ ?_ ?_ ?_;(focus ((exact bel)));exact hown2.alloc _;exact src_new w2 [.int .i64 k] 54 rfl 1;intro a4 c4 w4 hown4 hks4 hbw4)
       | (refine step_appW w1 rfl _ _ 52 rfl 54 (mzu Tryz.underlying52) staElem rfl (by omega) (.slice a2 pn c2) pn ([] ++ pre.map (Value.int .i64)) rfl (some ⟨w1.heap.size+1,0,none⟩) 1 1 [.int .i64 k] rfl rfl (by simp [Value.oneCell']) (pn+1) rfl (by omega) ?_ ?_ ?_ ?_;(focus ((exact bel)));exact hown2;exact hsrc2;intro a4 c4 w4 hown4 hks4 hbw4)
       | (refine step_appW w1 rfl _ _ 52 rfl 54 (mzu Tryz.underlying52) staElem rfl (by omega) (.slice a2 pn c2) pn ([] ++ pre.map (Value.int .i64)) rfl (some ⟨w1.heap.size,0,none⟩) 1 1 [.int .i64 k] rfl rfl (by simp [Value.oneCell']) (pn+1) rfl (by omega) ?_ ?_ ?_ ?_;(focus ((exact bel)));exact hown2;exact hsrc2;intro a4 c4 w4 hown4 hks4 hbw4)
       | (go_at_call 104;go_split_ands;(with_reducible refine (HCALL.out w4 a4 c4 (Below.next hbw1 hbw4) (staV_pre hown4)).mono ?_);rintro e w5 ⟨a5,c5,vs5,rfl,hrow5,hl5,hb5⟩;have hbr5:Below w1.heap.size w1 w5:=Below.next hbw4 hb5;have hown5:=ownsRow_below HROW1.out hbr5)
       | (refine step_appW W0 rfl _ _ 43 rfl 52 (mzu Tryz.underlying43) staInfo rfl (by omega) (.slice a out.length c) out.length vs rfl a5 new.length c5 vs5 rfl hl5.1 hl5.one (out.length+new.length) rfl (by omega) ?_ ?_ ?_ ?_;exact Below.next hW1 hbr5;exact hown5;exact src_row hrow5;intro a6 c6 w6 hown6 hks6 hbw6))
     all_goals
      have hl6:=((HLV1.out.below hbr5).append hl5).keep hown5 (by decide) hks6;rw [<- HFL.out] at hl6;have hlen6:out.length+new.length=((List.range (k+1)).flatMap f).length:=by rw [HFL.out,List.length_append]
      rw [hlen6] at hown6;have HL6:=Hh hl6;have HR6:=Hh hown6;have HE6:=Hh hlen6;have HB6:=Hh hbw6;clear hl6 hown6 hlen6 hks6;go_wp2;go_roundw
      case rel=>exact ⟨k+1,a6,c6,_,by omega,by go_num,by rw [HE6.out],HR6.out,HL6.out,HB6.out⟩
      case measure=>simp [intOf];omega
   ·have hnil:=HNO.out k hok;have hcn:=HCN.out;have hfs:(List.range (k+1)).flatMap f=(List.range k).flatMap f:=by rw [HFL.out,hnil,List.append_nil]
    have HFS:=Hh hfs;have hl0:¬ ((left:Int) < 0):=by omega
    have HOK:=Hh hok;clear hfs hnil hok HFL hf1 hfb;generalize hout:(List.range k).flatMap f=out at HROW HLV HFS;have HO1:=Hh hout;clear hout;by_cases hk0:k=0
    ·have hc:canI ⟨nm,he,bl,du⟩ k=false:=by
      cases h:canI ⟨nm,he,bl,du⟩ k
      ·rfl
      ·exact absurd ⟨.inl hk0,h⟩ HOK.out
     rw [hc] at hcn;have HCN2:=Hh hcn;have hkb:((k:Int) != 0)=false:=by simp [hk0]
     clear hk0 hc hcn HOK HCN;go_wp2_with (go_at_call 152;(with_reducible refine (HCN2.out _).mono ?_);rintro e w1 ⟨rfl,hb1⟩);go_roundw
     case rel=>exact ⟨k+1,a,c,vs,by omega,by go_num,by rw [HFS.out],by rw [HFS.out];exact ownsRow_below HROW.out hb1,by rw [HFS.out];exact HLV.out.below hb1,Below.next hW hb1⟩
     case measure=>simp [intOf];omega
    ·have hkb:((k:Int) != 0)=true:=by simp;omega
     by_cases hlz:left=0
     ·subst hlz;have hwl:IntKind.i64.wrap (((0:Nat):Int) - 1)=-1:=by rw [IntWalk.i64_in _ (by omega)];rfl
      clear hk0 hcn HOK HCN;go_wp2;go_roundw
      case rel=>exact ⟨k+1,a,c,vs,by omega,by go_num,by rw [HFS.out],by rw [HFS.out];exact HROW.out,by rw [HFS.out];exact HLV.out,hW⟩
      case measure=>simp [intOf];omega
     ·have hc:canI ⟨nm,he,bl,du⟩ k=false:=by
       cases h:canI ⟨nm,he,bl,du⟩ k
       ·rfl
       ·exact absurd ⟨.inr (by omega),h⟩ HOK.out
      rw [hc] at hcn;have HCN2:=Hh hcn;obtain ⟨lf,hlf2⟩:∃ lf:Nat,left - 1=lf:=⟨_,rfl⟩;have hwl:IntKind.i64.wrap ((left:Int) - 1)=(lf:Int):=by rw [IntWalk.i64_in _ (by omega)];omega
      have hl2:¬ ((lf:Int) < 0):=by omega
      clear hk0 hc hcn HOK HCN hlf2 hlz;go_wp2_with (go_at_call 152;(with_reducible refine (HCN2.out _).mono ?_);rintro e w1 ⟨rfl,hb1⟩);go_roundw
      case rel=>exact ⟨k+1,a,c,vs,by omega,by go_num,by rw [HFS.out],by rw [HFS.out];exact ownsRow_below HROW.out hb1,by rw [HFS.out];exact HLV.out.below hb1,Below.next hW hb1⟩
      case measure=>simp [intOf];omega
  ·obtain rfl:k=3:=by omega
   clear hrow hlv;go_wp2;go_ret;exact ⟨a,c,vs,rfl,ownsRow_base HROW.out (by omega),HLV.out,hbw⟩
end
end Mt
end Go.Proofs.YtgkajecjbflbbaaGreatDoor
