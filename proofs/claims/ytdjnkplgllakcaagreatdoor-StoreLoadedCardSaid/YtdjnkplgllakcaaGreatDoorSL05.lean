/- StoreLoaded -/
import Derived.Test.YtdjnkplgllakcaaGreatDoorSL04
import Derived.Deep.AppendLies
import Derived.Shelf.Small.Bits
import Derived.Shelf.Small.Wraps
import Derived.Shelf.Sort.Plain
import Derived.Shelf.Slices.Turned
import Derived.Shelf.Slices.Clone
import Derived.Shelf.Slices.SearchI
import Derived.Shelf.Slices.Cells
import Derived.Shelf.Slices.In.SortNone
import Derived.Shelf.SlicesE.Clone
import Derived.Sort.OwnSortedInts
set_option maxHeartbeats 2000000
set_option maxRecDepth 100000
set_option linter.all false
namespace Go.Proofs.YtdjnkplgllakcaaGreatDoor
open Go.RowKit Go.Maps Sp
namespace Sp
def exB:Bk:=⟨3,5,[⟨⟨#[97,110,110]⟩,2,30⟩,⟨⟨#[98,101,97]⟩,3,20⟩],[[(0,0),(0,1),(1,0)],[(1,0),(1,1),(1,2)]],[⟨1,0,0,0⟩,⟨2,1,0,1⟩,⟨5,1,0,2⟩]⟩
end Sp
theorem example_at (w:World):Calls Tryz.prog 18 #[] w fun e w'=>∃ vr vg vm vs ra,e=.returned (.agg #[vr,vg,vm,vs,.slice ra 3 3])/\BookAt w' exB vr vg vm vs (.slice ra 3 3)/\Below w.heap.size w w':=by
 go_enter Tryz.func18,Tryz.ntmps18
 go_wp2_with (first
  | (go_at_call 33;(with_reducible refine (part_at 0 0 _).mono ?_);rintro e w1 ⟨rfl,hb1⟩;obtain ⟨hc1,hf1⟩:=bcell hb1;have hz1:=hb1.size;(try simp at hz1);have hy1:w.heap.size+1 < w1.heap.size:=by omega)
  | (go_at_call 33;(with_reducible refine (part_at 0 1 _).mono ?_);rintro e w2 ⟨rfl,hb2⟩;obtain ⟨hc2,hf2⟩:=bcell hb2;have hz2:=hb2.size;(try simp at hz2);have hy2:w.heap.size+1 < w2.heap.size:=by omega)
  | (have hx:=hb3;go_at_call 33;(with_reducible refine (part_at 1 0 _).mono ?_);rintro e w4 ⟨rfl,hb4⟩;obtain ⟨hc4,hf4⟩:=bcell hb4;have hz4:=hb4.size;(try simp at hz4);have hy4:w.heap.size+1 < w4.heap.size:=by omega)
  | (go_at_call 33;(with_reducible refine (part_at 1 0 _).mono ?_);rintro e w3 ⟨rfl,hb3⟩;obtain ⟨hc3,hf3⟩:=bcell hb3;have hz3:=hb3.size;(try simp at hz3);have hy3:w.heap.size+1 < w3.heap.size:=by omega)
  | (go_at_call 33;(with_reducible refine (part_at 1 1 _).mono ?_);rintro e w5 ⟨rfl,hb5⟩;obtain ⟨hc5,hf5⟩:=bcell hb5;have hz5:=hb5.size;(try simp at hz5);have hy5:w.heap.size+1 < w5.heap.size:=by omega))
 refine (part_at 1 2 _).mono ?_;rintro e w6 ⟨rfl,hb6⟩;obtain ⟨hc6,hf6⟩:=bcell hb6;have hz6:=hb6.size;have hx6:w.heap.size < w6.heap.size:=by omega
 have hx7:w.heap.size < w6.heap.size+1:=by omega
 have hx8:w.heap.size < w6.heap.size+1+1:=by omega
 have zz:∀ k u,(#[.int .i64 0,.int .i64 0,.slice none 0 0,.slice none 0 0,.slice none 0 0]:Array Value)[k]? = some u->w6.cell? ⟨w.heap.size,k,none⟩=some u:=fun k u hk=>by
  rw [hc6 _ _ (by omega),hc5 _ _ (by omega),hc4 _ _ (by simp;omega),World.cell?_alloc_past _ _ _ (by omega),hc3 _ _ (by omega),hc2 _ _ (by omega),hc1 _ _ (by simp;omega),World.cell?_alloc_past _ _ _ (by simp),World.cell?_alloc_at _ _ _ _ rfl];exact hk
 have zf:∀ k,w6.frozen? ⟨w.heap.size,k,none⟩=false:=fun k=>by
  rw [hf6 _ _ (by omega),hf5 _ _ (by omega),hf4 _ _ (by simp;omega),World.frozen?_alloc_past _ _ _ (by omega),hf3 _ _ (by omega),hf2 _ _ (by omega),hf1 _ _ (by simp;omega),World.frozen?_alloc_past _ _ _ (by simp),World.frozen?_alloc_at _ _ _ _ rfl]
 have z0:=zz 0 _ rfl;have z1:=zz 1 _ rfl;have z2:=zz 2 _ rfl;have z3:=zz 3 _ rfl;have z4:=zz 4 _ rfl;have A1:∀ k u,(#[.string ⟨#[97,110,110]⟩,.int .i64 2,.int .i64 30,.string ⟨#[98,101,97]⟩,.int .i64 3,.int .i64 20]:Array Value)[k]? = some u->w6.cell? ⟨w.heap.size+1,k,none⟩=some u:=fun k u hk=>by
  rw [hc6 _ _ (by omega),hc5 _ _ (by omega),hc4 _ _ (by simp;omega),World.cell?_alloc_past _ _ _ (by omega),hc3 _ _ (by omega),hc2 _ _ (by omega),hc1 _ _ (by simp),World.cell?_alloc_at _ _ _ _ (by simp)];exact hk
 have A2:∀ k u,(#[.int .i64 0,.int .i64 0,.int .i64 0,.int .i64 1,.int .i64 1,.int .i64 0]:Array Value)[k]? = some u->w6.cell? ⟨w3.heap.size,k,none⟩=some u:=fun k u hk=>by
  rw [hc6 _ _ (by omega),hc5 _ _ (by omega),hc4 _ _ (by simp),World.cell?_alloc_at _ _ _ _ rfl];exact hk
 have HA:=Hh (⟨A1,A2⟩:_/\_);have HBW:=Hh (show Below w.heap.size w w6 from bel);clear hc1 hc2 hc3 hc4 hc5 hc6 hf1 hf2 hf3 hf4 hf5 hf6 hb1 hb2 hb3 hb4 hb5 hb6 hx zz A1 A2;go_wp2;obtain ⟨Y,hY⟩:∃ Y,Y=((((w6.setCell ⟨w.heap.size,0,none⟩ (.int .i64 3)).setCell ⟨w.heap.size,1,none⟩ (.int .i64 5)).setCell ⟨w.heap.size,2,none⟩ (.slice (some ⟨w.heap.size+1,0,none⟩) 2 2)).setCell ⟨w.heap.size,3,none⟩ (.slice (some ⟨w6.heap.size+1,0,none⟩) 2 2)).setCell ⟨w.heap.size,4,none⟩ (.slice (some ⟨w6.heap.size+1+1,0,none⟩) 3 3):=⟨_,rfl⟩;rw [<- hY];have hk:KS (fun k=>k≠w.heap.size) w6 Y:=by
  rw [hY];exact (((((KS.setCell (by simp) _ _).trans (KS.setCell (by simp) _ _)).trans (KS.setCell (by simp) _ _)).trans (KS.setCell (by simp) _ _)).trans (KS.setCell (by simp) _ _))
 have hYs:Y.heap.size=w6.heap.size:=by rw [hY];simp [World.setCell]
 have y0:Y.cell? ⟨w.heap.size,0,none⟩=some (.int .i64 3):=by rw [hY];simp [z0,z1,z2,z3,z4,go_sem]
 have y1:Y.cell? ⟨w.heap.size,1,none⟩=some (.int .i64 5):=by rw [hY];simp [z0,z1,z2,z3,z4,go_sem]
 have y2:Y.cell? ⟨w.heap.size,2,none⟩=some (.slice (some ⟨w.heap.size+1,0,none⟩) 2 2):=by rw [hY];simp [z0,z1,z2,z3,z4,go_sem]
 have y3:Y.cell? ⟨w.heap.size,3,none⟩=some (.slice (some ⟨w6.heap.size+1,0,none⟩) 2 2):=by rw [hY];simp [z0,z1,z2,z3,z4,go_sem]
 have y4:Y.cell? ⟨w.heap.size,4,none⟩=some (.slice (some ⟨w6.heap.size+1+1,0,none⟩) 3 3):=by rw [hY];simp [z0,z1,z2,z3,z4,go_sem]
 have YA:∀ k u,(#[.string ⟨#[97,110,110]⟩,.int .i64 2,.int .i64 30,.string ⟨#[98,101,97]⟩,.int .i64 3,.int .i64 20]:Array Value)[k]? = some u->Y.cell? ⟨w.heap.size+1,k,none⟩=some u:=fun k u h=>(hk.cell (x:=⟨w.heap.size+1,k,none⟩) (by simp;omega) (by simp)).trans (HA.out.1 k u h);have YB:∀ k u,(#[.int .i64 0,.int .i64 0,.int .i64 0,.int .i64 1,.int .i64 1,.int .i64 0]:Array Value)[k]? = some u->Y.cell? ⟨w3.heap.size,k,none⟩=some u:=fun k u h=>(hk.cell (x:=⟨w3.heap.size,k,none⟩) (by simp;omega) (by simp;omega)).trans (HA.out.2 k u h);have hbY:Below w.heap.size w Y:=HBW.out.trans ((hk.mono fun k _ h=>by omega:KS (fun k=>k < w.heap.size) w6 Y).to_below (by omega));clear hY z0 z1 z2 z3 z4 zf;obtain ⟨W,hW⟩:∃ W,W=(((Y.alloc (.cells #[.int .i64 1,.int .i64 0,.int .i64 1,.int .i64 1,.int .i64 1,.int .i64 2] 85)).alloc (.cells #[.slice (some ⟨w3.heap.size,0,none⟩) 3 3,.slice (some ⟨w6.heap.size,0,none⟩) 3 3] 73)).alloc (.cells #[.int .i64 1,.int .i64 0,.int .i64 0,.int .i64 0,.int .i64 2,.int .i64 1,.int .i64 0,.int .i64 1,.int .i64 5,.int .i64 1,.int .i64 0,.int .i64 2] 79)):=⟨_,rfl⟩;rw [<- hW];have hbW:Below w.heap.size w W:=by rw [hW];exact Below.al (Below.al (Below.al hbY _) _) _
 have old:∀ b o,b < Y.heap.size->W.cell? ⟨b,o,none⟩=Y.cell? ⟨b,o,none⟩:=fun b o h=>by rw [hW,World.cell?_alloc_past _ _ _ (by simp;omega),World.cell?_alloc_past _ _ _ (by simp;omega),World.cell?_alloc_past _ _ _ h]
 have WC:∀ k u,(#[.int .i64 1,.int .i64 0,.int .i64 1,.int .i64 1,.int .i64 1,.int .i64 2]:Array Value)[k]? = some u->W.cell? ⟨w6.heap.size,k,none⟩=some u:=fun k u h=>by
  rw [hW,World.cell?_alloc_past _ _ _ (by simp;omega),World.cell?_alloc_past _ _ _ (by simp;omega),World.cell?_alloc_at _ _ _ _ hYs.symm];exact h
 have WD:∀ k u,(#[.slice (some ⟨w3.heap.size,0,none⟩) 3 3,.slice (some ⟨w6.heap.size,0,none⟩) 3 3]:Array Value)[k]? = some u->W.cell? ⟨w6.heap.size+1,k,none⟩=some u:=fun k u h=>by
  rw [hW,World.cell?_alloc_past _ _ _ (by simp;omega),World.cell?_alloc_at _ _ _ _ (by simp;omega)];exact h
 have WE:∀ k u,(#[.int .i64 1,.int .i64 0,.int .i64 0,.int .i64 0,.int .i64 2,.int .i64 1,.int .i64 0,.int .i64 1,.int .i64 5,.int .i64 1,.int .i64 0,.int .i64 2]:Array Value)[k]? = some u->W.cell? ⟨w6.heap.size+1+1,k,none⟩=some u:=fun k u h=>by
  rw [hW,World.cell?_alloc_at _ _ _ _ (by simp;omega)];exact h
 have hWs:W.heap.size=w6.heap.size+1+1+1:=by rw [hW];simp;omega
 have x0:=(old w.heap.size 0 (by omega)).trans y0;have x1:=(old w.heap.size 1 (by omega)).trans y1;have x2:=(old w.heap.size 2 (by omega)).trans y2;have x3:=(old w.heap.size 3 (by omega)).trans y3;have x4:=(old w.heap.size 4 (by omega)).trans y4;refine bodyPost_ret (v:=.agg #[.int .i64 3,.int .i64 5,.slice (some ⟨w.heap.size+1,0,none⟩) 2 2,.slice (some ⟨w6.heap.size+1,0,none⟩) 2 2,.slice (some ⟨w6.heap.size+1+1,0,none⟩) 3 3]) (by simp [results,Tryz.results18,go_sem,x0,x1,x2,x3,x4]) rfl ⟨_,_,_,_,_,rfl,?_,hbW⟩;have p1:PartsAt W (some ⟨w3.heap.size,0,none⟩) [(0,0),(0,1),(1,0)]:=fun i hi=>by
  refine ⟨w3.heap.size,0,rfl,by omega,?_⟩;have:i=0\/i=1\/i=2:=by simp at hi;omega
  rcases this with rfl | rfl | rfl
  ·exact ⟨(old _ _ (by omega)).trans (YB 0 _ rfl),(old _ _ (by omega)).trans (YB 1 _ rfl)⟩
  ·exact ⟨(old _ _ (by omega)).trans (YB 2 _ rfl),(old _ _ (by omega)).trans (YB 3 _ rfl)⟩
  ·exact ⟨(old _ _ (by omega)).trans (YB 4 _ rfl),(old _ _ (by omega)).trans (YB 5 _ rfl)⟩
 have p2:PartsAt W (some ⟨w6.heap.size,0,none⟩) [(1,0),(1,1),(1,2)]:=fun i hi=>by
  refine ⟨w6.heap.size,0,rfl,by omega,?_⟩;have:i=0\/i=1\/i=2:=by simp at hi;omega
  rcases this with rfl | rfl | rfl
  ·exact ⟨WC 0 _ rfl,WC 1 _ rfl⟩
  ·exact ⟨WC 2 _ rfl,WC 3 _ rfl⟩
  ·exact ⟨WC 4 _ rfl,WC 5 _ rfl⟩
 refine ⟨rfl,rfl,⟨_,2,rfl,fun i hi=>?_,by decide⟩,⟨_,2,rfl,fun i hi=>?_,by decide⟩,_,3,rfl,fun i hi=>?_,by decide⟩
 ·refine ⟨w.heap.size+1,0,rfl,by omega,?_⟩;have:i=0\/i=1:=by have:i < 2:=hi;omega
  rcases this with rfl | rfl
  ·exact ⟨(old _ _ (by omega)).trans (YA 0 _ rfl),(old _ _ (by omega)).trans (YA 1 _ rfl),(old _ _ (by omega)).trans (YA 2 _ rfl)⟩
  ·exact ⟨(old _ _ (by omega)).trans (YA 3 _ rfl),(old _ _ (by omega)).trans (YA 4 _ rfl),(old _ _ (by omega)).trans (YA 5 _ rfl)⟩
 ·refine ⟨w6.heap.size+1,0,rfl,by omega,?_⟩;have:i=0\/i=1:=by have:i < 2:=hi;omega
  rcases this with rfl | rfl
  ·exact ⟨_,3,WD 0 _ rfl,(show 3<=3 from Nat.le_refl _),(show 3<=1000000 by omega),p1⟩
  ·exact ⟨_,3,WD 1 _ rfl,(show 3<=3 from Nat.le_refl _),(show 3<=1000000 by omega),p2⟩
 ·refine ⟨w6.heap.size+1+1,0,rfl,by omega,?_⟩;have:i=0\/i=1\/i=2:=by have:i < 3:=hi;omega
  rcases this with rfl | rfl | rfl
  ·exact ⟨WE 0 _ rfl,WE 1 _ rfl,WE 2 _ rfl,WE 3 _ rfl⟩
  ·exact ⟨WE 4 _ rfl,WE 5 _ rfl,WE 6 _ rfl,WE 7 _ rfl⟩
  ·exact ⟨WE 8 _ rfl,WE 9 _ rfl,WE 10 _ rfl,WE 11 _ rfl⟩
def sayI (s m:Int):Int:=if s=0 then 2 else if s=m then 1 else 0
theorem say_any (s m:Int) (w:World):Calls Tryz.prog 62 #[.int .i64 s,.int .i64 m] w fun e w'=>e=.returned (.int .i64 (sayI s m))/\w'=w:=by
 by_cases h1:s=0
 ·subst h1
  go_enter Tryz.func62,Tryz.ntmps62
  go_wp2;go_ret;exact ⟨rfl,rfl⟩
 ·have e1:(s == 0)=false:=by simpa using h1
  by_cases h2:s=m
  ·have hs:sayI s m=1:=by unfold sayI;rw [if_neg h1,if_pos h2]
   rw [hs];subst h2
   go_enter Tryz.func62,Tryz.ntmps62
   go_wp2;go_ret;exact ⟨rfl,rfl⟩
  ·have e2:(s == m)=false:=by simpa using h2
   have hs:sayI s m=0:=by unfold sayI;rw [if_neg h1,if_neg h2]
   rw [hs];clear hs
   go_enter Tryz.func62,Tryz.ntmps62
   go_wp2;go_ret;exact ⟨rfl,rfl⟩
def countI (l:List Int) (least:Int):Int:=((l.filter fun k=>decide (least<=k)).length:Nat)
theorem count_succ (l:List Int) (least:Int) (k:Nat) (h:k < l.length):countI (l.take (k+1)) least=countI (l.take k) least+if least<=l[k] then 1 else 0:=by
 unfold countI;rw [List.take_succ_eq_append_getElem h,List.filter_append,List.length_append];by_cases hx:least<=l[k]
 ·simp [hx]
 ·simp [hx]
theorem count_bd (l:List Int) (least:Int) (k:Nat):0<=countI (l.take k) least/\countI (l.take k) least<=k:=by
 unfold countI;have:=List.length_filter_le (fun k=>decide (least<=k)) (l.take k);have h2:=List.length_take_le k l;omega
theorem count_at {a:Option Addr} {c:Nat} {l:List Int} (least:Int) {w:World} (h:IntsAt w a l) (hl:l.length<=1000000) {t:Int} (ht:countI l least=t) :
 Calls Tryz.prog 63 #[.slice a l.length c,.int .i64 least] w fun e w'=>e=.returned (.int .i64 t)/\w'=w:=by
 have HT:=Hh ht;have HI:=Hh h;clear ht h
 go_enter Tryz.func63,Tryz.ntmps63
 go_wp2;go_loop [5,10] (fun n i=>∃ k:Nat,k<=l.length/\i=.int .i64 k/\n=.int .i64 (countI (l.take k) least)) (fun _ i=>l.length - (intOf i).toNat)
 case atStart=>exact ⟨0,Nat.zero_le _,rfl,rfl⟩
 case round =>
  obtain ⟨k,hk,rfl,rfl⟩:=hrel;have hbd:=count_bd l least k;by_cases hlt:k < l.length
  ·obtain ⟨b,o,rfl,hb,hc⟩:=HI.out k hlt;have hs:=count_succ l least k hlt;generalize hx:l[k]=x at hc hs;have HX:=Hh hx;have HS:=Hh hs;clear hx hs;by_cases hge:least<=x
   ·go_wp2;go_round
    case rel=>exact ⟨k+1,by omega,by go_num,by rw [HS.out,if_pos hge]⟩
    case measure=>simp [intOf];omega
   ·go_wp2;go_round
    case rel=>exact ⟨k+1,by omega,by go_num,by rw [HS.out,if_neg hge];go_num⟩
    case measure=>simp [intOf];omega
  ·go_wp2;go_ret;refine ⟨?_,rfl⟩;rw [<- HT.out,List.take_of_length_le (by omega)];rfl
section
variable {b:Bk} {vr vg vm vs vc:Value}
theorem intInfo:(Tryz.prog.info? 3).map (fun i=>(i.zero,i.size,i.bytes))=some (some (.int .i64 0),1,8):=by kernel_rfl
theorem pasts_came {b:Bk} (hO:BkOk b) {x:List Int} (h:x∈pasts b):Came b (pad x)/\(pad x).length=4/\x.length=b.ss.length:=by
 have hl:=pastsFrom_length b.ss [] x h;simp at hl;have:=hO.sl;refine ⟨?_,pad_length (by omega),hl⟩;have key:∀ (l:List (List Prt)) (pre:List Int),b.ss.drop pre.length=l->x∈pastsFrom b pre l->(∀ i (h:i < b.ss.length),i < pre.length->0<=pre.getD i 0/\pre.getD i 0<=(b.ss[i].length:Int))->∀ i (h:i < b.ss.length),0<=x.getD i 0/\x.getD i 0<=(b.ss[i].length:Int):=by
  intro l
  induction l with
  | nil =>
   intro pre hd hx hp i hi;unfold pastsFrom at hx;split at hx
   ·obtain rfl:x=pre:=by simpa using hx
    exact hp i hi (by rw [hl];exact hi)
   ·cases hx
  | cons s l ih =>
   intro pre hd hx hp;unfold pastsFrom at hx;obtain ⟨n,hn,hx⟩:=List.mem_flatMap.1 hx;have hlt:pre.length < b.ss.length:=by
    have:=congrArg List.length hd;simp at this;omega
   have hs:b.ss[pre.length]=s:=by
    rw [List.drop_eq_getElem_cons hlt] at hd;exact (List.cons.inj hd).1
   refine ih (pre ++ [(n:Int)]) (by rw [List.length_append,List.length_singleton,<- List.drop_drop,hd];rfl) hx fun i hi hlt'=>?_;by_cases hip:i < pre.length
   ·have:=hp i hi hip;simp only [List.getD] at this ⊢;rw [List.getElem?_append_left hip];exact this
   ·obtain rfl:i=pre.length:=by simp at hlt';omega
    simp only [List.getD];rw [List.getElem?_append_right (Nat.le_refl _),hs];have:=List.mem_range.1 hn;simp;omega
 intro i hi;have:=key b.ss [] rfl h (by simp) i hi;simp only [pad,List.getD] at this ⊢;rw [List.getElem?_append_left (by omega)];exact this
theorem KS.own {p:Nat->Prop} {a b:World} {v:Value} (h:a.grownBy b v.ownBlock) (hp:∀ g,v.ownBlock=some g->¬ p g):KS p a b :=
 ⟨h.os,h.tape,h.output,h.size,fun k hk hpk=>h.block k hk (fun e=>hp k e.symm hpk)⟩
theorem ownBlock_row {w:World} {base e size n:Nat} {v:Value} {xs:List Value} (h:w.ownsRow base e size v n xs):∀ g,v.ownBlock=some g->base<=g/\g < w.heap.size:=fun g hg=>by
 obtain ⟨_,⟨rfl,_⟩ | ⟨g',cap,cur,rfl,e2,e3,_⟩⟩:=h
 ·cases hg
 ·cases hg;exact ⟨e2,(Array.getElem?_eq_some_iff.1 e3).1⟩
def oftenI (b:Bk) (l:List (List Int)) (p:Prt):List Int:=l.map fun x=>copies b x p
theorem copies_pad {b:Bk} {x:List Int} (h:x.length=b.ss.length) (p:Prt):copies b (pad x) p=copies b x p:=by
 have:=copies_take b (pad x) p b.ss.length (Nat.le_refl _);rw [<- this];congr 1;unfold pad;rw [<- h,List.take_left'];rfl
def IntsOut (w:World) (l:List Int) (e:Ending) (w':World):Prop:=∃ a c,e=.returned (.slice a l.length c)/\w'.ownsRow w.heap.size 3 1 (.slice a l.length c) l.length (l.map (Value.int .i64))/\Below w.heap.size w w'
theorem often_at {w:World} (hB:BookAt w b vr vg vm vs vc) (hO:BkOk b) {la:Option Addr} {lc:Nat} {l:List (List Int)} (hL:CamesAt w la l) (hl:∀ x∈l,Came b (pad x)/\(pad x).length=4/\x.length=b.ss.length) (hll:l.length<=2000) {p:Prt} (hp:isPart b p=true) :
 Calls Tryz.prog 64 #[.agg #[vr,vg,vm,vs,vc],.slice la l.length lc,.agg #[.int .i64 p.1,.int .i64 p.2]] w (IntsOut w (oftenI b l p)):=by
 have hbd:=isPart_bounds hO.groups (by have:=hO.ml;omega) hp;have hkey:=partKeyE p hbd.1 hbd.2;obtain ⟨i0,hi,hz0,hz1',hz2⟩:=info_parts intInfo;have HB:=Hh hB;have HO:=Hh hO;have HL:=Hh hL;have HLL:=Hh hl;have HK:=Hh hkey;obtain ⟨rfl,rfl,⟨ma,mc,rfl,_,_⟩,⟨sa,sc,rfl,_,_⟩,ra,rc,rfl,_,_⟩:=id hB;clear hB hO hL hl hp hbd hkey
 go_enter Tryz.func64,Tryz.ntmps64
 go_wp2;obtain ⟨W0,hW0⟩:∃ W0,W0=(w.alloc (.cells #[.int .i64 b.room,.int .i64 b.gap,.slice ma b.ms.length mc,.slice sa b.ss.length sc,.slice ra b.rs.length rc] 88)).alloc (.cells #[.int .i64 p.1,.int .i64 p.2] 85):=⟨_,rfl⟩;rw [<- hW0];have five:=(Five.new w (.int .i64 b.room) (.int .i64 b.gap) (.slice ma b.ms.length mc) (.slice sa b.ss.length sc) (.slice ra b.rs.length rc) 88).below (bal _ (.cells #[.int .i64 p.1,.int .i64 p.2] 85)) (by simp);rw [<- hW0] at five;have hb0:Below w.heap.size w W0:=by rw [hW0];(exact bel)
 have hsz:W0.heap.size=w.heap.size+1+1:=by rw [hW0];simp
 have p0:W0.cell? ⟨w.heap.size+1,0,none⟩=some (.int .i64 p.1):=by rw [hW0,World.cell?_alloc_at _ _ _ _ (by simp)];rfl
 have p1:W0.cell? ⟨w.heap.size+1,1,none⟩=some (.int .i64 p.2):=by rw [hW0,World.cell?_alloc_at _ _ _ _ (by simp)];rfl
 have HSZ:=Hh hsz;have hsz1:w.heap.size+1 < W0.heap.size:=by omega
 clear hW0 hsz;go_loopw [7,12] (fun v i wr=>∃ (k:Nat) (a:Option Addr) (c:Nat),k<=l.length/\i=.int .i64 k/\v=.slice a k c/\wr.ownsRow W0.heap.size 3 1 (.slice a k c) k ((oftenI b (l.take k) p).map (Value.int .i64))/\Below W0.heap.size W0 wr) (fun _ i _=>l.length - (intOf i).toNat)
 case atStart=>exact ⟨0,none,0,Nat.zero_le _,rfl,rfl,by simpa [oftenI] using World.ownsRow_nil _ _ _ _,Below.refl _ _⟩
 case round =>
  obtain ⟨k,a,c,hk,rfl,rfl,hrow,hW⟩:=hrel;have hWs:=hW.size;by_cases hlt:k < l.length
  ·obtain ⟨lb,lo,rfl,hlb,e0,e1,e2,e3⟩:=HL.out k hlt;have hwr:Below w.heap.size w wr:=Below.next hb0 hW;have d0:=(hwr.cell hlb).trans e0;have d1:=(hwr.cell hlb).trans e1;have d2:=(hwr.cell hlb).trans e2;have d3:=(hwr.cell hlb).trans e3;have hlb2:lb < wr.heap.size:=Nat.lt_of_lt_of_le hlb hwr.size;obtain ⟨hcm,hc4,hcl⟩:=HLL.out _ (List.getElem_mem hlt);have hcp:=copies_pad hcl p;have htk:=List.take_succ_eq_append_getElem hlt;generalize hx:l[k]=x at d0 d1 d2 d3 hcm hc4 hcl hcp htk;obtain ⟨x0,x1,x2,x3,hxp⟩:=four hc4;have hcop:=fun (w':World) (hb:Below w.heap.size w w')=>copies_at (HB.out.below hb) HO.out hcm hc4;rw [hxp] at d0 d1 d2 d3 hcop hcp;simp only [List.getD_cons_zero,List.getD_cons_succ] at d0 d1 d2 d3;rw [show cameV [x0,x1,x2,x3]=.agg #[.int .i64 x0,.int .i64 x1,.int .i64 x2,.int .i64 x3] from rfl] at hcop;generalize hnc:copies b x p=nc at hcp;have HCOP:=Hh hcop;have HCP:=Hh hcp;have HNC:=Hh hnc;have HTK:=Hh htk;have HROW:=Hh hrow;have HOB:Hid (∀ g,(Value.slice a k c).ownBlock=some g->¬ (g < W0.heap.size\/g=wr.heap.size)):=fun g hg=>by
    have:=ownBlock_row hrow g hg;omega
   clear e0 e1 e2 e3 hcm hc4 hcl hcp htk hx hcop hnc hxp hrow;go_wp2;obtain ⟨W1,hW1⟩:∃ W1,W1=wr.alloc (.cells #[.int .i64 x0,.int .i64 x1,.int .i64 x2,.int .i64 x3] 116):=⟨_,rfl⟩;rw [<- hW1];have hb1:Below wr.heap.size wr W1:=by rw [hW1];(exact bel)
   have hs1:W1.heap.size=wr.heap.size+1:=by rw [hW1];simp
   have five1:=(five.below hW five.lt).below hb1 (Nat.lt_of_lt_of_le five.lt hWs);have p0':=(hb1.cell (p:=⟨w.heap.size+1,0,none⟩) (by simp;omega)).trans ((hW.cell (p:=⟨w.heap.size+1,0,none⟩) hsz1).trans p0);have p1':=(hb1.cell (p:=⟨w.heap.size+1,1,none⟩) (by simp;omega)).trans ((hW.cell (p:=⟨w.heap.size+1,1,none⟩) hsz1).trans p1);have m0:W1.cell? ⟨wr.heap.size,0,none⟩=some (.int .i64 x0):=by rw [hW1,World.cell?_alloc_at _ _ _ _ rfl];rfl
   have m1:W1.cell? ⟨wr.heap.size,1,none⟩=some (.int .i64 x1):=by rw [hW1,World.cell?_alloc_at _ _ _ _ rfl];rfl
   have m2:W1.cell? ⟨wr.heap.size,2,none⟩=some (.int .i64 x2):=by rw [hW1,World.cell?_alloc_at _ _ _ _ rfl];rfl
   have m3:W1.cell? ⟨wr.heap.size,3,none⟩=some (.int .i64 x3):=by rw [hW1,World.cell?_alloc_at _ _ _ _ rfl];rfl
   have HROW1:=Hh (ownsRow_below HROW.out hb1);have hall:∀ w':World,KS (fun k=>k < W0.heap.size\/k=wr.heap.size) W1 w'->(KS (fun k=>k < W0.heap.size\/k=wr.heap.size) W1 w'/\w'.cell? ⟨w.heap.size,0,none⟩=some (.int .i64 b.room)/\w'.cell? ⟨w.heap.size,1,none⟩=some (.int .i64 b.gap)/\w'.cell? ⟨w.heap.size,2,none⟩=some (.slice ma b.ms.length mc)/\w'.cell? ⟨w.heap.size,3,none⟩=some (.slice sa b.ss.length sc)/\w'.cell? ⟨w.heap.size,4,none⟩=some (.slice ra b.rs.length rc)/\w'.cell? ⟨wr.heap.size,0,none⟩=some (.int .i64 x0)/\w'.cell? ⟨wr.heap.size,1,none⟩=some (.int .i64 x1)/\w'.cell? ⟨wr.heap.size,2,none⟩=some (.int .i64 x2)/\w'.cell? ⟨wr.heap.size,3,none⟩=some (.int .i64 x3)/\w'.cell? ⟨w.heap.size+1,0,none⟩=some (.int .i64 p.1)/\w'.cell? ⟨w.heap.size+1,1,none⟩=some (.int .i64 p.2)):=fun w' h=>by
    have hf:w.heap.size < W0.heap.size:=five.lt;refine ⟨h,(h.cell (by simp;omega) (.inl hf)).trans five1.c0,(h.cell (by simp;omega) (.inl hf)).trans five1.c1,(h.cell (by simp;omega) (.inl hf)).trans five1.c2,(h.cell (by simp;omega) (.inl hf)).trans five1.c3,(h.cell (by simp;omega) (.inl hf)).trans five1.c4,
     (h.cell (by simp;omega) (.inr rfl)).trans m0,(h.cell (by simp;omega) (.inr rfl)).trans m1,(h.cell (by simp;omega) (.inr rfl)).trans m2,(h.cell (by simp;omega) (.inr rfl)).trans m3,(h.cell (by simp;omega) (.inl hsz1)).trans p0',(h.cell (by simp;omega) (.inl hsz1)).trans p1'⟩
   have HALL:=Hh hall;have hbw:∀ w':World,KS (fun k=>k < W0.heap.size\/k=wr.heap.size) W1 w'->Below w.heap.size w w':=fun w' h=>by
    have h2:=Below.next hwr hb1;have h3:=hb0.size;exact ⟨h.os.trans h2.os,h.tape.trans h2.tape,h.output.trans h2.output,Nat.le_trans h2.size h.size,fun k hk=>(h.block k (Nat.lt_of_lt_of_le hk h2.size) (.inl (by omega))).trans (h2.block k hk)⟩
   have HBW:=Hh hbw;have hks1:KS (fun k=>k < W0.heap.size\/k=wr.heap.size) wr W1:=KS.all hb1 _;have HW1:=Hh hW1;clear hall hbw hW1 five1 p0' p1' m0 m1 m2 m3 d0 d1 d2 d3;go_region_held3 (fun w'=>KS (fun k=>k < W0.heap.size\/k=wr.heap.size) W1 w'/\w'.cell? ⟨w.heap.size,0,none⟩=some (.int .i64 b.room)/\w'.cell? ⟨w.heap.size,1,none⟩=some (.int .i64 b.gap)/\w'.cell? ⟨w.heap.size,2,none⟩=some (.slice ma b.ms.length mc)/\w'.cell? ⟨w.heap.size,3,none⟩=some (.slice sa b.ss.length sc)/\w'.cell? ⟨w.heap.size,4,none⟩=some (.slice ra b.rs.length rc)/\w'.cell? ⟨wr.heap.size,0,none⟩=some (.int .i64 x0)/\w'.cell? ⟨wr.heap.size,1,none⟩=some (.int .i64 x1)/\w'.cell? ⟨wr.heap.size,2,none⟩=some (.int .i64 x2)/\w'.cell? ⟨wr.heap.size,3,none⟩=some (.int .i64 x3)/\w'.cell? ⟨w.heap.size+1,0,none⟩=some (.int .i64 p.1)/\w'.cell? ⟨w.heap.size+1,1,none⟩=some (.int .i64 p.2))
    (first | exact HALL.out _ (KS.drew _ _) | (go_split_ands;first | exact HALL.out _ (KS.trans (by assumption) (KS.all hcb _)) | exact HALL.out _ (KS.trans (by assumption) (KS.alloc _ _ _)) | exact HALL.out _ (KS.trans (by assumption) (KS.own hgrow HOB.out)) | exact HALL.out _ (by assumption)))
    (first
      | (go_at_call 96;go_split_ands;have hX:=‹KS (fun k=>k < W0.heap.size\/k=wr.heap.size) W1 _›;(with_reducible refine (HCOP.out _ (HBW.out _ hX)).mono ?_);rintro e w1 ⟨B,n,lc',rfl,hB1,hcnt,hcp,hip,hcb⟩;have hlk:=CntAt.look (t:=153) hcnt partKeyed Tryz.underlying153 Tryz.underlying3 (zeroInt _) HK.out;rw [cntV_partV,hcp,HCP.out] at hlk;unfold partV at hlk;have hrow1:w1.ownsRow W0.heap.size 3 1 (.slice a k c) k ((oftenI b (l.take k) p).map (Value.int .i64)):=ownsRow_below (A:=W1.drew) HROW1.out hcb;have hz1:W1.heap.size<=w1.heap.size:=hcb.size;clear hcp hcnt hip)
      | (refine step_append_lies (w:=w1.alloc (.cells #[.int .i64 nc] 3)) rfl _ _ 35 rfl W0.heap.size 3 i0 (.int .i64 0) 1 8 Tryz.underlying35 hi hz0 hz1' hz2 rfl (by omega) (.slice a k c) k _ rfl (hrow1.alloc _) ⟨w1.heap.size,0,none⟩ 1 1 [.int .i64 nc] rfl rfl (cells_new _ _ _) (by simp [Value.oneCell']) (by omega) (by unfold maxLen;omega) (by omega) (by simp;omega) (w1.heap.size+1) (by simp) ?_;intro gg cap w2 hown2 hgrow hat hlt2))
   all_goals
    have hkp:KS (fun k=>k < W0.heap.size\/k=wr.heap.size) W1 w2:=(((KS.drew _ W1).trans (KS.all hcb _)).trans (KS.alloc _ _ _)).trans (KS.own hgrow HOB.out);have hbel:Below W0.heap.size W0 w2:=by
     have h2:=Below.next hW hb1;exact ⟨hkp.os.trans h2.os,hkp.tape.trans h2.tape,hkp.output.trans h2.output,Nat.le_trans h2.size hkp.size,fun k hk=>(hkp.block k (Nat.lt_of_lt_of_le hk h2.size) (.inl hk)).trans (h2.block k hk)⟩
    have hown3:w2.ownsRow W0.heap.size 3 1 (.slice (some ⟨gg,0,none⟩) (k+1) cap) (k+1) ((oftenI b (l.take (k+1)) p).map (Value.int .i64)):=by
     have e:oftenI b (l.take (k+1)) p=oftenI b (l.take k) p ++ [nc]:=by
      unfold oftenI;rw [HTK.out,List.map_append,List.map_cons,List.map_nil,HNC.out]
     rw [e,List.map_append];exact hown2
    have HOWN3:=Hh hown3;clear hown3 hkp hown2;go_wp2;go_roundw
    case rel=>exact ⟨k+1,_,_,by omega,by go_num,rfl,HOWN3.out,hbel⟩
    case measure=>simp [intOf];omega
  ·obtain rfl:k=l.length:=by omega
   have hll2:(oftenI b l p).length=l.length:=by simp [oftenI]
   rw [List.take_length] at hrow;have HROW:=Hh hrow;clear hrow;go_wp2;go_ret;refine ⟨a,c,by rw [hll2];rfl,?_,bel⟩;rw [hll2];exact ownsRow_base HROW.out hb0.size
end
section
variable {b:Bk} {vr vg vm vs vc:Value} {w:World}
def GroupOut (w:World) (p:Prt) (e:Ending) (w':World):Prop:=∃ B,e=.returned (.func (.func 94) #[] #[.pointer (some ⟨B,0,none⟩)])/\B < w'.heap.size/\w'.cell? ⟨B,0,none⟩=some (.int .i64 p.1)/\w'.cell? ⟨B,1,none⟩=some (.int .i64 p.2)/\Below w.heap.size w w'
theorem group_at (p:Prt) (w:World):Calls Tryz.prog 61 #[.agg #[.int .i64 p.1,.int .i64 p.2]] w (GroupOut w p):=by
 go_enter Tryz.func61,Tryz.ntmps61
 go_wp2;go_ret;refine ⟨w.heap.size,rfl,by simp,?_,?_,bel⟩
 ·rw [World.cell?_alloc_at _ _ _ _ rfl];rfl
 ·rw [World.cell?_alloc_at _ _ _ _ rfl];rfl
theorem group1_at (hB:BookAt w b vr vg vm vs vc) (hG:∀ m∈b.ms,0<=m.groups/\m.groups<=1000) {B:Nat} {p:Prt} (h0:w.cell? ⟨B,0,none⟩=some (.int .i64 p.1)) (h1:w.cell? ⟨B,1,none⟩=some (.int .i64 p.2)) (hlt:B < w.heap.size) :
 Calls Tryz.prog 94 #[.agg #[vr,vg,vm,vs,vc],.pointer (some ⟨B,0,none⟩)] w fun e w'=>e=.returned (.int .i64 (if isPart b p then 0 else 6))/\Below w.heap.size w w':=by
 have HB:=Hh hB;have HG:=Hh hG;cases hp:isPart b p
 all_goals
  have HP:=Hh hp;clear hp hB hG
  go_enter Tryz.func94,Tryz.ntmps94
  go_wp2_with (go_at_call 95;(with_reducible refine (isPart_at (HB.out.below (bal _ _)) HG.out HP.out).mono ?_);rintro e w1 ⟨rfl,hb1⟩);go_ret;exact ⟨rfl,bel⟩
def groupAl (b:Bk) (p:Prt):Int:=openAl b (if isPart b p then 0 else 6)
theorem row_named {A:World} {base e size n:Nat} {v:Value} {xs:List Value} (h:A.ownsRow base e size v n xs):∃ B,B=base/\A.ownsRow B e size v n xs:=⟨_,rfl,h⟩
theorem came_ok (hB:BookAt w b vr vg vm vs vc) (hN:∀ m∈b.ms,m.name.size<=1000000) (hK:KindsAt w) (m g:Int) (ht:groupAl b (m,g)=0) :
 Calls Tryz.prog 21 #[.agg #[vr,vg,vm,vs,vc],.int .i64 m,.int .i64 g] w fun e w'=>e=.returned (.tuple #[.int .i64 (sayI (countI (oftenI b (pasts b) (m,g)) 1) (pasts b).length),.int .i64 0])/\Below w.heap.size w w':=by
 have HB:=Hh hB;have HN:=Hh hN;have HK:=Hh hK;obtain ⟨hk,hpt,hps⟩:=openAl_ok ht;have hpart:isPart b (m,g)=true:=by
  cases h:isPart b (m,g)
  ·rw [h] at hpt;simp at hpt
  ·rfl
 have hbo:=(bookAl_ok hk).1;have HO:=Hh hbo;have HBA:=Hh hk;have HPA:=Hh hpart;have HPS:=Hh hps;have hpl:=pasts_le hbo;have HPC:=Hh (fun x (hx:x∈pasts b)=>pasts_came hbo hx);have HPT:=Hh hpt;clear hk hpt hps hpart hbo;obtain ⟨rfl,rfl,⟨ma,mc,rfl,_,_⟩,⟨sa,sc,rfl,_,_⟩,ra,rc,rfl,_,_⟩:=id hB;clear hB hN hK ht
 go_enter Tryz.func21,Tryz.ntmps21
 go_wp2;obtain ⟨W1,hW1⟩:∃ W1,W1=(w.alloc (.cells #[.int .i64 b.room,.int .i64 b.gap,.slice ma b.ms.length mc,.slice sa b.ss.length sc,.slice ra b.rs.length rc] 26)).alloc (.cells #[.int .i64 m,.int .i64 g] 85):=⟨_,rfl⟩;rw [<- hW1];have five:=(Five.new w (.int .i64 b.room) (.int .i64 b.gap) (.slice ma b.ms.length mc) (.slice sa b.ss.length sc) (.slice ra b.rs.length rc) 26).below (bal _ (.cells #[.int .i64 m,.int .i64 g] 85)) (by simp);rw [<- hW1] at five;have hb0:Below w.heap.size w W1:=by rw [hW1];(exact bel)
 have hsz:W1.heap.size=w.heap.size+1+1:=by rw [hW1];simp
 have p0:W1.cell? ⟨w.heap.size+1,0,none⟩=some (.int .i64 m):=by rw [hW1,World.cell?_alloc_at _ _ _ _ (by simp)];rfl
 have p1:W1.cell? ⟨w.heap.size+1,1,none⟩=some (.int .i64 g):=by rw [hW1,World.cell?_alloc_at _ _ _ _ (by simp)];rfl
 have hall:∀ w':World,Below W1.heap.size W1 w'->(Below W1.heap.size W1 w'/\w'.cell? ⟨w.heap.size,0,none⟩=some (.int .i64 b.room)/\w'.cell? ⟨w.heap.size,1,none⟩=some (.int .i64 b.gap)/\w'.cell? ⟨w.heap.size,2,none⟩=some (.slice ma b.ms.length mc)/\w'.cell? ⟨w.heap.size,3,none⟩=some (.slice sa b.ss.length sc)/\w'.cell? ⟨w.heap.size,4,none⟩=some (.slice ra b.rs.length rc)/\w'.cell? ⟨w.heap.size+1,0,none⟩=some (.int .i64 m)/\w'.cell? ⟨w.heap.size+1,1,none⟩=some (.int .i64 g)):=fun w' h=>by
  exact ⟨h,(h.cell (by simp;omega)).trans five.c0,(h.cell (by simp;omega)).trans five.c1,(h.cell (by simp;omega)).trans five.c2,(h.cell (by simp;omega)).trans five.c3,(h.cell (by simp;omega)).trans five.c4,(h.cell (by simp;omega)).trans p0,(h.cell (by simp;omega)).trans p1⟩
 have HALL:=Hh hall;clear hW1 hall p0 p1 five;have hgr:=fun (w':World)=>group_at (m,g) w';have HGR:=Hh hgr;clear hgr;go_region_held3 (fun w'=>Below W1.heap.size W1 w'/\w'.cell? ⟨w.heap.size,0,none⟩=some (.int .i64 b.room)/\w'.cell? ⟨w.heap.size,1,none⟩=some (.int .i64 b.gap)/\w'.cell? ⟨w.heap.size,2,none⟩=some (.slice ma b.ms.length mc)/\w'.cell? ⟨w.heap.size,3,none⟩=some (.slice sa b.ss.length sc)/\w'.cell? ⟨w.heap.size,4,none⟩=some (.slice ra b.rs.length rc)/\w'.cell? ⟨w.heap.size+1,0,none⟩=some (.int .i64 m)/\w'.cell? ⟨w.heap.size+1,1,none⟩=some (.int .i64 g))
  ((go_split_ands;exact HALL.out _ (bel)))
  (first
    | (go_at_call 61;(with_reducible refine (HGR.out _).mono ?_);rintro e w2 ⟨B,rfl,hB1,q0,q1,hb2⟩;have hq:∀ W,Below w2.heap.size w2 W->W.cell? ⟨B,0,none⟩=some (.int .i64 m)/\W.cell? ⟨B,1,none⟩=some (.int .i64 g)/\B < W.heap.size:=(fun W h=>⟨(h.cell hB1).trans q0,(h.cell hB1).trans q1,Nat.lt_of_lt_of_le hB1 h.size⟩);have HQ:=Hh hq;clear hq q0 q1;obtain ⟨hc2,hf2⟩:=bcell hb2;have hz2:=hb2.size;(try simp at hz2);(try (have hy2:w.heap.size+1+1 < w2.heap.size:=by omega)))
    | (go_at_call 34;go_split_ands;have hX:=Below.next hb0 ‹Below W1.heap.size W1 _›;(with_reducible refine (open_group_ok (HB.out.below hX) HN.out (HK.out.below hX) _ (al:=if isPart b (m,g) then 0 else 6) (fun hk W hW=>group1_at (p:=(m,g)) (HB.out.below (Below.next hX hW)) (bookAl_ok hk).1.groups (HQ.out W (Below.next (by first | exact Below.refl _ _ | exact bal _ _) hW)).1 (HQ.out W (Below.next (by first | exact Below.refl _ _ | exact bal _ _) hW)).2.1 (HQ.out W (Below.next (by first | exact Below.refl _ _ | exact bal _ _) hW)).2.2) HBA.out HPT.out HPS.out).mono ?_);rintro e w3 ⟨la,rfl,hrow,hb3⟩;obtain ⟨la,lc,rfl⟩:=ownsRow_slice hrow;obtain ⟨Bs,hBs,hrow⟩:=row_named hrow;(try simp at hBs);have HROW:=Hh hrow;clear hrow;obtain ⟨hc3,hf3⟩:=bcell hb3;have hz3:=hb3.size;(try simp at hz3);(try (have hy3:w.heap.size+1+1 < w3.heap.size:=by omega))))
 all_goals
  have hrw:∀ W9,Below w3.heap.size w3 W9->W9.ownsRow Bs 116 4 (.slice la (pasts b).length lc) (pasts b).length ((pasts b).flatMap cellsP):=fun W9 h=>ownsRow_below HROW.out h;have HRW:=Hh hrw;clear hrw;go_wp2_with (first
   | (go_at_call 64;(with_reducible refine (often_at (p:=(m,g)) (HB.out.below (bel)) HO.out (la:=la) (l:=pasts b) (cames_of_row (base:=Bs) (n:=(pasts b).length) (c:=lc) (by repeat (first | (with_reducible refine ownsRow_setCell_below ?_ (by simp;omega) _) | exact HROW.out | exact HRW.out _ (bel)))) HPC.out (by omega) HPA.out).mono ?_);rintro e w4 ⟨ia,ic,rfl,hir,hb4⟩;have HIR:=Hh hir;clear hir)
   | (go_at_call 63;(with_reducible refine (count_at 1 (ints_of_row HIR.out) (by simp [oftenI];omega) rfl).mono ?_);rintro e w5 ⟨rfl,rfl⟩)
   | (go_at_call 62;(with_reducible refine (say_any _ _ _).mono ?_);rintro e w5 ⟨rfl,rfl⟩))
  exact bodyPost_ret (v:=.tuple #[.int .i64 (sayI (countI (oftenI b (pasts b) (m,g)) 1) (pasts b).length),.int .i64 0]) (by simp [results,Tryz.results21,go_sem, *]) rfl ⟨rfl,bel⟩
end
theorem alloc1_cell {w:World} {v:Value} {t:TypeId} {n:Nat} (hn:n=w.heap.size):(w.alloc (.cells #[v] t)).cell? ⟨n,0,none⟩=some v:=by
 rw [World.cell?_alloc_at _ _ _ _ hn];rfl
theorem below_own {base:Nat} {A B:World} {e size n:Nat} {v:Value} {xs:List Value} (h:A.ownsRow base e size v n xs) (hg:A.grownBy B v.ownBlock) (hb:base<=A.heap.size):Below base A B:=by
 have hk:=grow_ks h hg;exact ⟨hk.os,hk.tape,hk.output,hk.size,fun k hkk=>hk.block k (Nat.lt_of_lt_of_le hkk hb) hkk⟩
theorem wpl_append1 {P:Program} {w:World} {ops:Array Oper} {rest:List Oper} {o:Oper} {a:Act} {Q:Exit->Act->World->Prop} (hgd:o.guard=none) (s x:Operand) (t:TypeId)
 (ho:o.op=.call { callee:=.builtin .append,args:=#[s,x],argTypes:=#[t,t] })
 (base:Nat) (e:TypeId) {z:Value} {bytes:Nat} (ht:P.underlying t=some (.slice e)) (hi:(P.info? e).map (fun i=>(i.zero,i.size,i.bytes))=some (some z,1,bytes)) (hzs:z.cells.size=1) (hby:bytes<=100)
 (v:Value) (k:Nat) (xs:List Value) (hs:a.eval s=v) (hown:w.ownsRow base e 1 v k xs) (hbase:base<=w.heap.size) (hk:k<=1000000) (u:Value)
 {n:Nat} (hn:n=w.heap.size) (hx:a.eval x=.slice (some ⟨n,0,none⟩) 1 1) (h1:u.oneCell'=true)
 (h:∀ g cap w',w'.ownsRow base e 1 (.slice (some ⟨g,0,none⟩) (k+1) cap) (k+1) (xs ++ [u])->Below base w w'->wpList P ops Q rest (a.put o.dst (.slice (some ⟨g,0,none⟩) (k+1) cap)) w') :
 wpList P ops Q (o::rest) a (w.alloc (.cells #[u] e)):=by
 subst hn;obtain ⟨i,hi,hz,hsz,hb⟩:=info_parts hi;have hal:(w.alloc (.cells #[u] e)).ownsRow base e 1 v k xs:=hown.alloc _;have hle:base<=(w.alloc (.cells #[u] e)).heap.size:=by simp;omega
 refine wpList_append_own (w.alloc (.cells #[u] e)) hgd s x t ho base e i z 1 bytes ht hi hz hsz hb hzs (by decide) v k xs hs hal ⟨w.heap.size,0,none⟩ 1 1 [u] hx rfl (cells_new w [u] e) (by simpa using h1) (by unfold maxLen;omega) (by have:=Nat.mul_le_mul (show k+1<=1000001 by omega) hby;omega) hle ?_;intro v' w' hown' hg _;obtain ⟨g,cap,rfl⟩:=ownsRow_succ hown';exact h g cap w' hown' (((Below.refl base w).alloc hbase _).trans (below_own hal hg hle))
end Go.Proofs.YtdjnkplgllakcaaGreatDoor
namespace Go.Proofs
open Go.Shelf
def Tryz.lays215_ren:Go.Shelf.Ren:=⟨fun | 215=>122 | n=>n,fun | 3=>3 | 4=>4 | n=>n,fun | n=>n⟩
def Tryz.lays122_ren:Go.Shelf.Ren:=⟨fun | 122=>99 | 215=>122 | n=>n,fun | 3=>3 | 4=>4 | n=>n,fun | n=>n⟩
theorem Tryz.lays122:Go.Proofs.Lays.n122 Tryz.prog Tryz.lays122_ren:={
 mixed:=by kernel_rfl
 f122:=Tryz.func99.trans (congrArg some (by kernel_rfl))
 f215:=Tryz.func122.trans (congrArg some (by kernel_rfl))
 t3:=Tryz.underlying3
 a3:=Tryz.isAgg3
 z3:=Tryz.sizeOf3
 v3:=Tryz.zeroValue3
 t4:=Tryz.underlying4
 a4:=Tryz.isAgg4
 z4:=Tryz.sizeOf4
 v4:=Tryz.zeroValue4 }
open Go.RowKit in
theorem Tryz.cmp_Compare_int (x y:Int) (w:World) :
 Calls Tryz.prog 99 #[.int .i64 x,.int .i64 y] w fun e w'=>e=.returned (.int .i64 (Lib.compareInt x y))/\w'=w:=Any.cmp_Compare_int Tryz.lays122 x y w
def Tryz.lays189_ren:Go.Shelf.Ren:=⟨fun | 189=>59 | 125=>93 | 257=>92 | 128=>119 | 129=>120 | 294=>110 | 295=>111 | 296=>112 | 297=>113 | 298=>114 | 299=>115 | 216=>116 | 300=>117 | 301=>118 | 328=>126 | 329=>127 | 330=>128 | 331=>129 | 332=>130 | 215=>122 | 343=>132 | n=>n,fun | 28=>35 | 3=>3 | 46=>151 | 0=>0 | 51=>173 | 53=>175 | 4=>4 | 183=>167 | 182=>166 | 131=>130 | 5=>5 | 9=>9 | 218=>185 | 222=>189 | 228=>192 | 229=>193 | n=>n,fun | n=>n⟩
theorem Tryz.lays189:Go.Proofs.Lays.n189 Tryz.prog Tryz.lays189_ren:={
 mixed:=by kernel_rfl
 f125:=Tryz.func93.trans (congrArg some (by kernel_rfl))
 f128:=Tryz.func119.trans (congrArg some (by kernel_rfl))
 f129:=Tryz.func120.trans (congrArg some (by kernel_rfl))
 f189:=Tryz.func59.trans (congrArg some (by kernel_rfl))
 f215:=Tryz.func122.trans (congrArg some (by kernel_rfl))
 f216:=Tryz.func116.trans (congrArg some (by kernel_rfl))
 f257:=Tryz.func92.trans (congrArg some (by kernel_rfl))
 f294:=Tryz.func110.trans (congrArg some (by kernel_rfl))
 f295:=Tryz.func111.trans (congrArg some (by kernel_rfl))
 f296:=Tryz.func112.trans (congrArg some (by kernel_rfl))
 f297:=Tryz.func113.trans (congrArg some (by kernel_rfl))
 f298:=Tryz.func114.trans (congrArg some (by kernel_rfl))
 f299:=Tryz.func115.trans (congrArg some (by kernel_rfl))
 f300:=Tryz.func117.trans (congrArg some (by kernel_rfl))
 f301:=Tryz.func118.trans (congrArg some (by kernel_rfl))
 f328:=Tryz.func126.trans (congrArg some (by kernel_rfl))
 f329:=Tryz.func127.trans (congrArg some (by kernel_rfl))
 f330:=Tryz.func128.trans (congrArg some (by kernel_rfl))
 f331:=Tryz.func129.trans (congrArg some (by kernel_rfl))
 f332:=Tryz.func130.trans (congrArg some (by kernel_rfl))
 f343:=Tryz.func132.trans (congrArg some (by kernel_rfl))
 t0:=Tryz.underlying0
 a0:=Tryz.isAgg0
 z0:=Tryz.sizeOf0
 v0:=Tryz.zeroValue0
 t3:=Tryz.underlying3
 a3:=Tryz.isAgg3
 z3:=Tryz.sizeOf3
 v3:=Tryz.zeroValue3
 t4:=Tryz.underlying4
 a4:=Tryz.isAgg4
 z4:=Tryz.sizeOf4
 v4:=Tryz.zeroValue4
 t5:=Tryz.underlying5
 a5:=Tryz.isAgg5
 z5:=Tryz.sizeOf5
 v5:=Tryz.zeroValue5
 t9:=Tryz.underlying9
 a9:=Tryz.isAgg9
 z9:=Tryz.sizeOf9
 v9:=Tryz.zeroValue9
 t28:=Tryz.underlying35
 a28:=Tryz.isAgg35
 z28:=Tryz.sizeOf35
 v28:=Tryz.zeroValue35
 t46:=Tryz.underlying151
 a46:=Tryz.isAgg151
 z46:=Tryz.sizeOf151
 v46:=Tryz.zeroValue151
 t51:=Tryz.underlying173
 a51:=Tryz.isAgg173
 z51:=Tryz.sizeOf173
 v51:=Tryz.zeroValue173
 t53:=Tryz.underlying175
 a53:=Tryz.isAgg175
 z53:=Tryz.sizeOf175
 v53:=Tryz.zeroValue175
 t131:=Tryz.underlying130
 a131:=Tryz.isAgg130
 z131:=Tryz.sizeOf130
 v131:=Tryz.zeroValue130
 t182:=Tryz.underlying166
 a182:=Tryz.isAgg166
 z182:=Tryz.sizeOf166
 v182:=Tryz.zeroValue166
 t183:=Tryz.underlying167
 a183:=Tryz.isAgg167
 z183:=Tryz.sizeOf167
 v183:=Tryz.zeroValue167
 t218:=Tryz.underlying185
 a218:=Tryz.isAgg185
 z218:=Tryz.sizeOf185
 v218:=Tryz.zeroValue185
 t222:=Tryz.underlying189
 a222:=Tryz.isAgg189
 z222:=Tryz.sizeOf189
 v222:=Tryz.zeroValue189
 t228:=Tryz.underlying192
 a228:=Tryz.isAgg192
 z228:=Tryz.sizeOf192
 v228:=Tryz.zeroValue192
 t229:=Tryz.underlying193
 a229:=Tryz.isAgg193
 z229:=Tryz.sizeOf193
 v229:=Tryz.zeroValue193 }
open Go.Sort Go.RowKit in
theorem Tryz.slices_Sort_int (blk off cap:Nat) (zs:List Int) (w:World) (hH:Holds (Value.int .i64) w blk off zs.toArray) (hblk:blk < w.heap.size) (hsz:zs.length < 4611686018427387904) :
 Calls Tryz.prog 59 #[.slice (some ⟨blk,off,none⟩) zs.length cap] w fun e w' =>
  e=.returned (.tuple #[])/\∃ n os,w'=grow (putRow (Value.int .i64) (Sort.ahead w n) blk off (zs.mergeSort fun x y=>decide (x<=y)).toArray) os:=Any.slices_Sort_int Tryz.lays189 blk off cap zs w hH hblk hsz
def Tryz.lays107_ren:Go.Shelf.Ren:=⟨fun | 107=>100 | 108=>123 | n=>n,fun | 28=>35 | 3=>3 | 4=>4 | 0=>0 | n=>n,fun | n=>n⟩
theorem Tryz.lays107:Go.Proofs.Lays.n107 Tryz.prog Tryz.lays107_ren:={
 mixed:=by kernel_rfl
 f107:=Tryz.func100.trans (congrArg some (by kernel_rfl))
 f108:=Tryz.func123.trans (congrArg some (by kernel_rfl))
 t0:=Tryz.underlying0
 a0:=Tryz.isAgg0
 z0:=Tryz.sizeOf0
 v0:=Tryz.zeroValue0
 t3:=Tryz.underlying3
 a3:=Tryz.isAgg3
 z3:=Tryz.sizeOf3
 v3:=Tryz.zeroValue3
 t4:=Tryz.underlying4
 a4:=Tryz.isAgg4
 z4:=Tryz.sizeOf4
 v4:=Tryz.zeroValue4
 t28:=Tryz.underlying35
 a28:=Tryz.isAgg35
 z28:=Tryz.sizeOf35
 v28:=Tryz.zeroValue35 }
open Go.Lib in
theorem Tryz.slices_Contains_int (b off n c:Nat) (zs:List Int) (x:Int) (w:World) (hz:n<=zs.length) (hbig:n<=9223372036854775807) (hc:∀ j,j < zs.length->w.cell? ⟨b,off+j,none⟩=some (.int .i64 (zs.getD j 0))) :
 Calls Tryz.prog 100 #[.slice (some ⟨b,off,none⟩) n c,.int .i64 x] w fun e w'=>e=.returned (.bool ((zs.take n).contains x))/\w'=w:=Any.slices_Contains_int Tryz.lays107 b off n c zs x w hz hbig hc
open Go.Lib in
theorem Tryz.slices_Contains_int_empty (a:Option Addr) (c:Nat) (x:Int) (w:World) :
 Calls Tryz.prog 100 #[.slice a 0 c,.int .i64 x] w fun e w'=>e=.returned (.bool false)/\w'=w:=Any.slices_Contains_int_empty Tryz.lays107 a c x w
def Tryz.laysNm215_ren:Go.Shelf.Ren:=⟨fun | 15=>41 | n=>n,fun | 22=>35 | 3=>3 | 4=>4 | n=>n,fun | n=>n⟩
theorem Tryz.laysNm215:Go.Proofs.Lays2.n15 Tryz.prog Tryz.laysNm215_ren:={
 mixed:=by kernel_rfl
 f15:=Tryz.func41.trans (congrArg some (by kernel_rfl))
 t3:=Tryz.underlying3
 a3:=Tryz.isAgg3
 z3:=Tryz.sizeOf3
 v3:=Tryz.zeroValue3
 t4:=Tryz.underlying4
 a4:=Tryz.isAgg4
 z4:=Tryz.sizeOf4
 v4:=Tryz.zeroValue4
 t22:=Tryz.underlying35
 a22:=Tryz.isAgg35
 z22:=Tryz.sizeOf35
 v22:=Tryz.zeroValue35
 i3:=by kernel_rfl }
open Go.RowKit Go.Lib in
theorem Tryz.slices_Clone_int (b off n c:Nat) (zs:List Int) (w:World) (hz:n<=zs.length) (hbig:n * 8<=140737488355328) (hc:∀ j,j < zs.length->w.cell? ⟨b,off+j,none⟩=some (.int .i64 (zs.getD j 0))) :
 Calls Tryz.prog 41 #[.slice (some ⟨b,off,none⟩) n c] w fun e w'=>∃ v',e=.returned v'/\w'.ownsRow w.heap.size 3 1 v' n ((zs.take n).map (Value.int .i64))/\v'≠.slice none 0 0/\Below w.heap.size w w':=Any.slices_Clone_int Tryz.laysNm215 b off n c zs w hz hbig hc
open Go.RowKit Go.Lib in
theorem Tryz.slices_Clone_int_nil (n c:Nat) (w:World) :
 Calls Tryz.prog 41 #[.slice none n c] w fun e w'=>e=.returned (.slice none 0 0)/\w'=w:=Any.slices_Clone_int_nil Tryz.laysNm215 n c w
open Go.RowKit Go.Lib in
theorem Tryz.slices_Clone_int_zero (a:Addr) (c:Nat) (w:World) :
 Calls Tryz.prog 41 #[.slice (some a) 0 c] w fun e w'=>∃ v',e=.returned v'/\w'.ownsRow w.heap.size 3 1 v' 0 []/\v'≠.slice none 0 0/\Below w.heap.size w w':=Any.slices_Clone_int_zero Tryz.laysNm215 a c w
def Tryz.laysNm220_ren:Go.Shelf.Ren:=⟨fun | 20=>60 | n=>n,fun | 22=>35 | 3=>3 | 4=>4 | 0=>0 | n=>n,fun | n=>n⟩
theorem Tryz.laysNm220:Go.Proofs.Lays2.n20 Tryz.prog Tryz.laysNm220_ren:={
 mixed:=by kernel_rfl
 f20:=Tryz.func60.trans (congrArg some (by kernel_rfl))
 t0:=Tryz.underlying0
 a0:=Tryz.isAgg0
 z0:=Tryz.sizeOf0
 v0:=Tryz.zeroValue0
 t3:=Tryz.underlying3
 a3:=Tryz.isAgg3
 z3:=Tryz.sizeOf3
 v3:=Tryz.zeroValue3
 t4:=Tryz.underlying4
 a4:=Tryz.isAgg4
 z4:=Tryz.sizeOf4
 v4:=Tryz.zeroValue4
 t22:=Tryz.underlying35
 a22:=Tryz.isAgg35
 z22:=Tryz.sizeOf35
 v22:=Tryz.zeroValue35
 i3:=by kernel_rfl }
open Go.RowKit Go.Lib Go.Sort in
theorem Tryz.slices_Compact_int (blk off cap:Nat) (zs:List Int) (w:World) (hH:Holds (Value.int .i64) w blk off zs.toArray) (hsz:zs.length<=9223372036854775807) (hcap:zs.length<=cap) :
 Calls Tryz.prog 60 #[.slice (some ⟨blk,off,none⟩) zs.length cap] w fun e w'=>e=.returned (.slice (some ⟨blk,off,none⟩) (Lib.compact zs).length cap)/\∃ q,w'=putRow (Value.int .i64) (Sort.ahead w q) blk off (Lib.compact zs ++ List.replicate (zs.length - (Lib.compact zs).length) 0).toArray:=Any.slices_Compact_int Tryz.laysNm220 blk off cap zs w hH hsz hcap
open Go.RowKit Go.Lib Go.Sort in
theorem Tryz.slices_Compact_int_empty (a:Option Addr) (cap:Nat) (w:World) :
 Calls Tryz.prog 60 #[.slice a 0 cap] w fun e w'=>e=.returned (.slice a 0 cap)/\w'=w:=Any.slices_Compact_int_empty Tryz.laysNm220 a cap w
open Go.RowKit Go.Sort in
theorem Tryz.slices_Sort_int_none (p:Option Addr) (cap:Nat) (w:World) :
 Calls Tryz.prog 59 #[.slice p 0 cap] w fun e w'=>e=.returned (.tuple #[])/\w'=w:=Any.slices_Sort_int_none Tryz.lays189 p cap w
end Go.Proofs
namespace Go.Proofs.YtdjnkplgllakcaaGreatDoor
open Go.RowKit Go.Maps Go.Sort Sp
section
variable {w:World} {base g n c:Nat} {e:TypeId} {xs:List Value}
theorem ownsRow_put (h:w.ownsRow base e 1 (.slice (some ⟨g,0,none⟩) n c) n xs) {k:Nat} (v:Value):(w.setCell ⟨g,k,none⟩ v).ownsRow base e 1 (.slice (some ⟨g,0,none⟩) n c) n (xs.set k v):=by
 obtain ⟨h1,⟨h2,_⟩ | ⟨g',cap,cur,hv,hg,hb,hn,hcap,hsz,ht⟩⟩:=h
 ·cases h2
 ·cases hv;have hlt:=Go.lt_of_block hb;have h':w.heap[g]=.cells cur e (0,0):=by simpa [Array.getElem?_eq_getElem hlt] using hb
  refine ⟨by simpa using h1,.inr ⟨g,c,cur.setIfInBounds k v,rfl,hg,?_,hn,hcap,by simpa using hsz,?_⟩⟩
  ·show (w.heap.modify g _)[g]? = _;rw [Array.getElem?_eq_getElem (by simpa using hlt),Array.getElem_modify_self,h'];rfl
  ·rw [<- ht,Array.toList_setIfInBounds,List.take_set]
theorem row_free (h:w.ownsRow base e 1 (.slice (some ⟨g,0,none⟩) n c) n xs) (k:Nat):w.frozen? ⟨g,k,none⟩=false:=by
 obtain ⟨h1,⟨h2,_⟩ | ⟨g',cap,cur,hv,hg,hb,hn,hcap,hsz,ht⟩⟩:=h
 ·cases h2
 ·cases hv;simp [World.frozen?,hb]
end
section
variable {w:World} {a:Option Addr} {base c:Nat} {l:List Int}
theorem IntsAt.cells {b o:Nat} (h:IntsAt w (some ⟨b,o,none⟩) l):∀ j,j < l.length->w.cell? ⟨b,o+j,none⟩=some (.int .i64 (l.getD j 0)):=fun j hj=>by
 obtain ⟨b',o',e,_,h1⟩:=h j hj;cases e;rw [h1];simp [List.getD,List.getElem?_eq_getElem hj]
theorem clone_at (h:IntsAt w a l) (hl:l.length<=1000000):Calls Tryz.prog 41 #[.slice a l.length c] w (IntsOut w l):=by
 rcases a with _ | ⟨b,o,s⟩
 ·cases l with
  | nil=>exact (Tryz.slices_Clone_int_nil 0 c w).mono fun e w' ⟨he,hw⟩=>by subst hw;exact ⟨none,0,he,World.ownsRow_nil _ _ _ _,Below.refl _ _⟩
  | cons x l=>obtain ⟨b,o,e,_⟩:=h 0 (by simp);cases e
 ·cases l with
  | nil =>
   exact (Tryz.slices_Clone_int_zero ⟨b,o,s⟩ c w).mono fun e w' ⟨v',he,hr,_,hb⟩=>by
    obtain ⟨a',c',rfl⟩:=ownsRow_slice hr;exact ⟨a',c',he,hr,hb⟩
  | cons x l =>
   obtain ⟨b',o',e,_⟩:=h 0 (by simp);cases e;exact (Tryz.slices_Clone_int b o (x::l).length c (x::l) w (Nat.le_refl _) (by omega) h.cells).mono fun e w' ⟨v',he,hr,_,hb⟩=>by
    rw [List.take_length] at hr;obtain ⟨a',c',rfl⟩:=ownsRow_slice hr;exact ⟨a',c',he,hr,hb⟩
def sortI (l:List Int):List Int:=l.mergeSort fun x y=>decide (x<=y)
theorem sortI_length (l:List Int):(sortI l).length=l.length:=by unfold sortI;simp
theorem sort_at {n:Nat} (hnl:n=l.length) (hbase:base<=w.heap.size) (h:w.ownsRow base 3 1 (.slice a n c) n (l.map (Value.int .i64))) (hl:l.length<=1000000) :
 Calls Tryz.prog 59 #[.slice a n c] w fun e w'=>e=.returned (.tuple #[])/\w'.ownsRow base 3 1 (.slice a n c) n ((sortI l).map (Value.int .i64))/\Below base w w':=by
 subst hnl;obtain ⟨h1,⟨hv,hn⟩ | ⟨g,cap,cur,hv,hg,hb,hn,hcap,hsz,ht⟩⟩:=h
 ·have hl0:l=[]:=List.length_eq_zero_iff.1 hn;subst hl0;cases hv;exact (Tryz.slices_Sort_int_none none 0 w).mono fun e w' ⟨he,hw⟩=>by subst hw;exact ⟨he,by simpa [sortI] using World.ownsRow_nil _ _ _ _,Below.refl _ _⟩
 ·cases hv;exact (Tryz.slices_Sort_int g 0 c l w (holds_of_blockI hb (by simpa using ht)) (Go.lt_of_block hb) (by omega)).mono fun e w' ⟨he,k,os,hw⟩=>by
   subst hw;exact ⟨he,ownsRow_sortedI (ss:=l) (ts:=sortI l) (sortI_length l) hg hb hn hcap hsz,(Below.refl _ _).grown (grownBy_sortedI _) hbase fun k e=>by cases e;exact hg⟩
theorem compact_at {n:Nat} (hnl:n=l.length) (hbase:base<=w.heap.size) (h:w.ownsRow base 3 1 (.slice a n c) n (l.map (Value.int .i64))) (hl:l.length<=1000000) :
 Calls Tryz.prog 60 #[.slice a n c] w fun e w'=>e=.returned (.slice a (Lib.compact l).length c)/\IntsAt w' a (Lib.compact l)/\Below base w w':=by
 subst hnl;obtain ⟨h1,⟨hv,hn⟩ | ⟨g,cap,cur,hv,hg,hb,hn,hcap,hsz,ht⟩⟩:=h
 ·have hl0:l=[]:=List.length_eq_zero_iff.1 hn;subst hl0;cases hv;exact (Tryz.slices_Compact_int_empty none 0 w).mono fun e w' ⟨he,hw⟩=>by subst hw;exact ⟨he,fun i hi=>by simp [Lib.compact,Lib.compactUpTo] at hi,Below.refl _ _⟩
 ·cases hv;have hH:=holds_of_blockI (ss:=l) hb (by simpa using ht);have hle:(Lib.compact l).length<=l.length:=by
   unfold Lib.compact Lib.compactUpTo;rw [List.length_map];exact Nat.le_trans (List.length_filter_le _ _) (by simp)
  exact (Tryz.slices_Compact_int g 0 c l w hH (by omega) hn).mono fun e w' ⟨he,q,hw⟩=>by
   subst hw;refine ⟨he,fun i hi=>⟨g,0,rfl,?_,?_⟩,?_⟩
   ·simpa [putRow,mapBlock,Sort.ahead] using Go.lt_of_block hb
   ·rw [cell?_putRow (Value.int .i64) (Sort.ahead w q) g 0 l.toArray _ (fun j hj=>hH j hj) (by simp;omega) i (by simp;omega)];simp [List.getElem?_append_left hi,hi]
   ·have:=(Below.refl base w).grown (grownBy_sortedI (w:=w) (g:=g) (n:=q) (os:=#[]) (Lib.compact l ++ List.replicate (l.length - (Lib.compact l).length) 0).toArray) hbase fun k e=>by cases e;exact hg
    rwa [grow_empty] at this
end
theorem wrapI {n:Int} (h0:-9223372036854775808<=n) (h1:n<=9223372036854775807):IntKind.i64.wrap n=n:=by rw [IntKind.wrap_i64];omega
def leastI (x:Int) (l:List Int):Int:=l.foldl min x
theorem leastI_succ (x:Int) (l:List Int) (k:Nat) (h:k < l.length):leastI x (l.take (k+1))=min (leastI x (l.take k)) l[k]:=by
 rw [List.take_succ_eq_append_getElem h];unfold leastI;rw [List.foldl_append];rfl
section
variable {w:World} {a:Option Addr} {c:Nat} {l:List Int}
theorem least_at (x:Int) (h:IntsAt w a l) (hl:l.length<=1000000) {t:Int} (ht:leastI x l=t) :
 Calls Tryz.prog 65 #[.int .i64 x,.slice a l.length c] w fun e w'=>e=.returned (.int .i64 t)/\w'=w:=by
 have HT:=Hh ht;have HI:=Hh h;clear ht h
 go_enter Tryz.func65,Tryz.ntmps65
 go_wp2;go_loop [0,9] (fun v i=>∃ (k:Nat),k<=l.length/\i=.int .i64 k/\v=.int .i64 (leastI x (l.take k))) (fun _ i=>l.length - (intOf i).toNat)
 case atStart=>exact ⟨0,Nat.zero_le _,rfl,by simp [leastI]⟩
 case round =>
  obtain ⟨k,hk,rfl,rfl⟩:=hrel;by_cases hlt:k < l.length
  ·obtain ⟨lb,lo,rfl,hlb,e0⟩:=HI.out k hlt;have HM:=Hh (leastI_succ x l k hlt);go_wp2;go_round
   case rel=>exact ⟨k+1,by omega,by go_num,by rw [HM.out]⟩
   case measure=>simp [intOf];omega
  ·obtain rfl:k=l.length:=by omega
   go_wp2;go_ret;refine ⟨?_,rfl⟩;rw [<- HT.out];rfl
def negI (l:List Int):List Int:=l.map fun x=>- x
def negTo (k:Nat) (l:List Int):List Int:=negI (l.take k) ++ l.drop k
theorem negTo_set (l:List Int) (k:Nat) (h:k < l.length):((negTo k l).map (Value.int .i64)).set k (.int .i64 (-l[k]))=(negTo (k+1) l).map (Value.int .i64):=by
 rw [<- List.map_set];congr 1;unfold negTo negI;rw [List.take_succ_eq_append_getElem h,List.map_append,List.set_append_right _ _ (by simp;omega)];simp only [List.length_map,List.length_take,Nat.min_eq_left (Nat.le_of_lt h),Nat.sub_self,List.append_assoc,List.map_cons,List.map_nil,List.singleton_append];rw [List.drop_eq_getElem_cons h];rfl
theorem negTo_length (k:Nat) (l:List Int):(negTo k l).length=l.length:=by unfold negTo negI;simp;omega
theorem negTo_at (l:List Int) (k:Nat) (h:k < l.length):((negTo k l).map (Value.int .i64))[k]? = some (.int .i64 l[k]):=by
 unfold negTo negI;rw [List.map_append,List.getElem?_append_right (by simp;omega)];simp [List.length_take,Nat.min_eq_left (Nat.le_of_lt h),h]
theorem negated_at (h:IntsAt w a l) (hl:l.length<=1000000) (hs:∀ x∈l,0<=x/\x<=1000000) :
 Calls Tryz.prog 66 #[.slice a l.length c] w (IntsOut w (negI l)):=by
 have HI:=Hh h;have HS:=Hh hs;clear h hs
 go_enter Tryz.func66,Tryz.ntmps66
 go_wp2_with (go_at_call 41;(with_reducible refine (clone_at HI.out hl).mono ?_);rintro e w1 ⟨ca,cc,rfl,hrow,hb1⟩);have HROW:=Hh hrow;clear hrow;go_loopw [9] (fun i wr=>∃ (k:Nat),k<=l.length/\i=.int .i64 k/\wr.ownsRow w.heap.size 3 1 (.slice ca l.length cc) l.length ((negTo k l).map (Value.int .i64))/\Below w.heap.size w wr) (fun i _=>l.length - (intOf i).toNat)
 case atStart=>exact ⟨0,Nat.zero_le _,rfl,by simpa [negTo,negI] using HROW.out,hb1⟩
 case round =>
  obtain ⟨k,hk,rfl,hrow,hW⟩:=hrel;by_cases hlt:k < l.length
  ·obtain ⟨g,rfl,hg,hgl,hc0⟩:=row_cell hrow k (by rw [List.length_map,negTo_length];exact hlt);rw [negTo_at l k hlt] at hc0;have hfr:=row_free hrow k;have hset:=ownsRow_put hrow (k:=k) (.int .i64 (-l[k]));rw [negTo_set l k hlt] at hset;have HSET:=Hh hset;have hbd:=HS.out _ (List.getElem_mem hlt);generalize hx:l[k]=x at hc0 hbd HSET;have hneg:IntKind.i64.wrap (-x)=-x:=wrapI (by omega) (by omega);clear hset hrow hx;go_wp2;go_round
   case rel=>exact ⟨k+1,by omega,by go_num,HSET.out,by refine Below.setCell hW ?_ _;exact hg⟩
   case measure=>simp [intOf];omega
  ·have hkl:k=l.length:=by omega
   subst hkl;have hnt:negTo l.length l=negI l:=by simp [negTo]
   rw [hnt] at hrow;have HR:=Hh hrow;clear hrow hnt;go_wp2;go_ret;have hnl:(negI l).length=l.length:=by simp [negI]
   refine ⟨ca,cc,by rw [hnl];rfl,?_,hW⟩;rw [hnl];exact HR.out
end
end Go.Proofs.YtdjnkplgllakcaaGreatDoor
namespace Go.Proofs.YtdjnkplgllakcaaGreatDoor
open Go.RowKit Go.Maps Sp
theorem sum_map_le {α:Type} (f:α->Nat) (m:Nat):∀ (l:List α) (_:∀ x∈l,f x<=m),(l.map f).sum<=m * l.length
 | [],_=>by simp
 | x::l,h=>by
  have h1:=h x (by simp);have h2:=sum_map_le f m l fun y hy=>h y (by simp [hy]);simp only [List.map_cons,List.sum_cons,List.length_cons,Nat.mul_add];omega
theorem copies_bd {b:Bk} (hO:BkOk b) (c:List Int) (p:Prt):0<=copies b c p/\copies b c p<=20:=by
 unfold copies;refine ⟨by omega,?_⟩;have h:=sum_map_le (fun x:List Prt × Int=>(x.1.take x.2.toNat).count p) 5 (b.ss.zip c) fun x hx=>by
  have h1:=hO.pl x.1 (List.of_mem_zip hx).1;exact Nat.le_trans List.count_le_length (Nat.le_trans (List.length_take_le' _ _) h1)
 have h2:(b.ss.zip c).length<=4:=by rw [List.length_zip];have:=hO.sl;omega
 omega
theorem oftenI_bd {b:Bk} (hO:BkOk b) (l:List (List Int)) (p:Prt):∀ x∈oftenI b l p,0<=x/\x<=20:=fun x hx=>by
 obtain ⟨c,_,rfl⟩:=List.mem_map.1 hx;exact copies_bd hO c p
section
variable {b:Bk} {vr vg vm vs vc:Value} {w:World}
def IntsOut2 (w:World) (x:Int) (l:List Int) (e:Ending) (w':World):Prop:=∃ B c n,e=.returned (.slice (some ⟨B,0,none⟩) n c)/\n=l.length+1/\l.length+1<=c/\w'.cell? ⟨B,0,none⟩=some (.int .i64 x)/\IntsAt w' (some ⟨B,1,none⟩) l/\w.heap.size<=B/\B < w'.heap.size/\Below w.heap.size w w'
theorem ints_two {x:Int} {l:List Int} {e:Ending} {w':World} (h:IntsOut w (x::l) e w'):IntsOut2 w x l e w':=by
 obtain ⟨a,c,rfl,hr,hb⟩:=h;obtain ⟨h1,⟨h2,h3⟩ | ⟨g,cap,cur,hv,hg,hh,hn,hcap,hsz,ht⟩⟩:=id hr
 ·simp at h3
 ·cases hv;have hI:=ints_of_row hr;refine ⟨g,c,_,rfl,by simp,by simpa using hn,?_,fun i hi=>⟨g,1,rfl,Go.lt_of_block hh,?_⟩,hg,Go.lt_of_block hh,hb⟩
  ·obtain ⟨b',o',e',_,h5⟩:=hI 0 (by simp);cases e';simpa using h5
  ·obtain ⟨b',o',e',_,h5⟩:=hI (i+1) (by simpa using hi);cases e';rw [show 1+i=0+(i+1) by omega];simpa using h5
def loI (b:Bk) (p:Prt):Int:=leastI ((oftenI b (pasts b) p).headD 0) (oftenI b (pasts b) p).tail
def hiI (b:Bk) (p:Prt):Int:=- leastI (- (oftenI b (pasts b) p).headD 0) (negI (oftenI b (pasts b) p).tail)
theorem leastI_bd {m n:Int}:∀ (l:List Int) (x:Int) (_:m<=x/\x<=n) (_:∀ y∈l,m<=y/\y<=n),m<=leastI x l/\leastI x l<=n
 | [],x,h,_=>h
 | y::l,x,h,hl=>by
  have:=leastI_bd (m:=m) (n:=n) l (min x y) (by have:=hl y (by simp);omega) fun z hz=>hl z (by simp [hz]);exact this
end
end Go.Proofs.YtdjnkplgllakcaaGreatDoor
