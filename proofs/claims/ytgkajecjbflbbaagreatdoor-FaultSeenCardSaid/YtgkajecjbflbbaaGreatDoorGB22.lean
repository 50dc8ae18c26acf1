/- the fault laws -/
import Derived.Deep.Upon
import Derived.Test.YtgkajecjbflbbaaGreatDoorGB21
set_option maxHeartbeats 2000000
set_option maxRecDepth 100000
set_option linter.all false
namespace Go.Proofs.YtgkajecjbflbbaaGreatDoor
section
open Go.RowKit Go.Maps Sp
theorem add_off (b o j:Nat):Addr.add ⟨b,o,none⟩ j=⟨b,o+j,none⟩:=by unfold Addr.add;split <;> simp_all
section
variable {P:Program}
def Src1 (X:World) (sa:Option Addr) (c:Nat) (news:List Value):Prop:=(sa=none->c=0/\news=[])/\∀ j u,news[j]? = some u->∃ ad,sa=some ad/\X.cell? (ad.add j)=some u
theorem own_lit {w:World} {base:Nat} {e:TypeId} {n:Nat} (hn:n=w.heap.size) (hb:base<=n):(w.alloc (.cells #[] e)).ownsRow base e 1 (.slice (some ⟨n,0,none⟩) 0 0) 0 []:=by
 subst hn;exact World.ownsRow_lit w #[] 0 hb (by decide) rfl
end
theorem ints_src {w:World} {a:Option Addr} {c:Nat} {l:List Int} (h:IntsAt w a l) (hz:a=none->c=0):Src1 w a c (l.map (Value.int .i64)):=by
 refine ⟨fun ha=>⟨hz ha,?_⟩,fun j u hj=>?_⟩
 ·cases l with
  | nil=>rfl
  | cons x l =>
   obtain ⟨b,o,e,_⟩:=h 0 (by simp);rw [ha] at e;cases e
 ·rw [List.getElem?_map] at hj;obtain ⟨x,hx,rfl⟩:=Option.map_eq_some_iff.1 hj;obtain ⟨hjl,rfl⟩:=List.getElem?_eq_some_iff.1 hx;obtain ⟨b,o,rfl,_,hc⟩:=h j hjl;refine ⟨_,rfl,?_⟩;have:Addr.add ⟨b,o,none⟩ j=⟨b,o+j,none⟩:=by unfold Addr.add;split <;> simp_all
  rw [this];exact hc
section
variable {w w':World}
end
end
namespace Mt
open Go Go.RowKit Go.Maps
section
variable {w w':World}
end
attribute [local go_sem] Oper.semAt_some
section
variable {b:Fbk} {vm vd vt:Value} {w:World}
end
attribute [local go_sem] Oper.semAt_some
section
variable {b:Fbk} {vm vd vt:Value}
end
attribute [local go_sem] Oper.semAt_some
section
variable {b:Fbk} {vm vd vt:Value} {w:World}
end
attribute [local go_sem] Oper.semAt_some
section
variable {w:World} {la:Option Addr} {lc n:Nat} {L:List (Nat->Nat)}
end
attribute [local go_sem] Oper.semAt_some
section
variable {b:Fbk} {vm vd vt:Value} {w:World}
end
attribute [local go_sem] Oper.semAt_some
section
variable {b:Fbk} {vm vd vt:Value} {w:World}
end
attribute [local go_sem] Oper.semAt_some
section
variable {b:Fbk} {vm vd vt:Value} {w:World}
end
attribute [local go_sem] Oper.semAt_some
section
variable {b:Fbk} {vm vd vt:Value} {w:World} {sa pa:Option Addr} {l path:List Int} {sc pc:Nat}
end
attribute [local go_sem] Oper.semAt_some
def greatI (b:Fbk):Bool:=decide (20 < b.devs.length) || decide (20 < b.tests.length) || (b.devs.any fun m=>decide (100 < m.name.size)) || (b.tests.any fun t=>decide (20 < t.path.length))
def TestsRaw (w:World) (a:Option Addr) (l:List Tst):Prop:=∀ i (h:i < l.length),∃ b o,a=some ⟨b,o,none⟩/\b < w.heap.size /\
 ∃ pa pc,w.cell? ⟨b,o+i * 2,none⟩=some (.slice pa l[i].path.length pc)/\l[i].path.length<=pc/\IntsAt w pa l[i].path/\w.cell? ⟨b,o+i * 2+1,none⟩=some (.int .i64 l[i].seen)
structure FRaw (w:World) (b:Fbk) (vm vd vt:Value):Prop where
 most:vm=.int .i64 b.most
 devs:∃ a c,vd=.slice a b.devs.length c/\DevsAt w a b.devs
 tests:∃ a c,vt=.slice a b.tests.length c/\TestsRaw w a b.tests
theorem TestsRaw.below {w w':World} {a:Option Addr} {l:List Tst} (h:TestsRaw w a l) (hb:Below w.heap.size w w'):TestsRaw w' a l:=fun i hi=>by
 obtain ⟨b,o,e,hlt,pa,pc,h1,h2,h3,h4⟩:=h i hi;exact ⟨b,o,e,Nat.lt_of_lt_of_le hlt hb.size,pa,pc,(hb.cell (p:=⟨b,_,none⟩) hlt).trans h1,h2,h3.below hb,(hb.cell (p:=⟨b,_,none⟩) hlt).trans h4⟩
theorem great_no {b:Fbk} (h:greatI b=false):b.devs.length<=20/\b.tests.length<=20/\(∀ m∈b.devs,m.name.size<=100)/\∀ t∈b.tests,t.path.length<=20:=by
 unfold greatI at h;simp only [Bool.or_eq_false_iff,decide_eq_false_iff_not,List.any_eq_false,decide_eq_true_eq] at h;exact ⟨by omega,by omega,fun m hm=>by have:=h.1.2 m hm;omega,fun t ht=>by have:=h.2 t ht;omega⟩
theorem FRaw.book {w:World} {b:Fbk} {vm vd vt:Value} (h:FRaw w b vm vd vt) (hg:greatI b=false):FBookAt w b vm vd vt:=by
 obtain ⟨h1,h2,h3,h4⟩:=great_no hg;obtain ⟨hm,⟨da,dc,e1,hD⟩,ta,tc,e2,hT⟩:=h;refine ⟨hm,⟨da,dc,e1,hD,by omega⟩,ta,tc,e2,fun i hi=>?_,by omega⟩;obtain ⟨b',o,e,hlt,pa,pc,k1,k2,k3,k4⟩:=hT i hi;have:=h4 _ (List.getElem_mem hi);exact ⟨b',o,e,hlt,pa,pc,k1,k2,by omega,k3,k4⟩
section
variable {b:Fbk} {vm vd vt:Value} {w:World}
theorem great_at (hB:FRaw w b vm vd vt) {t:Bool} (h:greatI b=t) :
 Calls Mz.prog 15 #[.agg #[vm,vd,vt]] w fun e w'=>e=.returned (.bool t)/\Below w.heap.size w w':=by
 obtain ⟨rfl,⟨da,dc,rfl,hD⟩,ta,tc,rfl,hT⟩:=hB;have HD:=Hh hD;have HT:=Hh hT;clear hD hT;unfold greatI at h;by_cases h1:20 < b.devs.length
 ·have ht:t=true:=by rw [<- h];simp [h1]
  subst ht;have h1I:(20:Int) < (b.devs.length:Int):=by omega
  clear h h1
  go_enter (mz_func (i:=15) rfl Tryz.func15),Tryz.ntmps15
  go_wp2;go_ret;exact ⟨rfl,bel⟩
 ·by_cases h2:20 < b.tests.length
  ·have ht:t=true:=by rw [<- h];simp [h2]
   subst ht;have h1I:¬ (20:Int) < (b.devs.length:Int):=by omega
   have h2I:(20:Int) < (b.tests.length:Int):=by omega
   clear h h1 h2
   go_enter (mz_func (i:=15) rfl Tryz.func15),Tryz.ntmps15
   go_wp2;go_ret;exact ⟨rfl,bel⟩
  ·simp only [h1,h2,decide_false,Bool.false_or] at h;have h1I:¬ (20:Int) < (b.devs.length:Int):=by omega
   have h2I:¬ (20:Int) < (b.tests.length:Int):=by omega
   have H:=Hh h;clear h h1 h2;have hb0:Below w.heap.size w (w.alloc (.cells #[.int .i64 b.most,.slice da b.devs.length dc,.slice ta b.tests.length tc] 25)):=bel;have HD0:=Hh (HD.out.below hb0);have HT0:=Hh (HT.out.below hb0)
   go_enter (mz_func (i:=15) rfl Tryz.func15),Tryz.ntmps15
   go_wp2;obtain ⟨W0,hW0⟩:∃ W0,W0=w.alloc (.cells #[.int .i64 b.most,.slice da b.devs.length dc,.slice ta b.tests.length tc] 25):=⟨_,rfl⟩;rw [<- hW0] at hb0 HD0 HT0 ⊢;have q1:W0.cell? ⟨w.heap.size,1,none⟩=some (.slice da b.devs.length dc):=by rw [hW0,World.cell?_alloc_at _ _ _ _ rfl];rfl
   have q2:W0.cell? ⟨w.heap.size,2,none⟩=some (.slice ta b.tests.length tc):=by rw [hW0,World.cell?_alloc_at _ _ _ _ rfl];rfl
   have HB:=Hh hb0;have hs0:w.heap.size < W0.heap.size:=by rw [hW0];simp
   clear hW0 hb0;go_loopw [3] (fun i wr=>∃ k:Nat,k<=b.devs.length/\i=.int .i64 (k:Int)/\Hid (((b.devs.take k).any fun m=>decide (100 < m.name.size))=false)/\wr=W0) (fun i _=>b.devs.length - (intOf i).toNat)
   case atStart=>exact ⟨0,Nat.zero_le _,rfl,by simp [Hid],rfl⟩
   case round =>
    obtain ⟨k,hk,rfl,hno,hww⟩:=hrel;subst wr;by_cases hlt:k < b.devs.length
    ·obtain ⟨db,dof,rfl,hdb,c0,_⟩:=HD0.out k hlt;have htk:=List.take_succ_eq_append_getElem hlt;have hin:b.devs[k]∈b.devs:=List.getElem_mem hlt;obtain ⟨m,hm⟩:∃ m,b.devs[k]=m:=⟨_,rfl⟩;rw [hm] at c0 htk hin;by_cases hbig:100 < m.name.size
     ·have ht:t=true:=by
       rw [<- H.out,List.any_eq_true.2 ⟨m,hin,by simpa using hbig⟩];rfl
      subst ht;have hbI:(100:Int) < (m.name.size:Int):=by omega
      clear htk hin hno hm;go_wp2;go_ret;exact ⟨rfl,HB.out⟩
     ·have HNO:=Hh (show ((b.devs.take (k+1)).any fun m=>decide (100 < m.name.size))=false by
       rw [htk,List.any_append,hno.out]
       simpa using hbig)
      have hbI:¬ (100:Int) < (m.name.size:Int):=by omega
      clear htk hin hno hm;go_wp2;go_roundw
      case rel=>exact ⟨k+1,hlt,by go_num,HNO.out,by first | rfl | trivial⟩
      case measure=>simp [intOf];omega
    ·obtain rfl:k=b.devs.length:=by omega
     have hdv:(b.devs.any fun m=>decide (100 < m.name.size))=false:=by
      have:=hno.out;rw [List.take_length] at this;exact this
     have H2:=Hh (show (b.tests.any fun t=>decide (20 < t.path.length))=t by have:=H.out;rw [hdv,Bool.false_or] at this;exact this);clear hno hdv;go_wp2;go_loopw [4] (fun i wr=>∃ k:Nat,k<=b.tests.length/\i=.int .i64 (k:Int)/\Hid (((b.tests.take k).any fun t=>decide (20 < t.path.length))=false)/\wr=W0) (fun i _=>b.tests.length - (intOf i).toNat)
     case atStart=>exact ⟨0,Nat.zero_le _,rfl,by simp [Hid],by first | rfl | trivial⟩
     case round =>
      obtain ⟨k,hk,rfl,hno,hww⟩:=hrel;subst wr;by_cases hlt:k < b.tests.length
      ·obtain ⟨tb,to,rfl,htb,pa,pc,c0,_,_,_⟩:=HT0.out k hlt;have htk:=List.take_succ_eq_append_getElem hlt;have hin:b.tests[k]∈b.tests:=List.getElem_mem hlt;obtain ⟨m,hm⟩:∃ m,b.tests[k]=m:=⟨_,rfl⟩;rw [hm] at c0 htk hin;by_cases hbig:20 < m.path.length
       ·have ht:t=true:=by
         rw [<- H2.out,List.any_eq_true.2 ⟨m,hin,by simpa using hbig⟩]
        subst ht;have hbI:(20:Int) < (m.path.length:Int):=by omega
        clear htk hin hno hm;go_wp2;go_ret;exact ⟨rfl,HB.out⟩
       ·have HNO:=Hh (show ((b.tests.take (k+1)).any fun t=>decide (20 < t.path.length))=false by
         rw [htk,List.any_append,hno.out]
         simpa using hbig)
        have hbI:¬ (20:Int) < (m.path.length:Int):=by omega
        clear htk hin hno hm;go_wp2;go_roundw
        case rel=>exact ⟨k+1,hlt,by go_num,HNO.out,by first | rfl | trivial⟩
        case measure=>simp [intOf];omega
      ·obtain rfl:k=b.tests.length:=by omega
       have ht:t=false:=by
        have:=hno.out;rw [List.take_length] at this;rw [<- H2.out,this]
       subst ht;clear hno;go_wp2;go_ret;exact ⟨rfl,HB.out⟩
end
attribute [local go_sem] Oper.semAt_some
def exB:Fbk:=⟨1,[⟨⟨#[97]⟩,true,false,5⟩,⟨⟨#[98]⟩,true,false,9⟩,⟨⟨#[99]⟩,true,true,2⟩,⟨⟨#[100]⟩,true,false,4⟩],[⟨[0,1,2],2⟩,⟨[0],0⟩,⟨[2,3],0⟩,⟨[1],0⟩]⟩
theorem example_at (w:World):Calls Mz.prog 63 #[] w fun e w'=>∃ vm vd vt,e=.returned (.agg #[vm,vd,vt])/\FBookAt w' exB vm vd vt/\Below w.heap.size w w':=by
 go_enter (mz_func (i:=63) rfl Tryz.func63),Tryz.ntmps63
 go_wp2;obtain ⟨WF,hWF⟩:∃ WF,WF=(((((((w.alloc (.cells #[.int .i64 1,.slice (some ⟨w.heap.size+1,0,none⟩) 4 4,.slice (some ⟨w.heap.size+1+1+1+1+1+1,0,none⟩) 4 4] 25)).alloc (.cells #[.string ⟨#[97]⟩,.bool true,.bool false,.int .i64 5,.string ⟨#[98]⟩,.bool true,.bool false,.int .i64 9,.string ⟨#[99]⟩,.bool true,.bool true,.int .i64 2,.string ⟨#[100]⟩,.bool true,.bool false,.int .i64 4] 74)).alloc (.cells #[.int .i64 0,.int .i64 1,.int .i64 2] 3)).alloc (.cells #[.int .i64 0] 3)).alloc (.cells #[.int .i64 2,.int .i64 3] 3)).alloc (.cells #[.int .i64 1] 3)).alloc (.cells #[.slice (some ⟨w.heap.size+1+1,0,none⟩) 3 3,.int .i64 2,.slice (some ⟨w.heap.size+1+1+1,0,none⟩) 1 1,.int .i64 0,.slice (some ⟨w.heap.size+1+1+1+1,0,none⟩) 2 2,.int .i64 0,.slice (some ⟨w.heap.size+1+1+1+1+1,0,none⟩) 1 1,.int .i64 0] 61)):=⟨_,rfl⟩;rw [<- hWF];have hsz:WF.heap.size=w.heap.size+1+1+1+1+1+1+1:=by rw [hWF];simp
 have c0:∀ k u,(#[.int .i64 1,.slice (some ⟨w.heap.size+1,0,none⟩) 4 4,.slice (some ⟨w.heap.size+1+1+1+1+1+1,0,none⟩) 4 4]:Array Value)[k]? = some u->WF.cell? ⟨w.heap.size,k,none⟩=some u:=fun k u hk=>by
  rw [hWF];rw [World.cell?_alloc_past _ _ _ (by first | (simp;done) | (simp;omega))];rw [World.cell?_alloc_past _ _ _ (by first | (simp;done) | (simp;omega))];rw [World.cell?_alloc_past _ _ _ (by first | (simp;done) | (simp;omega))];rw [World.cell?_alloc_past _ _ _ (by first | (simp;done) | (simp;omega))];rw [World.cell?_alloc_past _ _ _ (by first | (simp;done) | (simp;omega))];rw [World.cell?_alloc_past _ _ _ (by first | (simp;done) | (simp;omega))];rw [World.cell?_alloc_at _ _ _ _ (by simp)];exact hk
 have c1:∀ k u,(#[.string ⟨#[97]⟩,.bool true,.bool false,.int .i64 5,.string ⟨#[98]⟩,.bool true,.bool false,.int .i64 9,.string ⟨#[99]⟩,.bool true,.bool true,.int .i64 2,.string ⟨#[100]⟩,.bool true,.bool false,.int .i64 4]:Array Value)[k]? = some u->WF.cell? ⟨w.heap.size+1,k,none⟩=some u:=fun k u hk=>by
  rw [hWF];rw [World.cell?_alloc_past _ _ _ (by first | (simp;done) | (simp;omega))];rw [World.cell?_alloc_past _ _ _ (by first | (simp;done) | (simp;omega))];rw [World.cell?_alloc_past _ _ _ (by first | (simp;done) | (simp;omega))];rw [World.cell?_alloc_past _ _ _ (by first | (simp;done) | (simp;omega))];rw [World.cell?_alloc_past _ _ _ (by first | (simp;done) | (simp;omega))];rw [World.cell?_alloc_at _ _ _ _ (by simp)];exact hk
 have c2:∀ k u,(#[.int .i64 0,.int .i64 1,.int .i64 2]:Array Value)[k]? = some u->WF.cell? ⟨w.heap.size+1+1,k,none⟩=some u:=fun k u hk=>by
  rw [hWF];rw [World.cell?_alloc_past _ _ _ (by first | (simp;done) | (simp;omega))];rw [World.cell?_alloc_past _ _ _ (by first | (simp;done) | (simp;omega))];rw [World.cell?_alloc_past _ _ _ (by first | (simp;done) | (simp;omega))];rw [World.cell?_alloc_past _ _ _ (by first | (simp;done) | (simp;omega))];rw [World.cell?_alloc_at _ _ _ _ (by simp)];exact hk
 have c3:∀ k u,(#[.int .i64 0]:Array Value)[k]? = some u->WF.cell? ⟨w.heap.size+1+1+1,k,none⟩=some u:=fun k u hk=>by
  rw [hWF];rw [World.cell?_alloc_past _ _ _ (by first | (simp;done) | (simp;omega))];rw [World.cell?_alloc_past _ _ _ (by first | (simp;done) | (simp;omega))];rw [World.cell?_alloc_past _ _ _ (by first | (simp;done) | (simp;omega))];rw [World.cell?_alloc_at _ _ _ _ (by simp)];exact hk
 have c4:∀ k u,(#[.int .i64 2,.int .i64 3]:Array Value)[k]? = some u->WF.cell? ⟨w.heap.size+1+1+1+1,k,none⟩=some u:=fun k u hk=>by
  rw [hWF];rw [World.cell?_alloc_past _ _ _ (by first | (simp;done) | (simp;omega))];rw [World.cell?_alloc_past _ _ _ (by first | (simp;done) | (simp;omega))];rw [World.cell?_alloc_at _ _ _ _ (by simp)];exact hk
 have c5:∀ k u,(#[.int .i64 1]:Array Value)[k]? = some u->WF.cell? ⟨w.heap.size+1+1+1+1+1,k,none⟩=some u:=fun k u hk=>by
  rw [hWF];rw [World.cell?_alloc_past _ _ _ (by first | (simp;done) | (simp;omega))];rw [World.cell?_alloc_at _ _ _ _ (by simp)];exact hk
 have c6:∀ k u,(#[.slice (some ⟨w.heap.size+1+1,0,none⟩) 3 3,.int .i64 2,.slice (some ⟨w.heap.size+1+1+1,0,none⟩) 1 1,.int .i64 0,.slice (some ⟨w.heap.size+1+1+1+1,0,none⟩) 2 2,.int .i64 0,.slice (some ⟨w.heap.size+1+1+1+1+1,0,none⟩) 1 1,.int .i64 0]:Array Value)[k]? = some u->WF.cell? ⟨w.heap.size+1+1+1+1+1+1,k,none⟩=some u:=fun k u hk=>by
  rw [hWF];rw [World.cell?_alloc_at _ _ _ _ (by simp)];exact hk
 have hb:Below w.heap.size w WF:=by rw [hWF];(exact bel)
 clear hWF;have x0:=c0 0 _ rfl;have x1:=c0 1 _ rfl;have x2:=c0 2 _ rfl;have hfb:FBookAt WF exB (.int .i64 1) (.slice (some ⟨w.heap.size+1,0,none⟩) 4 4) (.slice (some ⟨w.heap.size+1+1+1+1+1+1,0,none⟩) 4 4):=by
  refine ⟨rfl,⟨_,_,rfl,fun i hi=>⟨_,0,rfl,by omega,?_⟩,by decide⟩,_,_,rfl,fun i hi=>⟨_,0,rfl,by omega,?_⟩,by decide⟩
  ·have h4:i=0\/i=1\/i=2\/i=3:=by
    have:i < 4:=hi;omega
   rcases h4 with rfl | rfl | rfl | rfl
   all_goals exact ⟨c1 _ _ rfl,c1 _ _ rfl,c1 _ _ rfl,c1 _ _ rfl⟩
  ·have h4:i=0\/i=1\/i=2\/i=3:=by
    have:i < 4:=hi;omega
   rcases h4 with rfl | rfl | rfl | rfl
   ·refine ⟨_,_,c6 _ _ rfl,by show 3<=3;decide,by show 3<=1000000;decide,fun j hj=>⟨_,0,rfl,by omega,?_⟩,c6 _ _ rfl⟩;have h3:j=0\/j=1\/j=2:=by
     have:j < 3:=hj;omega
    rcases h3 with rfl | rfl | rfl
    all_goals exact c2 _ _ rfl
   ·refine ⟨_,_,c6 _ _ rfl,by show 1<=1;decide,by show 1<=1000000;decide,fun j hj=>⟨_,0,rfl,by omega,?_⟩,c6 _ _ rfl⟩;have h3:j=0:=by
     have:j < 1:=hj;omega
    subst h3;exact c3 _ _ rfl
   ·refine ⟨_,_,c6 _ _ rfl,by show 2<=2;decide,by show 2<=1000000;decide,fun j hj=>⟨_,0,rfl,by omega,?_⟩,c6 _ _ rfl⟩;have h3:j=0\/j=1:=by
     have:j < 2:=hj;omega
    rcases h3 with rfl | rfl
    all_goals exact c4 _ _ rfl
   ·refine ⟨_,_,c6 _ _ rfl,by show 1<=1;decide,by show 1<=1000000;decide,fun j hj=>⟨_,0,rfl,by omega,?_⟩,c6 _ _ rfl⟩;have h3:j=0:=by
     have:j < 1:=hj;omega
    subst h3;exact c5 _ _ rfl
 clear c0 c1 c2 c3 c4 c5 c6;exact bodyPost_ret (v:=.agg #[.int .i64 1,.slice (some ⟨w.heap.size+1,0,none⟩) 4 4,.slice (some ⟨w.heap.size+1+1+1+1+1+1,0,none⟩) 4 4]) (by simp [results,Tryz.results63,go_sem,x0,x1,x2]) rfl ⟨_,_,_,rfl,hfb,hb⟩
end Mt
end Go.Proofs.YtgkajecjbflbbaaGreatDoor
