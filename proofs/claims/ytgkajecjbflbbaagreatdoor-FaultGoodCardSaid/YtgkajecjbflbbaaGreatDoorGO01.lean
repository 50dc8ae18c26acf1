/- FaultGood -/
import Derived.Test.YtgkajecjbflbbaaGreatDoorGO00
import Derived.Deep.WholeRow
set_option maxHeartbeats 8000000
set_option maxRecDepth 100000
set_option linter.all false
namespace Go.Proofs.YtgkajecjbflbbaaGreatDoor
namespace Mt
open Go Go.RowKit Go.Maps
attribute [local go_sem] Oper.semAt_some
theorem ret_box {w w1:World} {o1:Obj} {T:TypeId} (hb:Below ((w.alloc o1).alloc (.cells #[.int .i64 0,.slice none 0 0,.slice none 0 0] T)).heap.size ((w.alloc o1).alloc (.cells #[.int .i64 0,.slice none 0 0,.slice none 0 0] T)) w1) :
 w.heap.size+1 < w1.heap.size/\(∀ o,(w1.alloc o).cell? ⟨w.heap.size+1,0,none⟩=some (.int .i64 0))/\(∀ o,(w1.alloc o).cell? ⟨w.heap.size+1,1,none⟩=some (.slice none 0 0))/\(∀ o,(w1.alloc o).cell? ⟨w.heap.size+1,2,none⟩=some (.slice none 0 0))/\(∀ o k,(w1.alloc o).frozen? ⟨w.heap.size+1,k,none⟩=false)/\w1.cell? ⟨w.heap.size+1,0,none⟩=some (.int .i64 0)/\w1.cell? ⟨w.heap.size+1,1,none⟩=some (.slice none 0 0)/\w1.cell? ⟨w.heap.size+1,2,none⟩=some (.slice none 0 0)/\∀ k,w1.frozen? ⟨w.heap.size+1,k,none⟩=false:=by
 have hs1:w.heap.size+1 < w1.heap.size:=by have:=hb.size;simp at this;omega
 have hw:∀ k u,(#[.int .i64 0,.slice none 0 0,.slice none 0 0]:Array Value)[k]? = some u->w1.cell? ⟨w.heap.size+1,k,none⟩=some u:=fun k u hk=>by
  rw [hb.cell (p:=⟨w.heap.size+1,k,none⟩) (by simp),World.cell?_alloc_at _ _ _ _ (by simp)];exact hk
 have hc:∀ k u,(#[.int .i64 0,.slice none 0 0,.slice none 0 0]:Array Value)[k]? = some u->∀ o,(w1.alloc o).cell? ⟨w.heap.size+1,k,none⟩=some u:=fun k u hk o=>by
  rw [World.cell?_alloc_past _ _ _ (by simpa using hs1),hb.cell (p:=⟨w.heap.size+1,k,none⟩) (by simp),World.cell?_alloc_at _ _ _ _ (by simp)];exact hk
 exact ⟨hs1,hc 0 _ rfl,hc 1 _ rfl,hc 2 _ rfl,fun o k=>by rw [World.frozen?_alloc_past _ _ _ (by simpa using hs1),hb.frozen (p:=⟨w.heap.size+1,k,none⟩) (by simp),World.frozen?_alloc_at _ _ _ _ (by simp)],hw 0 _ rfl,hw 1 _ rfl,hw 2 _ rfl,fun k=>by rw [hb.frozen (p:=⟨w.heap.size+1,k,none⟩) (by simp),World.frozen?_alloc_at _ _ _ _ (by simp)]⟩
theorem arg_box {w w1:World} {x y z:Value} {o:Obj} {T:TypeId} (hb:Below ((w.alloc (.cells #[x,y,z] T)).alloc o).heap.size ((w.alloc (.cells #[x,y,z] T)).alloc o) w1) :
 w1.cell? ⟨w.heap.size,0,none⟩=some x/\w1.cell? ⟨w.heap.size,1,none⟩=some y/\w1.cell? ⟨w.heap.size,2,none⟩=some z/\(∀ o',(w1.alloc o').cell? ⟨w.heap.size,0,none⟩=some x)/\(∀ o',(w1.alloc o').cell? ⟨w.heap.size,1,none⟩=some y)/\∀ o',(w1.alloc o').cell? ⟨w.heap.size,2,none⟩=some z:=by
 have hs:w.heap.size < w1.heap.size:=by have:=hb.size;simp at this;omega
 have hw:∀ k u,(#[x,y,z]:Array Value)[k]? = some u->w1.cell? ⟨w.heap.size,k,none⟩=some u:=fun k u hk=>by
  rw [hb.cell (p:=⟨w.heap.size,k,none⟩) (by simp;omega),World.cell?_alloc_past _ _ _ (by simp),World.cell?_alloc_at _ _ _ _ rfl];exact hk
 exact ⟨hw 0 _ rfl,hw 1 _ rfl,hw 2 _ rfl,fun o'=>(World.cell?_alloc_past _ _ _ (by simpa using hs)).trans (hw 0 _ rfl),fun o'=>(World.cell?_alloc_past _ _ _ (by simpa using hs)).trans (hw 1 _ rfl),fun o'=>(World.cell?_alloc_past _ _ _ (by simpa using hs)).trans (hw 2 _ rfl)⟩
section
variable {b:Fbk} {vm vd vt:Value} {w:World}
theorem agreed_no (hB:FBookAt w b vm vd vt) (hN:∀ m∈b.devs,m.name.size<=1000000) (hA:ActsAt w) {t:Int} (h:openAl b 0=t) (h0:t≠0) :
 Calls Mz.prog 116 #[.agg #[vm,vd,vt]] w fun e w'=>e=.returned (.tuple #[.agg #[.int .i64 0,.slice none 0 0,.slice none 0 0],.int .i64 t])/\Below w.heap.size w w':=by
 have HB:=Hh hB;have HN:=Hh hN;have HA:=Hh hA;have H:=Hh h;have hz3:(t != 0)=true:=by simpa using h0
 obtain ⟨rfl,⟨da,dc,rfl,_,_⟩,ta,tc,rfl,_,_⟩:=hB;clear hN h hA
 go_enter (mz_func (i:=116) rfl Tryz.func116),Tryz.ntmps116
 go_wp2_with (go_at_call 64;(with_reducible refine (open_no (HB.out.below (bel)) HN.out (HA.out.below (bel)) (fun _ _=>mz_call84 _ _) nothingC H.out h0).mono ?_);rintro e w1 ⟨rfl,hb1⟩;obtain ⟨hs1,z0,z1,z2,f0,y0,y1,y2,f1⟩:=ret_box hb1);exact bodyPost_ret (v:=.tuple #[.agg #[.int .i64 0,.slice none 0 0,.slice none 0 0],.int .i64 t]) (by simp [results,Tryz.results116,go_sem, *]) rfl ⟨rfl,bel⟩
theorem agreed_ok (hB:FBookAt w b vm vd vt) (hN:∀ m∈b.devs,m.name.size<=1000000) (hA:ActsAt w) (h:openAl b 0=0) :
 Calls Mz.prog 116 #[.agg #[vm,vd,vt]] w fun e w'=>e=.returned (.tuple #[.agg #[vm,vd,vt],.int .i64 0])/\Below w.heap.size w w':=by
 have HB:=Hh hB;have HN:=Hh hN;have HA:=Hh hA;have H:=Hh h;obtain ⟨rfl,⟨da,dc,rfl,_,_⟩,ta,tc,rfl,_,_⟩:=hB;clear hN h hA
 go_enter (mz_func (i:=116) rfl Tryz.func116),Tryz.ntmps116
 go_wp2_with (go_at_call 64;(with_reducible refine (open_ok (HB.out.below (bel)) HN.out (HA.out.below (bel)) (fun _ _=>mz_call84 _ _) nothingC H.out).mono ?_);rintro e w1 ⟨la,lc,rfl,hst,hb1⟩;clear hst;obtain ⟨hs1,z0,z1,z2,f0,y0,y1,y2,f1⟩:=ret_box hb1;obtain ⟨u0,u1,u2,u3,u4,u5⟩:=arg_box hb1);exact bodyPost_ret (v:=.tuple #[.agg #[.int .i64 b.most,.slice da b.devs.length dc,.slice ta b.tests.length tc],.int .i64 0]) (by simp [results,Tryz.results116,go_sem, *]) rfl ⟨rfl,bel⟩
end
attribute [local go_sem] Oper.semAt_some
theorem OwnBook.late {w W W':World} {b:Fbk} {g1 g2:Option Addr} {c1 c2:Nat} {p:Nat->Prop} (h:OwnBook w W b g1 c1 g2 c2) (hk:KS p W W') (hq:∀ r,w.heap.size<=r->p r) (hd:b.devs.length<=20) (ht:b.tests.length<=20) (hp:∀ t∈b.tests,t.path.length<=20) :
 FBookAt W' b (.int .i64 b.most) (.slice g1 b.devs.length c1) (.slice g2 b.tests.length c2):=by
 refine ⟨rfl,⟨g1,c1,rfl,fun i hi=>?_,by omega⟩,g2,c2,rfl,fun i hi=>?_,by omega⟩
 ·obtain ⟨r,e,k2,k3,_,k5⟩:=(h.dev.ks hk hq) (by omega);have hg:=cellsD_get b.devs i hi;refine ⟨r,0,e,k3,?_,?_,?_,?_⟩ <;> rw [Nat.zero_add]
  ·exact k5 _ _ hg.1
  ·exact k5 _ _ hg.2.1
  ·exact k5 _ _ hg.2.2.1
  ·exact k5 _ _ hg.2.2.2
 ·obtain ⟨r,e,k2,k3,_,k5⟩:=h.tst (by omega);obtain ⟨q1,pa,pc,q3,q4,q5,_⟩:=k5 i hi;have hc:=fun x=>hk.cell (x:=⟨r,x,none⟩) k3 (hq r k2);exact ⟨r,0,e,Nat.lt_of_lt_of_le k3 hk.size,pa,pc,by rw [Nat.zero_add];exact (hc _).trans q3,q4,by have:=hp _ (List.getElem_mem hi);omega,ints_new (q5.ks hk hq),by rw [Nat.zero_add];exact (hc _).trans q1⟩
def newsB (o:Fbk):Fbk:=if openAl o 0=0 then o else ⟨0,[],[]⟩
def NewsRet (w:World) (o:Fbk) (e:Ending) (w':World):Prop:=∃ um ud ut,e=.returned (.tuple #[.agg #[um,ud,ut],.int .i64 (openAl o 0)])/\FBookAt w' (newsB o) um ud ut/\Below w.heap.size w w'
theorem zero_book (w:World):FBookAt w ⟨0,[],[]⟩ (.int .i64 0) (.slice none 0 0) (.slice none 0 0):=⟨rfl,⟨none,0,rfl,fun i hi=>absurd hi (Nat.not_lt_zero i),by decide⟩,none,0,rfl,fun i hi=>absurd hi (Nat.not_lt_zero i),by decide⟩
section
variable {b:Fbk} {vm vd vt:Value} {w:World}
theorem agreed_at (hB:FBookAt w b vm vd vt) (hN:∀ m∈b.devs,m.name.size<=1000000) (hA:ActsAt w) :
 Calls Mz.prog 116 #[.agg #[vm,vd,vt]] w fun e w'=>∃ (m:Int) (a1:Option Addr) (n1 k1:Nat) (a2:Option Addr) (n2 k2:Nat),e=.returned (.tuple #[.agg #[.int .i64 m,.slice a1 n1 k1,.slice a2 n2 k2],.int .i64 (openAl b 0)])/\Hid ((openAl b 0=0/\.int .i64 m=vm/\.slice a1 n1 k1=vd/\.slice a2 n2 k2=vt)\/(openAl b 0≠0/\.int .i64 m=Value.int .i64 0/\Value.slice a1 n1 k1=.slice none 0 0/\Value.slice a2 n2 k2=.slice none 0 0))/\Below w.heap.size w w':=by
 by_cases h:openAl b 0=0
 ·refine (agreed_ok hB hN hA h).mono ?_;rintro e w' ⟨rfl,hb⟩;obtain ⟨rfl,⟨da,dc,rfl,_,_⟩,ta,tc,rfl,_,_⟩:=hB;exact ⟨_,_,_,_,_,_,_,by rw [h],.inl ⟨h,rfl,rfl,rfl⟩,hb⟩
 ·refine (agreed_no hB hN hA rfl h).mono ?_;rintro e w' ⟨rfl,hb⟩;exact ⟨_,_,_,_,_,_,_,rfl,.inr ⟨h,rfl,rfl,rfl⟩,hb⟩
theorem news_book {w W W':World} {o:Fbk} {g1 g2:Option Addr} {c1 c2:Nat} {p:Nat->Prop} {um ud ut:Value} (h:OwnBook w W o g1 c1 g2 c2) (hk:KS p W W') (hq:∀ r,w.heap.size<=r->p r) (hd:o.devs.length<=20) (ht:o.tests.length<=20) (hp:∀ t∈o.tests,t.path.length<=20)
 (hu:(openAl o 0=0/\um=.int .i64 o.most/\ud=.slice g1 o.devs.length c1/\ut=.slice g2 o.tests.length c2)\/(openAl o 0≠0/\um=.int .i64 0/\ud=.slice none 0 0/\ut=.slice none 0 0)):FBookAt W' (newsB o) um ud ut:=by
 unfold newsB;rcases hu with ⟨h0,rfl,rfl,rfl⟩ | ⟨h0,rfl,rfl,rfl⟩
 ·rw [if_pos h0];exact h.late hk hq hd ht hp
 ·rw [if_neg h0];exact zero_book W'
end
attribute [local go_sem] Oper.semAt_some
theorem eqDev (s:ByteArray) (x y:Bool) (t:Int) (w:World):Sem.run Mz.prog (Op.equalIn 10000 74 (.agg #[.string s,.bool x,.bool y,.int .i64 t]) (.agg #[.string s,.bool x,.bool y,.int .i64 t])) w=.ok true w:=by
 have u3:=mzu Tryz.underlying3;have u4:=mzu Tryz.underlying9;have u5:=mzu Tryz.underlying4;have hS:Mz.prog.underlying 74=some (.struct (Mz.prog.fieldsOf 74)):=by kernel_rfl
 have hp:Mz.prog.stoodInHeld 74=false:=by kernel_rfl
 rw [show (10000:Nat)=9999+1 from rfl,run_equalIn_agg w 9999 74 _ _ hS hp];simp only [Program.fieldsOf,mzu Tryz.underlying74];go_simp
theorem guardDev (p q:Operand) (s:ByteArray) (x y:Bool) (t:Int) (w:World):Sem.run Mz.prog (eqGuard .neq 74 p q (.agg #[.string s,.bool x,.bool y,.int .i64 t]) (.agg #[.string s,.bool x,.bool y,.int .i64 t])) w=.ok () w:=by kernel_rfl
theorem same_at {w:World} {b:Fbk} {vm vd vt um ud ut:Value} (hB:FBookAt w b vm vd vt) (hC:FBookAt w b um ud ut) :
 Calls Mz.prog 52 #[.agg #[vm,vd,vt],.agg #[um,ud,ut]] w fun e w'=>e=.returned (.bool true)/\Below w.heap.size w w':=by
 obtain ⟨rfl,⟨ma,mc,rfl,hM,hml⟩,sa,sc,rfl,hS,hsl⟩:=hB;obtain ⟨rfl,⟨na,nc,rfl,hN,_⟩,ta,tc,rfl,hT,_⟩:=hC;have HM:=Hh hM;have HN:=Hh hN;have HS:=Hh hS;have HT:=Hh hT;clear hM hN hS hT
 go_enter (mz_func (i:=52) rfl Tryz.func52),Tryz.ntmps52
 go_wp2;obtain ⟨W0,hW0⟩:∃ W0,W0=(w.alloc (.cells #[.int .i64 b.most,.slice ma b.devs.length mc,.slice sa b.tests.length sc] 25)).alloc (.cells #[.int .i64 b.most,.slice na b.devs.length nc,.slice ta b.tests.length tc] 25):=⟨_,rfl⟩;rw [<- hW0];have hb0:Below w.heap.size w W0:=by rw [hW0];(exact bel)
 have nn:∀ k u,(#[.int .i64 b.most,.slice ma b.devs.length mc,.slice sa b.tests.length sc]:Array Value)[k]? = some u->W0.cell? ⟨w.heap.size,k,none⟩=some u:=fun k u hk=>by
  rw [hW0,World.cell?_alloc_past _ _ _ (by simp),World.cell?_alloc_at _ _ _ _ rfl];exact hk
 have zz:∀ k u,(#[.int .i64 b.most,.slice na b.devs.length nc,.slice ta b.tests.length tc]:Array Value)[k]? = some u->W0.cell? ⟨w.heap.size+1,k,none⟩=some u:=fun k u hk=>by
  rw [hW0,World.cell?_alloc_at _ _ _ _ (by simp)];exact hk
 have hs0:w.heap.size+1 < W0.heap.size:=by rw [hW0];simp
 have hs1:w.heap.size < W0.heap.size:=by omega
 have NN:=Hh nn;have ZZ:=Hh zz;have HB0:=Hh hb0;clear hW0 nn zz hb0;go_loopw [5] (fun i wr=>∃ k:Nat,k<=b.devs.length/\i=.int .i64 k/\Below W0.heap.size W0 wr) (fun i _=>b.devs.length - (intOf i).toNat)
 case atStart=>exact ⟨0,Nat.zero_le _,rfl,Below.refl _ _⟩
 case round =>
  obtain ⟨k,hk,rfl,hW⟩:=hrel;have hWs:=hW.size;have hbr:=Below.next HB0.out hW;have x0:=(hW.cell (p:=⟨w.heap.size,1,none⟩) hs1).trans (NN.out 1 _ rfl);have y0:=(hW.cell (p:=⟨w.heap.size+1,1,none⟩) hs0).trans (ZZ.out 1 _ rfl);have hx1:w.heap.size < wr.heap.size:=by omega
  have hx2:w.heap.size+1 < wr.heap.size:=by omega
  by_cases hlt:k < b.devs.length
  ·obtain ⟨lb,lo,rfl,hlb,e0,e1,e2,e3⟩:=HM.out k hlt;obtain ⟨nb,no,rfl,hnb,f0,f1,f2,f3⟩:=HN.out k hlt;have e0:=(hbr.cell hlb).trans e0;have e1:=(hbr.cell hlb).trans e1;have e2:=(hbr.cell hlb).trans e2;have e3:=(hbr.cell hlb).trans e3;have f0:=(hbr.cell hnb).trans f0;have f1:=(hbr.cell hnb).trans f1;have f2:=(hbr.cell hnb).trans f2;have f3:=(hbr.cell hnb).trans f3;have hlb2:lb < wr.heap.size:=Nat.lt_of_lt_of_le hlb hbr.size;have hnb2:nb < wr.heap.size:=Nat.lt_of_lt_of_le hnb hbr.size;generalize b.devs[k]=m at e0 e1 e2 e3 f0 f1 f2 f3;have heq:=fun w=>eqDev m.name m.held m.blind m.time w;have hgd:=fun p q w=>guardDev p q m.name m.held m.blind m.time w;go_wp2;go_quiet (fail);go_wp2;go_roundw
   case rel=>exact ⟨k+1,by omega,by go_num,bel⟩
   case measure=>simp [intOf];omega
  ·obtain rfl:k=b.devs.length:=by omega
   clear hlt;go_wp2;go_loopw [6] (fun i wr=>∃ k:Nat,k<=b.tests.length/\i=.int .i64 k/\Below W0.heap.size W0 wr) (fun i _=>b.tests.length - (intOf i).toNat)
   case atStart=>exact ⟨0,Nat.zero_le _,rfl,hW⟩
   case round =>
    obtain ⟨k,hk,rfl,hW⟩:=hrel;have hWs:=hW.size;have hbr:=Below.next HB0.out hW;have x0:=(hW.cell (p:=⟨w.heap.size,2,none⟩) hs1).trans (NN.out 2 _ rfl);have y0:=(hW.cell (p:=⟨w.heap.size+1,2,none⟩) hs0).trans (ZZ.out 2 _ rfl);have hx1:w.heap.size < wr.heap.size:=by omega
    have hx2:w.heap.size+1 < wr.heap.size:=by omega
    by_cases hlt:k < b.tests.length
    ·obtain ⟨lb,lo,rfl,hlb,pa,pc,e0,g1,g2,g3,e1⟩:=HS.out k hlt;obtain ⟨nb,no,rfl,hnb,pa2,pc2,f0,i1,i2,i3,f1⟩:=HT.out k hlt;have e0:=(hbr.cell hlb).trans e0;have f0:=(hbr.cell hnb).trans f0;have e1:=(hbr.cell hlb).trans e1;have f1:=(hbr.cell hnb).trans f1;have hlb2:lb < wr.heap.size:=Nat.lt_of_lt_of_le hlb hbr.size;have hnb2:nb < wr.heap.size:=Nat.lt_of_lt_of_le hnb hbr.size;generalize b.tests[k]=m at e0 f0 e1 f1 g1 g2 g3 i1 i2 i3;have G3:=Hh (g3.below hbr);have I3:=Hh (i3.below hbr);clear g3 i3;have hse:(m.seen != m.seen)=false:=by simp
     go_wp2
     (refine wp_region_bel (by kernel_rfl) (by kernel_rfl) ?_;(repeat (go_big_quiet_step ((go_at_call 23;with_reducible exact Calls.bel_of (sameNums_at (t:=true) (G3.out.below (later_below _ _)) (I3.out.below (later_below _ _)) rfl rfl g2 g2 (by simp))))));refine wpQuiet_nil ?_;rintro _ ⟨xq,rfl⟩)
     go_wp2;go_roundw
     case rel=>exact ⟨k+1,by omega,by go_num,Below.next hW (later_below _ _)⟩
     case measure=>simp [intOf];omega
    ·obtain rfl:k=b.tests.length:=by omega
     clear hlt;go_wp2;go_ret;exact ⟨rfl,hbr⟩
end Mt
namespace Mt
open Go Go.RowKit
theorem claim_one {α:Type} (p:α->Bool) (l:List α):claimI (l.countP p) l.length=1↔l≠[]/\∀ x∈l,p x=true:=by
 unfold claimI;rcases l with _ | ⟨a,l⟩
 ·simp
 by_cases h0:(a::l).countP p=0
 ·rw [if_pos h0];refine ⟨fun h=>absurd h (by decide),fun h=>?_⟩;exact absurd (h.2 a (by simp)) (by have:=List.countP_eq_zero.1 h0 a (by simp);simpa using this)
 ·rw [if_neg h0];by_cases h1:(a::l).countP p=(a::l).length
  ·rw [if_pos h1];exact ⟨fun _=>⟨by simp,List.countP_eq_length.1 h1⟩,fun _=>rfl⟩
  ·rw [if_neg h1];exact ⟨fun h=>absurd h (by decide),fun h=>absurd (List.countP_eq_length.2 h.2) h1⟩
theorem claim_two {α:Type} (p:α->Bool) (l:List α):claimI (l.countP p) l.length=2↔∀ x∈l,p x=false:=by
 unfold claimI;by_cases h0:l.countP p=0
 ·rw [if_pos h0];exact ⟨fun _ x hx=>by have:=List.countP_eq_zero.1 h0 x hx;simpa using this,fun _=>rfl⟩
 ·rw [if_neg h0];refine ⟨fun h=>?_,fun h=>absurd (List.countP_eq_zero.2 fun x hx=>by simp [h x hx]) h0⟩;split at h <;> exact absurd h (by decide)
theorem mem_susp {l:List (Nat->Nat)} {k:Nat} {x:Int}:x∈suspTo l k↔∃ i:Nat,i < k/\x=(i:Int)/\¬(l≠[]/\∀ s∈l,s i=0):=by
 unfold suspTo goodC;simp only [List.mem_map,List.mem_filter,List.mem_range,decide_eq_true_eq,ne_eq];constructor
 ·rintro ⟨i,⟨h1,h2⟩,rfl⟩;exact ⟨i,h1,rfl,fun h=>h2 ((claim_one _ _).2 ⟨h.1,fun s hs=>by simp [h.2 s hs]⟩)⟩
 ·rintro ⟨i,h1,rfl,h2⟩;exact ⟨i,⟨h1,fun h=>h2 ⟨((claim_one _ _).1 h).1,fun s hs=>by simpa using ((claim_one _ _).1 h).2 s hs⟩⟩,rfl⟩
theorem susp_sub {l m:List (Nat->Nat)} {k:Nat} (hm:m≠[]) (hs:∀ x∈m,x∈l):((suspTo m k).all fun x=>decide (x∈suspTo l k))=true:=by
 rw [List.all_eq_true];intro x hx;obtain ⟨i,h1,rfl,h2⟩:=mem_susp.1 hx;exact decide_eq_true (mem_susp.2 ⟨i,h1,rfl,fun h=>h2 ⟨hm,fun s hx=>h.2 s (hs s hx)⟩⟩)
def goodB (b:Fbk) (i:Nat) (hi:i < b.devs.length):Fbk:={ b with devs:=b.devs.set i { b.devs[i] with held:=false,blind:=false } }
theorem histL_keep:∀ (l:List Dev) (i left:Nat) (s:Nat->Nat),∀ x∈histL l i left s,∀ m,m < i->x m=s m
 | [],_,_,s,x,hx,m,_=>by
  simp only [histL,List.mem_singleton] at hx;subst hx;rfl
 | d::l,i,left,s,x,hx,m,hm=>by
  have key:∀ left' k,x∈histL l (i+1) left' (setS s i k)->x m=s m:=fun left' k h=>by
   rw [histL_keep l _ _ _ x h m (by omega)];unfold setS;rw [if_neg (by omega)]
  simp only [histL,List.mem_append] at hx;rcases hx with hx | hx | hx
  ·exact key _ _ hx
  ·split at hx
   ·exact key _ _ hx
   ·cases hx
  ·split at hx
   ·exact key _ _ hx
   ·cases hx
theorem histL_at {l:List Dev} {i left:Nat} {s:Nat->Nat} {k:Nat} {x:Nat->Nat} (h:x∈histL l (i+1) left (setS s i k)):x i=k:=by
 rw [histL_keep _ _ _ _ x h i (by omega)];unfold setS;rw [if_pos rfl]
theorem histL_good:∀ (l:List Dev) (i k left:Nat) (s:Nat->Nat) (h:i < l.length),histL (l.set i { l[i] with held:=false,blind:=false }) k left s=(histL l k left s).filter fun x=>decide (x (k+i)=0)
 | [],i,_,_,_,h=>absurd h (Nat.not_lt_zero i)
 | d::l,0,k,left,s,h=>by
  show histL ({ d with held:=false,blind:=false }::l) k left s=_;have e0:∀ left',(histL l (k+1) left' (setS s k 0)).filter (fun x=>decide (x k=0))=histL l (k+1) left' (setS s k 0):=fun left'=>List.filter_eq_self.2 fun x hx=>by simp [histL_at hx]
  have e1:∀ left' v,v≠0->(histL l (k+1) left' (setS s k v)).filter (fun x=>decide (x k=0))=[]:=fun left' v hv=>List.filter_eq_nil_iff.2 fun x hx=>by simp [histL_at hx,hv]
  simp only [histL,List.filter_append,Nat.add_zero,e0];congr 1;have f1:∀ (c:Prop) [Decidable c] left' v,v≠0->(if c then histL l (k+1) left' (setS s k v) else []).filter (fun x=>decide (x k=0))=[]:=fun c _ left' v hv=>by
   split
   ·exact e1 _ _ hv
   ·rfl
  rw [f1 _ _ _ (by decide),f1 _ _ _ (by decide)];simp
 | d::l,i+1,k,left,s,h=>by
  have hi:i < l.length:=by simpa using h
  show histL (d::l.set i { l[i]'hi with held:=false,blind:=false }) k left s=_;simp only [histL,List.filter_append];have ih:∀ left' s',histL (l.set i { l[i]'hi with held:=false,blind:=false }) (k+1) left' s'=(histL l (k+1) left' s').filter fun x=>decide (x (k+(i+1))=0):=fun left' s'=>by
   rw [histL_good l i (k+1) left' s' hi];congr 1;funext x;rw [show k+1+i=k+(i+1) by omega]
  rw [ih,ih,ih];congr 1;congr 1
  ·split <;> rfl
  ·split <;> rfl
theorem hists_good {b:Fbk} {i:Nat} (hi:i < b.devs.length):histsI (goodB b i hi)=(histsI b).filter fun s=>decide (s i=0):=by
 unfold histsI goodB;simp only;rw [histL_good b.devs i 0 b.most.toNat _ hi,List.filter_filter,List.filter_filter];congr 1;funext s;rw [Nat.zero_add,Bool.and_comm]
theorem good_sub {b:Fbk} {i:Nat} (hi:i < b.devs.length):∀ s∈histsI (goodB b i hi),s∈histsI b:=by
 rw [hists_good];exact fun s hx=>(List.mem_filter.1 hx).1
theorem good_no {b:Fbk} {i k:Nat} (hi:i < b.devs.length) (hne:histsI (goodB b i hi)≠[]):((i:Int)) ∉ suspTo (histsI (goodB b i hi)) k:=fun h=>by
 obtain ⟨j,_,e,h2⟩:=mem_susp.1 h;have e:i=j:=by omega
 subst e;refine h2 ⟨hne,fun s hs=>?_⟩;rw [hists_good] at hs;simpa using (List.mem_filter.1 hs).2
theorem good_same {b:Fbk} {i:Nat} (hi:i < b.devs.length) (hne:histsI b≠[]):(histsI (goodB b i hi)).length=(histsI b).length↔(i:Int) ∉ suspTo (histsI b) b.devs.length:=by
 rw [hists_good,mem_susp];constructor
 ·rintro h ⟨j,_,e,h2⟩;have e:i=j:=by omega
  subst e;refine h2 ⟨hne,fun s hs=>?_⟩;have:=List.filter_eq_self.1 (List.Sublist.eq_of_length List.filter_sublist h) s hs;simpa using this
 ·intro h;by_cases h':∀ s∈histsI b,s i=0
  ·rw [List.filter_eq_self.2 fun s hs=>by simp [h' s hs]]
  ·exact absurd ⟨i,hi,rfl,fun hh=>h' hh.2⟩ h
theorem good_le {b:Fbk} {i:Nat} (hi:i < b.devs.length):(histsI (goodB b i hi)).length<=(histsI b).length:=by
 rw [hists_good];exact List.length_filter_le _ _
theorem good_none {b:Fbk} {i:Nat} (hi:i < b.devs.length) (hne:histsI b≠[]) (h0:histsI (goodB b i hi)=[]):heldI b (i:Int) 1≠2\/heldI b (i:Int) 2≠2:=by
 rw [hists_good] at h0;obtain ⟨s,hs⟩:=List.exists_mem_of_ne_nil _ hne;have h3:=hists_lt hs i;have hn:s i≠0:=fun e=>by
  have:=List.filter_eq_nil_iff.1 h0 s hs;simp [e] at this
 have:s i=1\/s i=2:=by omega
 rcases this with e | e
 ·refine .inl fun h=>?_;have:=(claim_two _ _).1 h s hs;simp [e] at this
 ·refine .inr fun h=>?_;have:=(claim_two _ _).1 h s hs;simp [e] at this
end Mt
namespace Mt
open Go Go.RowKit Go.Maps Go.Conc
attribute [local go_sem] Oper.semAt_some
theorem bookZero:(Tryz.prog.info? 25).map (fun i=>(i.zero,i.size))=some (some (.agg #[.int .i64 0,.slice none 0 0,.slice none 0 0]),3):=by kernel_rfl
section
variable {P:Program} {K:Frame->List Frame->World->Prop} {b:Frame} {a:Act} {w0 w:World} {I:World->Prop} {k:List Item} {cs:List Frame} {n:Nat} {l:List (Nat × Value)} {D:List Deferred}
theorem co_boxS (hi:Ivt w0 I w) {ops:Array Oper} {i i2 j s:Nat} {rest:List Nat} {c0 c1 c2:Value} (q:Kn a n l) (hd:a.defers=D) {o o2:Oper} (ho:ops[i]? = some o) (hop:o.op=.alloc 25) (hw:∀ y,Region.wanted o y=true) (hdst:o.dst=some j)
 (ho2:ops[i2]? = some o2) (hop2:o2.op=.store 25 (.tmp j) (.tmp s)) (hw2:∀ y,Region.wanted o2 y=true) (hdst2:o2.dst=none) (hs:a.tmps[s]? = some (.agg #[c0,c1,c2])) (hne:s≠j) (hj:j < n) (h1:(#[c0,c1,c2]:Array Value).all (·.oneCell')=true)
 (h:∀ r a1 w1,Ivt w0 (fun w=>I w/\BoxAt r #[c0,c1,c2] w) w1->a1.defers=D->Kn a1 n ((j,.pointer (some ⟨r,0,none⟩))::l.filter fun x=>x.1 != j)->Leads Tryz.prog K (b.at a1 (.inRegion ops rest::k)) cs w1)
 (hb:b.kind=.normal:=by rfl):Leads Tryz.prog K (b.at a (.inRegion ops (i::i2::rest)::k)) cs w:=by
 obtain ⟨zf,zs⟩:=zero_of_info bookZero;have hbe:b.kind≠.early:=by rw [hb];decide
 intro L hL W Dd hv;have hsz:w.heap.size=W.heap.size:=hv.size;have e1:∀ V:World,(execOp a.eval o).run Tryz.prog V=.ok (.value (.pointer (some ⟨V.heap.size,0,none⟩))) (V.alloc (.cells #[.int .i64 0,.slice none 0 0,.slice none 0 0] 25))/\(execOp a.eval o).events Tryz.prog V #[]=#[]:=fun V=>by
  have ee:execOp a.eval o=execOp a.eval { o with op:=.alloc 25 }:=by unfold execOp;rw [hop]
  rw [ee];exact ⟨by simp [go_sem,zf],by simp [go_sem,zf]⟩
 obtain ⟨a1,ha1⟩:∃ a1,a1=a.put (some j) (.pointer (some ⟨W.heap.size,0,none⟩)):=⟨_,rfl⟩;have q1:Kn a1 n ((j,.pointer (some ⟨W.heap.size,0,none⟩))::l.filter fun x=>x.1 != j):=by rw [ha1];exact q.cons hj _
 have hs1:a1.tmps[s]? = some (.agg #[c0,c1,c2]):=by
  rw [ha1];show (a.tmps.setIfInBounds j _)[s]? = _;rw [Array.getElem?_setIfInBounds,if_neg (Ne.symm hne)];exact hs
 have e2:∀ V:World,V.heap.size=W.heap.size->(execOp a1.eval o2).run Tryz.prog (V.alloc (.cells #[.int .i64 0,.slice none 0 0,.slice none 0 0] 25))=.ok .skip (V.alloc (.cells #[c0,c1,c2] 25))/\∀ e∈(execOp a1.eval o2).events Tryz.prog (V.alloc (.cells #[.int .i64 0,.slice none 0 0,.slice none 0 0] 25)) #[],∃ k,e.loc=.cell ⟨W.heap.size,k,none⟩:=fun V hV=>by
  have hj1:a1.eval (.tmp j)=.pointer (some ⟨V.heap.size,0,none⟩):=by rw [hV];exact q1.ev j (by simp)
  have hj2:a1.eval (.tmp s)=.agg #[c0,c1,c2]:=by show a1.tmps.getD s undef=_;rw [Array.getD_eq_getD_getElem?,hs1];rfl
  have hex:execOp a1.eval o2=(do Instr.storeAt 25 (.pointer (some ⟨V.heap.size,0,none⟩)) (.agg #[c0,c1,c2]);pure Next.skip):=by
   unfold execOp;rw [hop2];simp only [hj1,hj2]
  rw [hex];have hst:=run_storeAt_new (P:=Tryz.prog) V 25 #[.int .i64 0,.slice none 0 0,.slice none 0 0] #[c0,c1,c2] zs rfl h1;refine ⟨by simp only [Sem.run_bind,hst,Result.andThen,Sem.run_pure],fun e he=>?_⟩;have hone:c0.oneCell'=true/\c1.oneCell'=true/\c2.oneCell'=true:=by simpa using h1
  have r0:=fun (w:World) a m=>run_store Tryz.prog w a c0 m hone.1;have r1:=fun (w:World) a m=>run_store Tryz.prog w a c1 m hone.2.1;have e0:=fun (w:World) es a m=>events_store (P:=Tryz.prog) (w:=w) (es:=es) a c0 m hone.1;have e1:=fun (w:World) es a m=>events_store (P:=Tryz.prog) (w:=w) (es:=es) a c1 m hone.2.1;have e2:=fun (w:World) es a m=>events_store (P:=Tryz.prog) (w:=w) (es:=es) a c2 m hone.2.2;have y:∀ k u,(#[.int .i64 0,.slice none 0 0,.slice none 0 0]:Array Value)[k]? = some u->(V.alloc (.cells #[.int .i64 0,.slice none 0 0,.slice none 0 0] 25)).cell? ⟨V.heap.size,k,none⟩=some u:=fun k u h=>by rw [World.cell?_alloc_at _ _ _ _ rfl];exact h
  have y0:=y 0 _ rfl;have y1:=y 1 _ rfl;have y2:=y 2 _ rfl;have f:∀ k,(V.alloc (.cells #[.int .i64 0,.slice none 0 0,.slice none 0 0] 25)).frozen? ⟨V.heap.size,k,none⟩=false:=fun k=>by rw [World.frozen?_alloc_at _ _ _ _ rfl]
  simp [go_sem,r0,r1,e0,e1,e2,y0,f] at he;rcases he with rfl | rfl | rfl
  ·exact ⟨0,by rw [hV]⟩
  ·exact ⟨1,by rw [hV]⟩
  ·exact ⟨2,by rw [hV]⟩
 refine .step fun d=>⟨_,cs,(W.at d).alloc (.cells #[.int .i64 0,.slice none 0 0,.slice none 0 0] 25),_,stepG_value ho (hw _) hbe (e1 _).1,fun e hm=>?_,(by show W.heap.size<=(W.heap.push _).size;rw [Array.size_push];omega),?_⟩
 ·have:=seen_mem hm;rw [(e1 _).2] at this;simp at this
 rw [hdst];show LeadsR Tryz.prog L Dd _ (b.at (a.put (some j) (.pointer (some ⟨W.heap.size,0,none⟩))) _) cs _;rw [<- ha1];refine .step fun d2=>⟨_,cs,((W.at d).at d2).alloc (.cells #[c0,c1,c2] 25),_,stepG_none ho2 (hw2 _) hbe (e2 ((W.at d).at d2) rfl).1,fun e hm=>?_,(by show (W.heap.push _).size<=(W.heap.push _).size;rw [Array.size_push,Array.size_push];omega),?_⟩
 ·obtain ⟨k,hk⟩:=(e2 ((W.at d).at d2) rfl).2 e (seen_mem hm);unfold EvOk;rw [hk];refine ⟨(by show W.heap.size < (W.heap.push _).size;rw [Array.size_push];omega),fun hD=>?_⟩;obtain ⟨⟨x,h3,_⟩,_⟩:=hv.gone _ hD;exact absurd (Array.getElem?_eq_some_iff.1 h3).1 (Nat.lt_irrefl _)
 rw [hdst2];have hst:Stays w (((w.at d).at d2).alloc (.cells #[c0,c1,c2] 25)):=⟨rfl,(by show w.heap.size<=(w.heap.push _).size;rw [Array.size_push];omega),fun r hr=>by
  show (w.heap.push _)[r]? = _
  rw [Array.getElem?_push,if_neg (by omega)],ConcM.OsLater.refl _⟩
 have hbx:BoxAt W.heap.size #[c0,c1,c2] (((w.at d).at d2).alloc (.cells #[c0,c1,c2] 25)):=⟨by show W.heap.size < (w.heap.push _).size;rw [Array.size_push];omega,fun k v e=>by
  have hsz':W.heap.size=((w.at d).at d2).heap.size:=hsz.symm
  rw [hsz',World.cell?_alloc_at _ _ _ _ rfl]
  exact e⟩
 exact h _ a1 _ (hi.and hst (fun _ _ ha x=>x.alike ha) hbx) (by rw [ha1];exact hd) q1 L (by show L<=(w.heap.push _).size;rw [Array.size_push];omega) _ _ (((hv.at d).at d2).alloc _)
theorem op_build {o:Oper} (ho:o.op=.build 25 #[]):∀ W:World,(execOp a.eval o).run Tryz.prog W=.ok (.value (.agg #[.int .i64 0,.slice none 0 0,.slice none 0 0])) W/\(execOp a.eval o).events Tryz.prog W #[]=#[]:=fun W=>by
 obtain ⟨zf,zs⟩:=zero_of_info bookZero;have ee:execOp a.eval o=execOp a.eval { o with op:=.build 25 #[] }:=by unfold execOp;rw [ho]
 rw [ee];exact ⟨by simp [go_sem,zf],by simp [go_sem,zf]⟩
theorem op_rem2 {o:Oper} {p q:Nat} {t u:TypeId} {k m N:Nat} (hm:k % N=m) (ho:o.op=.binOp .rem t (.tmp p) (.tmp q) u) (hx:a.tmps[p]? = some (.int .i64 (k:Int))) (hy:a.tmps[q]? = some (.int .i64 (N:Int))) (hn:0 < N) (hk:k<=255) :
 ∀ W:World,(execOp a.eval o).run Tryz.prog W=.ok (.value (.int .i64 (m:Int))) W/\(execOp a.eval o).events Tryz.prog W #[]=#[]:=by
 subst hm;exact op_rem ho hx hy hn hk
end
theorem FBookAt.one {w:World} {b:Fbk} {vm vd vt:Value} (h:FBookAt w b vm vd vt):(#[vm,vd,vt]:Array Value).all (·.oneCell')=true:=by
 obtain ⟨rfl,⟨_,_,rfl,_⟩,_,_,rfl,_⟩:=h;simp [Value.oneCell']
end Mt
namespace Mt
open Go Go.RowKit Go.Maps
attribute [local go_sem] Oper.semAt_some
theorem box_ks {w2 w3 w6:World} {r2 B:Nat} {a0 a1 a2:Value} (hb:Below w2.heap.size w2 w3) (hk:KS (fun y=>y≠r2) w3 w6) (hs:B < w2.heap.size) (hr:w2.heap.size<=r2)
 (y0:w2.cell? ⟨B,0,none⟩=some a0) (y1:w2.cell? ⟨B,1,none⟩=some a1) (y2:w2.cell? ⟨B,2,none⟩=some a2) (f:∀ k,w2.frozen? ⟨B,k,none⟩=false) :
 w6.cell? ⟨B,0,none⟩=some a0/\w6.cell? ⟨B,1,none⟩=some a1/\w6.cell? ⟨B,2,none⟩=some a2/\∀ k,w6.frozen? ⟨B,k,none⟩=false:=by
 have z3:=hb.size;have hc:∀ k,w6.cell? ⟨B,k,none⟩=w2.cell? ⟨B,k,none⟩:=fun k=>(hk.cell (x:=⟨B,k,none⟩) (by show B < w3.heap.size;omega) (by show B≠r2;omega)).trans (hb.cell (p:=⟨B,k,none⟩) hs);have hf:∀ k,w6.frozen? ⟨B,k,none⟩=w2.frozen? ⟨B,k,none⟩:=fun k=>(hk.frozen (x:=⟨B,k,none⟩) (by show B < w3.heap.size;omega) (by show B≠r2;omega)).trans (hb.frozen (p:=⟨B,k,none⟩) hs);exact ⟨(hc 0).trans y0,(hc 1).trans y1,(hc 2).trans y2,fun k=>(hf k).trans (f k)⟩
theorem good_len {b:Fbk} {i:Nat} (hi:i < b.devs.length):(goodB b i hi).devs.length=b.devs.length:=by simp [goodB]
theorem good_names {b:Fbk} {i:Nat} (hi:i < b.devs.length) (hN:∀ m∈b.devs,m.name.size<=1000000):∀ m∈(goodB b i hi).devs,m.name.size<=1000000:=fun m hm=>by
 rcases List.mem_or_eq_of_mem_set hm with h | rfl
 ·exact hN m h
 ·exact hN b.devs[i] (List.getElem_mem hi)
section
variable {b:Fbk} {vm vd vt:Value} {w:World}
theorem good_at (hB:FBookAt w b vm vd vt) (hN:∀ m∈b.devs,m.name.size<=1000000) (hb:bookAl b=0) {i:Nat} (hi:i < b.devs.length) (hA:ActsAt w) :
 Calls Mz.prog 53 #[.agg #[vm,vd,vt],.int .i64 (i:Int)] w (NewsRet w (goodB b i hi)):=by
 have HB:=Hh hB;have HN:=Hh hN;have H0:=Hh hb;obtain ⟨hd1,hd6,_,_⟩:=devsAl_ok (bookAl_ok hb).1;have h20:=(testsAl_ok (bookAl_ok hb).2).1;have hiI:(i:Int) < (b.devs.length:Int):=by omega
 obtain ⟨rfl,⟨da,dc,rfl,hD,_⟩,ta,tc,rfl,_,_⟩:=hB;obtain ⟨db,do_,rfl,hdb,_⟩:=hD i hi;have HA:=Hh hA;have hp20:∀ t∈b.tests,t.path.length<=20:=fun t ht=>by have:=(pathAl_ok ((testsAl_ok (bookAl_ok hb).2).2 t ht).1).1.2;omega
 have hd20:b.devs.length<=20:=by omega
 have hin:(if inB (i:Int) 0 ((b.devs.length:Int) - 1) then (0:Int) else 6)=0:=by unfold inB;simp;omega
 have HIN:=Hh hin;clear hN hb hD hA hin
 go_enter (mz_func (i:=53) rfl Tryz.func53),Tryz.ntmps53
 go_wp2_with (first
  | (go_at_call 78;(with_reducible refine (checkBook_at (HB.out.below (bel)) HN.out H0.out).mono ?_);rintro e w1 ⟨rfl,hb1⟩;obtain ⟨hs1,z0,z1,z2,f0,y0,y1,y2,f1⟩:=ret_box hb1;obtain ⟨u0,u1,u2,u3,u4,u5⟩:=arg_box hb1;have HBB:=Hh (show Below w.heap.size w w1 from bel);have HB1:=Hh hb1;clear hb1)
  | (go_at_call 79;(with_reducible refine (device_at (HB.out.below HBB.out) HIN.out).mono ?_);rintro e w2 ⟨rfl,hb2⟩;have HB2:=Hh hb2;clear hb2;obtain ⟨v0,v1,v2,fv⟩:w2.cell? ⟨w.heap.size,0,none⟩=some _/\w2.cell? ⟨w.heap.size,1,none⟩=some _/\w2.cell? ⟨w.heap.size,2,none⟩=some _/\w1.heap.size<=w2.heap.size:=⟨(HB2.out.cell (p:=⟨w.heap.size,0,none⟩) (by show w.heap.size < w1.heap.size;omega)).trans u0,(HB2.out.cell (p:=⟨w.heap.size,1,none⟩) (by show w.heap.size < w1.heap.size;omega)).trans u1,(HB2.out.cell (p:=⟨w.heap.size,2,none⟩) (by show w.heap.size < w1.heap.size;omega)).trans u2,HB2.out.size⟩)
  | (go_at_call 114;(with_reducible refine (copied_at (HB.out.below (Below.next HBB.out HB2.out)) hd20 (by omega) hp20).mono ?_);rintro e w3 ⟨g1,c1,g2,c2,rfl,hown⟩;have HO:=Hh hown;clear hown;obtain ⟨r2,rfl,k2,k3,k4,k5⟩:=HO.out.dev (by omega)))
 have e1:w3.cell? ⟨r2,i * 4+1,none⟩=some (.bool b.devs[i].held):=k5 _ _ (cellsD_get b.devs i hi).2.1;have e2:w3.cell? ⟨r2,i * 4+2,none⟩=some (.bool b.devs[i].blind):=k5 _ _ (cellsD_get b.devs i hi).2.2.1
 go_region
 have HG:Hid (OwnBook w2 _ (goodB b i hi) _ _ _ _):=Hh (HO.out.good rfl hi);have hl:(goodB b i hi).devs.length<=20/\(goodB b i hi).tests.length<=20/\∀ t∈(goodB b i hi).tests,t.path.length<=20:=⟨by rw [good_len];omega,by show b.tests.length<=20;omega,hp20⟩;have HL:=Hh hl;have HB3:=Hh (Below.next (Below.next HBB.out HB2.out) HO.out.bel);have HAG:=Hh (fun (W:World) (um ud ut:Value) (h1:FBookAt W (goodB b i hi) um ud ut) (h2:ActsAt W)=>agreed_at h1 (good_names hi HN.out) h2);have hw2:=(Below.next HBB.out HB2.out).size;have HF2:Hid (∀ k,w2.frozen? ⟨w.heap.size+1,k,none⟩=false):=Hh fun k=>(HB2.out.frozen (p:=⟨w.heap.size+1,k,none⟩) hs1).trans (f1 k);have hbk:∀ W',KS (fun _=>True) ((w3.setCell ⟨r2,i * 4+1,none⟩ (.bool false)).setCell ⟨r2,i * 4+2,none⟩ (.bool false)) W'->FBookAt W' (goodB b i hi) (.int .i64 b.most) (.slice (some ⟨r2,0,none⟩) b.devs.length c1) (.slice g2 b.tests.length c2):=fun W' hk=>by
  have:=HG.out.late hk (fun _ _=>trivial) HL.out.1 HL.out.2.1 HL.out.2.2;rw [good_len] at this;exact this
 have HBK:=Hh hbk;clear hl hbk e1 e2;go_wp2_with (go_at_call 116;go_loud ((with_reducible refine (HAG.out _ _ _ _ ?_ ?_).mono ?_);exact HBK.out _ ((KS.alloc _ _ _).trans (KS.drew _ _));exact HA.out.below (Below.trans (Below.al (Below.setCell (Below.setCell HB3.out (by show w.heap.size<=r2;omega) _) (by show w.heap.size<=r2;omega) _) _) (KS.to_below (KS.drew _ _) (by simp [World.setCell];have:=HB3.out.size;omega)));rintro e w6 ⟨m,a1,n1,m1,a2,n2,m2,rfl,hu,hb6⟩;have HB6:=Hh hb6;clear hb6;obtain ⟨q0,q1,q2,qf⟩:=box_ks (B:=w.heap.size+1) (r2:=r2) HO.out.bel ((((KS.setCell (by simp) _ _).trans (KS.setCell (by simp) _ _)).trans ((KS.alloc _ _ _).trans (KS.drew _ _))).trans (KS.all HB6.out _)) (by omega) k2 ((HB2.out.cell (p:=⟨w.heap.size+1,0,none⟩) hs1).trans y0) ((HB2.out.cell (p:=⟨w.heap.size+1,1,none⟩) hs1).trans y1) ((HB2.out.cell (p:=⟨w.heap.size+1,2,none⟩) hs1).trans y2) HF2.out));exact bodyPost_ret (v:=.tuple #[.agg #[.int .i64 m,.slice a1 n1 m1,.slice a2 n2 m2],.int .i64 (openAl (goodB b i hi) 0)]) (by simp [results,Tryz.results53,go_sem, *]) rfl ⟨_,_,_,rfl,news_book (p:=fun y=>y≠w.heap.size+1) HG.out (((KS.alloc _ _ _).trans (KS.drew _ _)).trans ((KS.all HB6.out _).trans (((KS.setCell (by simp) _ _).trans (KS.setCell (by simp) _ _)).trans (KS.setCell (by simp) _ _)))) (fun r hr=>by show r≠w.heap.size+1;omega) HL.out.1 HL.out.2.1 HL.out.2.2 (by rw [good_len];exact hu.out),Below.setCell (Below.setCell (Below.setCell (Below.next (Below.trans (Below.al (Below.setCell (Below.setCell HB3.out (by show w.heap.size<=r2;omega) _) (by show w.heap.size<=r2;omega) _) _) (KS.to_below (KS.drew _ _) (by simp [World.setCell];have:=HB3.out.size;omega))) HB6.out) (by simp) _) (by simp) _) (by simp) _⟩
end
end Mt
end Go.Proofs.YtgkajecjbflbbaaGreatDoor
