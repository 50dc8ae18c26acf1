/- Leads to the Store laws of chapter 6: T1 T2 T3 T4. -/
import Derived.Test.YtfggbepickdokaaGreatDoorT14
set_option maxHeartbeats 2000000
set_option maxRecDepth 100000
set_option linter.all false
namespace Go.Proofs.YtfggbepickdokaaGreatDoor
open Go.RowKit Go.Maps Sp
attribute [local go_sem] Oper.semAt_some
def timedAsk (now:Int):Int:=if inB now 0 999 then 0 else 1
def planAsk (ml:Nat) (pn:Nat) (now:Int):Int:=if timedAsk now≠0 then timedAsk now else if pn≠ml then 2 else 0
section
variable {b:Bk} {vr vg vm vs vc:Value} {w:World}
def TimedOut (w:World) (now:Int) (e:Ending) (w':World):Prop:=∃ B,e=.returned (.func (.func 98) #[] #[.pointer (some ⟨B,0,none⟩)])∧B < w'.heap.size∧w'.cell? ⟨B,0,none⟩=some (.int .i64 now)∧Below w.heap.size w w'
theorem timed_at (now:Int) (w:World):Calls Tryz.prog 47 #[.int .i64 now] w (TimedOut w now):=by
 go_enter Tryz.func47,Tryz.ntmps47
 go_wp2
 go_ret
 refine ⟨w.heap.size,rfl,by simp,?_,bel⟩
 rw [World.cell?_alloc_at _ _ _ _ rfl];rfl
theorem timed1_at {B:Nat} {now:Int} (v0 v1 v2 v3 v4:Value) (h0:w.cell? ⟨B,0,none⟩=some (.int .i64 now)) :
 Calls Tryz.prog 98 #[.agg #[v0,v1,v2,v3,v4],.pointer (some ⟨B,0,none⟩)] w fun e w'=>e=.returned (.int .i64 (timedAsk now))∧Below w.heap.size w w':=by
 have hlt:=lt_of_cell h0
 simp only at hlt
 unfold timedAsk
 cases h:inB now 0 999
 all_goals
  have H:=Hh h
  clear h
  go_enter Tryz.func98,Tryz.ntmps98
  go_wp2_with (go_at_call 63;(with_reducible refine (inside_at H.out).mono ?_);rintro e w' ⟨rfl,rfl⟩)
  go_ret
  exact ⟨rfl,bel⟩
theorem planned1_at {BN BP:Nat} {now:Int} {pa ma:Option Addr} {pn pc ml mc:Nat} (v0 v1 v3 v4:Value) (h0:w.cell? ⟨BN,0,none⟩=some (.int .i64 now)) (h1:w.cell? ⟨BP,0,none⟩=some (.slice pa pn pc)) (hpn:pn≤1000000) (hml:ml≤1000000) {r:Int} (hr:planAsk ml pn now=r) :
 Calls Tryz.prog 101 #[.agg #[v0,v1,.slice ma ml mc,v3,v4],.pointer (some ⟨BN,0,none⟩),.pointer (some ⟨BP,0,none⟩)] w fun e w'=>e=.returned (.int .i64 r)∧Below w.heap.size w w':=by
 have hlt0:=lt_of_cell h0
 have hlt1:=lt_of_cell h1
 simp only at hlt0 hlt1
 have HTM:=Hh (fun (w':World)=>timed_at now w')
 go_enter Tryz.func101,Tryz.ntmps101
 go_wp2
 obtain ⟨W0,hW0⟩:∃ W0,W0=w.alloc (.cells #[v0,v1,.slice ma ml mc,v3,v4] 88):=⟨_,rfl⟩
 rw [← hW0]
 have hb0:Below w.heap.size w W0:=by rw [hW0];(exact bel)
 have hs0:w.heap.size+1≤W0.heap.size:=by rw [hW0];simp
 have q:∀ k u,(#[v0,v1,.slice ma ml mc,v3,v4]:Array Value)[k]? = some u→W0.cell? ⟨w.heap.size,k,none⟩=some u:=fun k u hk=>by rw [hW0,World.cell?_alloc_at _ _ _ _ rfl];exact hk
 have hall:∀ w':World,Below W0.heap.size W0 w'→(Below W0.heap.size W0 w'∧w'.cell? ⟨w.heap.size,0,none⟩=some v0∧w'.cell? ⟨w.heap.size,1,none⟩=some v1∧w'.cell? ⟨w.heap.size,2,none⟩=some (.slice ma ml mc)∧w'.cell? ⟨w.heap.size,3,none⟩=some v3∧w'.cell? ⟨w.heap.size,4,none⟩=some v4∧w'.cell? ⟨BN,0,none⟩=some (.int .i64 now)∧w'.cell? ⟨BP,0,none⟩=some (.slice pa pn pc)):=fun w' h=>by
  have c:=fun k u hk=>(h.cell (p:=⟨w.heap.size,k,none⟩) (by simp;omega)).trans (q k u hk)
  exact ⟨h,c 0 _ rfl,c 1 _ rfl,c 2 _ rfl,c 3 _ rfl,c 4 _ rfl,(h.cell (by simp;omega)).trans ((hb0.cell hlt0).trans h0),(h.cell (by simp;omega)).trans ((hb0.cell hlt1).trans h1)⟩
 have HALL:=Hh hall
 have HR:=Hh hr
 clear hW0 q hall h0 h1 hr
 go_region_held3 (fun w'=>Below W0.heap.size W0 w'∧w'.cell? ⟨w.heap.size,0,none⟩=some v0∧w'.cell? ⟨w.heap.size,1,none⟩=some v1∧w'.cell? ⟨w.heap.size,2,none⟩=some (.slice ma ml mc)∧w'.cell? ⟨w.heap.size,3,none⟩=some v3∧w'.cell? ⟨w.heap.size,4,none⟩=some v4∧w'.cell? ⟨BN,0,none⟩=some (.int .i64 now)∧w'.cell? ⟨BP,0,none⟩=some (.slice pa pn pc))
  ((go_split_ands;exact HALL.out _ (bel)))
  (first
    | (go_at_call 47;(with_reducible refine (HTM.out _).mono ?_);rintro e w2 ⟨B,rfl,hB1,r0,hb2⟩;have hq:∀ W,Below w2.heap.size w2 W→W.cell? ⟨B,0,none⟩=some (.int .i64 now):=(fun W h=>(h.cell hB1).trans r0);have HQ:=Hh hq;clear hq r0;obtain ⟨hc2,hf2⟩:=bcell hb2;have hz2:=hb2.size;(try simp at hz2))
    | (go_at_call 98;go_split_ands;(with_reducible refine (timed1_at _ _ _ _ _ (HQ.out _ (by first | exact Below.refl _ _ | exact bal _ _))).mono ?_);rintro e w3 ⟨rfl,hb3⟩;obtain ⟨hc3,hf3⟩:=bcell hb3;have hz3:=hb3.size;(try simp at hz3)))
 have hbX:Below W0.heap.size W0 w3:=bel
 have hbw:=Below.next hb0 hbX
 obtain ⟨_,c0,c1,c2,c3,c4,c5,c6⟩:=HALL.out _ hbX
 have hz9:=hbX.size
 have hw9:w.heap.size < w3.heap.size:=by omega
 have hw10:BN < w3.heap.size:=by omega
 have hw11:BP < w3.heap.size:=by omega
 have hr:=HR.out
 unfold planAsk at hr
 generalize timedAsk now=T at hr ⊢
 by_cases hT:T=0
 ·subst hT
  simp only [ne_eq,not_true_eq_false,if_false] at hr
  by_cases hp:pn=ml
  ·rw [if_neg (by simpa using hp)] at hr
   have HR2:=Hh hr
   subst hp
   clear hr HR
   go_wp2
   go_ret
   exact ⟨by rw [← HR2.out];rfl,bel⟩
  ·rw [if_pos hp] at hr
   have HR2:=Hh hr
   have hp2:((pn:Int) != (ml:Int))=true:=bne_iff_ne.2 fun h=>hp (by omega)
   clear hr HR
   go_wp2
   go_ret
   exact ⟨by rw [← HR2.out];rfl,bel⟩
 ·rw [if_pos hT] at hr
  have HR2:=Hh hr
  have hT2:(T != 0)=true:=by simpa using hT
  clear hr HR
  go_wp2
  go_ret
  exact ⟨by rw [← HR2.out];rfl,bel⟩
end
attribute [local go_sem] Oper.semAt_some
section
variable {b:Bk} {vr vg vm vs vc:Value} {w:World}
theorem ints_kept {A B:World} {a:Option Addr} {l:List Int} {n:Nat} {p:Nat→Prop} (h:IntsAt A a l) (hb:∀ y,a=some y→n≤y.block) (hk:KS p A B) (hp:∀ k,n≤k→p k):IntsAt B a l:=fun i hi=>by
 obtain ⟨g,o,e,hlt,hc⟩:=h i hi
 have:=hb _ e
 exact ⟨g,o,e,Nat.lt_of_lt_of_le hlt hk.size,(hk.cell (x:=⟨g,o+i,none⟩) hlt (hp _ this)).trans hc⟩
theorem cames_kept {A B:World} {a:Option Addr} {l:List (List Int)} {n:Nat} {p:Nat→Prop} (h:CamesAt A a l) (hb:∀ y,a=some y→n≤y.block) (hk:KS p A B) (hp:∀ k,n≤k→p k):CamesAt B a l:=fun i hi=>by
 obtain ⟨g,o,e,hlt,h1,h2,h3,h4⟩:=h i hi
 have:=hp _ (hb _ e)
 exact ⟨g,o,e,Nat.lt_of_lt_of_le hlt hk.size,(hk.cell (x:=⟨g,o+i * 4,none⟩) hlt this).trans h1,(hk.cell (x:=⟨g,o+i * 4+1,none⟩) hlt this).trans h2,(hk.cell (x:=⟨g,o+i * 4+2,none⟩) hlt this).trans h3,(hk.cell (x:=⟨g,o+i * 4+3,none⟩) hlt this).trans h4⟩
theorem row_ge {A:World} {base e size n cap:Nat} {a:Option Addr} {xs:List Value} (h:A.ownsRow base e size (.slice a n cap) n xs):∀ y,a=some y→base≤y.block:=by
 rintro y rfl
 obtain ⟨_,⟨h1,_⟩ | ⟨g,cap',cur,e1,e2,_⟩⟩:=h
 ·cases h1
 ·cases e1;exact e2
theorem ks6 (w:World) (X:Nat) (v0 v1 v2 v3 v4 v5:Value):KS (fun k=>k≠X) w ((((((w.setCell ⟨X,0,none⟩ v0).setCell ⟨X,1,none⟩ v1).setCell ⟨X,2,none⟩ v2).setCell ⟨X,3,none⟩ v3).setCell ⟨X,4,none⟩ v4).setCell ⟨X,5,none⟩ v5) :=
 (((((KS.setCell (p:=fun k=>k≠X) (by simp) _ _).trans (KS.setCell (by simp) _ _)).trans (KS.setCell (by simp) _ _)).trans (KS.setCell (by simp) _ _)).trans (KS.setCell (by simp) _ _)).trans (KS.setCell (by simp) _ _)
def PlannedYes (w:World) (b:Bk) (vr vg vm vs vc:Value) (o:List Int) (e:Ending) (w':World):Prop :=
 ∃ (RB lc tc lc2:Nat) (ta la:Option Addr),e=.returned (.tuple #[.agg #[vr,vg,vm,vs,vc,.slice (some ⟨RB,0,none⟩) b.ms.length lc],.slice ta o.length tc,.slice la (pasts b).length lc2,.int .i64 0]) ∧
  IntsAt w' (some ⟨RB,0,none⟩) (loadsI b)∧IntsAt w' ta o∧CamesAt w' la (pasts b)∧Below w.heap.size w w'
def PlannedNo (w:World) (e:Ending) (w':World):Prop:=e=.returned (.tuple #[.agg #[.int .i64 0,.int .i64 0,.slice none 0 0,.slice none 0 0,.slice none 0 0,.slice none 0 0],.slice none 0 0,.slice none 0 0,.int .i64 6])∧Below w.heap.size w w'
def PlannedOut (w:World) (b:Bk) (vr vg vm vs vc:Value) (plan:List Int) (e:Ending) (w':World):Prop :=
 (planOk (loadsI b) plan=none∧PlannedNo w e w')∨∃ o,planOk (loadsI b) plan=some o∧PlannedYes w b vr vg vm vs vc o e w'
theorem loadsI_len (b:Bk):(loadsI b).length=b.ms.length:=loadsOf_length _ _
theorem planAsk_ok {ml pn:Nat} {now:Int} (h:planAsk ml pn now=0):timedAsk now=0∧pn=ml:=by
 unfold planAsk at h
 split at h
 ·rename_i h1;exact absurd h h1
 ·split at h
  ·cases h
  ·rename_i h1 h2
   exact ⟨by simpa using h1,by simpa using h2⟩
theorem planned_ok (hB:BookAt w b vr vg vm vs vc) (hN:∀ m∈b.ms,m.name.size≤1000000) (hK:KindsAt w) {pa:Option Addr} {pc:Nat} {plan:List Int} {pn:Nat} (hpl:pn=plan.length) (hP:IntsAt w pa plan) (now:Int) (ht:openAl b (planAsk b.ms.length pn now)=0) :
 Calls Tryz.prog 59 #[.agg #[vr,vg,vm,vs,vc],.slice pa pn pc,.int .i64 now] w (PlannedOut w b vr vg vm vs vc plan):=by
 have HB:=Hh hB
 have HN:=Hh hN
 have HK:=Hh hK
 have HP:=Hh hP
 obtain ⟨hk,hpt,hps⟩:=openAl_ok ht
 have hbo:=(bookAl_ok hk).1
 obtain ⟨_,hpm⟩:=planAsk_ok hpt
 have HO:=Hh hbo
 have HBA:=Hh hk
 have HPT:=Hh hpt
 have HPS:=Hh hps
 have HPM:=Hh hpm
 have HPL:=Hh hpl
 have hple:=pasts_le hbo
 have hml5:=hbo.ml
 have HPC:=Hh (fun x (hx:x∈pasts b)=>pasts_came hbo hx)
 have hpn:pn≤1000000:=by omega
 obtain ⟨rfl,rfl,⟨ma,mc,rfl,_,hml⟩,⟨sa,sc,rfl,_,_⟩,ra,rc,rfl,_,_⟩:=id hB
 clear hB hN hK hP ht hk hpt hps hbo hpm hpl
 go_enter Tryz.func59,Tryz.ntmps59
 go_wp2_with fail
 obtain ⟨W0,hW0⟩:∃ W0,W0=((((w.alloc (.cells #[.int .i64 b.room,.int .i64 b.gap,.slice ma b.ms.length mc,.slice sa b.ss.length sc,.slice ra b.rs.length rc] 26)).alloc (.cells #[.slice pa pn pc] 27)).alloc (.cells #[.int .i64 now] 3)).alloc (.cells #[.int .i64 0,.int .i64 0,.slice none 0 0,.slice none 0 0,.slice none 0 0,.slice none 0 0] 95)):=⟨_,rfl⟩
 rw [← hW0]
 have hb0:Below w.heap.size w W0:=by rw [hW0];(exact bel)
 have hs0:w.heap.size+1+1+1 < W0.heap.size:=by rw [hW0];simp
 have y1:W0.cell? ⟨w.heap.size+1+1,0,none⟩=some (.int .i64 now):=by rw [hW0,World.cell?_alloc_past _ _ _ (by first | (simp;done) | (simp;omega)),World.cell?_alloc_at _ _ _ _ (by first | (simp;done) | (simp;omega))];rfl
 have y2:W0.cell? ⟨w.heap.size+1,0,none⟩=some (.slice pa pn pc):=by rw [hW0,World.cell?_alloc_past _ _ _ (by first | (simp;done) | (simp;omega)),World.cell?_alloc_past _ _ _ (by first | (simp;done) | (simp;omega)),World.cell?_alloc_at _ _ _ _ (by first | (simp;done) | (simp;omega))];rfl
 have HASK:=Hh (fun (hk:bookAl b=0) (W:World) (hW:Below W0.heap.size W0 W)=>planned1_at (ma:=ma) (ml:=b.ms.length) (mc:=mc) (.int .i64 b.room) (.int .i64 b.gap) (.slice sa b.ss.length sc) (.slice ra b.rs.length rc) ((hW.cell (by simp;omega)).trans y1) ((hW.cell (by simp;omega)).trans y2) hpn hml rfl)
 have z:∀ k u,(#[.int .i64 0,.int .i64 0,.slice none 0 0,.slice none 0 0,.slice none 0 0,.slice none 0 0]:Array Value)[k]? = some u→W0.cell? ⟨w.heap.size+1+1+1,k,none⟩=some u:=fun k u hk=>by rw [hW0,World.cell?_alloc_at _ _ _ _ (by first | (simp;done) | (simp;omega))];exact hk
 have zf:∀ k,W0.frozen? ⟨w.heap.size+1+1+1,k,none⟩=false:=fun k=>by rw [hW0,World.frozen?_alloc_at _ _ _ _ (by first | (simp;done) | (simp;omega))]
 have hz:∀ w':World,Below W0.heap.size W0 w'→∀ k u,(#[.int .i64 0,.int .i64 0,.slice none 0 0,.slice none 0 0,.slice none 0 0,.slice none 0 0]:Array Value)[k]? = some u→w'.cell? ⟨w.heap.size+1+1+1,k,none⟩=some u∧w'.frozen? ⟨w.heap.size+1+1+1,k,none⟩=false:=fun w' h k u hk=>⟨(h.cell (by simp;omega)).trans (z k u hk),(h.frozen (by simp;omega)).trans (zf k)⟩
 have HZ:=Hh hz
 have y0:∀ k u,(#[.int .i64 b.room,.int .i64 b.gap,.slice ma b.ms.length mc,.slice sa b.ss.length sc,.slice ra b.rs.length rc]:Array Value)[k]? = some u→W0.cell? ⟨w.heap.size,k,none⟩=some u:=fun k u hk=>by rw [hW0,World.cell?_alloc_past _ _ _ (by first | (simp;done) | (simp;omega)),World.cell?_alloc_past _ _ _ (by first | (simp;done) | (simp;omega)),World.cell?_alloc_past _ _ _ (by first | (simp;done) | (simp;omega)),World.cell?_alloc_at _ _ _ _ (by first | (simp;done) | (simp;omega))];exact hk
 obtain ⟨n0,n1,n2,n3,n4⟩:_∧_∧_∧_∧_:=⟨y0 0 _ rfl,y0 1 _ rfl,y0 2 _ rfl,y0 3 _ rfl,y0 4 _ rfl⟩
 have Y2:=Hh y2
 clear hW0 y1 y2 z zf hz y0
 have hs1:w.heap.size < W0.heap.size:=by omega
 go_wp2_with (first
  | (go_at_call 46;(with_reducible refine (open_planned_ok (HB.out.below hb0) HN.out (HK.out.below hb0) _ _ (al:=planAsk b.ms.length pn now) HASK.out HBA.out HPT.out HPS.out).mono ?_);rintro e w3 ⟨la,rfl,hrow,hb3⟩;obtain ⟨la,lc,rfl⟩:=ownsRow_slice hrow;have HCM:=Hh (cames_of_row hrow);have HGL:=Hh (row_ge hrow);clear hrow;have hz3:=hb3.size;have hz4:w.heap.size+1+1+1 < w3.heap.size:=(by omega))
  | (go_at_call 48;(with_reducible refine (nightOf_at (HB.out.below (bel)) HO.out (HCM.out.below (bel)) HPC.out (by omega)).mono ?_);rintro e w4 ⟨RB,lc2,rfl,hld,hRB0,hRBl,hb4⟩;have HLD:=Hh (show IntsAt w4 (some ⟨RB,0,none⟩) (loadsI b) from hld);clear hld;have hz5:=hb4.size;(try simp at hz5);have hx4:Below W0.heap.size W0 w4:=Below.next (Below.al hb3 _) hb4;have y4:=(hx4.cell (p:=⟨w.heap.size+1,0,none⟩) (by simp;omega)).trans Y2.out;have hz6:w.heap.size+1 < w4.heap.size:=(by omega))
  | (go_at_call 100;(with_reducible refine (tapes_at (HLD.out.below (bel)) (loadsI_bd HBA.out) (HP.out.below (bel)) HPL.out (HPM.out.symm.trans HPL.out) ((loadsI_len b).trans (HPM.out.symm.trans HPL.out)) (by have:=HPM.out;have:=HPL.out;omega)).mono ?_);rintro e w5 ⟨ta,tc,o,ok,rfl,hto,hb5,hok⟩;have HTO:=Hh (ints_of_row hto);have HGT:=Hh (row_ge hto);obtain ⟨hc5,hf5⟩:=bcell hb5;have HOK:=Hh hok;clear hto hok;have hz7:=hb5.size;(try simp at hz7);have hz8:w.heap.size+1+1+1 < w5.heap.size:=(by omega);have hx5:Below W0.heap.size W0 w5:=Below.next (Below.al hx4 _) hb5;obtain ⟨⟨z0,f0⟩,⟨z1,f1⟩,⟨z2,f2⟩,⟨z3,f3⟩,⟨z4,f4⟩,⟨z5,f5⟩⟩:(_∧_)∧(_∧_)∧(_∧_)∧(_∧_)∧(_∧_)∧(_∧_):=⟨HZ.out w5 hx5 0 _ rfl,HZ.out w5 hx5 1 _ rfl,HZ.out w5 hx5 2 _ rfl,HZ.out w5 hx5 3 _ rfl,HZ.out w5 hx5 4 _ rfl,HZ.out w5 hx5 5 _ rfl⟩;cases ok))
 ·exact bodyPost_ret (v:=.tuple #[.agg #[.int .i64 0,.int .i64 0,.slice none 0 0,.slice none 0 0,.slice none 0 0,.slice none 0 0],.slice none 0 0,.slice none 0 0,.int .i64 6]) (by simp [results,Tryz.results59,go_sem, *]) rfl (.inl ⟨by have:=HOK.out;simpa using this,rfl,bel⟩)
 ·refine bodyPost_ret (v:=.tuple #[.agg #[.int .i64 b.room,.int .i64 b.gap,.slice ma b.ms.length mc,.slice sa b.ss.length sc,.slice ra b.rs.length rc,.slice (some ⟨RB,0,none⟩) b.ms.length lc2],.slice ta o.length tc,.slice la (pasts b).length lc,.int .i64 0]) (by simp [results,Tryz.results59,go_sem, *]) rfl (.inr ⟨o,by have:=HOK.out;simpa using this,RB,lc2,tc,lc,ta,la,rfl,?_,?_,?_,?_⟩)
  ·exact ints_kept (HLD.out.below (Below.next (bal _ _) hb5)) (n:=W0.heap.size) (fun y hy=>by cases hy;simp at hRB0;simp;omega) (ks6 _ _ _ _ _ _ _ _) (fun k hk=>by show k≠_;omega)
  ·exact ints_kept HTO.out (n:=W0.heap.size) (fun y hy=>by have:=HGT.out y hy;simp at this;omega) (ks6 _ _ _ _ _ _ _ _) (fun k hk=>by show k≠_;omega)
  ·exact cames_kept (HCM.out.below (Below.next (Below.al (Below.next (bal _ _) hb4) _) hb5)) (n:=W0.heap.size) (fun y hy=>HGL.out y hy) (ks6 _ _ _ _ _ _ _ _) (fun k hk=>by show k≠_;omega)
  ·(exact bel)
end
attribute [local go_sem] Oper.semAt_some
section
variable {b:Bk} {vr vg vm vs vc:Value} {w:World}
theorem planned_yes (hB:BookAt w b vr vg vm vs vc) (hN:∀ m∈b.ms,m.name.size≤1000000) (hK:KindsAt w) {pa:Option Addr} {pc:Nat} {plan:List Int} {pn:Nat} (hpl:pn=plan.length) (hP:IntsAt w pa plan) (now:Int) (ht:openAl b (planAsk b.ms.length plan.length now)=0) {o:List Int} (ho:planOk (loadsI b) plan=some o) :
 Calls Tryz.prog 59 #[.agg #[vr,vg,vm,vs,vc],.slice pa pn pc,.int .i64 now] w (PlannedYes w b vr vg vm vs vc o):=by
 subst hpl
 refine (planned_ok hB hN hK rfl hP now ht).mono ?_
 rintro e w' (⟨h,_⟩ | ⟨o2,h,h2⟩)
 ·rw [ho] at h;cases h
 ·rw [ho] at h;cases h;exact h2
theorem times_ok (hB:BookAt w b vr vg vm vs vc) (hN:∀ m∈b.ms,m.name.size≤1000000) (hK:KindsAt w) {pa:Option Addr} {pc:Nat} {plan:List Int} {pn:Nat} (hpl:pn=plan.length) (hP:IntsAt w pa plan) (now:Int) (ht:openAl b (planAsk b.ms.length plan.length now)=0) {o:List Int} (ho:planOk (loadsI b) plan=some o) :
 Calls Tryz.prog 12 #[.agg #[vr,vg,vm,vs,vc],.slice pa pn pc,.int .i64 now] w fun e w'=>∃ a c,e=.returned (.tuple #[.slice a (endsI b.gap now o).length c,.int .i64 0])∧IntsAt w' a (endsI b.gap now o)∧Below w.heap.size w w':=by
 have HB:=Hh hB
 have HN:=Hh hN
 have HK:=Hh hK
 have HP:=Hh hP
 have HT:=Hh ht
 have HOO:=Hh ho
 have HPL:=Hh hpl
 obtain ⟨hk,hpt,hps⟩:=openAl_ok ht
 have hbo:=(bookAl_ok hk).1
 obtain ⟨hnow,hpm⟩:=planAsk_ok hpt
 have hnow2:0≤now∧now≤1000:=by
  unfold timedAsk inB at hnow
  split at hnow
  ·rename_i h;simp at h;omega
  ·cases h0:(1:Int) with
   | _=>cases hnow
 have hml5:=hbo.ml
 have HBD:=Hh (planOk_bd ho (by omega) (loadsI_bd hk))
 have HN2:=Hh (nightOk hk)
 obtain ⟨rfl,rfl,⟨ma,mc,rfl,_,_⟩,⟨sa,sc,rfl,_,_⟩,ra,rc,rfl,_,_⟩:=id hB
 clear hB hN hK hP ht hpl ho hk hpt hps hbo hnow
 go_enter Tryz.func12,Tryz.ntmps12
 go_wp2_with (first
  | (go_at_call 59;(with_reducible refine (planned_yes (HB.out.below (bel)) HN.out (HK.out.below (bel)) HPL.out (HP.out.below (bel)) now HT.out HOO.out).mono ?_);rintro e w3 ⟨RB,lc,tc,lc2,ta,la,rfl,hl3,ht3,hc3,hb3⟩;have HT3:=Hh ht3;clear hl3 ht3 hc3;have hz3:=hb3.size;(try simp at hz3))
  | (go_at_call 60;(with_reducible refine (ends_at (HB.out.below (bel)) _ rfl (HT3.out.below (bel)) HBD.out.2 HBD.out.1 HN2.out.gap hnow2).mono ?_);rintro e w4 ⟨ea,ec,rfl,he4,hb4⟩;have HE4:=Hh he4;clear he4;have hz4:=hb4.size;(try simp at hz4)))
 exact bodyPost_ret (v:=.tuple #[.slice ea (endsI b.gap now o).length ec,.int .i64 0]) (by simp [results,Tryz.results12,go_sem, *]) rfl ⟨ea,ec,rfl,ints_of_row HE4.out,bel⟩
end
attribute [local go_sem] Oper.semAt_some
namespace Sp
def onTape (plan:List Int) (tape:Int) (p:Prt):Bool:=decide (plan.getD p.1.toNat 0=tape)
def punchI (plan:List Int) (tape:Int) (l:List Prt):List Prt:=l.filter (onTape plan tape)
end Sp
theorem punchI_snoc (plan:List Int) (tape:Int) (l:List Prt) (p:Prt):punchI plan tape (l ++ [p])=punchI plan tape l ++ if onTape plan tape p=true then [p] else []:=by
 unfold punchI
 rw [List.filter_append,List.filter_cons,List.filter_nil]
theorem cells_new' (w:World) (cs:List Value) (t:TypeId) {n:Nat} (hn:n=w.heap.size):∀ j u,cs[j]? = some u→(w.alloc (.cells cs.toArray t)).cell? (Addr.add ⟨n,0,none⟩ j)=some u:=by
 subst hn
 exact cells_new w cs t
section
variable {b:Bk} {vr vg vm vs vc:Value} {w:World}
def PunchRow (w:World) (l:List Prt) (e:Ending) (w':World):Prop:=∃ a c,e=.returned (.tuple #[.agg #[.slice a l.length c],.int .i64 0])∧PartsAt w' a l∧Below w.heap.size w w'
theorem missI_part {b:Bk} {p:Prt} (h:p∈missI b):0≤p.1∧p.1 < (b.ms.length:Int)∧isPart b p=true:=by
 have h1:=parts_isPart (List.mem_filter.1 h).1
 have h2:=h1
 unfold isPart inB at h1
 simp only [Bool.and_eq_true,decide_eq_true_eq] at h1
 exact ⟨h1.1.1,by omega,h2⟩
theorem punch_ok (hB:BookAt w b vr vg vm vs vc) (hN:∀ m∈b.ms,m.name.size≤1000000) (hK:KindsAt w) {pa:Option Addr} {pc:Nat} {plan:List Int} {pn:Nat} (hpl:pn=plan.length) (hP:IntsAt w pa plan) (tape:Int) (ht:openAl b (planAsk b.ms.length plan.length 0)=0) {o:List Int} (ho:planOk (loadsI b) plan=some o)
 (hin:inB tape 0 ((o.length:Int) - 1)=true) (hfew:(punchI plan tape (missI b)).length≤5) :
 Calls Tryz.prog 16 #[.agg #[vr,vg,vm,vs,vc],.slice pa pn pc,.int .i64 tape] w (PunchRow w (punchI plan tape (missI b))):=by
 have HB:=Hh hB
 have HN:=Hh hN
 have HK:=Hh hK
 have HP:=Hh hP
 have HT:=Hh ht
 have HOO:=Hh ho
 have HPL:=Hh hpl
 have HIN:=Hh hin
 obtain ⟨hk,hpt,hps⟩:=openAl_ok ht
 have hbo:=(bookAl_ok hk).1
 have HO:=Hh hbo
 obtain ⟨_,hpm⟩:=planAsk_ok hpt
 have hml5:=hbo.ml
 have HPM:=Hh hpm
 have HBD:=Hh (planOk_bd ho (by omega) (loadsI_bd hk))
 have hol:=(planOk_bd ho (by omega) (loadsI_bd hk)).2
 have HPC:=Hh (fun x (hx:x∈pasts b)=>pasts_came hbo hx)
 have hple:=pasts_le hbo
 have hmi:=missI_bd hk
 have hwo:IntKind.i64.wrap ((o.length:Int) - 1)=(o.length:Int) - 1:=wrapI (by omega) (by omega)
 have HWO:=Hh hwo
 obtain ⟨rfl,rfl,⟨ma,mc,rfl,_,_⟩,⟨sa,sc,rfl,_,_⟩,ra,rc,rfl,_,_⟩:=id hB
 clear hB hN hK hP ht hpl ho hk hpt hps hbo hpm hin
 go_enter Tryz.func16,Tryz.ntmps16
 go_wp2_with (first
  | (go_at_call 59;(with_reducible refine (planned_yes (HB.out.below (bel)) HN.out (HK.out.below (bel)) HPL.out (HP.out.below (bel)) 0 HT.out HOO.out).mono ?_);rintro e w3 ⟨RB,lc,tc,lc2,ta,la,rfl,hl3,ht3,hc3,hb3⟩;have HC3:=Hh hc3;clear hl3 ht3 hc3;have hz3:=hb3.size;(try simp at hz3))
  | (go_at_call 63;(with_reducible refine (inside_at HIN.out).mono ?_);rintro e w' ⟨rfl,rfl⟩)
  | (go_at_call 64;(with_reducible refine (missing_at (HB.out.below (bel)) HO.out (HC3.out.below (bel)) HPC.out (by omega)).mono ?_);rintro e w4 ⟨v4,rfl,hr4,hb4⟩;obtain ⟨a4,c4,rfl⟩:=ownsRow_slice hr4;have HP4:=Hh (show PartsAt w4 a4 (missI b) from parts_of_row hr4);have HG4:=Hh (row_ge hr4);rw [show (missL b (pasts b) (partsL b)).length=(missI b).length from rfl];clear hr4;have hz4:=hb4.size;(try simp at hz4)))
 have x1:w4.cell? ⟨w3.heap.size+1,0,none⟩=some (.slice none 0 0):=by
  refine (hb4.cell (p:=⟨w3.heap.size+1,0,none⟩) (by simp)).trans ?_
  rw [World.cell?_alloc_at _ _ _ _ (by simp)];rfl
 have x2:w4.frozen? ⟨w3.heap.size+1,0,none⟩=false:=by
  refine (hb4.frozen (p:=⟨w3.heap.size+1,0,none⟩) (by simp)).trans ?_
  rw [World.frozen?_alloc_at _ _ _ _ (by simp)]
 have y1:w4.cell? ⟨w.heap.size+1,0,none⟩=some (.slice none 0 0):=by
  refine (hb4.cell (p:=⟨w.heap.size+1,0,none⟩) (by simp;omega)).trans ?_
  rw [World.cell?_alloc_past _ _ _ (by first | omega | (simp;done) | (simp;omega)),World.cell?_alloc_past _ _ _ (by first | omega | (simp;done) | (simp;omega))]
  refine (hb3.cell (p:=⟨w.heap.size+1,0,none⟩) (by simp)).trans ?_
  rw [World.cell?_alloc_at _ _ _ _ (by simp)];rfl
 have y2:w4.frozen? ⟨w.heap.size+1,0,none⟩=false:=by
  refine (hb4.frozen (p:=⟨w.heap.size+1,0,none⟩) (by simp;omega)).trans ?_
  rw [World.frozen?_alloc_past _ _ _ (by first | omega | (simp;done) | (simp;omega)),World.frozen?_alloc_past _ _ _ (by first | omega | (simp;done) | (simp;omega))]
  refine (hb3.frozen (p:=⟨w.heap.size+1,0,none⟩) (by simp)).trans ?_
  rw [World.frozen?_alloc_at _ _ _ _ (by simp)]
 have hbw:Below w.heap.size w w4:=bel
 have hP4:IntsAt w4 pa plan:=HP.out.below hbw
 have HPP:=Hh hP4
 have HPL2:=Hh (fun i (hi:i < plan.length)=>HP.out i hi)
 have HX:=Hh (⟨x1,x2⟩:_∧_)
 have HY:=Hh (⟨y1,y2⟩:_∧_)
 have hz9:w3.heap.size+1 < w4.heap.size:=by omega
 have hz10:w.heap.size+1 < w3.heap.size:=by omega
 obtain ⟨i0,hi,hz0,hz1,hz2⟩:=info_parts partInfo
 clear hb4 hb3 hP4 x1 x2 y1 y2 hz4 hz3
 go_loopw [39] (fun i wr=>∃ (k:Nat) (a:Option Addr) (c:Nat) (l:List Prt),k≤(missI b).length∧i=.int .i64 k∧Hid (l=punchI plan tape ((missI b).take k))∧wr.cell? ⟨w3.heap.size+1,0,none⟩=some (.slice a l.length c)∧wr.frozen? ⟨w3.heap.size+1,0,none⟩=false∧wr.ownsRow w4.heap.size 65 2 (.slice a l.length c) l.length (l.flatMap cellsQ)∧KS (fun k=>k < w4.heap.size∧k≠w3.heap.size+1) w4 wr) (fun i _=>(missI b).length - (intOf i).toNat)
 case atStart=>exact ⟨0,none,0,[],Nat.zero_le _,rfl,rfl,HX.out.1,HX.out.2,by simpa using World.ownsRow_nil _ _ _ _,KS.refl _ _⟩
 case round =>
  obtain ⟨k,a,c,l,hk,rfl,hl,hs1,hs2,hrow,hW⟩:=hrel
  have hWs:=hW.size
  have hl5:l.length≤20:=by rw [hl.out];exact Nat.le_trans (List.length_filter_le _ _) (by simp;omega)
  by_cases hlt:k < (missI b).length
  ·obtain ⟨lb,lo,rfl,hlb,e0,e1⟩:=HP4.out k hlt
   have hge:=HG4.out _ rfl
   simp at hge
   have d0:=(hW.cell (x:=⟨lb,lo+k * 2,none⟩) hlb (by simp;omega)).trans e0
   have d1:=(hW.cell (x:=⟨lb,lo+k * 2+1,none⟩) hlb (by simp;omega)).trans e1
   obtain ⟨hp0,hp1,_⟩:=missI_part (List.getElem_mem hlt)
   have hts:=List.take_succ_eq_append_getElem hlt
   have hsn:=punchI_snoc plan tape ((missI b).take k) (missI b)[k]
   rw [← hts,← hl.out] at hsn
   generalize (missI b)[k]=p at d0 d1 hp0 hp1 hsn
   obtain ⟨p1,p2⟩:=p
   simp only at d0 d1 hp0 hp1
   obtain ⟨q,rfl⟩:∃ q:Nat,p1=q:=⟨p1.toNat,by omega⟩
   have hqn:q < plan.length:=by have:=HPM.out;omega
   have hqn2:(q:Int) < (pn:Int):=by have:=HPL.out;omega
   have hq0:(0:Int)≤(q:Int):=by omega
   obtain ⟨pb,po,rfl,hpb,p0⟩:=HPL2.out q hqn
   have d2:wr.cell? ⟨pb,po+q,none⟩=some (.int .i64 plan[q]):=by
    refine (hW.cell (x:=⟨pb,po+q,none⟩) (by simp;omega) (by simp;omega)).trans ((hbw.cell (p:=⟨pb,po+q,none⟩) hpb).trans p0)
   have hon:onTape plan tape ((q:Int),p2)=decide (plan[q]=tape):=by
    unfold onTape
    simp only [Int.toNat_natCast,List.getD_eq_getElem?_getD,List.getElem?_eq_getElem hqn,Option.getD_some]
   rw [hon] at hsn
   generalize plan[q]=pq at d2 hsn
   have hlb2:lb < wr.heap.size:=by omega
   have hpb2:pb < wr.heap.size:=by omega
   have hs9:w3.heap.size+1 < wr.heap.size:=by omega
   have HROW:=Hh hrow
   have HW:=Hh hW
   have HL:=Hh hl
   clear e0 e1 hp0 hp1 hts hon hrow hW hl hge p0
   by_cases hon2:pq=tape
   ·have hd:(pq == tape)=true:=by simpa using hon2
    rw [if_pos (by simpa using hon2)] at hsn
    have HSN:=Hh hsn
    subst hon2
    clear hsn
    go_wp2_with (at_builtin;go_loud (refine wpList_append_own _ rfl _ _ 38 rfl w4.heap.size 65 i0 (.agg #[.int .i64 0,.int .i64 0]) 2 16 Tryz.underlying38 hi hz0 hz1 hz2 rfl (by decide) _ _ _ rfl ((HROW.out.alloc _).alloc _) ⟨wr.heap.size+1,0,none⟩ 1 1 [.int .i64 q,.int .i64 p2] rfl rfl (cells_new' _ _ _ (by simp)) (by simp [Value.oneCell']) (by unfold maxLen;omega) (by omega) (by simp;omega) ?_;intro v' w5 hown' hgrow _;obtain ⟨g',cap',rfl⟩:=ownsRow_succ hown';have hks:=grow_ks ((HROW.out.alloc _).alloc _) hgrow;have q1:=(hks.cell (x:=⟨w3.heap.size+1,0,none⟩) (by simp;omega) (by simp;omega));have q2:=(hks.frozen (x:=⟨w3.heap.size+1,0,none⟩) (by simp;omega) (by simp;omega));rw [World.cell?_alloc_past _ _ _ (by simp;omega),World.cell?_alloc_past _ _ _ (by omega),hs1] at q1;rw [World.frozen?_alloc_past _ _ _ (by simp;omega),World.frozen?_alloc_past _ _ _ (by omega),hs2] at q2))
    have h8:KS (fun k=>k < w4.heap.size) wr w5:=((KS.alloc (fun k=>k < w4.heap.size) wr _).trans (KS.alloc _ _ _)).trans hks
    have h9:KS (fun k=>k≠w3.heap.size+1) w5 (w5.setCell ⟨w3.heap.size+1,0,none⟩ (.slice (some ⟨g',0,none⟩) (l.length+1) cap')):=KS.setCell (by simp) _ _
    have hl8:(l ++ [((q:Int),p2)]).length=l.length+1:=by simp
    have hf8:(l ++ [((q:Int),p2)]).flatMap cellsQ=l.flatMap cellsQ ++ [.int .i64 q,.int .i64 p2]:=by rw [List.flatMap_append];rfl
    go_roundw
    case rel =>
     refine ⟨k+1,some ⟨g',0,none⟩,cap',l ++ [((q:Int),p2)],by omega,by go_num,HSN.out.symm,?_,?_,?_,?_⟩
     ·rw [hl8];exact World.cell?_setCell_same' _ _ _ (by rw [q1];rfl)
     ·rw [World.frozen?_setCell];exact q2
     ·rw [hl8,hf8];exact ownsRow_ks hown' h9 (fun k hk=>by show k≠_;omega)
     ·exact HW.out.trans ((h8.mono fun k _ h=>h.1).trans (h9.mono fun k _ h=>h.2))
    case measure=>simp [intOf];omega
   ·have hd:(pq == tape)=false:=by simpa using hon2
    rw [if_neg (by simpa using hon2),List.append_nil] at hsn
    have HSN:=Hh hsn
    clear hsn
    go_wp2
    go_roundw
    case rel =>
     have h8:=KS.alloc (fun _=>True) wr (.cells #[.int .i64 q,.int .i64 p2] 65)
     exact ⟨k+1,a,c,l,by omega,by go_num,HSN.out.symm,(h8.cell (x:=⟨w3.heap.size+1,0,none⟩) (by simp;omega) trivial).trans hs1,(h8.frozen (x:=⟨w3.heap.size+1,0,none⟩) (by simp;omega) trivial).trans hs2,ownsRow_ks HROW.out h8 (fun _ _=>trivial),HW.out.trans (h8.mono fun _ _ _=>trivial)⟩
    case measure=>simp [intOf];omega
  ·obtain rfl:k=(missI b).length:=by omega
   have hl2:=hl.out
   rw [List.take_length] at hl2
   have hlen5:l.length≤5:=by rw [hl2];exact hfew
   have hs9:w3.heap.size+1 < wr.heap.size:=by omega
   have hs10:w.heap.size+1 < wr.heap.size:=by omega
   have y1:=(hW.cell (x:=⟨w.heap.size+1,0,none⟩) (by simp;omega) (by simp;omega)).trans HY.out.1
   have y2:=(hW.frozen (x:=⟨w.heap.size+1,0,none⟩) (by simp;omega) (by simp;omega)).trans HY.out.2
   have HROW:=Hh hrow
   have HW:=Hh hW
   have HL2:=Hh hl2
   clear hrow hW hl hl2
   go_wp2
   have hB9:Below w.heap.size w (wr.setCell ⟨w.heap.size+1,0,none⟩ (.slice a l.length c)):=by
    have h1:=HW.out.toBelow (n:=w.heap.size) (by omega) (fun k hk=>by omega)
    exact Below.wr (hbw.trans h1) (by simp) _
   have hr9:(wr.setCell ⟨w.heap.size+1,0,none⟩ (.slice a l.length c)).ownsRow w4.heap.size 65 2 (.slice a l.length c) l.length (l.flatMap cellsQ):=ownsRow_ks HROW.out (KS.setCell (p:=fun k=>k≠w.heap.size+1) (by simp) _ _) (fun k hk=>by show k≠_;omega)
   have hc9:(wr.setCell ⟨w.heap.size+1,0,none⟩ (.slice a l.length c)).cell? ⟨w.heap.size+1,0,none⟩=some (.slice a l.length c):=World.cell?_setCell_same' _ _ _ (by rw [y1];rfl)
   refine bodyPost_ret (v:=.tuple #[.agg #[.slice a l.length c],.int .i64 0]) (by simp [results,Tryz.results16,go_sem, *]) rfl ⟨a,c,by rw [← HL2.out],?_,hB9⟩
   rw [← HL2.out]
   exact parts_of_row hr9
end
end Go.Proofs.YtfggbepickdokaaGreatDoor
