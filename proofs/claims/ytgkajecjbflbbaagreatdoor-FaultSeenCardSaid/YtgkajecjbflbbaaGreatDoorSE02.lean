/- FaultSeen -/
import Derived.Test.YtgkajecjbflbbaaGreatDoorSE01
import Derived.Deep.WholeRow
set_option maxHeartbeats 8000000
set_option maxRecDepth 100000
set_option linter.all false
namespace Go.Proofs.YtgkajecjbflbbaaGreatDoor
namespace Mt
open Go Go.RowKit Go.Maps
attribute [local go_sem] Oper.semAt_some
theorem af.late {w W W':World} {b:Fbk} {g1 g2:Option Addr} {c1 c2:Nat} {p:Nat->Prop} (h:af w W b g1 c1 g2 c2) (hk:KS p W W') (hq:∀ r,w.heap.size<=r->p r) (hd:b.devs.length<=20) (ht:b.tests.length<=20) (hp:∀ t∈b.tests,t.path.length<=20) :
 FBookAt W' b (.int .i64 b.most) (.slice g1 b.devs.length c1) (.slice g2 b.tests.length c2):=by
 refine ⟨rfl,⟨g1,c1,rfl,fun i hi=>?_,by omega⟩,g2,c2,rfl,fun i hi=>?_,by omega⟩
 ·obtain ⟨r,e,k2,k3,_,k5⟩:=(h.dev.ks hk hq) (by omega);have hg:=aA b.devs i hi;refine ⟨r,0,e,k3,?_,?_,?_,?_⟩ <;> rw [Nat.zero_add]
  ·exact k5 _ _ hg.1
  ·exact k5 _ _ hg.2.1
  ·exact k5 _ _ hg.2.2.1
  ·exact k5 _ _ hg.2.2.2
 ·obtain ⟨r,e,k2,k3,_,k5⟩:=h.tst (by omega);obtain ⟨q1,pa,pc,q3,q4,q5,_⟩:=k5 i hi;have hc:=fun x=>hk.cell (x:=⟨r,x,none⟩) k3 (hq r k2);exact ⟨r,0,e,Nat.lt_of_lt_of_le k3 hk.size,pa,pc,by rw [Nat.zero_add];exact (hc _).trans q3,q4,by have:=hp _ (List.getElem_mem hi);omega,c8 (q5.ks hk hq),by rw [Nat.zero_add];exact (hc _).trans q1⟩
def aE (o:Fbk):Fbk:=if openAl o 0=0 then o else ⟨0,[],[]⟩
def cF (w:World) (o:Fbk) (e:Ending) (w':World):Prop:=∃ um ud ut,e=.returned (.tuple #[.agg #[um,ud,ut],.int .i64 (openAl o 0)])/\FBookAt w' (aE o) um ud ut/\Below w.heap.size w w'
theorem ay (w:World):FBookAt w ⟨0,[],[]⟩ (.int .i64 0) (.slice none 0 0) (.slice none 0 0):=⟨rfl,⟨none,0,rfl,fun i hi=>absurd hi (Nat.not_lt_zero i),by decide⟩,none,0,rfl,fun i hi=>absurd hi (Nat.not_lt_zero i),by decide⟩
section
variable {b:Fbk} {vm vd vt:Value} {w:World}
theorem aU (hB:FBookAt w b vm vd vt) (hN:∀ m∈b.devs,m.name.size<=1000000) (hA:ActsAt w) :
 Calls Mz.prog 116 #[.agg #[vm,vd,vt]] w fun e w'=>∃ (m:Int) (a1:Option Addr) (n1 k1:Nat) (a2:Option Addr) (n2 k2:Nat),e=.returned (.tuple #[.agg #[.int .i64 m,.slice a1 n1 k1,.slice a2 n2 k2],.int .i64 (openAl b 0)])/\Hid ((openAl b 0=0/\.int .i64 m=vm/\.slice a1 n1 k1=vd/\.slice a2 n2 k2=vt)\/(openAl b 0≠0/\.int .i64 m=Value.int .i64 0/\Value.slice a1 n1 k1=.slice none 0 0/\Value.slice a2 n2 k2=.slice none 0 0))/\Below w.heap.size w w':=by
 by_cases h:openAl b 0=0
 ·refine (bT hB hN hA h).mono ?_;rintro e w' ⟨rfl,hb⟩;obtain ⟨rfl,⟨da,dc,rfl,_,_⟩,ta,tc,rfl,_,_⟩:=hB;exact ⟨_,_,_,_,_,_,_,by rw [h],.inl ⟨h,rfl,rfl,rfl⟩,hb⟩
 ·refine (bS hB hN hA rfl h).mono ?_;rintro e w' ⟨rfl,hb⟩;exact ⟨_,_,_,_,_,_,_,rfl,.inr ⟨h,rfl,rfl,rfl⟩,hb⟩
theorem bW {w W W':World} {o:Fbk} {g1 g2:Option Addr} {c1 c2:Nat} {p:Nat->Prop} {um ud ut:Value} (h:af w W o g1 c1 g2 c2) (hk:KS p W W') (hq:∀ r,w.heap.size<=r->p r) (hd:o.devs.length<=20) (ht:o.tests.length<=20) (hp:∀ t∈o.tests,t.path.length<=20)
 (hu:(openAl o 0=0/\um=.int .i64 o.most/\ud=.slice g1 o.devs.length c1/\ut=.slice g2 o.tests.length c2)\/(openAl o 0≠0/\um=.int .i64 0/\ud=.slice none 0 0/\ut=.slice none 0 0)):FBookAt W' (aE o) um ud ut:=by
 unfold aE;rcases hu with ⟨h0,rfl,rfl,rfl⟩ | ⟨h0,rfl,rfl,rfl⟩
 ·rw [if_pos h0];exact h.late hk hq hd ht hp
 ·rw [if_neg h0];exact ay W'
theorem ba {b:Fbk} {i:Nat} {r:Bool} (hd:b.devs.length<=20) (ht:b.tests.length<=20) (hp:∀ t∈b.tests,t.path.length<=20) (hi:i < b.tests.length):(a9 b i r).devs.length<=20/\(a9 b i r).tests.length<=20/\∀ t∈(a9 b i r).tests,t.path.length<=20:=by
 refine ⟨hd,by simp [a9];omega,fun t hm=>?_⟩;rcases List.mem_or_eq_of_mem_set hm with hm | rfl
 ·exact hp t hm
 ·simp only [List.getElem?_eq_getElem hi,Option.elim];exact hp _ (List.getElem_mem hi)
theorem bw {w W:World} {b:Fbk} {g1:Option Addr} {c1 c2 r i:Nat} (h:af w W b g1 c1 (some ⟨r,0,none⟩) c2) (hi:i < b.tests.length) (p:Bool) :
 af w (if p then (W.setCell ⟨r,i * 2+1,none⟩ (.int .i64 2)).setCell ⟨r,i * 2+1,none⟩ (.int .i64 1) else W.setCell ⟨r,i * 2+1,none⟩ (.int .i64 2)) (a9 b i p) g1 c1 (some ⟨r,0,none⟩) c2:=by
 have h2:=h.seen rfl hi 2;cases p
 ·exact h2
 ·have h3:=h2.seen rfl (i:=i) (by simpa using hi) 1;simp only [if_true];have e:(a9 b i true)={ ({ b with tests:=b.tests.set i ⟨(b.tests[i]?).elim [] Tst.path,2⟩ }:Fbk) with tests:=(b.tests.set i ⟨(b.tests[i]?).elim [] Tst.path,2⟩).set i ⟨((b.tests.set i ⟨(b.tests[i]?).elim [] Tst.path,2⟩)[i]?).elim [] Tst.path,1⟩ }:=by
   simp [a9,hi]
  rw [e];exact h3
theorem aV {w W W':World} {b:Fbk} {i:Nat} {r:Bool} {g1 g2:Option Addr} {c1 c2:Nat} {p:Nat->Prop} (h:af w W (a9 b i r) g1 c1 g2 c2) (hk:KS p W W') (hq:∀ r,w.heap.size<=r->p r) (hl:(a9 b i r).devs.length<=20/\(a9 b i r).tests.length<=20/\∀ t∈(a9 b i r).tests,t.path.length<=20) :
 FBookAt W' (a9 b i r) (.int .i64 b.most) (.slice g1 b.devs.length c1) (.slice g2 b.tests.length c2):=by
 have:=h.late hk hq hl.1 hl.2.1 hl.2.2;rw [show (a9 b i r).tests.length=b.tests.length by simp [a9]] at this;exact this
theorem bb {w W W':World} {b:Fbk} {i:Nat} {r:Bool} {g1 g2:Option Addr} {c1 c2:Nat} {p:Nat->Prop} {um ud ut:Value} (h:af w W (a9 b i r) g1 c1 g2 c2) (hk:KS p W W') (hq:∀ r,w.heap.size<=r->p r) (hl:(a9 b i r).devs.length<=20/\(a9 b i r).tests.length<=20/\∀ t∈(a9 b i r).tests,t.path.length<=20)
 (hu:(openAl (a9 b i r) 0=0/\um=.int .i64 b.most/\ud=.slice g1 b.devs.length c1/\ut=.slice g2 b.tests.length c2)\/(openAl (a9 b i r) 0≠0/\um=.int .i64 0/\ud=.slice none 0 0/\ut=.slice none 0 0)):FBookAt W' (aE (a9 b i r)) um ud ut :=
 bW h hk hq hl.1 hl.2.1 hl.2.2 (by rw [show (a9 b i r).tests.length=b.tests.length by simp [a9]];exact hu)
theorem bx {w w2 w3 w5 w6:World} {r2:Nat} {a0 a1 a2:Value} {o:Obj} (hb:Below w2.heap.size w2 w3) (hr:w2.heap.size<=r2) (h6:Below (w5.alloc o).heap.size (w5.alloc o) w6) (hs:w.heap.size+1 < w2.heap.size)
 (y0:w2.cell? ⟨w.heap.size+1,0,none⟩=some a0) (y1:w2.cell? ⟨w.heap.size+1,1,none⟩=some a1) (y2:w2.cell? ⟨w.heap.size+1,2,none⟩=some a2) (f:∀ k,w2.frozen? ⟨w.heap.size+1,k,none⟩=false) (h5:KS (fun y=>y≠r2) w3 w5:=by first | exact KS.setCell (by simp) _ _ | exact (KS.setCell (by simp) _ _).trans (KS.setCell (by simp) _ _)) :
 w6.cell? ⟨w.heap.size+1,0,none⟩=some a0/\w6.cell? ⟨w.heap.size+1,1,none⟩=some a1/\w6.cell? ⟨w.heap.size+1,2,none⟩=some a2/\∀ k,w6.frozen? ⟨w.heap.size+1,k,none⟩=false:=by
 have z3:=hb.size;have z5:=h5.size;have hc:∀ k,w6.cell? ⟨w.heap.size+1,k,none⟩=w2.cell? ⟨w.heap.size+1,k,none⟩:=fun k=>(h6.cell (p:=⟨w.heap.size+1,k,none⟩) (by show w.heap.size+1 < (w5.alloc o).heap.size;simp;omega)).trans ((World.cell?_alloc_past _ _ _ (by show w.heap.size+1 < w5.heap.size;omega)).trans ((h5.cell (x:=⟨w.heap.size+1,k,none⟩) (by show w.heap.size+1 < _;omega) (by show w.heap.size+1≠r2;omega)).trans (hb.cell (p:=⟨w.heap.size+1,k,none⟩) hs)));have hf:∀ k,w6.frozen? ⟨w.heap.size+1,k,none⟩=w2.frozen? ⟨w.heap.size+1,k,none⟩:=fun k=>(h6.frozen (p:=⟨w.heap.size+1,k,none⟩) (by show w.heap.size+1 < (w5.alloc o).heap.size;simp;omega)).trans ((World.frozen?_alloc_past _ _ _ (by show w.heap.size+1 < w5.heap.size;omega)).trans ((h5.frozen (x:=⟨w.heap.size+1,k,none⟩) (by show w.heap.size+1 < _;omega) (by show w.heap.size+1≠r2;omega)).trans (hb.frozen (p:=⟨w.heap.size+1,k,none⟩) hs)));exact ⟨(hc 0).trans y0,(hc 1).trans y1,(hc 2).trans y2,fun k=>(hf k).trans (f k)⟩
theorem cI (hB:FBookAt w b vm vd vt) (hN:∀ m∈b.devs,m.name.size<=1000000) (hb:bookAl b=0) {i:Nat} (hi:i < b.tests.length) (hs:b.tests[i].seen=0) (hA:ActsAt w) (r:Bool) :
 Calls Mz.prog 61 #[.agg #[vm,vd,vt],.int .i64 (i:Int),.bool r] w (cF w (a9 b i r)):=by
 have HB:=Hh hB;have HN:=Hh hN;have H0:=Hh hb;have h20:=(testsAl_ok (bookAl_ok hb).2).1;have hiI:(i:Int) < (b.tests.length:Int):=by omega
 obtain ⟨rfl,⟨da,dc,rfl,_,_⟩,ta,tc,rfl,hT,_⟩:=hB;obtain ⟨tb,to,rfl,htb,pa,pc,_,_,_,_,hseen⟩:=hT i hi;have hwr:IntKind.i64.wrap ((b.tests.length:Int) - 1)=(b.tests.length:Int) - 1:=IntWalk.i64_in _ (by omega);have hin:inB (i:Int) 0 ((b.tests.length:Int) - 1)=true:=by unfold inB;simp;omega
 have HA:=Hh hA;rw [hs] at hseen;have hp20:∀ t∈b.tests,t.path.length<=20:=fun t ht=>by have:=(pathAl_ok ((testsAl_ok (bookAl_ok hb).2).2 t ht).1).1.2;omega
 have hd20:b.devs.length<=20:=by have:=(bk6 hb).1;omega
 have HIN:=Hh (fun W=>inside_any (i:Int) 0 ((b.tests.length:Int) - 1) W);rw [hin] at HIN;clear hN hb hT hs hin hA;cases r
 ·have HL:=Hh (show (a9 b i false).devs.length<=20/\(a9 b i false).tests.length<=20/\∀ t∈(a9 b i false).tests,t.path.length<=20 from ba hd20 (by omega) hp20 hi);have HAG:=Hh (fun (W:World) (um ud ut:Value) (h1:FBookAt W (a9 b i false) um ud ut) (h2:ActsAt W)=>aU h1 (show ∀ m∈(a9 b i false).devs,m.name.size<=1000000 from HN.out) h2)
  go_enter (mz_func (i:=61) rfl Tryz.func61),Tryz.ntmps61
  go_wp2_with (first
   | (go_at_call 78;(with_reducible refine (checkBook_at (HB.out.below (bel)) HN.out H0.out).mono ?_);rintro e w1 ⟨rfl,hb1⟩;obtain ⟨hs1,z0,z1,z2,f0,y0,y1,y2,f1⟩:=aD hb1;obtain ⟨u0,u1,u2,u3,u4,u5⟩:=aI hb1;have hc1:w1.cell? ⟨tb,to+i * 2+1,none⟩=some (.int .i64 0):=(hb1.cell (p:=⟨tb,to+i * 2+1,none⟩) (by simp;omega)).trans (by rw [World.cell?_alloc_past _ _ _ (by simp;omega),World.cell?_alloc_past _ _ _ htb];exact hseen);have HBB:=Hh (show Below w.heap.size w w1 from bel))
   | (go_at_call 119;(with_reducible refine (HIN.out _).mono ?_);rintro e w2 ⟨rfl,hw2⟩;subst hw2)
   | (go_at_call 114;(with_reducible refine (aT (HB.out.below HBB.out) hd20 (by omega) hp20).mono ?_);rintro e w3 ⟨g1,c1,g2,c2,rfl,hown⟩;have HO:=Hh hown;clear hown;obtain ⟨r2,rfl,k2,k3,k4,k5⟩:=HO.out.tst (by omega);have HS5:Hid (af _ (w3.setCell ⟨r2,i * 2+1,none⟩ (.int .i64 2)) (a9 b i false) _ _ _ _):=Hh (bw HO.out hi false);have ce:w3.cell? ⟨r2,i * 2+1,none⟩=some (.int .i64 b.tests[i].seen):=(k5 i hi).1;have hb3:=Hh (Below.next HBB.out HO.out.bel);clear k5))
  go_wp2_with (go_at_call 116;go_loud ((with_reducible refine (HAG.out _ _ _ _ ?_ ?_).mono ?_);exact aV (p:=fun _=>True) HS5.out (KS.all (Below.al (Below.refl _ _) _) _) (fun _ _=>trivial) HL.out;exact HA.out.below (Below.al (Below.setCell hb3.out (by have:=HBB.out.size;simp;omega) _) _);rintro e w6 ⟨m,a1,n1,m1,a2,n2,m2,rfl,hu,hb6⟩;have HB6:=Hh hb6;clear hb6;obtain ⟨q0,q1,q2,qf⟩:=bx HO.out.bel k2 HB6.out hs1 y0 y1 y2 f1));exact bodyPost_ret (v:=.tuple #[.agg #[.int .i64 m,.slice a1 n1 m1,.slice a2 n2 m2],.int .i64 (openAl (a9 b i false) 0)]) (by simp [results,Tryz.results61,go_sem, *]) rfl ⟨_,_,_,rfl,bb (p:=fun y=>y≠w.heap.size+1) HS5.out ((KS.alloc _ _ _).trans ((KS.all HB6.out _).trans (((KS.setCell (by simp) _ _).trans (KS.setCell (by simp) _ _)).trans (KS.setCell (by simp) _ _)))) (fun r hr=>by show r≠w.heap.size+1;omega) HL.out hu.out,Below.setCell (Below.setCell (Below.setCell (Below.next (Below.al (Below.setCell hb3.out (by have:=HBB.out.size;simp;omega) _) _) HB6.out) (by simp) _) (by simp) _) (by simp) _⟩
 ·have HL:=Hh (show (a9 b i true).devs.length<=20/\(a9 b i true).tests.length<=20/\∀ t∈(a9 b i true).tests,t.path.length<=20 from ba hd20 (by omega) hp20 hi);have HAG:=Hh (fun (W:World) (um ud ut:Value) (h1:FBookAt W (a9 b i true) um ud ut) (h2:ActsAt W)=>aU h1 (show ∀ m∈(a9 b i true).devs,m.name.size<=1000000 from HN.out) h2)
  go_enter (mz_func (i:=61) rfl Tryz.func61),Tryz.ntmps61
  go_wp2_with (first
   | (go_at_call 78;(with_reducible refine (checkBook_at (HB.out.below (bel)) HN.out H0.out).mono ?_);rintro e w1 ⟨rfl,hb1⟩;obtain ⟨hs1,z0,z1,z2,f0,y0,y1,y2,f1⟩:=aD hb1;obtain ⟨u0,u1,u2,u3,u4,u5⟩:=aI hb1;have hc1:w1.cell? ⟨tb,to+i * 2+1,none⟩=some (.int .i64 0):=(hb1.cell (p:=⟨tb,to+i * 2+1,none⟩) (by simp;omega)).trans (by rw [World.cell?_alloc_past _ _ _ (by simp;omega),World.cell?_alloc_past _ _ _ htb];exact hseen);have HBB:=Hh (show Below w.heap.size w w1 from bel))
   | (go_at_call 119;(with_reducible refine (HIN.out _).mono ?_);rintro e w2 ⟨rfl,hw2⟩;subst hw2)
   | (go_at_call 114;(with_reducible refine (aT (HB.out.below HBB.out) hd20 (by omega) hp20).mono ?_);rintro e w3 ⟨g1,c1,g2,c2,rfl,hown⟩;have HO:=Hh hown;clear hown;obtain ⟨r2,rfl,k2,k3,k4,k5⟩:=HO.out.tst (by omega);have HS5:Hid (af _ ((w3.setCell ⟨r2,i * 2+1,none⟩ (.int .i64 2)).setCell ⟨r2,i * 2+1,none⟩ (.int .i64 1)) (a9 b i true) _ _ _ _):=Hh (bw HO.out hi true);have ce:w3.cell? ⟨r2,i * 2+1,none⟩=some (.int .i64 b.tests[i].seen):=(k5 i hi).1;have hb3:=Hh (Below.next HBB.out HO.out.bel);clear k5))
  go_wp2_with (go_at_call 116;go_loud ((with_reducible refine (HAG.out _ _ _ _ ?_ ?_).mono ?_);exact aV (p:=fun _=>True) HS5.out (KS.all (Below.al (Below.refl _ _) _) _) (fun _ _=>trivial) HL.out;exact HA.out.below (Below.al (Below.setCell (Below.setCell hb3.out (by have:=HBB.out.size;simp;omega) _) (by have:=HBB.out.size;simp;omega) _) _);rintro e w6 ⟨m,a1,n1,m1,a2,n2,m2,rfl,hu,hb6⟩;have HB6:=Hh hb6;clear hb6;obtain ⟨q0,q1,q2,qf⟩:=bx HO.out.bel k2 HB6.out hs1 y0 y1 y2 f1));exact bodyPost_ret (v:=.tuple #[.agg #[.int .i64 m,.slice a1 n1 m1,.slice a2 n2 m2],.int .i64 (openAl (a9 b i true) 0)]) (by simp [results,Tryz.results61,go_sem, *]) rfl ⟨_,_,_,rfl,bb (p:=fun y=>y≠w.heap.size+1) HS5.out ((KS.alloc _ _ _).trans ((KS.all HB6.out _).trans (((KS.setCell (by simp) _ _).trans (KS.setCell (by simp) _ _)).trans (KS.setCell (by simp) _ _)))) (fun r hr=>by show r≠w.heap.size+1;omega) HL.out hu.out,Below.setCell (Below.setCell (Below.setCell (Below.next (Below.al (Below.setCell (Below.setCell hb3.out (by have:=HBB.out.size;simp;omega) _) (by have:=HBB.out.size;simp;omega) _) _) HB6.out) (by simp) _) (by simp) _) (by simp) _⟩
end
attribute [local go_sem] Oper.semAt_some
theorem cK (s:ByteArray) (x y:Bool) (t:Int) (w:World):Sem.run Mz.prog (Op.equalIn 10000 74 (.agg #[.string s,.bool x,.bool y,.int .i64 t]) (.agg #[.string s,.bool x,.bool y,.int .i64 t])) w=.ok true w:=by
 have u3:=mzu Tryz.underlying3;have u4:=mzu Tryz.underlying9;have u5:=mzu Tryz.underlying4;have hS:Mz.prog.underlying 74=some (.struct (Mz.prog.fieldsOf 74)):=by kernel_rfl
 have hp:Mz.prog.stoodInHeld 74=false:=by kernel_rfl
 rw [show (10000:Nat)=9999+1 from rfl,run_equalIn_agg w 9999 74 _ _ hS hp];simp only [Program.fieldsOf,mzu Tryz.underlying74];go_simp
theorem c9 (p q:Operand) (s:ByteArray) (x y:Bool) (t:Int) (w:World):Sem.run Mz.prog (eqGuard .neq 74 p q (.agg #[.string s,.bool x,.bool y,.int .i64 t]) (.agg #[.string s,.bool x,.bool y,.int .i64 t])) w=.ok () w:=by kernel_rfl
theorem aZ {w:World} {b:Fbk} {vm vd vt um ud ut:Value} (hB:FBookAt w b vm vd vt) (hC:FBookAt w b um ud ut) :
 Calls Mz.prog 52 #[.agg #[vm,vd,vt],.agg #[um,ud,ut]] w fun e w'=>e=.returned (.bool true)/\Below w.heap.size w w':=by
 obtain ⟨rfl,⟨ma,mc,rfl,hM,hml⟩,sa,sc,rfl,hS,hsl⟩:=hB;obtain ⟨rfl,⟨na,nc,rfl,hN,_⟩,ta,tc,rfl,hT,_⟩:=hC;have HM:=Hh hM;have HN:=Hh hN;have HS:=Hh hS;have HT:=Hh hT;clear hM hN hS hT
 go_enter (mz_func (i:=52) rfl Tryz.func52),Tryz.ntmps52
 go_wp2;obtain ⟨W0,hW0⟩:∃ W0,W0=(w.alloc (.cells #[.int .i64 b.most,.slice ma b.devs.length mc,.slice sa b.tests.length sc] 25)).alloc (.cells #[.int .i64 b.most,.slice na b.devs.length nc,.slice ta b.tests.length tc] 25):=⟨_,rfl⟩;rw [<- hW0];have hb0:Below w.heap.size w W0:=by rw [hW0];(exact bel)
 have nn:∀ k u,(#[.int .i64 b.most,.slice ma b.devs.length mc,.slice sa b.tests.length sc]:Array Value)[k]? = some u->W0.cell? ⟨w.heap.size,k,none⟩=some u:=fun k u hk=>by
  rw [hW0,World.cell?_alloc_past _ _ _ (by simp),World.cell?_alloc_at _ _ _ _ rfl];exact hk
 have zz:∀ k u,(#[.int .i64 b.most,.slice na b.devs.length nc,.slice ta b.tests.length tc]:Array Value)[k]? = some u->W0.cell? ⟨w.heap.size+1,k,none⟩=some u:=fun k u hk=>by
  rw [hW0,World.cell?_alloc_at _ _ _ _ (by simp)];exact hk
 have hs0:w.heap.size+1 < W0.heap.size:=by rw [hW0];simp
 have hs1:w.heap.size < W0.heap.size:=by omega
 have NN:=Hh nn;have ZZ:=Hh zz;have HB0:=Hh hb0;clear hW0 nn zz hb0;go_loopw [5] (fun i wr=>∃ k:Nat,k<=b.devs.length/\i=.int .i64 k/\Below W0.heap.size W0 wr) (fun i _=>b.devs.length - (intOf i).toNat)
 case atStart=>exact ⟨0,Nat.zero_le _,rfl,Below.refl _ _⟩
 case round =>
  obtain ⟨k,hk,rfl,hW⟩:=hrel;have hWs:=hW.size;have hbr:=Below.next HB0.out hW;have x0:=(hW.cell (p:=⟨w.heap.size,1,none⟩) hs1).trans (NN.out 1 _ rfl);have y0:=(hW.cell (p:=⟨w.heap.size+1,1,none⟩) hs0).trans (ZZ.out 1 _ rfl);have hx1:w.heap.size < wr.heap.size:=by omega
  have hx2:w.heap.size+1 < wr.heap.size:=by omega
  by_cases hlt:k < b.devs.length
  ·obtain ⟨lb,lo,rfl,hlb,e0,e1,e2,e3⟩:=HM.out k hlt;obtain ⟨nb,no,rfl,hnb,f0,f1,f2,f3⟩:=HN.out k hlt;have e0:=(hbr.cell hlb).trans e0;have e1:=(hbr.cell hlb).trans e1;have e2:=(hbr.cell hlb).trans e2;have e3:=(hbr.cell hlb).trans e3;have f0:=(hbr.cell hnb).trans f0;have f1:=(hbr.cell hnb).trans f1;have f2:=(hbr.cell hnb).trans f2;have f3:=(hbr.cell hnb).trans f3;have hlb2:lb < wr.heap.size:=Nat.lt_of_lt_of_le hlb hbr.size;have hnb2:nb < wr.heap.size:=Nat.lt_of_lt_of_le hnb hbr.size;generalize b.devs[k]=m at e0 e1 e2 e3 f0 f1 f2 f3;have heq:=fun w=>cK m.name m.held m.blind m.time w;have hgd:=fun p q w=>c9 p q m.name m.held m.blind m.time w;go_wp2;go_quiet (fail);go_wp2;go_roundw
   case rel=>exact ⟨k+1,by omega,by go_num,bel⟩
   case measure=>simp [intOf];omega
  ·obtain rfl:k=b.devs.length:=by omega
   clear hlt;go_wp2;go_loopw [6] (fun i wr=>∃ k:Nat,k<=b.tests.length/\i=.int .i64 k/\Below W0.heap.size W0 wr) (fun i _=>b.tests.length - (intOf i).toNat)
   case atStart=>exact ⟨0,Nat.zero_le _,rfl,hW⟩
   case round =>
    obtain ⟨k,hk,rfl,hW⟩:=hrel;have hWs:=hW.size;have hbr:=Below.next HB0.out hW;have x0:=(hW.cell (p:=⟨w.heap.size,2,none⟩) hs1).trans (NN.out 2 _ rfl);have y0:=(hW.cell (p:=⟨w.heap.size+1,2,none⟩) hs0).trans (ZZ.out 2 _ rfl);have hx1:w.heap.size < wr.heap.size:=by omega
    have hx2:w.heap.size+1 < wr.heap.size:=by omega
    by_cases hlt:k < b.tests.length
    ·obtain ⟨lb,lo,rfl,hlb,pa,pc,e0,g1,g2,g3,e1⟩:=HS.out k hlt;obtain ⟨nb,no,rfl,hnb,pa2,pc2,f0,i1,i2,i3,f1⟩:=HT.out k hlt;have e0:=(hbr.cell hlb).trans e0;have f0:=(hbr.cell hnb).trans f0;have e1:=(hbr.cell hlb).trans e1;have f1:=(hbr.cell hnb).trans f1;have hlb2:lb < wr.heap.size:=Nat.lt_of_lt_of_le hlb hbr.size;have hnb2:nb < wr.heap.size:=Nat.lt_of_lt_of_le hnb hbr.size;generalize b.tests[k]=m at e0 f0 e1 f1 g1 g2 g3 i1 i2 i3;have G3:=Hh (g3.below hbr);have I3:=Hh (i3.below hbr);clear g3 i3;have hse:(m.seen != m.seen)=false:=by simp
     go_wp2
     (refine wp_region_bel (by kernel_rfl) (by kernel_rfl) ?_;(repeat (go_big_quiet_step ((go_at_call 23;with_reducible exact Calls.bel_of (sameNums_at (t:=true) (G3.out.below (later_below _ _)) (I3.out.below (later_below _ _)) rfl rfl g2 g2 (by simp))))));refine wpQuiet_nil ?_;rintro _ ⟨xq,rfl⟩)
     go_wp2;go_roundw
     case rel=>exact ⟨k+1,by omega,by go_num,Below.next hW (later_below _ _)⟩
     case measure=>simp [intOf];omega
    ·obtain rfl:k=b.tests.length:=by omega
     clear hlt;go_wp2;go_ret;exact ⟨rfl,hbr⟩
end Mt
namespace Mt
open Go Go.RowKit
theorem aO {α:Type} (p:α->Bool) (r:Bool):∀ l:List α,l.length=(l.filter fun x=>decide (p x=r)).length+(l.filter fun x=>decide (p x=!r)).length
 | []=>rfl
 | x::l=>by
  have ih:=aO p r l;by_cases h:p x=r
  ·rw [List.filter_cons_of_pos (by simp [h]),List.filter_cons_of_neg (by simp [h])];simp only [List.length_cons];omega
  ·have h':p x=!r:=by cases hp:p x <;> cases r <;> simp_all
   rw [List.filter_cons_of_neg (by simp [h]),List.filter_cons_of_pos (by simp [h'])];simp only [List.length_cons];omega
theorem cb {b:Fbk} {i:Nat} (h:i < b.tests.length) (hs:b.tests[i].seen=0) (r:Bool):(histsI b).length=(histsI (a9 b i r)).length+(histsI (a9 b i (!r))).length:=by
 rw [ap h hs,ap h hs];exact aO _ _ _
theorem ak {α:Type} (p:α->Bool) (l:List α):claimI (l.countP p) l.length=1↔l≠[]/\∀ x∈l,p x=true:=by
 unfold claimI;rcases l with _ | ⟨a,l⟩
 ·simp
 by_cases h0:(a::l).countP p=0
 ·rw [if_pos h0];refine ⟨fun h=>absurd h (by decide),fun h=>?_⟩;exact absurd (h.2 a (by simp)) (by have:=List.countP_eq_zero.1 h0 a (by simp);simpa using this)
 ·rw [if_neg h0];by_cases h1:(a::l).countP p=(a::l).length
  ·rw [if_pos h1];exact ⟨fun _=>⟨by simp,List.countP_eq_length.1 h1⟩,fun _=>rfl⟩
  ·rw [if_neg h1];exact ⟨fun h=>absurd h (by decide),fun h=>absurd (List.countP_eq_length.2 h.2) h1⟩
theorem aF {α:Type} (p:α->Bool) (l:List α):claimI (l.countP p) l.length=2↔∀ x∈l,p x=false:=by
 unfold claimI;by_cases h0:l.countP p=0
 ·rw [if_pos h0];exact ⟨fun _ x hx=>by have:=List.countP_eq_zero.1 h0 x hx;simpa using this,fun _=>rfl⟩
 ·rw [if_neg h0];refine ⟨fun h=>?_,fun h=>absurd (List.countP_eq_zero.2 fun x hx=>by simp [h x hx]) h0⟩;split at h <;> exact absurd h (by decide)
theorem cd {α:Type} (p:α->Bool) (l:List α):claimI (l.countP p) l.length=0\/claimI (l.countP p) l.length=1\/claimI (l.countP p) l.length=2:=by
 unfold claimI;split
 ·exact .inr (.inr rfl)
 ·split
  ·exact .inr (.inl rfl)
  ·exact .inl rfl
theorem bY {α:Type} (p:α->Bool) {l m:List α} (hm:m≠[]) (hs:∀ x∈m,x∈l):claimI (l.countP p) l.length=0\/claimI (l.countP p) l.length=claimI (m.countP p) m.length:=by
 rcases cd p l with h | h | h
 ·exact .inl h
 ·exact .inr (h.trans ((ak p m).2 ⟨hm,fun x hx=>((ak p l).1 h).2 x (hs x hx)⟩).symm)
 ·exact .inr (h.trans ((aF p m).2 fun x hx=>(aF p l).1 h x (hs x hx)).symm)
theorem bc {l:List (Nat->Nat)} {k:Nat} {x:Int}:x∈suspTo l k↔∃ i:Nat,i < k/\x=(i:Int)/\¬(l≠[]/\∀ s∈l,s i=0):=by
 unfold suspTo goodC;simp only [List.mem_map,List.mem_filter,List.mem_range,decide_eq_true_eq,ne_eq];constructor
 ·rintro ⟨i,⟨h1,h2⟩,rfl⟩;exact ⟨i,h1,rfl,fun h=>h2 ((ak _ _).2 ⟨h.1,fun s hs=>by simp [h.2 s hs]⟩)⟩
 ·rintro ⟨i,h1,rfl,h2⟩;exact ⟨i,⟨h1,fun h=>h2 ⟨((ak _ _).1 h).1,fun s hs=>by simpa using ((ak _ _).1 h).2 s hs⟩⟩,rfl⟩
theorem cg {l m:List (Nat->Nat)} {k:Nat} (hm:m≠[]) (hs:∀ x∈m,x∈l):((suspTo m k).all fun x=>decide (x∈suspTo l k))=true:=by
 rw [List.all_eq_true];intro x hx;obtain ⟨i,h1,rfl,h2⟩:=bc.1 hx;exact decide_eq_true (bc.2 ⟨i,h1,rfl,fun h=>h2 ⟨hm,fun s hx=>h.2 s (hs s hx)⟩⟩)
theorem bd {b:Fbk} {i:Nat} (h:i < b.tests.length) (hs:b.tests[i].seen=0) (r:Bool):∀ s∈histsI (a9 b i r),s∈histsI b:=by
 rw [ap h hs];exact fun s hx=>(List.mem_filter.1 hx).1
theorem bo {b:Fbk} {i:Nat} (h:i < b.tests.length) (hs:b.tests[i].seen=0) (r:Bool) (hm:histsI (a9 b i r)≠[]):passCI (a9 b i r) b.tests[i].path=if r then 1 else 2:=by
 have key:∀ s∈histsI (a9 b i r),(playI s b.tests[i].path).1=r:=fun s hx=>by
  rw [ap h hs] at hx;simpa using (List.mem_filter.1 hx).2
 unfold passCI;cases r
 ·exact (aF _ _).2 key
 ·exact (ak _ _).2 ⟨hm,key⟩
end Mt
namespace Mt
open Go Go.RowKit Go.Maps Go.Conc
attribute [local go_sem] Oper.semAt_some
theorem bf:(Tryz.prog.info? 25).map (fun i=>(i.zero,i.size))=some (some (.agg #[.int .i64 0,.slice none 0 0,.slice none 0 0]),3):=by kernel_rfl
section
variable {P:Program} {K:Frame->List Frame->World->Prop} {b:Frame} {a:Act} {w0 w:World} {I:World->Prop} {k:List Item} {cs:List Frame} {n:Nat} {l:List (Nat × Value)} {D:List Deferred}
theorem bz (hi:Ivt w0 I w) {ops:Array Oper} {i i2 j s:Nat} {rest:List Nat} {c0 c1 c2:Value} (q:Kn a n l) (hd:a.defers=D) {o o2:Oper} (ho:ops[i]? = some o) (hop:o.op=.alloc 25) (hw:∀ y,Region.wanted o y=true) (hdst:o.dst=some j)
 (ho2:ops[i2]? = some o2) (hop2:o2.op=.store 25 (.tmp j) (.tmp s)) (hw2:∀ y,Region.wanted o2 y=true) (hdst2:o2.dst=none) (hs:a.tmps[s]? = some (.agg #[c0,c1,c2])) (hne:s≠j) (hj:j < n) (h1:(#[c0,c1,c2]:Array Value).all (·.oneCell')=true)
 (h:∀ r a1 w1,Ivt w0 (fun w=>I w/\BoxAt r #[c0,c1,c2] w) w1->a1.defers=D->Kn a1 n ((j,.pointer (some ⟨r,0,none⟩))::l.filter fun x=>x.1 != j)->Leads Tryz.prog K (b.at a1 (.inRegion ops rest::k)) cs w1)
 (hb:b.kind=.normal:=by rfl):Leads Tryz.prog K (b.at a (.inRegion ops (i::i2::rest)::k)) cs w:=by
 obtain ⟨zf,zs⟩:=zero_of_info bf;have hbe:b.kind≠.early:=by rw [hb];decide
 intro L hL W Dd hv;have hsz:w.heap.size=W.heap.size:=hv.size;have e1:∀ V:World,(execOp a.eval o).run Tryz.prog V=.ok (.value (.pointer (some ⟨V.heap.size,0,none⟩))) (V.alloc (.cells #[.int .i64 0,.slice none 0 0,.slice none 0 0] 25))/\(execOp a.eval o).events Tryz.prog V #[]=#[]:=fun V=>by
  have ee:execOp a.eval o=execOp a.eval { o with op:=.alloc 25 }:=by unfold execOp;rw [hop]
  rw [ee];exact ⟨by simp [go_sem,zf],by simp [go_sem,zf]⟩
 obtain ⟨a1,ha1⟩:∃ a1,a1=a.put (some j) (.pointer (some ⟨W.heap.size,0,none⟩)):=⟨_,rfl⟩;have q1:Kn a1 n ((j,.pointer (some ⟨W.heap.size,0,none⟩))::l.filter fun x=>x.1 != j):=by rw [ha1];exact q.cons hj _
 have hs1:a1.tmps[s]? = some (.agg #[c0,c1,c2]):=by
  rw [ha1];show (a.tmps.setIfInBounds j _)[s]? = _;rw [Array.getElem?_setIfInBounds,if_neg (Ne.symm hne)];exact hs
 have e2:∀ V:World,V.heap.size=W.heap.size->(execOp a1.eval o2).run Tryz.prog (V.alloc (.cells #[.int .i64 0,.slice none 0 0,.slice none 0 0] 25))=.ok .skip (V.alloc (.cells #[c0,c1,c2] 25))/\∀ e∈(execOp a1.eval o2).events Tryz.prog (V.alloc (.cells #[.int .i64 0,.slice none 0 0,.slice none 0 0] 25)) #[],∃ k,e.loc=.cell ⟨W.heap.size,k,none⟩:=fun V hV=>by
  have hj1:a1.eval (.tmp j)=.pointer (some ⟨V.heap.size,0,none⟩):=by rw [hV];exact q1.ev j (by simp)
  have hj2:a1.eval (.tmp s)=.agg #[c0,c1,c2]:=by show a1.tmps.getD s undef=_;rw [Array.getD_eq_getD_getElem?,hs1];rfl
  have hex:execOp a1.eval o2=(do Instr.storeAt 25 (.pointer (some ⟨V.heap.size,0,none⟩)) (.agg #[c0,c1,c2]);pure Next.skip):=by
   unfold execOp;rw [hop2];simp only [hj1,hj2]
  rw [hex];have hst:=run_storeAt_new (P:=Tryz.prog) V 25 #[.int .i64 0,.slice none 0 0,.slice none 0 0] #[c0,c1,c2] zs rfl h1;refine ⟨by simp only [Sem.run_bind,hst,Result.andThen,Sem.run_pure],fun e he=>?_⟩;have hone:c0.oneCell'=true/\c1.oneCell'=true/\c2.oneCell'=true:=by simpa using h1
  have r0:=fun (w:World) a m=>run_store Tryz.prog w a c0 m hone.1;have r1:=fun (w:World) a m=>run_store Tryz.prog w a c1 m hone.2.1;have e0:=fun (w:World) es a m=>events_store (P:=Tryz.prog) (w:=w) (es:=es) a c0 m hone.1;have e1:=fun (w:World) es a m=>events_store (P:=Tryz.prog) (w:=w) (es:=es) a c1 m hone.2.1;have e2:=fun (w:World) es a m=>events_store (P:=Tryz.prog) (w:=w) (es:=es) a c2 m hone.2.2;have y:∀ k u,(#[.int .i64 0,.slice none 0 0,.slice none 0 0]:Array Value)[k]? = some u->(V.alloc (.cells #[.int .i64 0,.slice none 0 0,.slice none 0 0] 25)).cell? ⟨V.heap.size,k,none⟩=some u:=fun k u h=>by rw [World.cell?_alloc_at _ _ _ _ rfl];exact h
  have y0:=y 0 _ rfl;have y1:=y 1 _ rfl;have y2:=y 2 _ rfl;have f:∀ k,(V.alloc (.cells #[.int .i64 0,.slice none 0 0,.slice none 0 0] 25)).frozen? ⟨V.heap.size,k,none⟩=false:=fun k=>by rw [World.frozen?_alloc_at _ _ _ _ rfl]
  simp [go_sem,r0,r1,e0,e1,e2,y0,f] at he;rcases he with rfl | rfl | rfl
  ·exact ⟨0,by rw [hV]⟩
  ·exact ⟨1,by rw [hV]⟩
  ·exact ⟨2,by rw [hV]⟩
 refine .step fun d=>⟨_,cs,(W.at d).alloc (.cells #[.int .i64 0,.slice none 0 0,.slice none 0 0] 25),_,stepG_value ho (hw _) hbe (e1 _).1,fun e hm=>?_,(by show W.heap.size<=(W.heap.push _).size;rw [Array.size_push];omega),?_⟩
 ·have:=seen_mem hm;rw [(e1 _).2] at this;simp at this
 rw [hdst];show LeadsR Tryz.prog L Dd _ (b.at (a.put (some j) (.pointer (some ⟨W.heap.size,0,none⟩))) _) cs _;rw [<- ha1];refine .step fun d2=>⟨_,cs,((W.at d).at d2).alloc (.cells #[c0,c1,c2] 25),_,stepG_none ho2 (hw2 _) hbe (e2 ((W.at d).at d2) rfl).1,fun e hm=>?_,(by show (W.heap.push _).size<=(W.heap.push _).size;rw [Array.size_push,Array.size_push];omega),?_⟩
 ·obtain ⟨k,hk⟩:=(e2 ((W.at d).at d2) rfl).2 e (seen_mem hm);unfold EvOk;rw [hk];refine ⟨(by show W.heap.size < (W.heap.push _).size;rw [Array.size_push];omega),fun hD=>?_⟩;obtain ⟨⟨x,h3,_⟩,_⟩:=hv.gone _ hD;exact absurd (Array.getElem?_eq_some_iff.1 h3).1 (Nat.lt_irrefl _)
 rw [hdst2];have hst:Stays w (((w.at d).at d2).alloc (.cells #[c0,c1,c2] 25)):=⟨rfl,(by show w.heap.size<=(w.heap.push _).size;rw [Array.size_push];omega),fun r hr=>by
  show (w.heap.push _)[r]? = _
  rw [Array.getElem?_push,if_neg (by omega)],ConcM.OsLater.refl _⟩
 have hbx:BoxAt W.heap.size #[c0,c1,c2] (((w.at d).at d2).alloc (.cells #[c0,c1,c2] 25)):=⟨by show W.heap.size < (w.heap.push _).size;rw [Array.size_push];omega,fun k v e=>by
  have hsz':W.heap.size=((w.at d).at d2).heap.size:=hsz.symm
  rw [hsz',World.cell?_alloc_at _ _ _ _ rfl]
  exact e⟩
 exact h _ a1 _ (hi.and hst (fun _ _ ha x=>x.alike ha) hbx) (by rw [ha1];exact hd) q1 L (by show L<=(w.heap.push _).size;rw [Array.size_push];omega) _ _ (((hv.at d).at d2).alloc _)
theorem cj {P:Program} (hi:Ivt w0 I w) {ops:Array Oper} {i j:Nat} {rest:List Nat} (v:Value) {o:Oper} (ho:ops[i]? = some o) (hw:Region.wanted o (yielded ops a.tmps)=true) (hdst:o.dst=some j)
 (hr:∀ W:World,(execOp a.eval o).run P W=.ok (.value v) W/\(execOp a.eval o).events P W #[]=#[])
 (h:∀ w1,Ivt w0 I w1->Leads P K (b.at (a.put (some j) v) (.inRegion ops rest::k)) cs w1) (hb:b.kind=.normal:=by rfl):Leads P K (b.at a (.inRegion ops (i::rest)::k)) cs w:=by
 refine leads_op v hb ho hw (fun W D hv d=>(hr _).1) (fun W D hv d e he=>?_) fun d=>?_
 ·rw [(hr _).2] at he;simp at he
 ·rw [hdst];exact h _ (hi.to (Stays.at w d))
theorem aP {P:Program} (hi:Ivt w0 I w) {ops:Array Oper} {i j:Nat} {rest:List Nat} (v:Value) {r c:Nat} {o:Oper} (ho:ops[i]? = some o) (hw:Region.wanted o (yielded ops a.tmps)=true) (hdst:o.dst=some j) (hc:w.cell? ⟨r,c,none⟩=some v)
 (hr:∀ W:World,W.cell? ⟨r,c,none⟩=some v->(execOp a.eval o).run P W=.ok (.value v) W/\∀ e∈(execOp a.eval o).events P W #[],e.loc=.cell ⟨r,c,none⟩)
 (h:∀ w1,Ivt w0 I w1->Leads P K (b.at (a.put (some j) v) (.inRegion ops rest::k)) cs w1) (hb:b.kind=.normal:=by rfl):Leads P K (b.at a (.inRegion ops (i::rest)::k)) cs w:=by
 refine leads_op v hb ho hw (fun W D hv d=>(hr (W.at d) (hv.cell hc).2).1) (fun W D hv d e he=>?_) fun d=>?_
 ·have hk:=(hr (W.at d) (hv.cell hc).2).2 e he;obtain ⟨n0,y0⟩:=hv.cell hc;unfold EvOk;rw [hk];exact ⟨lt_of_cell (a:=⟨r,c,none⟩) y0,n0⟩
 ·rw [hdst];exact h _ (hi.to (Stays.at w d))
theorem bg {o:Oper} (ho:o.op=.build 25 #[]):∀ W:World,(execOp a.eval o).run Tryz.prog W=.ok (.value (.agg #[.int .i64 0,.slice none 0 0,.slice none 0 0])) W/\(execOp a.eval o).events Tryz.prog W #[]=#[]:=fun W=>by
 obtain ⟨zf,zs⟩:=zero_of_info bf;have ee:execOp a.eval o=execOp a.eval { o with op:=.build 25 #[] }:=by unfold execOp;rw [ho]
 rw [ee];exact ⟨by simp [go_sem,zf],by simp [go_sem,zf]⟩
theorem cG {o:Oper} {p q:Nat} {t u:TypeId} {k m N:Nat} (hm:k % N=m) (ho:o.op=.binOp .rem t (.tmp p) (.tmp q) u) (hx:a.tmps[p]? = some (.int .i64 (k:Int))) (hy:a.tmps[q]? = some (.int .i64 (N:Int))) (hn:0 < N) (hk:k<=255) :
 ∀ W:World,(execOp a.eval o).run Tryz.prog W=.ok (.value (.int .i64 (m:Int))) W/\(execOp a.eval o).events Tryz.prog W #[]=#[]:=by
 subst hm;exact op_rem ho hx hy hn hk
theorem ao (hi:Ivt w0 I w) {ops:Array Oper} {i:Nat} {rest:List Nat} (j:Nat) (q:Kn a n l) (hd:a.defers=D) (hA:∀ w,I w->ActsAt w)
 (h:∀ a1 w1,Ivt w0 I w1->a1.defers=D->Kn a1 n ((j,.bool true)::l.filter fun x=>x.1 != j)->Leads Tryz.prog K (b.at a1 (.inRegion ops rest::k)) cs w1)
 (hb:b.kind=.normal:=by rfl) (e:∀ d,callR Tryz.prog n d l ops i=some (16,[],j):=by intro d;kernel_rfl):Leads Tryz.prog K (b.at a (.inRegion ops (i::rest)::k)) cs w :=
 co_callL hi 16 [] j (α:=Unit) (V:=fun _=>.bool true) (Z:=fun _ _=>True) q hd (fun _ _ _ _ _=>trivial) (fun c cs w h=>found_coL (hA w h) c cs) (fun _ a1 w1 h1=>h a1 w1 (h1.less hi.cl fun _ x=>x.1)) hb e
end
section
variable {P:Program} {K:Frame->List Frame->World->Prop} {b:Frame} {k:List Item} {cs:List Frame} {ops:Array Oper}
theorem co {md:Region.Mode} {rk:Nat->Nat} (hl:lowB md ops rk=true) (J:Array Bool->Act->World->Prop)
 (step:∀ i o L a w rest,ops[i]? = some o->L.getD i true=false->(∀ e∈o.after,Region.binds md e=true->L.getD e.on false=true)->J L a w ->
   (∀ a1 w1,J (L.setIfInBounds i true) a1 w1->Leads P K (b.at a1 (.inRegion ops rest::k)) cs w1)->Leads P K (b.at a (.inRegion ops (i::rest)::k)) cs w)
 (fin:∀ L a w,L.size=ops.size->(∀ i,i < ops.size->L.getD i true=true)->J L a w->Leads P K (b.at a (.inRegion ops []::k)) cs w) :
 ∀ (fuel t:Nat) (L:Array Bool) (a:Act) (w:World),left L ops.size<=fuel->L.size=ops.size->J L a w->Leads P K (b.at a (.inRegion ops (Region.linearise.go md ops fuel t L [])::k)) cs w:=by
 intro fuel
 induction fuel with
 | zero =>
  intro t L a w h0 hs hi;have:Region.linearise.go md ops 0 t L []=[]:=by simp [Region.linearise.go]
  rw [this];exact fin L a w hs (left_zero (by omega)) hi
 | succ fuel ih =>
  intro t L a w h0 hs hi;simp only [Region.linearise.go]
  change Leads P K (b.at a (.inRegion ops (match (Region.ready md ops L)[t % (Region.ready md ops L).length]? with
   | some i=>Region.linearise.go md ops fuel (t / (Region.ready md ops L).length) (L.setIfInBounds i true) [i]
   | none=>[].reverse)::k)) cs w
  cases hx:(Region.ready md ops L)[t % (Region.ready md ops L).length]? with
  | none =>
   have hnil:Region.ready md ops L=[]:=by
    cases hr:Region.ready md ops L with
    | nil=>rfl
    | cons x xs =>
     rw [hr] at hx;have hlt:t % (x::xs).length < (x::xs).length:=Nat.mod_lt _ (by simp);simp at hx;simp at hlt;omega
   exact fin L a w hs (all_done hl hs hnil) hi
  | some i =>
   simp only [];rw [linearise_go_acc,List.reverse_singleton,List.singleton_append];have hr:=List.mem_of_getElem? hx;obtain ⟨hun,o,ho,hall⟩:=mem_ready.1 hr;have hlt:i < ops.size:=(Array.getElem?_eq_some_iff.1 ho).1;refine step i o L a w _ ho hun hall hi fun a1 w1 h1=>ih _ _ a1 w1 ?_ (by simp [hs]) h1;have:=left_set hun hlt;omega
theorem aG {id:Nat} (rk:Region.Mode->Nat->Nat) (hl:∀ md,lowB md ops (rk md)=true) (J:Array Bool->Act->World->Prop) {a:Act} {w:World}
 (h0:∀ w1,Stays w w1->J (Array.replicate ops.size false) a w1)
 (step:∀ i L a w rest,i < ops.size->L.getD i true=false->(∀ d,needs ops i d=true->L.getD d false=true)->J L a w ->
   (∀ a1 w1,J (L.setIfInBounds i true) a1 w1->Leads P K (b.at a1 (.inRegion ops rest::k)) cs w1)->Leads P K (b.at a (.inRegion ops (i::rest)::k)) cs w)
 (fin:∀ L a w,L.size=ops.size->(∀ i,i < ops.size->L.getD i true=true)->J L a w->Leads P K (b.at a (.inRegion ops []::k)) cs w) :
 Leads P K (b.at a (.code (.region id ops true)::k)) cs w:=by
 intro L hL W D hv;refine .step fun d=>?_;have:∃ md t,Region.schedule (P.follows .mixedOrders) ops ((W.at d).tape (W.at d).drawn (.order b.fn id))=Region.linearise.go md ops ops.size t (Array.replicate ops.size false) []:=by
  unfold Region.schedule Region.linearise;split
  ·exact ⟨_,_,rfl⟩
  ·exact ⟨_,_,rfl⟩
 obtain ⟨md,t,ht⟩:=this;refine ⟨_,_,_,#[],stepG_region_draw,(fun e he=>by simp at he),Nat.le_refl _,?_⟩;rw [ht];have hv':View D { W.at d with drawn:=(W.at d).drawn+1 } (w.at (d+1)):=⟨hv.tape,rfl,hv.os,hv.output,hv.size,hv.live,hv.gone⟩;exact co (hl md) J (fun i o L a w rest ho hu h=>step i L a w rest (Array.getElem?_eq_some_iff.1 ho).1 hu fun d=>needs_spec ho h) fin ops.size _ _ a (w.at (d+1)) left_le (by simp) (h0 _ (Stays.at w (d+1))) L hL _ _ hv'
theorem cp {w0 w:World} {I:World->Prop} {a:Act} {n id:Nat} {base:List (Nat × Value)} {D:List Deferred} (hi:Ivt w0 I w) (rk:Region.Mode->Nat->Nat) (ds:Nat->Nat) (V:Nat->Value) (q:Kn a n base) (hd:a.defers=D)
 (hinj:∀ i,i < ops.size->∀ k,k < ops.size->ds k=ds i->k=i) (hbase:((List.range ops.size).all fun i=>base.all fun x=>x.1 != ds i)=true) (hlt:∀ i,i < ops.size->ds i < n)
 (step:∀ i,i < ops.size->∀ a w,Ivt w0 I w->Kn a n (nds base ds V ops i)->∀ rest,(∀ w1,Ivt w0 I w1->Leads P K (b.at (a.put (some (ds i)) (V i)) (.inRegion ops rest::k)) cs w1)->Leads P K (b.at a (.inRegion ops (i::rest)::k)) cs w)
 (fin:∀ a w,Ivt w0 I w->a.defers=D->Kn a n (base ++ (List.range ops.size).map fun i=>(ds i,V i))->Leads P K (b.at a (.inRegion ops []::k)) cs w)
 (hl:∀ md,lowB md ops (rk md)=true:=by intro md;cases md <;> kernel_rfl):Leads P K (b.at a (.code (.region id ops true)::k)) cs w:=by
 refine aG rk hl (fun L a w=>Ivt w0 I w/\a.defers=D/\Kn a n (lst base ds V ops.size L)) (fun w1 hs=>⟨hi.to hs,hd,lst_none q⟩) ?_ ?_
 ·rintro i L a w rest hi1 _ hn ⟨h1,h2,h3⟩ hk;exact step i hi1 a w h1 (aW h3 hn) rest fun w1 h4=>hk _ w1 ⟨h4,h2,aH (hinj i hi1) (fun x hx=>by have:=List.all_eq_true.1 (List.all_eq_true.1 hbase i (List.mem_range.2 hi1)) x hx;simpa using this) (hlt i hi1) h3⟩
 ·rintro L a w hs hall ⟨h1,h2,h3⟩;refine fin a w h1 h2 ⟨h3.sz,knl_mem.2 fun x hx=>?_⟩;rcases List.mem_append.1 hx with hx | hx
  ·exact knl_mem.1 h3.kn x (List.mem_append_left _ hx)
  ·obtain ⟨i,hi2,rfl⟩:=List.mem_map.1 hx;have hi3:=List.mem_range.1 hi2;refine lst_get h3 hi3 ?_;have:=hall i hi3;have h5:i < L.size:=by omega
   simpa [h5] using this
theorem cr {base:List (Nat × Value)} {ds:Nat->Nat} {V V':Nat->Value} {n N:Nat} {L:Array Bool} {a:Act} (h:∀ i,i < N->L.getD i false=true->V i=V' i) (q:Kn a n (lst base ds V N L)):Kn a n (lst base ds V' N L):=by
 refine ⟨q.sz,knl_mem.2 fun x hx=>?_⟩;rcases List.mem_append.1 hx with hx | hx
 ·exact knl_mem.1 q.kn x (List.mem_append_left _ hx)
 ·obtain ⟨i,hi,rfl⟩:=List.mem_map.1 hx;obtain ⟨h1,h2⟩:=List.mem_filter.1 hi;show a.tmps[ds i]? = some (V' i);rw [<- h i (List.mem_range.1 h1) h2];exact lst_get q (List.mem_range.1 h1) h2
theorem bh {α:Type} {w0 w:World} {I:World->Prop} {a:Act} {n id:Nat} {base:List (Nat × Value)} {D:List Deferred} (hi:Ivt w0 I w) (rk:Region.Mode->Nat->Nat) (ds:Nat->Nat) (x0:α) (V:α->Nat->Value) (Z:α->World->Prop) (i0:Nat) (dep:Nat->Bool) (q:Kn a n base) (hd:a.defers=D)
 (hinj:∀ i,i < ops.size->∀ k,k < ops.size->ds k=ds i->k=i) (hbase:((List.range ops.size).all fun i=>base.all fun x=>x.1 != ds i)=true) (hlt:∀ i,i < ops.size->ds i < n)
 (hi0:dep i0=true) (hi0':i0 < ops.size) (hdep:∀ i,i < ops.size->dep i=true->i≠i0->∃ d,d < ops.size/\needs ops i d=true/\dep d=true) (hV:∀ x i,i < ops.size->dep i=false->V x i=V x0 i)
 (step:∀ i,i < ops.size->i≠i0->∀ (x:α) (J:World->Prop),(∀ w,J w->I w)->(dep i=true->∀ w,J w->Z x w)->∀ a w,Ivt w0 J w->Kn a n (nds base ds (V x) ops i)->∀ rest,(∀ w1,Ivt w0 J w1->Leads P K (b.at (a.put (some (ds i)) (V x i)) (.inRegion ops rest::k)) cs w1)->Leads P K (b.at a (.inRegion ops (i::rest)::k)) cs w)
 (step0:∀ a w,Ivt w0 I w->Kn a n (nds base ds (V x0) ops i0)->∀ rest,(∀ x w1,Ivt w0 (fun w=>I w/\Z x w) w1->Leads P K (b.at (a.put (some (ds i0)) (V x i0)) (.inRegion ops rest::k)) cs w1)->Leads P K (b.at a (.inRegion ops (i0::rest)::k)) cs w)
 (fin:∀ x a w,Ivt w0 (fun w=>I w/\Z x w) w->a.defers=D->Kn a n (base ++ (List.range ops.size).map fun i=>(ds i,V x i))->Leads P K (b.at a (.inRegion ops []::k)) cs w)
 (hl:∀ md,lowB md ops (rk md)=true:=by intro md;cases md <;> kernel_rfl):Leads P K (b.at a (.code (.region id ops true)::k)) cs w:=by
 refine aG rk hl (fun L a w=>a.defers=D/\((L.getD i0 false=false/\(∀ i,i < ops.size->dep i=true->L.getD i false=false)/\Ivt w0 I w/\Kn a n (lst base ds (V x0) ops.size L))\/∃ x,L.getD i0 false=true/\Ivt w0 (fun w=>I w/\Z x w) w/\Kn a n (lst base ds (V x) ops.size L)))
  (fun w1 hs=>⟨hd,.inl ⟨by simp [Array.getD_eq_getD_getElem?,Array.getElem?_replicate];split <;> rfl,fun i _ _=>by simp [Array.getD_eq_getD_getElem?,Array.getElem?_replicate];split <;> rfl,hi.to hs,lst_none q⟩⟩) ?_ ?_
 ·rintro i L a w rest hi1 hun hn ⟨h2,h⟩ hk;have hL:i < L.size:=Classical.byContradiction fun hc=>by simp [Array.getD_eq_getD_getElem?,hc] at hun
  have hb1:∀ x∈base,x.1≠ds i:=fun x hx=>by have:=List.all_eq_true.1 (List.all_eq_true.1 hbase i (List.mem_range.2 hi1)) x hx;simpa using this
  have hset:∀ j,j≠i->(L.setIfInBounds i true).getD j false=L.getD j false:=fun j hj=>by
   simp only [Array.getD_eq_getD_getElem?,Array.getElem?_setIfInBounds,if_neg (Ne.symm hj)]
  by_cases e:i=i0
  ·subst e;rcases h with ⟨h3,h4,h5,h6⟩ | ⟨x,h3,h5,h6⟩
   ·refine step0 a w h5 (aW h6 hn) rest fun x w1 h7=>hk _ w1 ⟨h2,.inr ⟨x,by simp [Array.getD_eq_getD_getElem?,hL],h7,?_⟩⟩;refine aH (V:=V x) (hinj i hi1) hb1 (hlt i hi1) (cr (fun j hj hLj=>?_) h6);by_cases hdj:dep j=true
    ·rw [h4 j hj hdj] at hLj;cases hLj
    ·exact (hV x j hj (by simpa using hdj)).symm
   ·simp [Array.getD_eq_getD_getElem?,hL] at hun h3;rw [hun] at h3;cases h3
  ·rcases h with ⟨h3,h4,h5,h6⟩ | ⟨x,h3,h5,h6⟩
   ·have hdi:dep i=false:=by
     by_cases hd':dep i=true
     ·obtain ⟨d,hd1,hd2,hd3⟩:=hdep i hi1 hd' e;have:=hn d hd2;rw [h4 d hd1 hd3] at this;cases this
     ·simpa using hd'
    refine step i hi1 e x0 I (fun _ h=>h) (fun hd'=>by rw [hdi] at hd';cases hd') a w h5 (aW h6 hn) rest fun w1 h7=>hk _ w1 ⟨h2,.inl ⟨?_,fun j hj hdj=>?_,h7,aH (hinj i hi1) hb1 (hlt i hi1) h6⟩⟩
    ·rw [hset _ (Ne.symm e)];exact h3
    ·rw [hset j (fun e'=>by subst e';rw [hdi] at hdj;cases hdj)];exact h4 j hj hdj
   ·exact step i hi1 e x _ (fun _ h=>h.1) (fun _ _ h=>h.2) a w h5 (aW h6 hn) rest fun w1 h7=>hk _ w1 ⟨h2,.inr ⟨x,by rw [hset _ (Ne.symm e)];exact h3,h7,aH (hinj i hi1) hb1 (hlt i hi1) h6⟩⟩
 ·rintro L a w hs hall ⟨h2,h⟩;have hT:∀ i,i < ops.size->L.getD i false=true:=fun i hi2=>by
   have:=hall i hi2;have h5:i < L.size:=by omega
   simpa [Array.getD_eq_getD_getElem?,h5] using this
  rcases h with ⟨h3,_⟩ | ⟨x,_,h5,h6⟩
  ·rw [hT i0 hi0'] at h3;cases h3
  ·refine fin x a w h5 h2 ⟨h6.sz,knl_mem.2 fun y hy=>?_⟩;rcases List.mem_append.1 hy with hy | hy
   ·exact knl_mem.1 h6.kn y (List.mem_append_left _ hy)
   ·obtain ⟨i,hi2,rfl⟩:=List.mem_map.1 hy;exact lst_get h6 (List.mem_range.1 hi2) (hT i (List.mem_range.1 hi2))
theorem ct {a:Act} {w0 w:World} {I:World->Prop} {n:Nat} {l:List (Nat × Value)} (hi:Ivt w0 I w) {i:Nat} {rest:List Nat} (f:FuncId) (args:List Value) (j:Nat) {α:Type} {V:α->Value} {Z:α->World->Prop} (q:Kn a n l) (hz:∀ x w1 w2,Alike w1 w2->Z x w1->Z x w2)
 (hc:∀ W,I W->Calls Mz.prog f args.toArray W fun e w2=>∃ x,e=.returned (V x)/\Z x w2/\Below W.heap.size W w2)
 (h:∀ x w1,Ivt w0 (fun w=>I w/\Z x w) w1->Leads Tryz.prog K (b.at (a.put (some j) (V x)) (.inRegion ops rest::k)) cs w1)
 (hb:b.kind=.normal:=by rfl) (hg:badF f=false:=by rfl) (e:∀ d,callR Tryz.prog n d l ops i=some (f,args,j):=by intro d;kernel_rfl):Leads Tryz.prog K (b.at a (.inRegion ops (i::rest)::k)) cs w :=
 co_callP hi f args j q hz (lone_co hi.cl hz hc hg) (fun _ x w1 h1=>h x w1 h1) hb e
end
end Mt
end Go.Proofs.YtgkajecjbflbbaaGreatDoor
