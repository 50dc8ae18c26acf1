/- the fault laws -/
import Derived.Test.YtgkajecjbflbbaaGreatDoorGB18
set_option maxHeartbeats 4000000
set_option maxRecDepth 100000
set_option linter.all false
namespace Go.Proofs.YtgkajecjbflbbaaGreatDoor
namespace Mt
open Go Go.RowKit Go.Maps
attribute [local go_sem] Oper.semAt_some
theorem goP_ok {n:Int}:∀ {l seen:List Int},goP n seen l=0->∀ x∈l,0<=x/\x < n
 | k::l,seen,h,x,hx=>by
  unfold goP at h;split at h
  ·cases h
  ·split at h
   ·cases h
   ·rename_i h1 h2
    rcases List.mem_cons.1 hx with rfl | hx
    ·simp [inB] at h1;omega
    ·exact goP_ok h x hx
theorem pathAl_ok {n:Nat} {l:List Int} (h:pathAl n l=0):(1<=l.length/\l.length<=6)/\∀ x∈l,0<=x/\x < n:=by
 unfold pathAl at h;split at h
 ·cases h
 ·rename_i h1
  exact ⟨by simp [inB] at h1;omega,goP_ok h⟩
theorem devsAl_ok {b:Fbk} (h:devsAl b=0):1<=b.devs.length/\b.devs.length<=6/\0<=b.most/\b.most<=2:=by
 unfold devsAl at h;split at h
 ·cases h
 ·split at h
  ·cases h
  ·rename_i h1 h2
   simp [inB] at h1 h2;omega
theorem bookAl_ok {b:Fbk} (h:bookAl b=0):devsAl b=0/\testsAl b=0:=by
 unfold bookAl at h;split at h
 ·rename_i h1;exact absurd h h1
 ·rename_i h1;exact ⟨Classical.not_not.1 h1,h⟩
theorem goT_ok {n:Nat}:∀ {l:List Tst},goT n l=0->∀ t∈l,pathAl n t.path=0/\0<=t.seen/\t.seen<=2
 | t::l,h,x,hx=>by
  unfold goT at h;split at h
  ·rename_i h1;exact absurd h h1
  ·rename_i h1
   split at h
   ·cases h
   ·split at h
    ·cases h
    ·rename_i h2 h3
     rcases List.mem_cons.1 hx with rfl | hx
     ·exact ⟨Classical.not_not.1 h1,by omega,by omega⟩
     ·exact goT_ok h x hx
theorem testsAl_ok {b:Fbk} (h:testsAl b=0):b.tests.length<=6/\∀ t∈b.tests,pathAl b.devs.length t.path=0/\0<=t.seen/\t.seen<=2:=by
 unfold testsAl at h;split at h
 ·cases h
 ·rename_i h1
  exact ⟨by omega,goT_ok h⟩
theorem paths_in {b:Fbk} (h:bookAl b=0):PathsIn b.tests:=fun t ht x hx=>by
 obtain ⟨h1,h2⟩:=bookAl_ok h;have:=(pathAl_ok ((testsAl_ok h2).2 t ht).1).2 x hx;have:=(devsAl_ok h1).2.1;omega
theorem playApi_ok {b:Fbk} {vm vd vt:Value} {w:World} {sa pa:Option Addr} {l path:List Int} {sc pc:Nat} (hB:FBookAt w b vm vd vt) (hN:∀ m∈b.devs,m.name.size<=1000000) (hA:ActsAt w) (hI:IntsAt w sa l) (hsl:l.length<=1000000) (hP:IntsAt w pa path) (hpl:path.length<=1000000) (hpc:path.length<=pc) (h:playAl b l path=0) {r:Bool} {n:Nat} (hr:playI (stepsOf l) path=(r,n)) :
 Calls Mz.prog 38 #[.agg #[vm,vd,vt],.slice sa l.length sc,.slice pa path.length pc] w fun e w'=>e=.returned (.tuple #[.bool r,.int .i64 (n:Int),.int .i64 0])/\Below w.heap.size w w':=by
 have HB:=Hh hB;obtain ⟨rfl,⟨da,dc,rfl,_,hdl⟩,ta,tc,rfl,_,_⟩:=hB;have HN:=Hh hN;have HA:=Hh hA;have HI:=Hh hI;have HP:=Hh hP;have HR:=Hh hr;clear hN hI hP hA hr;have q:∀ k u,(#[.int .i64 b.most,.slice da b.devs.length dc,.slice ta b.tests.length tc]:Array Value)[k]? = some u->(w.alloc (.cells #[.int .i64 b.most,.slice da b.devs.length dc,.slice ta b.tests.length tc] 25)).cell? ⟨w.heap.size,k,none⟩=some u:=fun k u hk=>by rw [World.cell?_alloc_at _ _ _ _ rfl];exact hk
 unfold playAl at h;by_cases g1:bookAl b=0
 ·rw [if_neg (by simpa using g1)] at h;by_cases g2:l.length=b.devs.length
  ·rw [if_neg (by simpa using g2)] at h;cases g3:l.any fun x=>!isSt x
   ·rw [g3,if_neg (by simp)] at h;have hdl6:=(devsAl_ok (bookAl_ok g1).1).2.1;have hdl1:=(devsAl_ok (bookAl_ok g1).1).1;have hst:∀ x∈l,0<=x/\x<=2:=fun x hx=>by
     have:=(List.any_eq_false.1 g3) x hx;simpa [isSt] using this
    have hs3:∀ k,stepsOf l k < 3:=fun k=>by
     unfold stepsOf;rw [List.getD_eq_getElem?_getD];by_cases hk:k < l.length
     ·rw [List.getElem?_eq_getElem hk];have:=hst _ (List.getElem_mem hk);simp only [Option.getD_some];omega
     ·rw [List.getElem?_eq_none (by omega)];show (0:Int).toNat < 3
      decide
    have hpx:∀ x∈path,0<=x/\x < 6:=fun x hx=>by have:=(pathAl_ok h).2 x hx;omega
    have G1:=Hh g1;have G3:=Hh g3;have G4:=Hh h;have HST:=Hh hst;have HS3:=Hh hs3;have HPX:=Hh hpx;clear g1 g3 h hst hs3 hpx
    go_enter (mz_func (i:=38) rfl Tryz.func38),Tryz.ntmps38
    go_wp2_with (first
     | (go_at_call 78;(with_reducible refine (checkBook_at (HB.out.below (bel)) HN.out G1.out).mono ?_);rintro e w1 ⟨rfl,hb1⟩;have hz1:=hb1.size;have x0:=hb1.cell (p:=⟨w.heap.size,0,none⟩) (by simp);have x1:=hb1.cell (p:=⟨w.heap.size,1,none⟩) (by simp);have x2:=hb1.cell (p:=⟨w.heap.size,2,none⟩) (by simp);rw [q 0 _ rfl] at x0;rw [q 1 _ rfl] at x1;rw [q 2 _ rfl] at x2)
     | (go_at_call 110;(have hh:=hasBad_at (c:=sc) ((HI.out.below (bel)).below hb1) hsl G3.out);rw [g2] at hh;(with_reducible refine hh.mono ?_);rintro e w' ⟨rfl,hw'⟩;have hw2:=hw'.symm;subst hw2)
     | (go_at_call 66;(with_reducible refine (path_at ((HB.out.below (bel)).below hb1) ((HP.out.below (bel)).below hb1) hpl hpc).mono ?_);rintro e w2 ⟨rfl,hb2⟩;have hz2:=hb2.size;rw [G4.out]))
    have hbw2:Below w.heap.size w w2:=bel;have hbX:Below w.heap.size w (w2.alloc (.cells #[.int .i64 0,.int .i64 0,.int .i64 0,.int .i64 0,.int .i64 0,.int .i64 0] 96)):=Below.al hbw2 _;obtain ⟨w4,hr4,hg4,hk4⟩:=copy_states (X:=w2.alloc (.cells #[.int .i64 0,.int .i64 0,.int .i64 0,.int .i64 0,.int .i64 0,.int .i64 0] 96)) (lc:=sc) (World.alloc_heap_new w2 _) (by omega) (by omega) (fun x hx=>(HST.out x hx).1) (HI.out.below hbX);rw [g2] at hr4;rw [hr4];have hb4:Below w.heap.size w w4:=⟨hk4.os.trans hbX.os,hk4.tape.trans hbX.tape,hk4.output.trans hbX.output,Nat.le_trans hbX.size hk4.size,fun k hk=>(hk4.block k (Nat.lt_of_lt_of_le hk hbX.size) (by have:=hbw2.size;omega)).trans (hbX.block k hk)⟩;have y:∀ k,k < 6->w4.cell? ⟨w2.heap.size,k,none⟩=some (.int .i64 (stepsOf l k:Int)):=fun k hk=>by simp only [World.cell?,hg4];exact statesV_get _ hk
    have y0:=y 0 (by omega);have y1:=y 1 (by omega);have y2:=y 2 (by omega);have y3:=y 3 (by omega);have y4:=y 4 (by omega);have y5:=y 5 (by omega);have HB4:=Hh hb4;clear y hg4 hk4 hr4 hb4 hbX hbw2;go_wp2_with (go_at_call 69;(with_reducible refine (play_at (HA.out.below HB4.out) HS3.out (HP.out.below HB4.out) HPX.out hpl HR.out).mono ?_);rintro e w5 ⟨rfl,hb5⟩);exact bodyPost_ret (v:=.tuple #[.bool r,.int .i64 (n:Int),.int .i64 0]) (by simp [results,Tryz.results38,go_sem, *]) rfl ⟨rfl,Below.next HB4.out hb5⟩
   ·rw [g3,if_pos rfl] at h;cases h
  ·rw [if_pos g2] at h;cases h
 ·rw [if_pos g1] at h;exact absurd h g1
attribute [local go_sem] Oper.semAt_some
def StatesAt (w:World) (a:Option Addr) (l:List (Nat->Nat)):Prop:=∀ i (h:i < l.length),∃ b o,a=some ⟨b,o,none⟩/\b < w.heap.size/\∀ j,j < 6->w.cell? ⟨b,o+i * 6+j,none⟩=some (.int .i64 (l[i] j:Int))
theorem StatesAt.below {w w':World} {a:Option Addr} {l:List (Nat->Nat)} (h:StatesAt w a l) (hb:Below w.heap.size w w'):StatesAt w' a l:=fun i hi=>by
 obtain ⟨b,o,e,hlt,h1⟩:=h i hi;exact ⟨b,o,e,Nat.lt_of_lt_of_le hlt hb.size,fun j hj=>(hb.cell hlt).trans (h1 j hj)⟩
def claimI (n m:Nat):Int:=if n=0 then 2 else if n=m then 1 else 0
abbrev stV (s:Nat->Nat):Value:=.agg #[.int .i64 (s 0:Int),.int .i64 (s 1:Int),.int .i64 (s 2:Int),.int .i64 (s 3:Int),.int .i64 (s 4:Int),.int .i64 (s 5:Int)]
theorem countP_take {α:Type} {p:α->Bool} {l:List α} {k:Nat} (h:k < l.length):(l.take (k+1)).countP p=(l.take k).countP p+if p l[k]=true then 1 else 0:=by
 rw [List.take_succ_eq_append_getElem h,List.countP_append,List.countP_cons,List.countP_nil];split <;> simp_all
theorem claim_at {w:World} {a:Option Addr} {l:List (Nat->Nat)} {c:Nat} {f:FuncId} {caps:Array Value} {so:(Nat->Nat)->Bool} (hS:StatesAt w a l) (hl:l.length<=1000) (hcall:∀ (args:Array Value) (W:World),Sem.run Mz.prog (callFunc f args) W=.ok (.enter f args) W)
 (hf:∀ s∈l,∀ W,Below w.heap.size w W->Calls Mz.prog f (#[stV s] ++ caps) W fun e w'=>e=.returned (.bool (so s))/\Below W.heap.size W w') {t:Int} (ht:claimI (l.countP so) l.length=t) :
 Calls Mz.prog 67 #[.slice a l.length c,.func (.func f) #[] caps] w fun e w'=>e=.returned (.int .i64 t)/\Below w.heap.size w w':=by
 have HS:=Hh hS;have HF:=Hh hf;have HT:=Hh ht;clear hS hf ht
 go_enter (mz_func (i:=67) rfl Tryz.func67),Tryz.ntmps67
 go_wp2;go_loopw [5,10] (fun v i wr=>∃ k:Nat,k<=l.length/\i=.int .i64 k/\v=.int .i64 ((l.take k).countP so:Nat)/\Below w.heap.size w wr) (fun _ i _=>l.length - (intOf i).toNat)
 case atStart=>exact ⟨0,Nat.zero_le _,rfl,by simp,Below.refl _ _⟩
 case round =>
  obtain ⟨k,hk,rfl,rfl,hW⟩:=hrel;have hWs:=hW.size;have hcl:(l.take k).countP so<=k:=Nat.le_trans List.countP_le_length (by rw [List.length_take];omega);by_cases hlt:k < l.length
  ·obtain ⟨b,o,rfl,hb,hc⟩:=HS.out k hlt;have hcf:=HF.out _ (List.getElem_mem hlt);have hct:=countP_take (p:=so) hlt;generalize l[k]=s at hc hcf hct;have d0:=(hW.cell (p:=⟨b,o+k * 6,none⟩) hb).trans (hc 0 (by omega));have d1:=(hW.cell (p:=⟨b,o+k * 6+1,none⟩) hb).trans (hc 1 (by omega));have d2:=(hW.cell (p:=⟨b,o+k * 6+2,none⟩) hb).trans (hc 2 (by omega));have d3:=(hW.cell (p:=⟨b,o+k * 6+3,none⟩) hb).trans (hc 3 (by omega));have d4:=(hW.cell (p:=⟨b,o+k * 6+4,none⟩) hb).trans (hc 4 (by omega));have d5:=(hW.cell (p:=⟨b,o+k * 6+5,none⟩) hb).trans (hc 5 (by omega));have HCF:=Hh hcf;have HCT:=Hh hct;have HW:=Hh hW;generalize hN:(l.take k).countP so=N at hcl HCT;clear hc hcf hct hW;cases hso:so s
   ·have HSO:=Hh hso;clear hso;go_wp2_with ((with_reducible refine (HCF.out _ (Below.al HW.out _)).mono ?_);rintro e w1 ⟨rfl,hb1⟩;rw [HSO.out]);go_roundw
    case rel=>exact ⟨k+1,hlt,by go_num,by rw [HCT.out,HSO.out];simp,Below.next (Below.al HW.out _) hb1⟩
    case measure=>simp [intOf];omega
   ·have HSO:=Hh hso;clear hso;go_wp2_with ((with_reducible refine (HCF.out _ (Below.al HW.out _)).mono ?_);rintro e w1 ⟨rfl,hb1⟩;rw [HSO.out]);go_roundw
    case rel=>exact ⟨k+1,hlt,by go_num,by rw [HCT.out,HSO.out];simp,Below.next (Below.al HW.out _) hb1⟩
    case measure=>simp [intOf];omega
  ·obtain rfl:k=l.length:=by omega
   rw [List.take_length] at hcl;simp only [List.take_length];have HW:=Hh hW;clear hW;have hht:=HT.out;unfold claimI at hht;clear HF;generalize l.countP so=N at hcl hht;by_cases h0:N=0
   ·rw [if_pos h0] at hht;subst h0 hht;go_wp2;go_ret;exact ⟨rfl,HW.out⟩
   ·rw [if_neg h0] at hht;have h0i:¬ (N:Int)=0:=by omega
    by_cases h1:N=l.length
    ·rw [if_pos h1] at hht;subst hht;have h1i:(N:Int)=(l.length:Int):=by omega
     go_wp2;go_ret;exact ⟨rfl,HW.out⟩
    ·rw [if_neg h1] at hht;subst hht;have h1i:¬ (N:Int)=(l.length:Int):=by omega
     go_wp2;go_ret;exact ⟨rfl,HW.out⟩
attribute [local go_sem] Oper.semAt_some
theorem isState2_at {w:World} {s:Nat->Nat} {d k:Nat} {rd rk:Nat} (hd:d < 6) (h1:w.cell? ⟨rd,0,none⟩=some (.int .i64 (d:Int))) (h2:w.cell? ⟨rk,0,none⟩=some (.int .i64 (k:Int))) (hrd:rd < w.heap.size) (hrk:rk < w.heap.size) :
 Calls Mz.prog 108 (#[stV s] ++ #[.pointer (some ⟨rd,0,none⟩),.pointer (some ⟨rk,0,none⟩)]) w fun e w'=>e=.returned (.bool (decide (s d=k)))/\Below w.heap.size w w':=by
 have q:∀ j,j < 6->(w.alloc (.cells #[.int .i64 (s 0:Int),.int .i64 (s 1:Int),.int .i64 (s 2:Int),.int .i64 (s 3:Int),.int .i64 (s 4:Int),.int .i64 (s 5:Int)] 96)).cell? ⟨w.heap.size,j,none⟩=some (.int .i64 (s j:Int)):=fun j hj=>by rw [World.cell?_alloc_at _ _ _ _ rfl];exact statesV_get s hj
 have qd:=q d hd;have hdI:(d:Int) < 6:=by omega
 have e1:=((Below.al (Below.refl w.heap.size w) (.cells #[.int .i64 (s 0:Int),.int .i64 (s 1:Int),.int .i64 (s 2:Int),.int .i64 (s 3:Int),.int .i64 (s 4:Int),.int .i64 (s 5:Int)] 96)).cell (p:=⟨rd,0,none⟩) hrd).trans h1;have e2:=((Below.al (Below.refl w.heap.size w) (.cells #[.int .i64 (s 0:Int),.int .i64 (s 1:Int),.int .i64 (s 2:Int),.int .i64 (s 3:Int),.int .i64 (s 4:Int),.int .i64 (s 5:Int)] 96)).cell (p:=⟨rk,0,none⟩) hrk).trans h2;clear q;show Calls Mz.prog _ #[stV s,.pointer (some ⟨rd,0,none⟩),.pointer (some ⟨rk,0,none⟩)] w _
 go_enter (mz_func (i:=108) rfl Tryz.func108),Tryz.ntmps108
 go_wp2
 go_region
 go_wp2;have eb:(((s d:Nat):Int) == (k:Int))=decide (s d=k):=by
  by_cases h:s d=k
  ·simp [h]
  ·have:¬ ((s d:Nat):Int)=(k:Int):=by omega
   simp [h,this]
 rw [eb];go_ret;exact ⟨rfl,(Below.al (Below.refl _ _) _).drew⟩
theorem isGood_at {w:World} {s:Nat->Nat} {d:Nat} {rd:Nat} (hd:d < 6) (h1:w.cell? ⟨rd,0,none⟩=some (.int .i64 (d:Int))) (hrd:rd < w.heap.size) :
 Calls Mz.prog 154 (#[stV s] ++ #[.pointer (some ⟨rd,0,none⟩)]) w fun e w'=>e=.returned (.bool (decide (s d=0)))/\Below w.heap.size w w':=by
 have q:∀ j,j < 6->(w.alloc (.cells #[.int .i64 (s 0:Int),.int .i64 (s 1:Int),.int .i64 (s 2:Int),.int .i64 (s 3:Int),.int .i64 (s 4:Int),.int .i64 (s 5:Int)] 96)).cell? ⟨w.heap.size,j,none⟩=some (.int .i64 (s j:Int)):=fun j hj=>by rw [World.cell?_alloc_at _ _ _ _ rfl];exact statesV_get s hj
 have qd:=q d hd;have hdI:(d:Int) < 6:=by omega
 have e1:=((Below.al (Below.refl w.heap.size w) (.cells #[.int .i64 (s 0:Int),.int .i64 (s 1:Int),.int .i64 (s 2:Int),.int .i64 (s 3:Int),.int .i64 (s 4:Int),.int .i64 (s 5:Int)] 96)).cell (p:=⟨rd,0,none⟩) hrd).trans h1;clear q;show Calls Mz.prog _ #[stV s,.pointer (some ⟨rd,0,none⟩)] w _
 go_enter (mz_func (i:=154) rfl Tryz.func154),Tryz.ntmps154
 go_wp2;have eb:(((s d:Nat):Int) == 0)=decide (s d=0):=by
  by_cases h:s d=0
  ·simp [h]
  ·have:¬ ((s d:Nat):Int)=0:=by omega
   simp [h]
 first | rw [eb] | skip
 go_ret;exact ⟨by simp,Below.al (Below.refl _ _) _⟩
section
variable {b:Fbk} {vm vd vt:Value}
structure FSt (w0:World) (vm vd vt:Value) (s l:Nat) (A:World) (st:Nat->Nat):Prop where
 base:Below w0.heap.size w0 A
 b0:A.cell? ⟨s,0,none⟩=some vm
 b1:A.cell? ⟨s,1,none⟩=some vd
 b2:A.cell? ⟨s,2,none⟩=some vt
 yv:A.cell? ⟨s+1,0,none⟩=some (.func (.yield l) #[] #[])
 c:∀ k,k < 6->A.cell? ⟨s+1+1,k,none⟩=some (.int .i64 (st k:Int))
 fz:∀ k,k < 6->A.frozen? ⟨s+1+1,k,none⟩=false
 nx:A.cell? ⟨s+1+1+1,0,none⟩=some (.func (.func 172) #[] #[.pointer (some ⟨s,0,none⟩),.pointer (some ⟨s+1+1,0,none⟩),.pointer (some ⟨s+1,0,none⟩),.pointer (some ⟨s+1+1+1,0,none⟩)])
 lt:s+1+1+1 < A.heap.size
theorem FSt.keep {w0 A B:World} {s l:Nat} {st:Nat->Nat} {p:Nat->Prop} (h:FSt w0 vm vd vt s l A st) (hk:KS p A B) (hp0:∀ k,k < w0.heap.size->p k) (hps:∀ k,s<=k->k<=s+1+1+1->p k):FSt w0 vm vd vt s l B st:=by
 have hlt:=h.lt;have e:∀ r o,s<=r->r<=s+1+1+1->B.cell? ⟨r,o,none⟩=A.cell? ⟨r,o,none⟩:=fun r o h1 h2=>hk.cell (x:=⟨r,o,none⟩) (by simp;omega) (hps r h1 h2);have ef:∀ r o,s<=r->r<=s+1+1+1->B.frozen? ⟨r,o,none⟩=A.frozen? ⟨r,o,none⟩:=fun r o h1 h2=>hk.frozen (x:=⟨r,o,none⟩) (by simp;omega) (hps r h1 h2);obtain ⟨⟨hos,htape,hout,hsize,hblock⟩,f0,f1,f2,hy,hc,hfz,hn,_⟩:=h;refine ⟨⟨hk.os.trans hos,hk.tape.trans htape,hk.output.trans hout,Nat.le_trans hsize hk.size,fun k hkk=>(hk.block k (Nat.lt_of_lt_of_le hkk hsize) (hp0 k hkk)).trans (hblock k hkk)⟩,?_,?_,?_,?_,fun k hk4=>?_,fun k hk4=>?_,?_,Nat.lt_of_lt_of_le hlt hk.size⟩
 ·rw [e _ _ (by omega) (by omega)];exact f0
 ·rw [e _ _ (by omega) (by omega)];exact f1
 ·rw [e _ _ (by omega) (by omega)];exact f2
 ·rw [e _ _ (by omega) (by omega)];exact hy
 ·rw [e _ _ (by omega) (by omega)];exact hc k hk4
 ·rw [ef _ _ (by omega) (by omega)];exact hfz k hk4
 ·rw [e _ _ (by omega) (by omega)];exact hn
theorem FSt.next {w0 A B:World} {s l:Nat} {st:Nat->Nat} (h:FSt w0 vm vd vt s l A st) (hk:Below A.heap.size A B):FSt w0 vm vd vt s l B st :=
 h.keep (KS.all hk (fun _=>True)) (fun _ _=>trivial) (fun _ _ _=>trivial)
theorem FSt.set {w0 A:World} {s l:Nat} {st:Nat->Nat} (h:FSt w0 vm vd vt s l A st) (hs:w0.heap.size<=s) {i:Nat} (hi:i < 6) (v:Nat):FSt w0 vm vd vt s l (A.setCell ⟨s+1+1,i,none⟩ (.int .i64 (v:Int))) (setS st i v):=by
 have hk:KS (fun k=>k≠s+1+1) A (A.setCell ⟨s+1+1,i,none⟩ (.int .i64 (v:Int))):=KS.setCell (by simp) _ _;have hlt:=h.lt;have e:∀ r o,r≠s+1+1->r < A.heap.size->(A.setCell ⟨s+1+1,i,none⟩ (.int .i64 (v:Int))).cell? ⟨r,o,none⟩=A.cell? ⟨r,o,none⟩:=fun r o h1 h2=>hk.cell (x:=⟨r,o,none⟩) h2 h1;obtain ⟨⟨hos,htape,hout,hsize,hblock⟩,f0,f1,f2,hy,hc,hfz,hn,_⟩:=h;refine ⟨⟨hk.os.trans hos,hk.tape.trans htape,hk.output.trans hout,Nat.le_trans hsize hk.size,fun k hkk=>(hk.block k (Nat.lt_of_lt_of_le hkk hsize) (by omega)).trans (hblock k hkk)⟩,?_,?_,?_,?_,fun k hk4=>?_,fun k hk4=>?_,?_,by simpa [World.setCell] using hlt⟩
 ·rw [e _ _ (by omega) (by omega)];exact f0
 ·rw [e _ _ (by omega) (by omega)];exact f1
 ·rw [e _ _ (by omega) (by omega)];exact f2
 ·rw [e _ _ (by omega) (by omega)];exact hy
 ·by_cases hki:k=i
  ·subst hki;rw [World.cell?_setCell_same' _ _ _ (by rw [hc k hk4];rfl)];simp [setS]
  ·rw [World.cell?_setCell_other (h:=fun e=>hki (by injection e with _ e _;exact e.symm))];rw [hc k hk4];simp [setS,hki]
 ·rw [World.frozen?_setCell];exact hfz k hk4
 ·rw [e _ _ (by omega) (by omega)];exact hn
end
section
variable {b:Fbk} {vm vd vt:Value}
def NextOut (w0:World) (n:Nat) (vm vd vt:Value) (s l i:Nat) (st:Nat->Nat) (J Jx:List (Nat->Nat)->World->Prop) (done:List (Nat->Nat)) (e:Ending) (B:World):Prop :=
 (∃ st',e=.returned (.bool true)/\FSt w0 vm vd vt s l B st'/\(∀ k,k < i->st' k=st k)/\(∀ k,n<=k->st' k=0)/\(∀ k,st' k < 3)/\J done B)\/(e=.returned (.bool false)/\∃ pre,Jx pre B)
abbrev nextArgs (i left s:Nat):Array Value:=#[.int .i64 (i:Int),.int .i64 (left:Int),.pointer (some ⟨s,0,none⟩),.pointer (some ⟨s+1+1,0,none⟩),.pointer (some ⟨s+1,0,none⟩),.pointer (some ⟨s+1+1+1,0,none⟩)]
theorem next_leaf_no {w0:World} (hB:FBookAt w0 b vm vd vt) (hA0:ActsAt w0) (hp:PathsIn b.tests) (h6:b.tests.length<=6) {s l left:Nat} {A:World} {st:Nat->Nat} (hA:FSt w0 vm vd vt s l A st) (hs3:∀ k,st k < 3) (hz:∀ k,b.devs.length<=k->st k=0)
 {J Jx:List (Nat->Nat)->World->Prop} {own:Nat->Prop} (hJ:∀ pre A B,J pre A->KS (fun k=>¬ own k) A B->J pre B) {done:List (Nat->Nat)} (hj:J done A) (hn:goR st b.tests=false) :
 CallsIn Fence.wide 0 Mz.prog 172 (nextArgs b.devs.length left s) A (NextOut w0 b.devs.length vm vd vt s l b.devs.length st J Jx done):=by
 refine callsIn_wide.2 ?_;have hag:=fun (w':World) (hb:Below w0.heap.size w0 w')=>right_at (hB.below hb) (hA0.below hb) hs3 hp h6 hn;obtain ⟨rfl,⟨da,dc,rfl,_,hdl⟩,ta,tc,rfl,_,_⟩:=hB;have f0:=hA.b0;have f1:=hA.b1;have f2:=hA.b2;have f5:=hA.lt;have k0:=hA.c 0 (by omega);have k1:=hA.c 1 (by omega);have k2:=hA.c 2 (by omega);have k3:=hA.c 3 (by omega);have k4:=hA.c 4 (by omega);have k5:=hA.c 5 (by omega);have HA:=Hh hA;have HJ:=Hh hJ;have HJ0:=Hh hj;have HZ:=Hh hz;have HS3:=Hh hs3;have HAG:=Hh hag;clear hA hJ hj hz hag hA0 hp h6 hn hs3;unfold nextArgs
 go_enter (mz_func (i:=172) rfl Tryz.func172),Tryz.ntmps172
 go_wp2_with (go_at_call 173;(with_reducible refine (HAG.out _ HA.out.base).mono ?_);rintro e w1 ⟨rfl,hb1⟩);go_ret;exact .inl ⟨_,rfl,HA.out.next hb1,fun _ _=>rfl,HZ.out,HS3.out,HJ.out _ _ _ HJ0.out (KS.all hb1 _)⟩
theorem next_leaf_yes {w0:World} (hB:FBookAt w0 b vm vd vt) (hA0:ActsAt w0) (hp:PathsIn b.tests) (h6:b.tests.length<=6) {s l left:Nat} {A:World} {st:Nat->Nat} (hA:FSt w0 vm vd vt s l A st) (hs3:∀ k,st k < 3) (hz:∀ k,b.devs.length<=k->st k=0)
 {J Jx:List (Nat->Nat)->World->Prop} {own:Nat->Prop} (hJ:∀ pre A B,J pre A->KS (fun k=>¬ own k) A B->J pre B) {done:List (Nat->Nat)} (hj:J done A) (hn:goR st b.tests=true)
 {p:Nat->Prop} (hp0:∀ k,k < w0.heap.size->p k) (hps:∀ k,s<=k->k<=s+1+1+1->p k)
 (hY:∀ A,s+1+1+1 < A.heap.size->J done A->YieldAt Fence.wide 0 Mz.prog l #[stV st] A fun e B=>(e=.returned (.bool true)/\J (done ++ [st]) B/\KS p A B)\/(e=.returned (.bool false)/\Jx (done ++ [st]) B)) :
 CallsIn Fence.wide 0 Mz.prog 172 (nextArgs b.devs.length left s) A (NextOut w0 b.devs.length vm vd vt s l b.devs.length st J Jx (done ++ [st])):=by
 have hag:=fun (w':World) (hb:Below w0.heap.size w0 w')=>right_at (hB.below hb) (hA0.below hb) hs3 hp h6 hn;obtain ⟨rfl,⟨da,dc,rfl,_,hdl⟩,ta,tc,rfl,_,_⟩:=hB;have f0:=hA.b0;have f1:=hA.b1;have f2:=hA.b2;have f5:=hA.lt;have k0:=hA.c 0 (by omega);have k1:=hA.c 1 (by omega);have k2:=hA.c 2 (by omega);have k3:=hA.c 3 (by omega);have k4:=hA.c 4 (by omega);have k5:=hA.c 5 (by omega);have HA:=Hh hA;have HJ:=Hh hJ;have HJ0:=Hh hj;have HZ:=Hh hz;have HS3:=Hh hs3;have HAG:=Hh hag;clear hA hJ hj hz hag hA0 hp h6 hn hs3;have hY2:=fun (w1:World) (hb1:Below A.heap.size A w1)=>hY w1 (Nat.lt_of_lt_of_le HA.out.lt hb1.size) (HJ.out _ _ _ HJ0.out (KS.all hb1 _));have HY:=Hh hY2;have HP0:=Hh hp0;have HPS:=Hh hps;have hyv:=HA.out.yv;have hA1:s+1 < A.heap.size:=by omega
 have hA2:s+1+1 < A.heap.size:=by omega
 clear hY hY2 hp0 hps;unfold nextArgs
 (refine callsIn_of_wp (mz_func (i:=172) rfl Tryz.func172) rfl trivial ?_ rfl;simp only [Tryz.ntmps172,List.size_toArray,List.length_cons,List.length_nil,Nat.reduceAdd,Nat.reduceSub,Array.replicate_succ,Array.replicate_zero,List.push_toArray,List.append_toArray,List.nil_append,List.cons_append])
 gi_wp2_with (gi_at_call 173;(with_reducible refine (callsIn_wide.2 (HAG.out _ HA.out.base)).mono ?_);rintro e w1 ⟨rfl,hb1⟩;obtain ⟨hcc,hcf⟩:=bcell hb1;have hz1:=hb1.size;obtain ⟨fn,tmps,assign,body,hy,hR⟩:=HY.out w1 hb1;have HR:=Hh hR;clear hR)
 refine HR.out.mono ?_;rintro e W' (⟨rfl,hj',hk'⟩ | ⟨rfl,hjx⟩)
 ·gi_wp2
  go_ret;exact .inl ⟨_,rfl,(HA.out.next hb1).keep hk' HP0.out HPS.out,fun _ _=>rfl,HZ.out,HS3.out,hj'⟩
 ·gi_wp2
  go_ret;exact .inr ⟨rfl,_,hjx⟩
end
section
variable {b:Fbk} {vm vd vt:Value}
theorem fr_of {F:(Nat->Value)->Act} {a':Act} (h:a'=F fun i=>a'.tmps.getD i undef):∃ d,a'=F d:=⟨_,h⟩
theorem drew_cell (w:World) (a:Addr):w.drew.cell? a=w.cell? a:=rfl
theorem histL_congr:∀ (l:List Dev) (i left:Nat) (s s':Nat->Nat),(∀ k,k < i\/i+l.length<=k->s k=s' k)->histL l i left s=histL l i left s'
 | [],i,_,s,s',h=>by
  have:s=s':=funext fun k=>h k (by simp;omega);rw [this]
 | d::l,i,left,s,s',h=>by
  have e:∀ x left,histL l (i+1) left (setS s i x)=histL l (i+1) left (setS s' i x):=fun x left=>histL_congr l _ _ _ _ fun k hk=>by
   unfold setS;split
   ·rfl
   ·exact h k (by simp;omega)
  simp only [histL,e]
def canH (d:Dev) (left:Nat):Nat->Bool
 | 0=>true
 | 1=>d.held && decide (0 < left)
 | _=>d.blind && decide (0 < left)
def leftH (left k:Nat):Nat:=if 0 < k then left - 1 else left
def restH (d:Dev) (l:List Dev) (i left:Nat) (s:Nat->Nat):Nat->List (Nat->Nat)
 | 0=>histL (d::l) i left s
 | 1=>(if d.held=true/\0 < left then histL l (i+1) (left - 1) (setS s i 1) else []) ++ (if d.blind=true/\0 < left then histL l (i+1) (left - 1) (setS s i 2) else [])
 | 2=>if d.blind=true/\0 < left then histL l (i+1) (left - 1) (setS s i 2) else []
 | _=>[]
theorem restH_no {d:Dev} {l:List Dev} {i left:Nat} {s:Nat->Nat} {k:Nat} (hk:k < 3) (h:canH d left k=false):restH d l i left s k=restH d l i left s (k+1):=by
 have:k=0\/k=1\/k=2:=by omega
 rcases this with rfl | rfl | rfl <;> simp_all [canH,restH]
 all_goals (intro a b;have:=h a;omega)
theorem restH_yes {d:Dev} {l:List Dev} {i left:Nat} {s:Nat->Nat} {k:Nat} (hk:k < 3) (h:canH d left k=true):restH d l i left s k=histL l (i+1) (leftH left k) (setS s i k) ++ restH d l i left s (k+1):=by
 have:k=0\/k=1\/k=2:=by omega
 rcases this with rfl | rfl | rfl <;> simp_all [canH,restH,leftH,histL]
theorem can_idx {d:Dev} {left k:Nat} {x y:Bool} (hk:k < 3) (h1:canH d left 1=x) (h2:canH d left 2=y) (w:World):Sem.run Mz.prog (Instr.index 219 (.agg #[.bool true,.bool x,.bool y]) (.int .i64 (k:Int))) w=.ok (.bool (canH d left k)) w:=by
 have c0:∀ w:World,Sem.run Mz.prog (Instr.index 219 (.agg #[.bool true,.bool x,.bool y]) (.int .i64 0)) w=.ok (.bool true) w:=fun _=>by kernel_rfl
 have c1:∀ w:World,Sem.run Mz.prog (Instr.index 219 (.agg #[.bool true,.bool x,.bool y]) (.int .i64 1)) w=.ok (.bool x) w:=fun _=>by kernel_rfl
 have c2:∀ w:World,Sem.run Mz.prog (Instr.index 219 (.agg #[.bool true,.bool x,.bool y]) (.int .i64 2)) w=.ok (.bool y) w:=fun _=>by kernel_rfl
 have:k=0\/k=1\/k=2:=by omega
 rcases this with rfl | rfl | rfl
 ·exact c0 w
 ·rw [h1];exact c1 w
 ·rw [h2];exact c2 w
noncomputable def nextFr (i left s q:Nat) (d:Nat->Value):Act:={ tmps:=#[.int .i64 (i:Int),.int .i64 (left:Int),.pointer (some ⟨s,0,none⟩),.pointer (some ⟨s+1+1,0,none⟩),.pointer (some ⟨s+1,0,none⟩),.pointer (some ⟨s+1+1+1,0,none⟩),d 6,d 7,.bool false,.pointer (some ⟨q,0,none⟩),d 10,d 11,d 12,d 13,d 14,d 15,d 16,d 17,d 18,d 19,d 20,d 21,d 22,d 23,d 24,d 25,d 26,d 27,d 28,d 29,d 30,d 31,d 32,d 33,d 34,d 35,d 36,d 37,d 38,d 39,d 40,d 41,d 42,d 43,d 44,d 45,d 46,d 47,d 48,d 49,d 50,d 51,d 52,d 53,d 54,d 55,d 56,d 57,d 58,d 59,d 60,d 61,d 62,d 63,d 64,d 65,d 66,d 67,d 68,d 69,d 70,d 71,d 72],defers:=[] }
theorem next_at {w0:World} (hB:FBookAt w0 b vm vd vt) (hA0:ActsAt w0) (hp:PathsIn b.tests) (h6:b.tests.length<=6) (hd6:b.devs.length<=6) {s l:Nat} (hs:w0.heap.size<=s)
 {J Jx:List (Nat->Nat)->World->Prop} (hJ:∀ pre A B,J pre A->KS (fun k=>¬ (k=s+1+1)) A B->J pre B)
 {p:Nat->Prop} (hp0:∀ k,k < w0.heap.size->p k) (hps:∀ k,s<=k->k<=s+1+1+1->p k) {xs:List (Nat->Nat)}
 (hY:∀ done st A,(∃ suf,xs=done ++ st::suf)->(∀ k,st k < 3)->s+1+1+1 < A.heap.size->J done A->YieldAt Fence.wide 0 Mz.prog l #[stV st] A fun e B =>
   (e=.returned (.bool true)/\J (done ++ [st]) B/\KS p A B)\/(e=.returned (.bool false)/\Jx (done ++ [st]) B)) :
 ∀ (m i:Nat),i+m=b.devs.length->∀ (left:Nat) (A:World) (st:Nat->Nat) (done suf:List (Nat->Nat)),left<=2->FSt w0 vm vd vt s l A st->J done A->xs=done ++ (histL (b.devs.drop i) i left st).filter (fun s=>goR s b.tests) ++ suf ->
  (∀ k,b.devs.length<=k->st k=0)->(∀ k,st k < 3) ->
  CallsIn Fence.wide 0 Mz.prog 172 (nextArgs i left s) A (NextOut w0 b.devs.length vm vd vt s l i st J Jx (done ++ (histL (b.devs.drop i) i left st).filter (fun s=>goR s b.tests)))
 | 0,i,hi,left,A,st,done,suf,hl2,hA,hj,hx,hz,h3=>by
  obtain rfl:i=b.devs.length:=by omega
  rw [List.drop_length,histL] at hx ⊢;cases hn:goR st b.tests
  ·simp only [List.filter,hn,List.append_nil] at hx ⊢;exact next_leaf_no hB hA0 hp h6 hA h3 hz hJ hj hn
  ·simp only [List.filter,hn] at hx ⊢;exact next_leaf_yes hB hA0 hp h6 hA h3 hz hJ hj hn hp0 hps fun A' hs' hA'=>hY done st A' ⟨suf,by simpa using hx⟩ h3 hs' hA'
 | m+1,i,hi,left,A,st,done,suf,hl2,hA,hj,hx,hz,h3=>by
  have ih:=next_at hB hA0 hp h6 hd6 hs hJ hp0 hps hY m (i+1) (by omega);have hin:i < b.devs.length:=by omega
  obtain ⟨rfl,⟨da,dc,rfl,hD,_⟩,ta,tc,rfl,_,_⟩:=hB;obtain ⟨db,dO,rfl,hdb,_,d1,d2,_⟩:=hD i hin;rw [List.drop_eq_getElem_cons hin] at hx ⊢;generalize hd:b.devs[i]=d at *;have f0:=hA.b0;have f1:=hA.b1;have f2:=hA.b2;have e1:=(hA.base.cell (p:=⟨db,dO+i * 4+1,none⟩) hdb).trans d1;have e2:=(hA.base.cell (p:=⟨db,dO+i * 4+2,none⟩) hdb).trans d2;have hdbA:db < A.heap.size:=Nat.lt_of_lt_of_le hdb hA.base.size;have hA1:=hA.lt;have hA2:s+1+1 < A.heap.size:=by omega
  have hA3:s < A.heap.size:=by omega
  have hne:((i:Int) == (b.devs.length:Int))=false:=by simp;omega
  have hne2:¬ (i:Int)=(b.devs.length:Int):=by omega
  have i0:(0:Int)<=i:=by omega
  have i1:(i:Int) < b.devs.length:=by omega
  have i6:(i:Int) < 6:=by omega
  have HA:=Hh hA;have HJ:=Hh hJ;have HJ0:=Hh hj;have HZ:=Hh hz;have H3:=Hh h3;have HX:=Hh hx;have IH:=Hh ih;have HP0:=Hh hp0;have HPS:=Hh hps;clear hA hJ hj hz hx ih hp0 hps hY hA0 hD d1 d2 hp h3 hd;unfold nextArgs;obtain ⟨x,hx⟩:∃ x,canH d left 1=x:=⟨_,rfl⟩;obtain ⟨y,hy⟩:∃ y,canH d left 2=y:=⟨_,rfl⟩;have hidx:∀ k:Nat,k < 3->∀ w:World,Sem.run Mz.prog (Instr.index 219 (.agg #[.bool true,.bool x,.bool y]) (.int .i64 (k:Int))) w=.ok (.bool (canH d left k)) w:=fun k hk=>can_idx hk hx hy;have HIDX:=Hh hidx;have HXX:=Hh hx;have HYY:=Hh hy;clear hidx hx hy
  (refine callsIn_of_wp (mz_func (i:=172) rfl Tryz.func172) rfl trivial ?_ rfl;simp only [Tryz.ntmps172,List.size_toArray,List.length_cons,List.length_nil,Nat.reduceAdd,Nat.reduceSub,Array.replicate_succ,Array.replicate_zero,List.push_toArray,List.append_toArray,List.nil_append,List.cons_append])
  gi_wp2
  refine wpIn_mono (Q:=fun e a' w'=>match e with | .normal=>(∃ d,a'=nextFr i left s A.heap.size d)/\Below A.heap.size A w'/\A.heap.size < w'.heap.size/\w'.cell? ⟨A.heap.size,0,none⟩=some (.bool true)/\w'.cell? ⟨A.heap.size,1,none⟩=some (.bool x)/\w'.cell? ⟨A.heap.size,2,none⟩=some (.bool y) | _=>False) ?_ ?_
  ·cases hhv:d.held <;> cases hbv:d.blind
   all_goals
    have hx:=HXX.out;have hy:=HYY.out;rw [hhv] at e1;rw [hbv] at e2;simp only [canH,hhv,hbv,Bool.true_and,Bool.false_and] at hx hy;subst hx hy;clear hhv hbv HIDX HXX HYY
    gi_region
    refine ⟨fr_of (by kernel_rfl),(Below.al (Below.refl _ _) _).drew,by simp,?_,?_,?_⟩
    ·rw [drew_cell,World.cell?_alloc_at _ _ _ _ rfl];rfl
    ·rw [drew_cell,World.cell?_alloc_at _ _ _ _ rfl];simp
    ·rw [drew_cell,World.cell?_alloc_at _ _ _ _ rfl];simp
  ·rintro e a' A1 hR;cases e
   case normal =>
    obtain ⟨⟨dd,rfl⟩,hb1,hs1,c0,c1,c2⟩:=hR;have HB1:=Hh hb1;clear hb1 HXX HYY e1 e2 f0 f1 f2;unfold nextFr
    gi_wp2
    gi_loopw [52] (fun v wr=>∃ (k:Nat) (st':Nat->Nat) (part:List (Nat->Nat)),k<=3/\v=.int .i64 k/\FSt w0 (.int .i64 b.most) (.slice (some ⟨db,dO,none⟩) b.devs.length dc) (.slice ta b.tests.length tc) s l wr st'/\(∀ j,j < i->st' j=st j)/\(∀ j,b.devs.length<=j->st' j=0)/\(∀ j,st' j < 3)/\Hid (part ++ (restH d (b.devs.drop (i+1)) i left st k).filter (fun s=>goR s b.tests)=(histL (d::b.devs.drop (i+1)) i left st).filter (fun s=>goR s b.tests))/\J (done ++ part) wr) (fun v _=>3 - (intOf v).toNat)
    case atStart=>exact ⟨0,st,[],by omega,rfl,HA.out.next HB1.out,fun _ _=>rfl,HZ.out,H3.out,rfl,by simpa using HJ.out _ _ _ HJ0.out (KS.all HB1.out _)⟩
    case round =>
     obtain ⟨k,st',part,hk,rfl,hA',hag,hz',h3',hpart,hj'⟩:=hrel;have HAG:=Hh hag;have HZ':=Hh hz';have H3':=Hh h3';have HJ':=Hh hj';have g0:=hA'.b0;have g1:=hA'.b1;have g2:=hA'.b2;have ki:=hA'.c i (by omega);have kf:=hA'.fz i (by omega);have hB1:=hA'.lt;have hB2:s+1+1 < wr.heap.size:=by omega
     have hnx:=hA'.nx;have HA':=Hh hA';have i2:IntKind.i64.wrap ((i:Int)+1)=(i:Int)+1:=IntWalk.i64_in _ (by omega);clear hag hz' h3' hj' hA';by_cases hk3:k < 3
     ·have hk3I:(k:Int) < 3:=by omega
      have hidx:=HIDX.out k hk3;obtain ⟨ok,hok⟩:∃ ok,canH d left k=ok:=⟨_,rfl⟩;rw [hok] at hidx;have HOK:=Hh hok;clear hok;cases ok
      ·gi_wp2
       go_roundw
       case rel=>exact ⟨k+1,st',part,by omega,by go_num,HA'.out,HAG.out,HZ'.out,H3'.out,(by have:=hpart.out;rw [restH_no hk3 HOK.out] at this;exact this),HJ'.out⟩
       case measure=>simp [intOf];omega
      ·have hst:=HA'.out.set hs (show i < 6 by omega) k;have hks:KS (fun j=>¬ (j=s+1+1)) wr (wr.setCell ⟨s+1+1,i,none⟩ (.int .i64 (k:Int))):=KS.setCell (by simp) _ _;have hpart2:=hpart.out;rw [restH_yes hk3 HOK.out,List.filter_append,<- List.append_assoc] at hpart2;have hcg:histL (b.devs.drop (i+1)) (i+1) (leftH left k) (setS st' i k)=histL (b.devs.drop (i+1)) (i+1) (leftH left k) (setS st i k):=histL_congr _ _ _ _ _ fun j hj=>by
        unfold setS;split
        ·rfl
        ·rcases hj with hj | hj
         ·exact HAG.out j (by omega)
         ·rw [List.length_drop] at hj;rw [HZ'.out j (by omega),HZ.out j (by omega)]
       have ihc:=IH.out (leftH left k) _ (setS st' i k) (done ++ part) ((restH d (b.devs.drop (i+1)) i left st (k+1)).filter (fun s=>goR s b.tests) ++ suf) (by unfold leftH;split <;> omega) hst (HJ.out _ _ _ HJ'.out hks)
        (by rw [hcg,HX.out,<- hpart2];simp only [List.append_assoc]) (fun j hj=>by unfold setS;rw [if_neg (by omega)];exact HZ'.out j hj) (setS_lt H3'.out hk3)
       rw [hcg] at ihc;have hag2:∀ j,j < i->setS st' i k j=st j:=fun j hj=>by unfold setS;rw [if_neg (by omega)];exact HAG.out j hj
       have HAG2:=Hh hag2;have IHC:=Hh ihc;have HP2:=Hh hpart2;clear hst hks hpart2 hcg hag2 ihc;have hl01:0 < k->0 < left:=fun h=>by
        have:=HOK.out;obtain rfl | rfl:k=1\/k=2:=by omega
        all_goals (simp [canH] at this;exact this.2)
       by_cases hk0:0 < k
       ·have hl01':=hl01 hk0;have hk0I:(0:Int) < (k:Int):=by omega
        have e1:IntKind.i64.wrap ((left:Int) - 1)=((left - 1:Nat):Int):=by rw [IntWalk.i64_in _ (by omega)];omega
        have ihc:=IHC.out;rw [show leftH left k=left - 1 from if_pos hk0,show nextArgs (i+1) (left - 1) s=#[.int .i64 ((i:Int)+1),.int .i64 ((left - 1:Nat):Int),.pointer (some ⟨s,0,none⟩),.pointer (some ⟨s+1+1,0,none⟩),.pointer (some ⟨s+1,0,none⟩),.pointer (some ⟨s+1+1+1,0,none⟩)] from by simp [nextArgs]] at ihc;have IHC2:=Hh ihc;have HP3:=HP2.out;rw [show leftH left k=left - 1 from if_pos hk0] at HP3;have HP4:=Hh HP3;clear IHC HP2 HP3 ihc hl01
        gi_wp2
        refine IHC2.out.mono ?_;rintro e B (⟨st'',rfl,hA'',hag'',hz'',h3'',hj''⟩ | ⟨rfl,pre,hjx⟩)
        ·have HJ'':=Hh hj'';clear hj''
         gi_wp2
         go_roundw
         case rel=>exact ⟨k+1,st'',_,by omega,by go_num,hA'',fun j hj=>(hag'' j (by omega)).trans (HAG2.out j hj),hz'',h3'',HP4.out,by rw [<- List.append_assoc];exact HJ''.out⟩
         case measure=>simp [intOf];omega
        ·gi_wp2
         go_ret;exact .inr ⟨rfl,pre,hjx⟩
       ·have hk0I:¬ (0:Int) < (k:Int):=by omega
        have ihc:=IHC.out;rw [show leftH left k=left from if_neg hk0,show nextArgs (i+1) left s=#[.int .i64 ((i:Int)+1),.int .i64 (left:Int),.pointer (some ⟨s,0,none⟩),.pointer (some ⟨s+1+1,0,none⟩),.pointer (some ⟨s+1,0,none⟩),.pointer (some ⟨s+1+1+1,0,none⟩)] from by simp [nextArgs]] at ihc;have IHC2:=Hh ihc;have HP3:=HP2.out;rw [show leftH left k=left from if_neg hk0] at HP3;have HP4:=Hh HP3;clear IHC HP2 HP3 ihc hl01
        gi_wp2
        refine IHC2.out.mono ?_;rintro e B (⟨st'',rfl,hA'',hag'',hz'',h3'',hj''⟩ | ⟨rfl,pre,hjx⟩)
        ·have HJ'':=Hh hj'';clear hj''
         gi_wp2
         go_roundw
         case rel=>exact ⟨k+1,st'',_,by omega,by go_num,hA'',fun j hj=>(hag'' j (by omega)).trans (HAG2.out j hj),hz'',h3'',HP4.out,by rw [<- List.append_assoc];exact HJ''.out⟩
         case measure=>simp [intOf];omega
        ·gi_wp2
         go_ret;exact .inr ⟨rfl,pre,hjx⟩
     ·obtain rfl:k=3:=by omega
      gi_wp2
      go_ret;have hp3:=hpart.out;rw [show restH d (b.devs.drop (i+1)) i left st 3=[] from rfl,List.filter_nil,List.append_nil] at hp3;exact .inl ⟨st',rfl,HA'.out,HAG.out,HZ'.out,H3'.out,by rw [<- hp3];exact HJ'.out⟩
   all_goals exact hR.elim
end
section
variable {b:Fbk} {vm vd vt:Value}
def encF (n:Nat) (x:Nat->Nat) (args:Array Value) (A:World):Prop:=args=#[stV x]/\n<=A.heap.size/\∀ k,x k < 3
theorem histories_iter {w0 W:World} (hB:FBookAt w0 b vm vd vt) (hA0:ActsAt w0) (hp:PathsIn b.tests) (h6:b.tests.length<=6) (hd6:b.devs.length<=6) (hm:0<=b.most/\b.most<=2) (hW:Below w0.heap.size w0 W)
 {p:Nat->Prop} (hp0:∀ k,k < w0.heap.size->p k) (hps:∀ k,W.heap.size<=k->k<=W.heap.size+1+1+1->p k) :
 Iter Mz.prog 153 (.agg #[vm,vd,vt]) (encF (W.heap.size+1+1+1+1)) (histsI b) (fun k=>k=W.heap.size+1+1) p W:=by
 intro l J Jx hJ hJx hY h0;obtain ⟨n,hn⟩:∃ n:Nat,b.most=(n:Int):=⟨b.most.toNat,by omega⟩;have hn2:b.most.toNat=n:=by omega
 have hY':∀ done st A,(∃ suf,histsI b=done ++ st::suf)->(∀ k,st k < 3)->W.heap.size+1+1+1 < A.heap.size->J done A->YieldAt Fence.wide 0 Mz.prog l #[stV st] A fun e B =>
  (e=.returned (.bool true)/\J (done ++ [st]) B/\KS p A B)\/(e=.returned (.bool false)/\Jx (done ++ [st]) B):=fun done st A hs h3 hsz hj =>
  hY done _ _ A hs ⟨rfl,hsz,h3⟩ hj
 have hnx:=next_at hB hA0 hp h6 hd6 (l:=l) hW.size hJ hp0 hps hY' b.devs.length 0 (by omega);have HNX:=Hh hnx;have HJ:=Hh hJ;have H0:=Hh h0;have HW:=Hh hW;have HN2:=Hh hn2;obtain ⟨rfl,⟨da,dc,rfl,_,_⟩,ta,tc,rfl,_,_⟩:=id hB;clear hB hA0 hp hW hJ hJx hY h0 hY' hnx hp0 hps hn2;rw [hn];have hn2':n<=2:=by omega
 refine callsIn_wide.2 ?_
 go_enter (mz_func (i:=153) rfl Tryz.func153),Tryz.ntmps153
 go_wp2_with fail;obtain ⟨W1,hW1⟩:∃ W1,W1=(((W.alloc (.cells #[.int .i64 n,.slice da b.devs.length dc,.slice ta b.tests.length tc] 88)).alloc (.cells #[.func (.yield l) #[] #[]] 99)).alloc (.cells #[.int .i64 0,.int .i64 0,.int .i64 0,.int .i64 0,.int .i64 0,.int .i64 0] 96)).alloc
  (.cells #[.func (.func 172) #[] #[.pointer (some ⟨W.heap.size,0,none⟩),.pointer (some ⟨W.heap.size+1+1,0,none⟩),.pointer (some ⟨W.heap.size+1,0,none⟩),.pointer (some ⟨W.heap.size+1+1+1,0,none⟩)]] 114):=⟨_,rfl⟩
 rw [<- hW1];have hb1:Below W.heap.size W W1:=by rw [hW1];(exact bel)
 have hst:FSt w0 (.int .i64 n) (.slice da b.devs.length dc) (.slice ta b.tests.length tc) W.heap.size l W1 (fun _=>0):=by
  have q:∀ k u,(#[.int .i64 n,.slice da b.devs.length dc,.slice ta b.tests.length tc]:Array Value)[k]? = some u->W1.cell? ⟨W.heap.size,k,none⟩=some u:=fun k u hk=>by
   rw [hW1,World.cell?_alloc_past _ _ _ (by first | (simp;done) | (simp;omega)),World.cell?_alloc_past _ _ _ (by first | (simp;done) | (simp;omega)),World.cell?_alloc_past _ _ _ (by simp),World.cell?_alloc_at _ _ _ _ rfl];exact hk
  refine ⟨Below.next HW.out hb1,q 0 _ rfl,q 1 _ rfl,q 2 _ rfl,?_,fun k hk=>?_,fun k hk=>?_,?_,by rw [hW1];simp⟩
  ·rw [hW1,World.cell?_alloc_past _ _ _ (by first | (simp;done) | (simp;omega)),World.cell?_alloc_past _ _ _ (by simp),World.cell?_alloc_at _ _ _ _ (by simp)];rfl
  ·rw [hW1,World.cell?_alloc_past _ _ _ (by simp),World.cell?_alloc_at _ _ _ _ (by simp)];exact statesV_get (fun _=>0) hk
  ·rw [hW1,World.frozen?_alloc_past _ _ _ (by simp),World.frozen?_alloc_at _ _ _ _ (by simp)]
  ·rw [hW1,World.cell?_alloc_at _ _ _ _ (by simp)];rfl
 have hcall:=callsIn_wide.1 (HNX.out n W1 (fun _=>0) [] [] hn2' (by rw [hn];exact hst) (HJ.out _ _ _ H0.out (KS.all hb1 _)) (by simp [histsI,HN2.out]) (fun _ _=>rfl) (fun _=>by show (0:Nat) < 3;omega));rw [hn,show nextArgs 0 n W.heap.size=#[.int .i64 0,.int .i64 n,.pointer (some ⟨W.heap.size,0,none⟩),.pointer (some ⟨W.heap.size+1+1,0,none⟩),.pointer (some ⟨W.heap.size+1,0,none⟩),.pointer (some ⟨W.heap.size+1+1+1,0,none⟩)] from rfl] at hcall;have HC:=Hh hcall;clear hcall hst hb1 hW1;refine HC.out.mono ?_;rintro e B (⟨cl',rfl,_,_,_,_,hj⟩ | ⟨rfl,pre,hjx⟩)
 ·go_wp2
  go_end0
  exact ⟨⟨_,rfl⟩,.inl (by simpa [histsI,HN2.out] using hj)⟩
 ·go_wp2
  go_end0
  exact ⟨⟨_,rfl⟩,.inr ⟨pre,hjx⟩⟩
end
attribute [local go_sem] Oper.semAt_some
section
variable {b:Fbk} {vm vd vt:Value}
def cellsF (x:Nat->Nat):List Value:=[.int .i64 (x 0:Int),.int .i64 (x 1:Int),.int .i64 (x 2:Int),.int .i64 (x 3:Int),.int .i64 (x 4:Int),.int .i64 (x 5:Int)]
theorem statesInfo:(Mz.prog.info? 96).map (fun i=>(i.zero,i.size,i.bytes))=some (some (.agg #[.int .i64 0,.int .i64 0,.int .i64 0,.int .i64 0,.int .i64 0,.int .i64 0]),6,48):=by
 show (Tryz.prog.info? 96).map _=_
 kernel_rfl
def AllJ (w:World) (pre:List (Nat->Nat)) (A:World):Prop :=
 (∃ v,A.cell? ⟨w.heap.size+1,0,none⟩=some v/\A.frozen? ⟨w.heap.size+1,0,none⟩=false/\A.ownsRow (w.heap.size+8) 96 6 v pre.length (pre.flatMap cellsF))/\Below w.heap.size w A/\w.heap.size+1 < A.heap.size
theorem AllJ.keep {w A B:World} {pre:List (Nat->Nat)} (h:AllJ w pre A) {p:Nat->Prop} (hk:KS p A B) (hp:∀ k,k<=w.heap.size+1\/w.heap.size+8<=k->p k):AllJ w pre B:=by
 obtain ⟨⟨v,h1,h2,h3⟩,h4,h5⟩:=h;refine ⟨⟨v,(hk.cell h5 (hp _ (.inl (Nat.le_refl _)))).trans h1,(hk.frozen h5 (hp _ (.inl (Nat.le_refl _)))).trans h2,ownsRow_ks h3 hk fun k hk=>hp k (.inr hk)⟩,?_,Nat.lt_of_lt_of_le h5 hk.size⟩;exact ⟨hk.os.trans h4.os,hk.tape.trans h4.tape,hk.output.trans h4.output,Nat.le_trans h4.size hk.size,fun k hkk=>(hk.block k (Nat.lt_of_lt_of_le hkk h4.size) (hp k (.inl (by omega)))).trans (h4.block k hkk)⟩
def AllMid (w:World) (vm vd vt:Value) (pre:List (Nat->Nat)) (x:Nat->Nat) (a:Act) (A:World):Prop :=
 ∃ B,w.heap.size+8<=B/\B < A.heap.size/\(∀ k,k < 6->A.cell? ⟨B,k,none⟩=some (.int .i64 (x k:Int))) /\
  a={ tmps:=#[.agg #[vm,vd,vt],.pointer (some ⟨w.heap.size,0,none⟩),.slice none 0 0,.pointer (some ⟨w.heap.size+1,0,none⟩),.pointer (some ⟨B,0,none⟩),.agg #[vm,vd,vt],.func (.func 153) #[.agg #[vm,vd,vt]] #[],stV x,U,U,U,U,U],defers:=[] }/\AllJ w pre A
def AllOut (w:World) (b:Fbk) (e:Ending) (w':World):Prop:=∃ v,e=.returned v/\w'.ownsRow (w.heap.size+8) 96 6 v (histsI b).length ((histsI b).flatMap cellsF)/\Below w.heap.size w w'
theorem all_at {w:World} (hB:FBookAt w b vm vd vt) (hA0:ActsAt w) (hp:PathsIn b.tests) (h6:b.tests.length<=6) (hd6:b.devs.length<=6) (hm:0<=b.most/\b.most<=2) :
 Calls Mz.prog 105 #[.agg #[vm,vd,vt]] w (AllOut w b):=by
 refine (callsIn_wide (n:=0)).1 (callsIn_of_wp_marks (mz_func (i:=105) rfl Tryz.func105) rfl trivial (wpIn_wide.2 ?_) rfl);have HB:=Hh hB;have HA:=Hh hA0;have HP:=Hh hp;have hle:=hists_le hd6 hm.2;have HLE:=Hh hle;have HM:=Hh hm;obtain ⟨rfl,⟨da,dc,rfl,_,_⟩,ta,tc,rfl,_,_⟩:=id hB;clear hB hA0 hp hle hm;simp only [Tryz.ntmps105,List.size_toArray,List.length_cons,List.length_nil,Nat.reduceAdd,Nat.reduceSub,Array.replicate_succ,Array.replicate_zero,List.push_toArray,List.append_toArray,List.nil_append,List.cons_append];go_wp2;obtain ⟨W1,hW1⟩:∃ W1,W1=(w.alloc (.cells #[.int .i64 b.most,.slice da b.devs.length dc,.slice ta b.tests.length tc] 88)).alloc (.cells #[.slice none 0 0] 89):=⟨_,rfl⟩;rw [<- hW1];have hb1:Below w.heap.size w W1:=by rw [hW1];(exact bel)
 have hs1:W1.heap.size=w.heap.size+1+1:=by rw [hW1];simp
 have o1:W1.cell? ⟨w.heap.size+1,0,none⟩=some (.slice none 0 0):=by rw [hW1,World.cell?_alloc_at _ _ _ _ (by simp)];rfl
 have o2:W1.frozen? ⟨w.heap.size+1,0,none⟩=false:=by rw [hW1,World.frozen?_alloc_at _ _ _ _ (by simp)]
 clear hW1;refine wpIn_wide.1 (wpIn_range (gf:=153) (recv:=.agg #[.int .i64 b.most,.slice da b.devs.length dc,.slice ta b.tests.length tc]) rfl (enters_of (mz_func (i:=153) rfl Tryz.func153) (by kernel_rfl) rfl)
  (encF (w.heap.size+8)) (fun x args W h=>by rw [h.1];rfl) (histsI b) (fun k=>k=w.heap.size+6) (fun k=>k < w.heap.size\/(w.heap.size+4<=k/\k<=w.heap.size+7)) ⟨by omega,by omega⟩ (by omega)
  (fun W hW hsz=>?seq) (AllJ w) (fun _ _=>False) ?hJ ?hJx ?h0 (AllMid w (.int .i64 b.most) (.slice da b.devs.length dc) (.slice ta b.tests.length tc)) ?hMid ?assign ?body ?done ?stop)
 case seq =>
  have hh:=histories_iter HB.out HA.out HP.out h6 hd6 HM.out (Below.next hb1 hW) (p:=fun k=>k < w.heap.size\/(w.heap.size+4<=k/\k<=w.heap.size+7)) (fun k hk=>.inl hk) (fun k h1 h2=>.inr (by omega));have e4:W.heap.size+1+1+1+1=w.heap.size+8:=by omega
  have e2:W.heap.size+1+1=w.heap.size+6:=by omega
  rw [e4,e2] at hh;exact hh
 case hJ=>exact fun pre A B h hk=>h.keep hk (by omega)
 case hJx=>exact fun _ _ _ h _=>h
 case h0 =>
  intro W hW hsz;refine ⟨⟨.slice none 0 0,?_,?_,by simpa using World.ownsRow_nil _ _ _ _⟩,Below.next hb1 hW,by omega⟩
  ·exact (hW.cell (p:=⟨w.heap.size+1,0,none⟩) (by simp;omega)).trans o1
  ·exact (hW.frozen (p:=⟨w.heap.size+1,0,none⟩) (by simp;omega)).trans o2
 case hMid =>
  rintro pre x a₁ A B ⟨Bx,h1,h2,hc,ha,hj⟩ hk hsz;exact ⟨Bx,h1,by omega,fun k hk6=>(hk.cell h2 (by simp;omega)).trans (hc k hk6),ha,hj.keep hk (by omega)⟩
 case assign =>
  rintro pre x args A hx ⟨rfl,hsz,_⟩ hj hlt;have HJ:=Hh hj;clear hj;rw [one_param];show Code.wpIn _ _ _ _ _ { tmps:=#[.agg #[.int .i64 b.most,.slice da b.devs.length dc,.slice ta b.tests.length tc],.pointer (some ⟨w.heap.size,0,none⟩),.slice none 0 0,.pointer (some ⟨w.heap.size+1,0,none⟩),U,.agg #[.int .i64 b.most,.slice da b.devs.length dc,.slice ta b.tests.length tc],.func (.func 153) #[.agg #[.int .i64 b.most,.slice da b.devs.length dc,.slice ta b.tests.length tc]] #[],.agg #[.int .i64 (x 0:Int),.int .i64 (x 1:Int),.int .i64 (x 2:Int),.int .i64 (x 3:Int),.int .i64 (x 4:Int),.int .i64 (x 5:Int)],U,U,U,U,U],defers:=[] } A
  gi_wp2
  refine ⟨(KS.alloc _ _ _),A.heap.size,by omega,by simp,fun k hk=>?_,rfl,HJ.out.keep (KS.alloc (fun _=>True) _ _) (fun _ _=>trivial)⟩;rw [World.cell?_alloc_at _ _ _ _ rfl];exact statesV_get x hk
 case body =>
  rintro pre x a₁ A hx ⟨Bx,h1,h2,hc,rfl,⟨v,o1,o2,hrow⟩,hbel,hlt2⟩ hlt;have hlen:pre.length < (histsI b).length:=by
   obtain ⟨suf,hx⟩:=hx;rw [hx];simp
  have hle:=HLE.out;have hle':pre.length < 73:=by omega
  have c0:=hc 0 (by omega);have c1:=hc 1 (by omega);have c2:=hc 2 (by omega);have c3:=hc 3 (by omega);have c4:=hc 4 (by omega);have c5:=hc 5 (by omega);have HO1:=Hh hb1;obtain ⟨i0,hi,hz0,hz1,hz2⟩:=info_parts statesInfo;clear hx hb1 hc hlen hle
  gi_wp2_with (gi_at_builtin;go_loud (refine wpListIn_append_own _ rfl _ _ 89 rfl (w.heap.size+8) 96 i0 (.agg #[.int .i64 0,.int .i64 0,.int .i64 0,.int .i64 0,.int .i64 0,.int .i64 0]) 6 48 (mzu Tryz.underlying89) hi hz0 hz1 hz2 rfl (by decide) _ _ _ rfl (ownsRow_ks hrow (KS.alloc (fun _=>True) _ _) (fun _ _=>trivial)) ⟨A.heap.size,0,none⟩ 1 1 [.int .i64 (x 0:Int),.int .i64 (x 1:Int),.int .i64 (x 2:Int),.int .i64 (x 3:Int),.int .i64 (x 4:Int),.int .i64 (x 5:Int)] rfl rfl (cells_new _ _ _) (by simp [Value.oneCell']) (by unfold maxLen;omega) (by omega) (by simp;omega) ?_;intro v' w1 hown' hgrow _;obtain ⟨g',cap',rfl⟩:=ownsRow_succ hown';have hks:=grow_ks (ownsRow_ks hrow (KS.alloc (fun _=>True) A _) (fun _ _=>trivial)) hgrow;have q1:=(hks.cell (x:=⟨w.heap.size+1,0,none⟩) (by simp;omega) (by simp));have q2:=(hks.frozen (x:=⟨w.heap.size+1,0,none⟩) (by simp;omega) (by simp));rw [World.cell?_alloc_past _ _ _ (by omega),o1] at q1;rw [World.frozen?_alloc_past _ _ _ (by omega),o2] at q2))
  have hks3:KS (fun k=>k≠w.heap.size+1) w1 (w1.setCell ⟨w.heap.size+1,0,none⟩ (.slice (some ⟨g',0,none⟩) (pre.length+1) cap')):=KS.setCell (by simp) _ _;have hks1:=KS.alloc (fun k=>k < w.heap.size+8) A (.cells #[.int .i64 (x 0:Int),.int .i64 (x 1:Int),.int .i64 (x 2:Int),.int .i64 (x 3:Int),.int .i64 (x 4:Int),.int .i64 (x 5:Int)] 96);have hks4:KS (fun k=>k < w.heap.size+8/\k≠w.heap.size+1) A (w1.setCell ⟨w.heap.size+1,0,none⟩ (.slice (some ⟨g',0,none⟩) (pre.length+1) cap')):=((hks1.trans hks).mono fun k _ h=>h.1).trans (hks3.mono fun k _ h=>h.2);refine ⟨hks4.mono fun k _ h=>by omega,⟨_,World.cell?_setCell_same' _ _ _ (by rw [q1];rfl),by rw [World.frozen?_setCell];exact q2,?_⟩,?_,Nat.lt_of_lt_of_le hlt2 hks4.size⟩
  ·rw [List.flatMap_append,List.length_append,List.flatMap_cons,List.flatMap_nil,List.append_nil];exact ownsRow_ks hown' hks3 (fun k hk=>by omega)
  ·exact ⟨hks4.os.trans hbel.os,hks4.tape.trans hbel.tape,hks4.output.trans hbel.output,Nat.le_trans hbel.size hks4.size,fun k hkk=>(hks4.block k (Nat.lt_of_lt_of_le hkk hbel.size) ⟨by omega,by omega⟩).trans (hbel.block k hkk)⟩
 case done =>
  rintro W ⟨⟨v,o1,o2,hrow⟩,hbel,hlt⟩ hd;clear hb1;go_wp2;refine ⟨by simp,.inl ⟨_,_,rfl,run_takeDeferred hd,?_⟩⟩;have hks:KS (fun k=>k≠W1.heap.size) W (W.putObj W1.heap.size (.deferred none)):=KS.putObj (by simp) _ _;exact ⟨_,results_tmp rfl _ _ _,⟨_,rfl,ownsRow_ks hrow hks (fun k hk=>by omega),⟨hks.os.trans hbel.os,hks.tape.trans hbel.tape,hks.output.trans hbel.output,Nat.le_trans hbel.size hks.size,fun k hkk=>(hks.block k (Nat.lt_of_lt_of_le hkk hbel.size) (by omega)).trans (hbel.block k hkk)⟩⟩⟩
 case stop=>exact fun _ _ h _=>h.elim
end
end Mt
end Go.Proofs.YtgkajecjbflbbaaGreatDoor
