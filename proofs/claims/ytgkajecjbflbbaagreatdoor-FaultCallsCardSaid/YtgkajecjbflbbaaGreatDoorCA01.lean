/- FaultCalls -/
import Derived.Test.YtgkajecjbflbbaaGreatDoorCA00
set_option maxHeartbeats 4000000
set_option maxRecDepth 100000
set_option linter.all false
namespace Go.Proofs.YtgkajecjbflbbaaGreatDoor
namespace Mt
open Go Go.RowKit Go.Maps
attribute [local go_sem] Oper.semAt_some
theorem stL_snoc {i k:Nat} {s:Nat->Nat}:stL i s ++ [(k:Int)]=stL (i+1) (setS s i k):=by
 unfold stL;rw [List.range_succ,List.map_append];congr 1
 ·apply List.map_congr_left;intro j hj;have:=List.mem_range.1 hj;unfold setS;rw [if_neg (by omega)]
 ·simp [setS]
theorem stepsOf_stL {n:Nat} {s:Nat->Nat} {j:Nat} (h:j < n):stepsOf (stL n s) j=s j:=by
 simp [stepsOf,stL,List.getD,h]
theorem plays_congr {s s' p:Nat->Nat}:∀ (N i:Nat),(∀ j,i<=j->j < i+N->s (p j)=s' (p j))->plays s p N i=plays s' p N i
 | 0,i,_=>rfl
 | N+1,i,h=>by
  unfold plays;rw [h i (Nat.le_refl _) (by omega),plays_congr N (i+1) (fun j h1 h2=>h j (by omega) (by omega))]
theorem playI_congr {n:Nat} {s s':Nat->Nat} {l:List Int} (hl:∀ x∈l,0<=x/\x < (n:Int)) (h:∀ j,j < n->s j=s' j):playI s l=playI s' l:=by
 unfold playI;apply plays_congr;intro j _ hj;apply h;rw [Nat.zero_add] at hj;have:=hl _ (List.getElem_mem hj);unfold stepsOf;simp [List.getD,hj];omega
theorem goR_congr {b:Fbk} (hO:TestsOk b) {s s':Nat->Nat} (h:∀ j,j < b.devs.length->s j=s' j):goR s b.tests=goR s' b.tests:=by
 have:∀ l:List Tst,(∀ t∈l,t∈b.tests)->goR s l=goR s' l:=by
  intro l
  induction l with
  | nil=>intro _;rfl
  | cons t l ih =>
   intro hm;unfold goR;rw [ih (fun t h=>hm t (List.mem_cons_of_mem _ h)),playI_congr (hO t (hm t (List.mem_cons_self ..))).1 h]
 exact this _ (fun _ h=>h)
theorem pastsL_eq {b:Fbk} (hO:TestsOk b):∀ (l:List Dev) (i left:Nat) (s:Nat->Nat),i+l.length=b.devs.length->pastsL b l (stL i s) left=((histL l i left s).filter fun s=>goR s b.tests).map (stL b.devs.length)
 | [],i,left,s,h=>by
  have hi:i=b.devs.length:=by simpa using h
  subst hi;unfold pastsL histL;rw [goR_congr hO (s:=stepsOf (stL b.devs.length s)) (s':=s) (fun j hj=>stepsOf_stL hj)];cases hg:goR s b.tests <;> simp [hg]
 | d::l,i,left,s,h=>by
  have hl:i+1+l.length=b.devs.length:=by simp at h;omega
  have ih:=fun k left'=>pastsL_eq hO l (i+1) left' (setS s i k) hl;unfold pastsL histL;simp only [stL_snoc,ih];rw [show List.range 3=[0,1,2] from rfl];simp only [List.flatMap_cons,List.flatMap_nil,List.append_nil,List.filter_append,List.map_append];congr 1
  ·cases hd:d.held <;> cases he:d.blind <;> by_cases h0:0 < left <;> simp [canI,hd,he,h0]
theorem pastsL_hists {b:Fbk} (hO:TestsOk b):pastsL b b.devs [] b.most.toNat=(histsI b).map (stL b.devs.length):=by
 have h:=pastsL_eq hO b.devs 0 b.most.toNat (fun _=>0) (by simp);exact h
theorem boundH_le:∀ m:Fin 3,∀ n:Fin 7,boundH n.1 m.1<=73:=by decide
theorem pastsL_le {b:Fbk}:∀ (l:List Dev) (pre:List Int) (left:Nat),(pastsL b l pre left).length<=boundH l.length left
 | [],pre,left=>by
  unfold pastsL boundH;split <;> simp
 | d::l,pre,left=>by
  have i0:=pastsL_le (b:=b) l (pre ++ [((0:Nat):Int)]) left;have i1:=pastsL_le (b:=b) l (pre ++ [((1:Nat):Int)]) (left - 1);have i2:=pastsL_le (b:=b) l (pre ++ [((2:Nat):Int)]) (left - 1);unfold pastsL;rw [show List.range 3=[0,1,2] from rfl];simp only [List.flatMap_cons,List.flatMap_nil,List.append_nil,List.length_append];have e0:(if (0=0\/0 < left)/\canI d 0=true then pastsL b l (pre ++ [((0:Nat):Int)]) (if 0=0 then left else left - 1) else []).length<=boundH l.length left:=by
   split
   ·exact i0
   ·simp
  cases left with
  | zero =>
   simp only [List.length_cons,boundH];simp only [Nat.lt_irrefl,or_false,Nat.succ_ne_self] at *;simp at *;exact e0
  | succ m =>
   have e1:(if (1=0\/0 < m+1)/\canI d 1=true then pastsL b l (pre ++ [((1:Nat):Int)]) (if 1=0 then m+1 else m+1 - 1) else []).length<=boundH l.length m:=by
    split
    ·exact i1
    ·simp
   have e2:(if (2=0\/0 < m+1)/\canI d 2=true then pastsL b l (pre ++ [((2:Nat):Int)]) (if 2=0 then m+1 else m+1 - 1) else []).length<=boundH l.length m:=by
    split
    ·exact i2
    ·simp
   simp only [List.length_cons,boundH];simp only [Nat.add_sub_cancel] at e1 e2 ⊢;simp at e0 e1 e2 ⊢;omega
section
variable {b:Fbk} {vm vd vt:Value}
theorem rPasts_at (hO:TestsOk b) (h6:b.devs.length<=6):∀ (l:List Dev) (pre:List Int) (left:Nat) (w:World) (la:Option Addr) (lc:Nat),left<=2->FBookAt w b vm vd vt->b.devs.drop pre.length=l->pre.length<=b.devs.length->(∀ x∈pre,0<=x/\x < 3)->StaV w (.slice la pre.length lc) pre ->
 Calls Mz.prog 104 #[.agg #[vm,vd,vt],.slice la pre.length lc,.int .i64 (left:Int)] w (SOut w (pastsL b l pre left))
 | [],pre,left,w,la,lc,hlf,hB,hs,hle,hp,hL=>by
  have hl:pre.length=b.devs.length:=by
   apply Classical.byContradiction;intro h;have:=congrArg List.length hs;rw [List.length_drop,List.length_nil] at this;omega
  unfold pastsL;exact rPasts_leaf hB hO hl hp hL
 | d::l,pre,left,w,la,lc,hlf,hB,hs,hle,hp,hL=>by
  have hlt:pre.length < b.devs.length:=by
   apply Classical.byContradiction;intro h;rw [List.drop_eq_nil_of_le (by omega)] at hs;cases hs
  have hd:=List.drop_eq_getElem_cons hlt;rw [hs] at hd;obtain ⟨h1,h2⟩:=List.cons.inj hd;have hll:l.length<=6:=by rw [h2,List.length_drop];omega
  unfold pastsL;refine rPasts_step hB h6 hlf hs (fun k=>?_) (fun k hk=>if_neg hk) (fun k hk hok W la' lc' hW hL'=>?_) hL
  ·split
   ·have a:=pastsL_le (b:=b) l (pre ++ [(k:Int)]) (if k=0 then left else left - 1);have c:=boundH_le ⟨if k=0 then left else left - 1,by split <;> omega⟩ ⟨l.length,by omega⟩;simp only at c;omega
   ·simp
  ·rw [if_pos hok];have:=rPasts_at hO h6 l (pre ++ [(k:Int)]) (if k=0 then left else left - 1) W la' lc' (by split <;> omega) (hB.below hW) (by rw [List.length_append];exact h2.symm) (by rw [List.length_append];simp;omega) (fun x hx=>?_) (by rw [List.length_append];exact hL')
   ·rw [List.length_append] at this;exact this
   ·rcases List.mem_append.1 hx with hx | hx
    ·exact hp x hx
    ·rw [List.mem_singleton] at hx;subst hx;omega
theorem rPastsOf_at {w:World} (hB:FBookAt w b vm vd vt) (hO:TestsOk b) (h6:b.devs.length<=6) (hm:0<=b.most/\b.most<=2) :
 Calls Mz.prog 33 #[.agg #[vm,vd,vt]] w (SOut w ((histsI b).map (stL b.devs.length))):=by
 have hc:∀ (W:World) (hb:Below w.heap.size w W),Calls Mz.prog 104 #[.agg #[vm,vd,vt],.slice none 0 0,.int .i64 b.most] W (SOut W ((histsI b).map (stL b.devs.length))):=fun (W:World) (hb:Below w.heap.size w W)=>by
  have h:=rPasts_at (vm:=vm) (vd:=vd) (vt:=vt) hO h6 b.devs [] b.most.toNat W none 0 (by omega) (hB.below hb) rfl (Nat.zero_le _) (fun x hx=>by cases hx) (StaV.nil _);rw [pastsL_hists hO] at h;have e:((b.most.toNat:Nat):Int)=b.most:=by omega
  rw [e] at h;exact h
 have HC:=Hh hc;obtain ⟨rfl,⟨da,dc,rfl,_,_⟩,ta,tc,rfl,_,_⟩:=hB;clear hc hO
 go_enter (mz_func (i:=33) rfl Tryz.func33),Tryz.ntmps33
 go_wp2_with (go_at_call 104;(with_reducible refine (HC.out _ (bel)).mono ?_);rintro e w1 ⟨a,c,vs',rfl,h1,h2,h3⟩);go_ret;exact ⟨a,c,vs',by simp,by simpa using ownsRow_base h1 (by simp),h2,bel⟩
end
attribute [local go_sem] Oper.semAt_some
theorem tests_ok {b:Fbk} (h:bookAl b=0):TestsOk b:=fun t ht=>by
 have h1:=(testsAl_ok (bookAl_ok h).2).2 t ht;exact ⟨(pathAl_ok h1.1).2,h1.2⟩
theorem most_ok {b:Fbk} (h:bookAl b=0):0<=b.most/\b.most<=2:=by
 have h1:=(bookAl_ok h).1;unfold devsAl at h1;split at h1
 ·exact absurd h1 (by decide)
 ·rename_i hm
  unfold inB at hm;simp at hm;omega
section
variable {b:Fbk} {vm vd vt:Value} {w:World}
def askedI (is:Bool) (t:Int):Int:=if is=false then 6 else t
theorem rAsked_no (hB:FBookAt w b vm vd vt) (hN:∀ m∈b.devs,m.name.size<=1000000) (is:Bool) (al:Int) {t:Int} (ht:openAl b (askedI is al)=t) (h0:t≠0) :
 Calls Mz.prog 70 #[.agg #[vm,vd,vt],.bool is,.int .i64 al] w fun e w'=>e=.returned (.tuple #[.slice none 0 0,.int .i64 t])/\Below w.heap.size w w':=by
 have HB:=Hh hB;have HN:=Hh hN;obtain ⟨rfl,⟨da,dc,rfl,_,_⟩,ta,tc,rfl,_,_⟩:=id hB;clear hB hN;unfold openAl at ht;by_cases hk:bookAl b=0
 ·rw [if_neg (by simpa using hk)] at ht;have H0:=Hh hk;cases is
  ·have h1:t=6:=by rw [<- ht];simp [askedI]
   subst h1;clear ht hk h0
   go_enter (mz_func (i:=70) rfl Tryz.func70),Tryz.ntmps70
   go_wp2_with (go_at_call 81;(with_reducible refine (rCheckBook_at (HB.out.below (bel)) HN.out H0.out).mono ?_);rintro e w1 ⟨rfl,hb1⟩;have y0:w1.cell? ⟨w.heap.size,0,none⟩=some (.int .i64 b.most):=(hb1.cell (p:=⟨w.heap.size,0,none⟩) (by simp)).trans (by rw [World.cell?_alloc_at _ _ _ _ rfl];rfl);have y1:w1.cell? ⟨w.heap.size,1,none⟩=some (.slice da b.devs.length dc):=(hb1.cell (p:=⟨w.heap.size,1,none⟩) (by simp)).trans (by rw [World.cell?_alloc_at _ _ _ _ rfl];rfl);have y2:w1.cell? ⟨w.heap.size,2,none⟩=some (.slice ta b.tests.length tc):=(hb1.cell (p:=⟨w.heap.size,2,none⟩) (by simp)).trans (by rw [World.cell?_alloc_at _ _ _ _ rfl];rfl));exact bodyPost_ret (v:=.tuple #[.slice none 0 0,.int .i64 6]) (by simp [results,Tryz.results70,go_sem, *]) rfl ⟨rfl,bel⟩
  ·simp only [askedI,Bool.true_eq_false,if_false] at ht;by_cases ha:al=0
   ·subst ha;have hp:histsI b=[]:=by
     apply Classical.byContradiction;intro hp;apply h0;rw [<- ht,if_neg (by simp),if_neg hp]
    have h1:t=10:=by rw [<- ht,if_neg (by simp),if_pos hp]
    subst h1;have HO:=Hh (tests_ok hk);have HM:=Hh (most_ok hk);have h6:=(bk6 hk).1;have HP:=Hh (show ((histsI b).map (stL b.devs.length)).length=0 by rw [hp];rfl);clear ht hk h0 hp
    go_enter (mz_func (i:=70) rfl Tryz.func70),Tryz.ntmps70
    go_wp2_with (first | (go_at_call 81;(with_reducible refine (rCheckBook_at (HB.out.below (bel)) HN.out H0.out).mono ?_);rintro e w1 ⟨rfl,hb1⟩;have y0:w1.cell? ⟨w.heap.size,0,none⟩=some (.int .i64 b.most):=(hb1.cell (p:=⟨w.heap.size,0,none⟩) (by simp)).trans (by rw [World.cell?_alloc_at _ _ _ _ rfl];rfl);have y1:w1.cell? ⟨w.heap.size,1,none⟩=some (.slice da b.devs.length dc):=(hb1.cell (p:=⟨w.heap.size,1,none⟩) (by simp)).trans (by rw [World.cell?_alloc_at _ _ _ _ rfl];rfl);have y2:w1.cell? ⟨w.heap.size,2,none⟩=some (.slice ta b.tests.length tc):=(hb1.cell (p:=⟨w.heap.size,2,none⟩) (by simp)).trans (by rw [World.cell?_alloc_at _ _ _ _ rfl];rfl)) | (go_at_call 33;(with_reducible refine (rPastsOf_at (HB.out.below (bel)) HO.out h6 HM.out).mono ?_);rintro e w2 ⟨a,c,vs',rfl,h1,h2,hb2⟩;rw [HP.out]));exact bodyPost_ret (v:=.tuple #[.slice none 0 0,.int .i64 10]) (by simp [results,Tryz.results70,go_sem, *]) rfl ⟨rfl,bel⟩
   ·rw [if_pos ha] at ht;subst ht;have hz:(al != 0)=true:=by simpa using ha
    clear hk ha h0
    go_enter (mz_func (i:=70) rfl Tryz.func70),Tryz.ntmps70
    go_wp2_with (go_at_call 81;(with_reducible refine (rCheckBook_at (HB.out.below (bel)) HN.out H0.out).mono ?_);rintro e w1 ⟨rfl,hb1⟩;have y0:w1.cell? ⟨w.heap.size,0,none⟩=some (.int .i64 b.most):=(hb1.cell (p:=⟨w.heap.size,0,none⟩) (by simp)).trans (by rw [World.cell?_alloc_at _ _ _ _ rfl];rfl);have y1:w1.cell? ⟨w.heap.size,1,none⟩=some (.slice da b.devs.length dc):=(hb1.cell (p:=⟨w.heap.size,1,none⟩) (by simp)).trans (by rw [World.cell?_alloc_at _ _ _ _ rfl];rfl);have y2:w1.cell? ⟨w.heap.size,2,none⟩=some (.slice ta b.tests.length tc):=(hb1.cell (p:=⟨w.heap.size,2,none⟩) (by simp)).trans (by rw [World.cell?_alloc_at _ _ _ _ rfl];rfl));exact bodyPost_ret (v:=.tuple #[.slice none 0 0,.int .i64 al]) (by simp [results,Tryz.results70,go_sem, *]) rfl ⟨rfl,bel⟩
 ·rw [if_pos hk] at ht;have H0:=Hh ht;have hz:(t != 0)=true:=by simpa using h0
  clear ht hk h0
  go_enter (mz_func (i:=70) rfl Tryz.func70),Tryz.ntmps70
  go_wp2_with (go_at_call 81;(with_reducible refine (rCheckBook_at (HB.out.below (bel)) HN.out H0.out).mono ?_);rintro e w1 ⟨rfl,hb1⟩;have y0:w1.cell? ⟨w.heap.size,0,none⟩=some (.int .i64 b.most):=(hb1.cell (p:=⟨w.heap.size,0,none⟩) (by simp)).trans (by rw [World.cell?_alloc_at _ _ _ _ rfl];rfl);have y1:w1.cell? ⟨w.heap.size,1,none⟩=some (.slice da b.devs.length dc):=(hb1.cell (p:=⟨w.heap.size,1,none⟩) (by simp)).trans (by rw [World.cell?_alloc_at _ _ _ _ rfl];rfl);have y2:w1.cell? ⟨w.heap.size,2,none⟩=some (.slice ta b.tests.length tc):=(hb1.cell (p:=⟨w.heap.size,2,none⟩) (by simp)).trans (by rw [World.cell?_alloc_at _ _ _ _ rfl];rfl));exact bodyPost_ret (v:=.tuple #[.slice none 0 0,.int .i64 t]) (by simp [results,Tryz.results70,go_sem, *]) rfl ⟨rfl,bel⟩
def SAskedOut (W:World) (ls:List (List Int)) (e:Ending) (W':World):Prop:=∃ a c,e=.returned (.tuple #[.slice a ls.length c,.int .i64 0])/\StaAt W' a ls/\Below W.heap.size W W'
theorem rAsked_ok (hB:FBookAt w b vm vd vt) (hN:∀ m∈b.devs,m.name.size<=1000000) (ht:openAl b 0=0) :
 Calls Mz.prog 70 #[.agg #[vm,vd,vt],.bool true,.int .i64 0] w (SAskedOut w ((histsI b).map (stL b.devs.length))):=by
 obtain ⟨hk,_,hp⟩:=openAl_ok ht;have HB:=Hh hB;have HN:=Hh hN;obtain ⟨rfl,⟨da,dc,rfl,_,_⟩,ta,tc,rfl,_,_⟩:=id hB;have H0:=Hh hk;have HO:=Hh (tests_ok hk);have HM:=Hh (most_ok hk);have h6:=(bk6 hk).1;obtain ⟨ls,hls⟩:∃ ls,(histsI b).map (stL b.devs.length)=ls:=⟨_,rfl⟩;have hpl2:((ls.length:Int) == 0)=false:=by
  rw [<- hls];simpa using hp
 have HPO:=Hh (show ∀ W,Below w.heap.size w W->Calls Mz.prog 33 #[.agg #[.int .i64 b.most,.slice da b.devs.length dc,.slice ta b.tests.length tc]] W (SOut W ls) from fun W hb=>by have:=rPastsOf_at (HB.out.below hb) HO.out h6 HM.out;rw [hls] at this;exact this);rw [hls];clear hB hN hk hp ht hls
 go_enter (mz_func (i:=70) rfl Tryz.func70),Tryz.ntmps70
 go_wp2_with (first | (go_at_call 81;(with_reducible refine (rCheckBook_at (HB.out.below (bel)) HN.out H0.out).mono ?_);rintro e w1 ⟨rfl,hb1⟩;have y0:w1.cell? ⟨w.heap.size,0,none⟩=some (.int .i64 b.most):=(hb1.cell (p:=⟨w.heap.size,0,none⟩) (by simp)).trans (by rw [World.cell?_alloc_at _ _ _ _ rfl];rfl);have y1:w1.cell? ⟨w.heap.size,1,none⟩=some (.slice da b.devs.length dc):=(hb1.cell (p:=⟨w.heap.size,1,none⟩) (by simp)).trans (by rw [World.cell?_alloc_at _ _ _ _ rfl];rfl);have y2:w1.cell? ⟨w.heap.size,2,none⟩=some (.slice ta b.tests.length tc):=(hb1.cell (p:=⟨w.heap.size,2,none⟩) (by simp)).trans (by rw [World.cell?_alloc_at _ _ _ _ rfl];rfl)) | (go_at_call 33;(with_reducible refine (HPO.out _ (bel)).mono ?_);rintro e w2 ⟨a,c,vs',rfl,h1,h2,hb2⟩));exact bodyPost_ret (v:=.tuple #[.slice a ls.length c,.int .i64 0]) (by simp [results,Tryz.results70,go_sem, *]) rfl ⟨a,c,rfl,sta_of_row h1 h2,bel⟩
end
attribute [local go_sem] Oper.semAt_some
theorem say_claim (n m:Nat):sayI (n:Int) (m:Int)=claimI n m:=by
 unfold sayI claimI;by_cases h:n=0
 ·subst h;simp
 ·rw [if_neg h,if_neg (by omega)];by_cases h2:n=m
  ·rw [if_pos h2,if_pos (by omega)]
  ·rw [if_neg h2,if_neg (by omega)]
section
variable {w:World} {la:Option Addr} {lc n:Nat} {L:List (Nat->Nat)}
end
attribute [local go_sem] Oper.semAt_some
theorem hists_1000 {b:Fbk} (h:bookAl b=0):(histsI b).length<=1000:=(bk6 h).2
section
variable {b:Fbk} {vm vd vt:Value} {w:World}
end
attribute [local go_sem] Oper.semAt_some
section
variable {b:Fbk} {vm vd vt:Value} {w:World}
theorem located_no (hB:FBookAt w b vm vd vt) (hN:∀ m∈b.devs,m.name.size<=1000000) (hA:ActsAt w) {t:Int} (h:openAl b 0=t) (h0:t≠0) :
 Calls Mz.prog 24 #[.agg #[vm,vd,vt]] w fun e w'=>e=.returned (.tuple #[.bool false,.int .i64 t])/\Below w.heap.size w w':=by
 have HB:=Hh hB;have HN:=Hh hN;have HA:=Hh hA;have H:=Hh h;have hz3:(t != 0)=true:=by simpa using h0
 obtain ⟨rfl,⟨da,dc,rfl,_,_⟩,ta,tc,rfl,_,_⟩:=hB;clear hN h hA
 go_enter (mz_func (i:=24) rfl Tryz.func24),Tryz.ntmps24
 go_wp2_with (go_at_call 64;(with_reducible refine (open_no (HB.out.below (bel)) HN.out (HA.out.below (bel)) (fun _ _=>mz_call84 _ _) nothingC H.out h0).mono ?_);rintro e w1 ⟨rfl,hb1⟩);exact bodyPost_ret (v:=.tuple #[.bool false,.int .i64 t]) (by simp [results,Tryz.results24,go_sem, *]) rfl ⟨rfl,bel⟩
end
attribute [local go_sem] Oper.semAt_some
section
variable {b:Fbk} {vm vd vt:Value} {w:World}
theorem twins_no1 {d:Int} (hB:FBookAt w b vm vd vt) (hN:∀ m∈b.devs,m.name.size<=1000000) {t:Int} (h:bookAl b=t) (h0:t≠0) :
 Calls Mz.prog 21 #[.agg #[vm,vd,vt],.int .i64 d] w fun e w'=>e=.returned (.tuple #[.slice none 0 0,.int .i64 t])/\Below w.heap.size w w':=by
 have HB:=Hh hB;have HN:=Hh hN;have H:=Hh h;have hz3:(t != 0)=true:=by simpa using h0
 obtain ⟨rfl,⟨da,dc,rfl,_,_⟩,ta,tc,rfl,_,_⟩:=hB;clear hN h
 go_enter (mz_func (i:=21) rfl Tryz.func21),Tryz.ntmps21
 go_wp2_with (go_at_call 78;(with_reducible refine (checkBook_at (HB.out.below (bel)) HN.out H.out).mono ?_);rintro e w1 ⟨rfl,hb1⟩);exact bodyPost_ret (v:=.tuple #[.slice none 0 0,.int .i64 t]) (by simp [results,Tryz.results21,go_sem, *]) rfl ⟨rfl,bel⟩
theorem twins_no2 {d:Int} (hB:FBookAt w b vm vd vt) (hN:∀ m∈b.devs,m.name.size<=1000000) (hk:bookAl b=0) {t:Int} (h:devAl b d=t) (h0:t≠0) :
 Calls Mz.prog 21 #[.agg #[vm,vd,vt],.int .i64 d] w fun e w'=>e=.returned (.tuple #[.slice none 0 0,.int .i64 t])/\Below w.heap.size w w':=by
 have HB:=Hh hB;have HN:=Hh hN;have H:=Hh h;have HK:=Hh hk;have hz3:(t != 0)=true:=by simpa using h0
 obtain ⟨rfl,⟨da,dc,rfl,_,_⟩,ta,tc,rfl,_,_⟩:=hB;clear hN h hk
 go_enter (mz_func (i:=21) rfl Tryz.func21),Tryz.ntmps21
 go_wp2_with (first
  | (go_at_call 78;(with_reducible refine (checkBook_at (HB.out.below (bel)) HN.out HK.out).mono ?_);rintro e w1 ⟨rfl,hb1⟩;obtain ⟨hc1,hf1⟩:=bcell hb1;have hz1:w.heap.size < w1.heap.size:=(by have:=hb1.size;simp at this;omega))
  | (go_at_call 79;(with_reducible refine (deviceAl_at (t:=t) (HB.out.below (Below.al (Below.next (Below.al (Below.refl _ _) _) hb1) _)) H.out).mono ?_);rintro e w2 ⟨rfl,hb2⟩))
 exact bodyPost_ret (v:=.tuple #[.slice none 0 0,.int .i64 t]) (by simp [results,Tryz.results21,go_sem, *]) rfl ⟨rfl,bel⟩
end
end Mt
namespace Mt
open Go Go.RowKit Go.Maps Go.Conc
attribute [local go_sem] Oper.semAt_some
theorem LB.ivt {b:Fbk} {vm vd vt:Value} {is:List (Option Addr × List Int)} {w:World} (h:LB b vm vd vt is w):Ivt w (LB b vm vd vt is) w:=⟨fun _ _ ha h=>h.alike ha,h,Stays.refl w⟩
attribute [local go_sem] Oper.semAt_some
def StasL (w:World) (a:Option Addr) (ls:List (List Int)):Prop:=∀ i (h:i < ls.length),∃ b o xa xc,a=some ⟨b,o,none⟩/\b < w.heap.size/\w.cell? ⟨b,o+i,none⟩=some (.slice xa ls[i].length xc)/\IntsAt w xa ls[i]
theorem StasL.of {w:World} {a:Option Addr} {ls:List (List Int)} (h:StaAt w a ls):StasL w a ls:=fun i hi=>by
 obtain ⟨b,o,e,hlt,v,hc,hv⟩:=h i hi;obtain ⟨xa,xc,rfl,hx,_⟩:=hv.form;exact ⟨b,o,xa,xc,e,hlt,hc,hx⟩
section
variable {w:World}
theorem soundOf_at {sa pa:Option Addr} {l:List Int} {sc pc n:Nat} {s:Nat->Nat} (hS:IntsAt w sa (stL n s)) (hn:n<=1000000) (hp:IntsAt w pa l) (hl:∀ x∈l,0<=x/\x < (n:Int)) (hll:l.length<=1000000) {r:Bool} (h:soundI s l=r) :
 Calls Mz.prog 39 #[.slice sa n sc,.slice pa l.length pc] w fun e w'=>e=.returned (.bool r)/\w'=w:=by
 have H:=Hh h;have HS:=Hh hS;have HP:=Hh hp;have HL:=Hh hl;clear h hS hp hl
 go_enter (mz_func (i:=39) rfl Tryz.func39),Tryz.ntmps39
 go_wp2;go_loop [5] (fun i=>∃ k:Nat,k<=l.length/\i=.int .i64 k/\Hid (∀ x∈l.take k,s x.toNat=0)) (fun i=>l.length - (intOf i).toNat)
 case atStart=>exact ⟨0,Nat.zero_le _,rfl,by simp [Hid]⟩
 case round =>
  obtain ⟨k,hk,rfl,hgo⟩:=hrel;by_cases hlt:k < l.length
  ·obtain ⟨pb,po,rfl,hpb,c0⟩:=HP.out k hlt;have hxb:=HL.out l[k] (List.getElem_mem hlt);have htk:=List.take_succ_eq_append_getElem hlt;have hmem:l[k]∈l:=List.getElem_mem hlt;obtain ⟨x,hx⟩:∃ x,l[k]=x:=⟨_,rfl⟩;rw [hx] at c0 hxb htk hmem;obtain ⟨xn,rfl⟩:∃ xn:Nat,x=(xn:Int):=⟨x.toNat,by omega⟩;have hxI:(xn:Int) < (n:Int):=by omega
   have hxn:xn < (stL n s).length:=by rw [stL_len];omega
   obtain ⟨sb,so,rfl,hsb,d0⟩:=HS.out xn hxn;rw [stL_get] at d0;have HTK:=Hh htk;have HM:=Hh hmem;clear hx htk hmem;by_cases hz:s xn=0
   ·have d1:w.cell? ⟨sb,so+xn,none⟩=some (.int .i64 0):=by rw [d0,hz];rfl
    have HZ:=Hh hz;clear hz d0;go_wp2;go_round
    case rel=>exact ⟨k+1,hlt,by go_num,fun y hy=>by
     rw [HTK.out] at hy
     rcases List.mem_append.1 hy with hy | hy
     ·exact hgo.out y hy
     ·simp at hy
      subst hy
      rw [Int.toNat_natCast]
      exact HZ.out⟩
    case measure=>simp [intOf];omega
   ·have hzI:((s xn:Int) != 0)=true:=by simp;omega
    obtain ⟨v,hv⟩:∃ v:Int,(s xn:Int)=v:=⟨_,rfl⟩;rw [hv] at d0 hzI;have hr:r=false:=by
     rw [<- H.out];unfold soundI;simp only [Bool.not_eq_false',List.any_eq_true,decide_eq_true_eq];exact ⟨_,HM.out,by rw [Int.toNat_natCast];exact hz⟩
    have HR:=Hh hr;clear hz hv hr;go_wp2;exact bodyPost_ret (v:=.bool false) (by simp [results,Tryz.results39,go_sem, *]) rfl ⟨by rw [HR.out],rfl⟩
  ·obtain rfl:k=l.length:=by omega
   have hr:r=true:=by
    rw [<- H.out];have:=hgo.out;rw [List.take_length] at this;unfold soundI;simpa using this
   have HR:=Hh hr;clear hr hgo;go_wp2;exact bodyPost_ret (v:=.bool true) (by simp [results,Tryz.results39,go_sem, *]) rfl ⟨by rw [HR.out],rfl⟩
end
end Mt
namespace Mt
open Go Go.RowKit Go.Maps
attribute [local go_sem] Oper.semAt_some
theorem cntP_take (p:(Nat->Nat)->Bool) {l:List (Nat->Nat)} {k:Nat} (h:k < l.length):(l.take (k+1)).countP p=(l.take k).countP p+if p l[k] then 1 else 0:=by
 rw [List.take_succ_eq_append_getElem h,List.countP_append,List.countP_singleton]
section
variable {b:Fbk} {vm vd vt:Value} {w:World} {pa:Option Addr} {pc:Nat} {l:List Int}
theorem rPass_no (hB:FBookAt w b vm vd vt) (hN:∀ m∈b.devs,m.name.size<=1000000) (hp:IntsAt w pa l) (hll:l.length<=1000000) (hpc:l.length<=pc) {t:Int} (h:openAl b (pathAl b.devs.length l)=t) (h0:t≠0) :
 Calls Mz.prog 18 #[.agg #[vm,vd,vt],.slice pa l.length pc] w fun e w'=>e=.returned (.tuple #[.int .i64 0,.int .i64 t])/\Below w.heap.size w w':=by
 have HCP:=Hh (fun (W:World) (hb:Below w.heap.size w W)=>rPath_at (pc:=pc) (hB.below hb) (hp.below hb) hll hpc);have HAK:=Hh (fun (W:World) (hb:Below w.heap.size w W)=>rAsked_no (hB.below hb) hN true (pathAl b.devs.length l) h h0);have hz:(t != 0)=true:=by simpa using h0
 obtain ⟨rfl,⟨da,dc,rfl,_,hdl⟩,ta,tc,rfl,_,_⟩:=hB;generalize pathAl b.devs.length l=al at HCP HAK h;clear hN hp h
 go_enter (mz_func (i:=18) rfl Tryz.func18),Tryz.ntmps18
 go_wp2;obtain ⟨W0,hW0⟩:∃ W0,W0=w.alloc (.cells #[.int .i64 b.most,.slice da b.devs.length dc,.slice ta b.tests.length tc] 25):=⟨_,rfl⟩;rw [<- hW0];have hb0:Below w.heap.size w W0:=by rw [hW0];(exact bel)
 have nn:∀ k u,(#[.int .i64 b.most,.slice da b.devs.length dc,.slice ta b.tests.length tc]:Array Value)[k]? = some u->W0.cell? ⟨w.heap.size,k,none⟩=some u:=fun k u hk=>by
  rw [hW0,World.cell?_alloc_at _ _ _ _ rfl];exact hk
 have hs0:w.heap.size < W0.heap.size:=by rw [hW0];simp
 have HALL:=Hh (show ∀ w':World,Below W0.heap.size W0 w'->(Below W0.heap.size W0 w'/\w'.cell? ⟨w.heap.size,0,none⟩=some (.int .i64 b.most)/\w'.cell? ⟨w.heap.size,1,none⟩=some (.slice da b.devs.length dc)/\w'.cell? ⟨w.heap.size,2,none⟩=some (.slice ta b.tests.length tc)) from fun w' h =>
  ⟨h,(h.cell (p:=⟨w.heap.size,0,none⟩) hs0).trans (nn 0 _ rfl),(h.cell (p:=⟨w.heap.size,1,none⟩) hs0).trans (nn 1 _ rfl),(h.cell (p:=⟨w.heap.size,2,none⟩) hs0).trans (nn 2 _ rfl)⟩)
 clear hW0 nn;go_region_held3 (fun w'=>Below W0.heap.size W0 w'/\w'.cell? ⟨w.heap.size,0,none⟩=some (.int .i64 b.most)/\w'.cell? ⟨w.heap.size,1,none⟩=some (.slice da b.devs.length dc)/\w'.cell? ⟨w.heap.size,2,none⟩=some (.slice ta b.tests.length tc))
  ((go_split_ands;exact HALL.out _ (bel)))
  (first
    | (go_at_call 71;(with_reducible refine (HCP.out _ (bel)).mono ?_);rintro e w1 ⟨rfl,hb1⟩)
    | (go_at_call 70;(with_reducible refine (HAK.out _ (bel)).mono ?_);rintro e w2 ⟨rfl,hb2⟩)
    | fail "no arm")
 all_goals
  go_wp2;exact bodyPost_ret (v:=.tuple #[.int .i64 0,.int .i64 t]) (by simp [results,Tryz.results18,go_sem, *]) rfl ⟨rfl,bel⟩
theorem rPass_ok (hB:FBookAt w b vm vd vt) (hN:∀ m∈b.devs,m.name.size<=1000000) (hp:IntsAt w pa l) (hll:l.length<=1000000) (hpc:l.length<=pc) (h:openAl b (pathAl b.devs.length l)=0) :
 Calls Mz.prog 18 #[.agg #[vm,vd,vt],.slice pa l.length pc] w fun e w'=>e=.returned (.tuple #[.int .i64 (passCI b l),.int .i64 0])/\Below w.heap.size w w':=by
 obtain ⟨g1,g2,g3⟩:=openAl_ok h;have hyb:=pathAl_ok g2;have h73:=hists_1000 g1;have hd6:=(bk6 g1).1;rw [g2] at h;have HCP:=Hh (fun (W:World) (hb:Below w.heap.size w W)=>rPath_at (pc:=pc) (hB.below hb) (hp.below hb) hll hpc);rw [g2] at HCP;have HAK:=Hh (show ∀ W,Below w.heap.size w W->Calls Mz.prog 70 #[.agg #[vm,vd,vt],.bool true,.int .i64 0] W fun e W'=>∃ a c,e=.returned (.tuple #[.slice a (histsI b).length c,.int .i64 0])/\Hid (StasL W' a ((histsI b).map (stL b.devs.length)))/\Below W.heap.size W W' from fun W hb=>by
  refine (rAsked_ok (hB.below hb) hN h).mono ?_
  rintro e W' ⟨a,c,rfl,h3,h4⟩
  exact ⟨a,c,by rw [List.length_map],StasL.of h3,h4⟩)
 have HP:=Hh hp;have HYB:=Hh hyb.2;have H3:=Hh (fun (s:Nat->Nat) (h:s∈histsI b)=>hists_lt h);have hCI:passCI b l=claimI ((histsI b).countP fun s=>(playI s l).1) (histsI b).length:=rfl;rw [hCI];obtain ⟨rfl,⟨da,dc,rfl,_,hdl⟩,ta,tc,rfl,_,_⟩:=hB;clear hN hp h g1 g2 g3 hyb hCI;obtain ⟨H,hH⟩:∃ H,histsI b=H:=⟨_,rfl⟩;rw [hH] at H3 h73 HAK ⊢;clear hH
 go_enter (mz_func (i:=18) rfl Tryz.func18),Tryz.ntmps18
 go_wp2;obtain ⟨W0,hW0⟩:∃ W0,W0=w.alloc (.cells #[.int .i64 b.most,.slice da b.devs.length dc,.slice ta b.tests.length tc] 25):=⟨_,rfl⟩;rw [<- hW0];have hb0:Below w.heap.size w W0:=by rw [hW0];(exact bel)
 have nn:∀ k u,(#[.int .i64 b.most,.slice da b.devs.length dc,.slice ta b.tests.length tc]:Array Value)[k]? = some u->W0.cell? ⟨w.heap.size,k,none⟩=some u:=fun k u hk=>by
  rw [hW0,World.cell?_alloc_at _ _ _ _ rfl];exact hk
 have hs0:w.heap.size < W0.heap.size:=by rw [hW0];simp
 have HALL:=Hh (show ∀ w':World,Below W0.heap.size W0 w'->(Below W0.heap.size W0 w'/\w'.cell? ⟨w.heap.size,0,none⟩=some (.int .i64 b.most)/\w'.cell? ⟨w.heap.size,1,none⟩=some (.slice da b.devs.length dc)/\w'.cell? ⟨w.heap.size,2,none⟩=some (.slice ta b.tests.length tc)) from fun w' h =>
  ⟨h,(h.cell (p:=⟨w.heap.size,0,none⟩) hs0).trans (nn 0 _ rfl),(h.cell (p:=⟨w.heap.size,1,none⟩) hs0).trans (nn 1 _ rfl),(h.cell (p:=⟨w.heap.size,2,none⟩) hs0).trans (nn 2 _ rfl)⟩)
 clear hW0 nn;go_region_held3 (fun w'=>Below W0.heap.size W0 w'/\w'.cell? ⟨w.heap.size,0,none⟩=some (.int .i64 b.most)/\w'.cell? ⟨w.heap.size,1,none⟩=some (.slice da b.devs.length dc)/\w'.cell? ⟨w.heap.size,2,none⟩=some (.slice ta b.tests.length tc))
  ((go_split_ands;exact HALL.out _ (bel)))
  (first
    | (go_at_call 71;(with_reducible refine (HCP.out _ (bel)).mono ?_);rintro e w1 ⟨rfl,hb1⟩)
    | (go_at_call 70;(with_reducible refine (HAK.out _ (bel)).mono ?_);rintro e w2 ⟨la,lc,rfl,hst,hb2⟩)
    | fail "no arm")
 all_goals
  have HST:=Hh hst.out;have HBB:=Hh (show Below w.heap.size w w2 from bel);clear hst;go_wp2;go_loopw [8,9] (fun c i wr=>∃ j:Nat,j<=H.length/\i=.int .i64 (j:Int)/\c=.int .i64 ((H.take j).countP (fun s=>(playI s l).1):Nat)/\wr=w2) (fun _ i _=>H.length - (intOf i).toNat)
  case atStart=>exact ⟨0,Nat.zero_le _,rfl,by simp,rfl⟩
  case round =>
   obtain ⟨j,hj,rfl,rfl,hwr⟩:=hrel;subst hwr;have hcl:(H.take j).countP (fun s=>(playI s l).1)<=j:=Nat.le_trans List.countP_le_length (by rw [List.length_take];omega);by_cases hlt:j < H.length
   ·have hkm:j < (H.map (stL b.devs.length)).length:=by simpa using hlt
    obtain ⟨lb,lo,xa,xc,rfl,hlb,d0,hxI⟩:=HST.out j hkm;have hct:=cntP_take (fun s=>(playI s l).1) hlt;obtain ⟨s,hs⟩:∃ s,H[j]=s:=⟨_,rfl⟩;have hs3:=H3.out s (by rw [<- hs];exact List.getElem_mem hlt);rw [List.getElem_map,hs,stL_len] at d0;rw [List.getElem_map,hs] at hxI;rw [hs] at hct;obtain ⟨r,m,hr⟩:∃ r m,playI s l=(r,m):=⟨_,_,rfl⟩;rw [hr] at hct;have HPL:=Hh (rPlayOf_at (sc:=xc) (pc:=pc) hxI (by omega) (HP.out.below HBB.out) HYB.out hs3 hll hr);generalize hNN:(H.take j).countP (fun s=>(playI s l).1)=NN at hcl hct;have HCT:=Hh hct;have hwr:IntKind.i64.wrap ((NN:Int)+1)=(NN:Int)+1:=IntWalk.i64_in _ (by omega);clear hct hNN hxI hs3 hs hr;go_wp2_with (go_at_call 72;go_loud ((with_reducible refine HPL.out.mono ?_);rintro e w3 ⟨rfl,hw3⟩;subst hw3))
    all_goals
     go_roundw
     case rel=>exact ⟨j+1,hlt,by go_num,by rw [HCT.out];first | rfl | (simp;done) | (simp [*];done),by first | rfl | trivial⟩
     case measure=>simp [intOf];omega
   ·obtain rfl:j=H.length:=by omega
    simp only [List.take_length];obtain ⟨NN,hNN⟩:∃ NN,H.countP (fun s=>(playI s l).1)=NN:=⟨_,rfl⟩;rw [hNN];have HNN:=Hh hNN;clear hNN hcl;go_wp2_with (go_at_call 73;(with_reducible refine (rSay_at _ _ _ (say_claim _ _)).mono ?_);rintro e w' ⟨rfl,rfl⟩);exact bodyPost_ret (v:=.tuple #[.int .i64 (claimI NN H.length),.int .i64 0]) (by simp [results,Tryz.results18,go_sem, *]) rfl ⟨by rw [HNN.out],HBB.out⟩
theorem rSound_no (hB:FBookAt w b vm vd vt) (hN:∀ m∈b.devs,m.name.size<=1000000) (hp:IntsAt w pa l) (hll:l.length<=1000000) (hpc:l.length<=pc) {t:Int} (h:openAl b (pathAl b.devs.length l)=t) (h0:t≠0) :
 Calls Mz.prog 20 #[.agg #[vm,vd,vt],.slice pa l.length pc] w fun e w'=>e=.returned (.tuple #[.int .i64 0,.int .i64 t])/\Below w.heap.size w w':=by
 have HCP:=Hh (fun (W:World) (hb:Below w.heap.size w W)=>rPath_at (pc:=pc) (hB.below hb) (hp.below hb) hll hpc);have HAK:=Hh (fun (W:World) (hb:Below w.heap.size w W)=>rAsked_no (hB.below hb) hN true (pathAl b.devs.length l) h h0);have hz:(t != 0)=true:=by simpa using h0
 obtain ⟨rfl,⟨da,dc,rfl,_,hdl⟩,ta,tc,rfl,_,_⟩:=hB;generalize pathAl b.devs.length l=al at HCP HAK h;clear hN hp h
 go_enter (mz_func (i:=20) rfl Tryz.func20),Tryz.ntmps20
 go_wp2;obtain ⟨W0,hW0⟩:∃ W0,W0=w.alloc (.cells #[.int .i64 b.most,.slice da b.devs.length dc,.slice ta b.tests.length tc] 25):=⟨_,rfl⟩;rw [<- hW0];have hb0:Below w.heap.size w W0:=by rw [hW0];(exact bel)
 have nn:∀ k u,(#[.int .i64 b.most,.slice da b.devs.length dc,.slice ta b.tests.length tc]:Array Value)[k]? = some u->W0.cell? ⟨w.heap.size,k,none⟩=some u:=fun k u hk=>by
  rw [hW0,World.cell?_alloc_at _ _ _ _ rfl];exact hk
 have hs0:w.heap.size < W0.heap.size:=by rw [hW0];simp
 have HALL:=Hh (show ∀ w':World,Below W0.heap.size W0 w'->(Below W0.heap.size W0 w'/\w'.cell? ⟨w.heap.size,0,none⟩=some (.int .i64 b.most)/\w'.cell? ⟨w.heap.size,1,none⟩=some (.slice da b.devs.length dc)/\w'.cell? ⟨w.heap.size,2,none⟩=some (.slice ta b.tests.length tc)) from fun w' h =>
  ⟨h,(h.cell (p:=⟨w.heap.size,0,none⟩) hs0).trans (nn 0 _ rfl),(h.cell (p:=⟨w.heap.size,1,none⟩) hs0).trans (nn 1 _ rfl),(h.cell (p:=⟨w.heap.size,2,none⟩) hs0).trans (nn 2 _ rfl)⟩)
 clear hW0 nn;go_region_held3 (fun w'=>Below W0.heap.size W0 w'/\w'.cell? ⟨w.heap.size,0,none⟩=some (.int .i64 b.most)/\w'.cell? ⟨w.heap.size,1,none⟩=some (.slice da b.devs.length dc)/\w'.cell? ⟨w.heap.size,2,none⟩=some (.slice ta b.tests.length tc))
  ((go_split_ands;exact HALL.out _ (bel)))
  (first
    | (go_at_call 71;(with_reducible refine (HCP.out _ (bel)).mono ?_);rintro e w1 ⟨rfl,hb1⟩)
    | (go_at_call 70;(with_reducible refine (HAK.out _ (bel)).mono ?_);rintro e w2 ⟨rfl,hb2⟩)
    | fail "no arm")
 all_goals
  go_wp2;exact bodyPost_ret (v:=.tuple #[.int .i64 0,.int .i64 t]) (by simp [results,Tryz.results20,go_sem, *]) rfl ⟨rfl,bel⟩
theorem rSound_ok (hB:FBookAt w b vm vd vt) (hN:∀ m∈b.devs,m.name.size<=1000000) (hp:IntsAt w pa l) (hll:l.length<=1000000) (hpc:l.length<=pc) (h:openAl b (pathAl b.devs.length l)=0) :
 Calls Mz.prog 20 #[.agg #[vm,vd,vt],.slice pa l.length pc] w fun e w'=>e=.returned (.tuple #[.int .i64 (soundCI b l),.int .i64 0])/\Below w.heap.size w w':=by
 obtain ⟨g1,g2,g3⟩:=openAl_ok h;have hyb:=pathAl_ok g2;have h73:=hists_1000 g1;have hd6:=(bk6 g1).1;rw [g2] at h;have HCP:=Hh (fun (W:World) (hb:Below w.heap.size w W)=>rPath_at (pc:=pc) (hB.below hb) (hp.below hb) hll hpc);rw [g2] at HCP;have HAK:=Hh (show ∀ W,Below w.heap.size w W->Calls Mz.prog 70 #[.agg #[vm,vd,vt],.bool true,.int .i64 0] W fun e W'=>∃ a c,e=.returned (.tuple #[.slice a (histsI b).length c,.int .i64 0])/\Hid (StasL W' a ((histsI b).map (stL b.devs.length)))/\Below W.heap.size W W' from fun W hb=>by
  refine (rAsked_ok (hB.below hb) hN h).mono ?_
  rintro e W' ⟨a,c,rfl,h3,h4⟩
  exact ⟨a,c,by rw [List.length_map],StasL.of h3,h4⟩)
 have HP:=Hh hp;have HYB:=Hh hyb.2;have H3:=Hh (fun (s:Nat->Nat) (h:s∈histsI b)=>hists_lt h);have hCI:soundCI b l=claimI ((histsI b).countP fun s=>soundI s l) (histsI b).length:=rfl;rw [hCI];obtain ⟨rfl,⟨da,dc,rfl,_,hdl⟩,ta,tc,rfl,_,_⟩:=hB;clear hN hp h g1 g2 g3 hyb hCI;obtain ⟨H,hH⟩:∃ H,histsI b=H:=⟨_,rfl⟩;rw [hH] at H3 h73 HAK ⊢;clear hH
 go_enter (mz_func (i:=20) rfl Tryz.func20),Tryz.ntmps20
 go_wp2;obtain ⟨W0,hW0⟩:∃ W0,W0=w.alloc (.cells #[.int .i64 b.most,.slice da b.devs.length dc,.slice ta b.tests.length tc] 25):=⟨_,rfl⟩;rw [<- hW0];have hb0:Below w.heap.size w W0:=by rw [hW0];(exact bel)
 have nn:∀ k u,(#[.int .i64 b.most,.slice da b.devs.length dc,.slice ta b.tests.length tc]:Array Value)[k]? = some u->W0.cell? ⟨w.heap.size,k,none⟩=some u:=fun k u hk=>by
  rw [hW0,World.cell?_alloc_at _ _ _ _ rfl];exact hk
 have hs0:w.heap.size < W0.heap.size:=by rw [hW0];simp
 have HALL:=Hh (show ∀ w':World,Below W0.heap.size W0 w'->(Below W0.heap.size W0 w'/\w'.cell? ⟨w.heap.size,0,none⟩=some (.int .i64 b.most)/\w'.cell? ⟨w.heap.size,1,none⟩=some (.slice da b.devs.length dc)/\w'.cell? ⟨w.heap.size,2,none⟩=some (.slice ta b.tests.length tc)) from fun w' h =>
  ⟨h,(h.cell (p:=⟨w.heap.size,0,none⟩) hs0).trans (nn 0 _ rfl),(h.cell (p:=⟨w.heap.size,1,none⟩) hs0).trans (nn 1 _ rfl),(h.cell (p:=⟨w.heap.size,2,none⟩) hs0).trans (nn 2 _ rfl)⟩)
 clear hW0 nn;go_region_held3 (fun w'=>Below W0.heap.size W0 w'/\w'.cell? ⟨w.heap.size,0,none⟩=some (.int .i64 b.most)/\w'.cell? ⟨w.heap.size,1,none⟩=some (.slice da b.devs.length dc)/\w'.cell? ⟨w.heap.size,2,none⟩=some (.slice ta b.tests.length tc))
  ((go_split_ands;exact HALL.out _ (bel)))
  (first
    | (go_at_call 71;(with_reducible refine (HCP.out _ (bel)).mono ?_);rintro e w1 ⟨rfl,hb1⟩)
    | (go_at_call 70;(with_reducible refine (HAK.out _ (bel)).mono ?_);rintro e w2 ⟨la,lc,rfl,hst,hb2⟩)
    | fail "no arm")
 all_goals
  have HST:=Hh hst.out;have HBB:=Hh (show Below w.heap.size w w2 from bel);clear hst;go_wp2;go_loopw [8,9] (fun c i wr=>∃ j:Nat,j<=H.length/\i=.int .i64 (j:Int)/\c=.int .i64 ((H.take j).countP (fun s=>soundI s l):Nat)/\wr=w2) (fun _ i _=>H.length - (intOf i).toNat)
  case atStart=>exact ⟨0,Nat.zero_le _,rfl,by simp,rfl⟩
  case round =>
   obtain ⟨j,hj,rfl,rfl,hwr⟩:=hrel;subst hwr;have hcl:(H.take j).countP (fun s=>soundI s l)<=j:=Nat.le_trans List.countP_le_length (by rw [List.length_take];omega);by_cases hlt:j < H.length
   ·have hkm:j < (H.map (stL b.devs.length)).length:=by simpa using hlt
    obtain ⟨lb,lo,xa,xc,rfl,hlb,d0,hxI⟩:=HST.out j hkm;have hct:=cntP_take (fun s=>soundI s l) hlt;obtain ⟨s,hs⟩:∃ s,H[j]=s:=⟨_,rfl⟩;have hs3:=H3.out s (by rw [<- hs];exact List.getElem_mem hlt);rw [List.getElem_map,hs,stL_len] at d0;rw [List.getElem_map,hs] at hxI;rw [hs] at hct;obtain ⟨r,hr⟩:∃ r,soundI s l=r:=⟨_,rfl⟩;rw [hr] at hct;have HPL:=Hh (soundOf_at (sc:=xc) (pc:=pc) hxI (by omega) (HP.out.below HBB.out) HYB.out hll hr);generalize hNN:(H.take j).countP (fun s=>soundI s l)=NN at hcl hct;have HCT:=Hh hct;have hwr:IntKind.i64.wrap ((NN:Int)+1)=(NN:Int)+1:=IntWalk.i64_in _ (by omega);clear hct hNN hxI hs3 hs hr;go_wp2_with (go_at_call 39;go_loud ((with_reducible refine HPL.out.mono ?_);rintro e w3 ⟨rfl,hw3⟩;subst hw3))
    all_goals
     go_roundw
     case rel=>exact ⟨j+1,hlt,by go_num,by rw [HCT.out];first | rfl | (simp;done) | (simp [*];done),by first | rfl | trivial⟩
     case measure=>simp [intOf];omega
   ·obtain rfl:j=H.length:=by omega
    simp only [List.take_length];obtain ⟨NN,hNN⟩:∃ NN,H.countP (fun s=>soundI s l)=NN:=⟨_,rfl⟩;rw [hNN];have HNN:=Hh hNN;clear hNN hcl;go_wp2_with (go_at_call 73;(with_reducible refine (rSay_at _ _ _ (say_claim _ _)).mono ?_);rintro e w' ⟨rfl,rfl⟩);exact bodyPost_ret (v:=.tuple #[.int .i64 (claimI NN H.length),.int .i64 0]) (by simp [results,Tryz.results20,go_sem, *]) rfl ⟨by rw [HNN.out],HBB.out⟩
end
attribute [local go_sem] Oper.semAt_some
theorem staInfo2:(Mz.prog.info? 54).map (fun i=>(i.zero,i.size,i.bytes))=some (some (.int .i64 0),1,8):=by
 show (Tryz.prog.info? 54).map _=_
 kernel_rfl
def stas (n:Nat):Array Value:=madeCells #[.int .i64 0] n
def mkS (n:Nat) (W:World):World:=W.alloc (.cells (stas n) 54)
theorem make_stas {n:Nat} {m:Int} (h:(n:Int)=m) (hn:n<=64) (w:World):(Instr.makeSlice 52 (.int .i64 m) (.int .i64 m)).run Mz.prog w=.ok (.slice (some ⟨w.heap.size,0,none⟩) n n) (mkS n w):=by
 subst h;obtain ⟨i0,hi,hz,hsz,hb⟩:=info_parts staInfo2;have h:=run_makeSlice (P:=Mz.prog) w 52 54 i0 (.int .i64 0) (mzu Tryz.underlying52) hi hz .i64 .i64 n n (by omega) (Int.le_refl _) (by rw [hsz];simp;omega) (by rw [hb];omega) (by omega);rw [hsz] at h;simp only [Int.toNat_natCast,Nat.mul_one] at h;exact h
theorem mkS_facts {n:Nat} {w:World}:(mkS n w).heap.size=w.heap.size+1/\(∀ j,j < n->(mkS n w).cell? ⟨w.heap.size,j,none⟩=some (.int .i64 0))/\(∀ j,(mkS n w).frozen? ⟨w.heap.size,j,none⟩=false)/\Below w.heap.size w (mkS n w):=by
 refine ⟨by simp [mkS],fun j hj=>?_,fun j=>?_,Below.al (Below.refl _ _) _⟩
 ·unfold mkS;rw [World.cell?_alloc_at _ _ _ _ rfl];unfold stas madeCells;rw [Array.getElem?_map,Array.getElem?_range,if_pos hj,Option.map_some];simp [Nat.mod_one]
 ·unfold mkS;rw [World.frozen?_alloc_at _ _ _ _ rfl]
theorem one_done {n k v:Nat} (hk:k < n) (W:World):IntsAt ((mkS n W).setCell ⟨W.heap.size,k,none⟩ (.int .i64 (v:Int))) (some ⟨W.heap.size,0,none⟩) (stL n (oneS k v)):=fun i hi=>by
 obtain ⟨m1,m2,_,_⟩:=mkS_facts (n:=n) (w:=W);have hin:i < n:=by rw [stL_len] at hi;exact hi
 refine ⟨W.heap.size,0,rfl,by simp [World.setCell,m1],?_⟩;rw [stL_get,Nat.zero_add];unfold oneS;by_cases e:i=k
 ·subst e;rw [if_pos rfl];exact World.cell?_setCell_same' _ _ _ (by rw [m2 i hin];rfl)
 ·rw [if_neg e,World.cell?_setCell_other (h:=fun e'=>by injection e' with _ e';exact e e'.symm),m2 i hin];rfl
section
variable {w:World} {b:Fbk} {vm vd vt:Value}
theorem justOne_at (hB:FBookAt w b vm vd vt) (h20:b.devs.length<=20) {k v:Nat} (hk:k < b.devs.length) :
 Calls Mz.prog 50 #[.agg #[vm,vd,vt],.int .i64 (k:Int),.int .i64 (v:Int)] w fun e w'=>∃ a:Option Addr,e=.returned (.slice a b.devs.length b.devs.length)/\IntsAt w' a (stL b.devs.length (oneS k v))/\Below w.heap.size w w':=by
 obtain ⟨rfl,⟨da,dc,rfl,_,_⟩,ta,tc,rfl,_,_⟩:=hB;obtain ⟨n,hn⟩:∃ n,b.devs.length=n:=⟨_,rfl⟩;rw [hn] at h20 hk ⊢;clear hn;have hkI:(k:Int) < (n:Int):=by omega
 have hmk:=fun W=>make_stas (n:=n) rfl (by omega) W;obtain ⟨W0,hW0⟩:∃ W0,W0=w.alloc (.cells #[.int .i64 b.most,.slice da n dc,.slice ta b.tests.length tc] 25):=⟨_,rfl⟩;have hs0:W0.heap.size=w.heap.size+1:=by rw [hW0];simp
 have hb0:Below w.heap.size w W0:=by rw [hW0];(exact bel)
 obtain ⟨m1,m2,m3,m4⟩:=mkS_facts (n:=n) (w:=W0);have c0:=m2 k hk;have f0:=m3 k;rw [hs0] at c0 f0;rw [hW0] at c0 f0;have HB0:=Hh hb0;have HM:=Hh (And.intro m1 m4);have HD:=Hh (one_done (v:=v) hk W0);rw [hs0] at HD;clear m1 m2 m3 m4 hb0
 go_enter (mz_func (i:=50) rfl Tryz.func50),Tryz.ntmps50
 go_wp2;rw [<- hW0];exact bodyPost_ret (v:=.slice (some ⟨w.heap.size+1,0,none⟩) n n) (by simp [results,Tryz.results50,go_sem, *]) rfl ⟨_,rfl,HD.out,Below.setCell (Below.next HB0.out HM.out.2) (by show w.heap.size<=w.heap.size+1;omega) _⟩
end
end Mt
namespace Mt
open Go Go.RowKit
theorem addRow_mem {out:List R6} {r x:R6}:x∈addRow out r↔x∈out\/x=r:=by
 unfold addRow;split
 ·rename_i h
  exact ⟨.inl,fun h'=>h'.elim id fun e=>e ▸ h⟩
 ·simp
theorem addRow_nodup {out:List R6} {r:R6} (h:out.Nodup):(addRow out r).Nodup:=by
 unfold addRow;split
 ·exact h
 ·rename_i hn
  exact List.nodup_append.2 ⟨h,by simp,fun a ha b hb e=>hn (by simp at hb;subst hb;exact e ▸ ha)⟩
theorem rows_fold (b:Fbk):∀ (l:List (Nat->Nat)) (out:List R6),out.Nodup->(l.foldl (fun out s=>addRow out (rowOf b s)) out).Nodup/\∀ x,x∈l.foldl (fun out s=>addRow out (rowOf b s)) out↔x∈out\/∃ s∈l,rowOf b s=x
 | [],out,h=>⟨h,fun x=>by simp⟩
 | s::l,out,h=>by
  obtain ⟨h1,h2⟩:=rows_fold b l (addRow out (rowOf b s)) (addRow_nodup h);refine ⟨h1,fun x=>?_⟩;rw [List.foldl_cons,h2 x,addRow_mem];simp only [List.mem_cons,exists_eq_or_imp];constructor
  ·rintro ((h | h) | h)
   ·exact .inl h
   ·exact .inr (.inl h.symm)
   ·exact .inr (.inr h)
  ·rintro (h | h | h)
   ·exact .inl (.inl h)
   ·exact .inl (.inr h.symm)
   ·exact .inr h
theorem mem_rows {b:Fbk} {l:List (Nat->Nat)} {x:R6}:x∈rowsI b l↔∃ s∈l,rowOf b s=x:=by
 rw [rowsI,(rows_fold b l [] (by simp)).2 x];simp
theorem R6.eq_of {x y:R6} (h:∀ j,j < 6->x.get j=y.get j):x=y:=by
 obtain ⟨a,b,c,d,e,f⟩:=x;obtain ⟨a',b',c',d',e',f'⟩:=y;have h0:a=a':=h 0 (by omega);have h1:b=b':=h 1 (by omega);have h2:c=c':=h 2 (by omega);have h3:d=d':=h 3 (by omega);have h4:e=e':=h 4 (by omega);have h5:f=f':=h 5 (by omega);subst h0 h1 h2 h3 h4 h5;rfl
theorem row_get {b:Fbk} {s:Nat->Nat} {j:Nat} (hj:j < 6):(rowOf b s).get j=passTo s b.tests b.tests.length j:=by
 have:j=0\/j=1\/j=2\/j=3\/j=4\/j=5:=by omega
 rcases this with rfl | rfl | rfl | rfl | rfl | rfl <;> rfl
theorem row_in {b:Fbk} {s:Nat->Nat} {j:Nat} (hj:j < 6) (h:j < b.tests.length):(rowOf b s).get j=(playI s b.tests[j].path).1:=by
 rw [row_get hj];unfold passTo;simp [h]
theorem row_out {b:Fbk} {s:Nat->Nat} {j:Nat} (hj:j < 6) (h:b.tests.length<=j):(rowOf b s).get j=false:=by
 rw [row_get hj];unfold passTo;simp [Nat.not_lt.2 h]
end Mt
namespace Mt
open Go Go.RowKit Go.Maps
attribute [local go_sem] Oper.semAt_some
def bitsL (n:Nat) (r:R6):List Int:=(List.range n).map fun j=>if r.get j then 1 else 0
theorem bitsL_len (n:Nat) (r:R6):(bitsL n r).length=n:=by simp [bitsL]
theorem bitsL_get {n:Nat} {r:R6} {j:Nat} (h:j < (bitsL n r).length):(bitsL n r)[j]=if r.get j then 1 else 0:=by simp [bitsL]
theorem bitsL_inj {b:Fbk} {s s':Nat->Nat}:bitsL b.tests.length (rowOf b s)=bitsL b.tests.length (rowOf b s')↔rowOf b s=rowOf b s':=by
 constructor
 ·intro h;refine R6.eq_of fun j hj=>?_;by_cases hl:j < b.tests.length
  ·have h1:(bitsL b.tests.length (rowOf b s))[j]? = (bitsL b.tests.length (rowOf b s'))[j]? := by rw [h]
   rw [List.getElem?_eq_getElem (by rw [bitsL_len];exact hl),List.getElem?_eq_getElem (by rw [bitsL_len];exact hl),bitsL_get,bitsL_get] at h1;cases h2:(rowOf b s).get j <;> cases h3:(rowOf b s').get j <;> simp [h2,h3] at h1 <;> rfl
  ·rw [row_out hj (by omega),row_out hj (by omega)]
 ·intro h;rw [h]
theorem bits_take {b:Fbk} (h6:b.tests.length<=6) {s:Nat->Nat} {k:Nat} (hk:k < b.tests.length) {r:Bool} (hr:(playI s b.tests[k].path).1=r):(bitsL b.tests.length (rowOf b s)).take (k+1)=(bitsL b.tests.length (rowOf b s)).take k ++ [if r then 1 else 0]:=by
 have hk':k < (bitsL b.tests.length (rowOf b s)).length:=by rw [bitsL_len];exact hk
 rw [List.take_succ_eq_append_getElem hk',bitsL_get,row_in (by omega) hk,hr]
def IntsOwn2 (w:World) (l:List Int) (e:Ending) (w':World):Prop:=∃ a c,e=.returned (.slice a l.length c)/\IntsAt w' a l/\Below w.heap.size w w'
def IntsOwn3 (w:World) (l:List Int) (e:Ending) (w':World):Prop:=∃ a c,e=.returned (.slice a l.length c)/\w'.ownsRow 0 3 1 (.slice a l.length c) l.length (l.map (Value.int .i64))/\Below w.heap.size w w'
section
variable {b:Fbk} {vm vd vt:Value} {w:World}
theorem resultsOf_own (hB:FBookAt w b vm vd vt) (hb:bookAl b=0) {sa:Option Addr} {sc:Nat} {s:Nat->Nat} (hS:IntsAt w sa (stL b.devs.length s)) (hs3:∀ k,s k < 3) :
 Calls Mz.prog 125 #[.agg #[vm,vd,vt],.slice sa b.devs.length sc] w (IntsOwn3 w (bitsL b.tests.length (rowOf b s))):=by
 have h6:=(testsAl_ok (bookAl_ok hb).2).1;have hd6:=(devsAl_ok (bookAl_ok hb).1).2.1;have HPB:=Hh (fun t (ht:t∈b.tests)=>pathAl_ok ((testsAl_ok (bookAl_ok hb).2).2 t ht).1);obtain ⟨rfl,⟨da,dc,rfl,_,_⟩,ta,tc,rfl,ht,_⟩:=hB;have HT:=Hh ht;have HS:=Hh hS;obtain ⟨R,hR⟩:∃ R,bitsL b.tests.length (rowOf b s)=R:=⟨_,rfl⟩;have HRT:=Hh (fun k (hk:k < b.tests.length) r (hr:(playI s b.tests[k].path).1=r)=>bits_take h6 hk hr);have hRl:R.length=b.tests.length:=by rw [<- hR];exact bitsL_len _ _
 rw [hR] at HRT ⊢;clear ht hS hb hR
 go_enter (mz_func (i:=125) rfl Tryz.func125),Tryz.ntmps125
 go_wp2;obtain ⟨W0,hW0⟩:∃ W0,W0=w.alloc (.cells #[.int .i64 b.most,.slice da b.devs.length dc,.slice ta b.tests.length tc] 25):=⟨_,rfl⟩;rw [<- hW0];have hb0:Below w.heap.size w W0:=by rw [hW0];(exact bel)
 have hs0:w.heap.size < W0.heap.size:=by rw [hW0];simp
 have nn:W0.cell? ⟨w.heap.size,2,none⟩=some (.slice ta b.tests.length tc):=by rw [hW0,World.cell?_alloc_at _ _ _ _ rfl];rfl
 clear hW0;go_loopw [5,6] (fun v i wr=>∃ (k:Nat) (a:Option Addr) (c:Nat),k<=b.tests.length/\i=.int .i64 k/\v=.slice a k c/\wr.ownsRow W0.heap.size 3 1 (.slice a k c) k ((R.take k).map (Value.int .i64))/\Below W0.heap.size W0 wr) (fun _ i _=>b.tests.length - (intOf i).toNat)
 case atStart=>exact ⟨0,none,0,Nat.zero_le _,rfl,rfl,by simpa using World.ownsRow_nil _ _ _ _,Below.refl _ _⟩
 case round =>
  obtain ⟨k,a,c,hk,rfl,rfl,hrow,hW⟩:=hrel;have hWs:=hW.size;obtain ⟨wo,rfl⟩:∃ x,x=wr:=⟨_,rfl⟩;have y0:=(hW.cell (p:=⟨w.heap.size,2,none⟩) hs0).trans nn;have hx0:w.heap.size < wo.heap.size:=by omega
  have HROW:=Hh hrow;have hbw:=Below.next hb0 hW;have HBW:=Hh hbw;have HW:=Hh hW;clear hrow hW;by_cases hlt:k < b.tests.length
  ·obtain ⟨tb,to,rfl,htb,pa,pc,t0,hpc,hpl,hpI,_⟩:=HT.out k hlt;have d0:=(hbw.cell (p:=⟨tb,to+k * 2,none⟩) htb).trans t0;have htb2:tb < wo.heap.size:=by have:=hbw.size;omega
   have hpb:=(HPB.out _ (List.getElem_mem hlt)).2;obtain ⟨r,m,hr⟩:∃ r m,playI s b.tests[k].path=(r,m):=⟨_,_,rfl⟩;have HTK:=Hh (HRT.out k hlt r (by rw [hr]));have HPL:=Hh (rPlayOf_at (w:=wo) (sc:=sc) (pc:=pc) (HS.out.below hbw) (by omega) (hpI.below hbw) hpb hs3 hpl hr);generalize b.tests[k]=tk at d0 HPL;clear t0 hpI hpb hr hbw;cases r
   all_goals
    go_wp2_with (first
     | (go_at_call 72;(with_reducible refine HPL.out.mono ?_);rintro e w3 ⟨rfl,hw3⟩;subst hw3)
     | (at_builtin;go_loud (refine wpl_append1 rfl _ _ 26 rfl W0.heap.size 3 (mzu Tryz.underlying26) mz_intInfo rfl (by omega) (.slice a k c) k _ rfl HROW.out (by omega) (by omega) _ (n:=w3.heap.size) rfl rfl (by simp [Value.oneCell']) ?_;intro g cap w6 hown6 hb6)))
    have HOWN:=Hh hown6;have HB6:=Hh hb6;clear hown6 hb6;go_roundw
    case rel=>exact ⟨k+1,_,_,by omega,by go_num,rfl,by rw [HTK.out,List.map_append];exact HOWN.out,Below.trans HW.out HB6.out⟩
    case measure=>simp [intOf];omega
  ·obtain rfl:k=b.tests.length:=by omega
   have hRT:R.take b.tests.length=R:=by rw [<- hRl,List.take_length]
   rw [hRT] at HROW;have HRL:=Hh hRl;clear hRl hRT;go_wp2;exact bodyPost_ret (v:=.slice a b.tests.length c) (by simp [results,Tryz.results125,go_sem, *]) rfl ⟨a,c,by rw [HRL.out],by rw [HRL.out];exact own_base HROW.out (Nat.zero_le _),HBW.out⟩
theorem resultsOf_at (hB:FBookAt w b vm vd vt) (hb:bookAl b=0) {sa:Option Addr} {sc:Nat} {s:Nat->Nat} (hS:IntsAt w sa (stL b.devs.length s)) (hs3:∀ k,s k < 3) :
 Calls Mz.prog 125 #[.agg #[vm,vd,vt],.slice sa b.devs.length sc] w (IntsOwn2 w (bitsL b.tests.length (rowOf b s))) :=
 (resultsOf_own hB hb hS hs3).mono fun _ _ ⟨a,c,h1,h2,h3⟩=>⟨a,c,h1,ints_row h2,h3⟩
end
end Mt
end Go.Proofs.YtgkajecjbflbbaaGreatDoor
