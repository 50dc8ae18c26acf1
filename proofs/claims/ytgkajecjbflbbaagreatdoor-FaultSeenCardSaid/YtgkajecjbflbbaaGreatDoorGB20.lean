/- the fault laws -/
import Derived.Test.YtgkajecjbflbbaaGreatDoorGB19
set_option maxHeartbeats 1000000
set_option maxRecDepth 100000
set_option linter.all false
namespace Go.Proofs.YtgkajecjbflbbaaGreatDoor
namespace Mt
open Go Go.RowKit Go.Maps
attribute [local go_sem] Oper.semAt_some
section
variable {b:Fbk} {vm vd vt:Value} {w:World}
theorem cellsF_flat:∀ (l:List (Nat->Nat)),(l.flatMap cellsF).length=l.length * 6
 | []=>rfl
 | x::l=>by rw [List.flatMap_cons,List.length_append,cellsF_flat l,List.length_cons,show (cellsF x).length=6 from rfl];omega
theorem cellsF_get:∀ (l:List (Nat->Nat)) (i j:Nat) (h:i < l.length),j < 6->(l.flatMap cellsF)[i * 6+j]? = some (.int .i64 (l[i] j:Int))
 | x::l,0,j,_,hj=>by
  rw [List.flatMap_cons,List.getElem?_append_left (by show _ < 6;omega),Nat.zero_mul,Nat.zero_add];have:j=0\/j=1\/j=2\/j=3\/j=4\/j=5:=by omega
  rcases this with rfl | rfl | rfl | rfl | rfl | rfl <;> rfl
 | x::l,i+1,j,h,hj=>by
  rw [List.flatMap_cons,List.getElem?_append_right (by show 6<=_;omega),show (i+1) * 6+j - (cellsF x).length=i * 6+j from by show _ - 6=_;omega,cellsF_get l i j (by simpa using h) hj];rfl
theorem states_row {base n c:Nat} {a:Option Addr} {l:List (Nat->Nat)} (h:w.ownsRow base 96 6 (.slice a n c) n (l.flatMap cellsF)):StatesAt w a l:=fun i hi=>by
 have hx:∀ j,j < 6->i * 6+j < (l.flatMap cellsF).length:=fun j hj=>by rw [cellsF_flat];omega
 obtain ⟨g,rfl,_,h2,_⟩:=row_cell h (i * 6+0) (hx 0 (by omega));refine ⟨g,0,rfl,h2,fun j hj=>?_⟩;obtain ⟨g',e,_,_,h3⟩:=row_cell h (i * 6+j) (hx j hj);cases e;rw [Nat.zero_add,h3,cellsF_get l i j hi hj]
def OpenOk (w:World) (b:Fbk) (vm vd vt:Value) (e:Ending) (w':World):Prop :=
 ∃ a c,e=.returned (.tuple #[.agg #[vm,vd,vt],.slice a (histsI b).length c,.int .i64 0])/\StatesAt w' a (histsI b)/\Below w.heap.size w w'
abbrev AskC (b:Fbk) (vm vd vt:Value) (w:World) (f:FuncId) (caps:Array Value) (al:Int):Prop:=bookAl b=0->∀ W,Below w.heap.size w W->Calls Mz.prog f (#[.agg #[vm,vd,vt]] ++ caps) W fun e w'=>e=.returned (.int .i64 al)/\Below W.heap.size W w'
abbrev EntC (f:FuncId):Prop:=∀ (args:Array Value) (W:World),Sem.run Mz.prog (callFunc f args) W=.ok (.enter f args) W
abbrev OpenNo (w:World) (t:Int) (e:Ending) (w':World):Prop:=e=.returned (.tuple #[.agg #[.int .i64 0,.slice none 0 0,.slice none 0 0],.slice none 0 0,.int .i64 t])/\Below w.heap.size w w'
def openAl (b:Fbk) (al:Int):Int:=if bookAl b≠0 then bookAl b else if al≠0 then al else if histsI b=[] then 10 else 0
theorem all_at2 (hB:FBookAt w b vm vd vt) (hA:ActsAt w) (hk:bookAl b=0):Calls Mz.prog 105 #[.agg #[vm,vd,vt]] w (AllOut w b) :=
 all_at hB hA (paths_in hk) (testsAl_ok (bookAl_ok hk).2).1 (devsAl_ok (bookAl_ok hk).1).2.1 (devsAl_ok (bookAl_ok hk).1).2.2
theorem open_no (hB:FBookAt w b vm vd vt) (hN:∀ m∈b.devs,m.name.size<=1000000) (hA:ActsAt w) {al:Int} {f:FuncId} {caps:Array Value} (hcall:EntC f) (hask:AskC b vm vd vt w f caps al) {t:Int} (ht:openAl b al=t) (h0:t≠0) :
 Calls Mz.prog 64 #[.agg #[vm,vd,vt],.func (.func f) #[] caps] w (OpenNo w t):=by
 have HB:=Hh hB;have HN:=Hh hN;have HA:=Hh hA;have HK:=Hh hask;obtain ⟨rfl,⟨da,dc,rfl,_,_⟩,ta,tc,rfl,_,_⟩:=id hB;clear hB hN hA hask;have hz3:(t != 0)=true:=by simpa using h0
 unfold openAl at ht;by_cases g1:bookAl b=0
 ·rw [if_neg (by simpa using g1)] at ht;have G1:=Hh g1;clear g1;by_cases g2:al=0
  ·rw [if_neg (by simpa using g2)] at ht;split at ht
   ·rename_i g3
    subst ht g2;have HL:=Hh (show (histsI b).length=0 by rw [g3];rfl);clear g3
    go_enter (mz_func (i:=64) rfl Tryz.func64),Tryz.ntmps64
    go_wp2_with (first
     | (go_at_call 78;(with_reducible refine (checkBook_at (HB.out.below (bel)) HN.out G1.out).mono ?_);rintro e w1 ⟨rfl,hb1⟩;obtain ⟨hc1,hf1⟩:=bcell hb1;have hz1b:w.heap.size+1 < w1.heap.size:=(by have:=hb1.size;simp at this;omega);have hz1:w.heap.size < w1.heap.size:=(by omega))
     | (go_at_call 105;(with_reducible refine (all_at2 (HB.out.below (Below.next (Below.al (Below.next (Below.al (Below.al (Below.refl _ _) _) _) hb1) _) hb2)) (HA.out.below (Below.next (Below.al (Below.next (Below.al (Below.al (Below.refl _ _) _) _) hb1) _) hb2)) G1.out).mono ?_);rintro e w3 ⟨l',rfl,hrow,hb3⟩;obtain ⟨hc3,hf3⟩:=bcell hb3;have hz3:w2.heap.size<=w3.heap.size:=hb3.size;have hz3a:w.heap.size < w3.heap.size:=(by omega);have hz3b:w.heap.size+1 < w3.heap.size:=(by omega);have hz3c:w1.heap.size < w3.heap.size:=(by omega);obtain ⟨la,lc,rfl⟩:=ownsRow_slice hrow;rw [HL.out];have HROW:=Hh hrow;clear hrow)
     | ((with_reducible refine (HK.out G1.out _ (Below.al (Below.next (Below.al (Below.al (Below.refl _ _) _) _) hb1) _)).mono ?_);rintro e w2 ⟨rfl,hb2⟩;obtain ⟨hc2,hf2⟩:=bcell hb2;have hz2:w1.heap.size < w2.heap.size:=(by have:=hb2.size;simp at this;omega);have hz2a:w.heap.size < w2.heap.size:=(by omega);have hz2b:w.heap.size+1 < w2.heap.size:=(by omega)))
    exact bodyPost_ret (v:=.tuple #[.agg #[.int .i64 0,.slice none 0 0,.slice none 0 0],.slice none 0 0,.int .i64 10]) (by simp [results,Tryz.results64,go_sem, *]) rfl ⟨rfl,bel⟩
   ·exact absurd ht.symm h0
  ·rw [if_pos (by simpa using g2)] at ht;subst ht
   go_enter (mz_func (i:=64) rfl Tryz.func64),Tryz.ntmps64
   go_wp2_with (first
    | (go_at_call 78;(with_reducible refine (checkBook_at (HB.out.below (bel)) HN.out G1.out).mono ?_);rintro e w1 ⟨rfl,hb1⟩;obtain ⟨hc1,hf1⟩:=bcell hb1;have hz1b:w.heap.size+1 < w1.heap.size:=(by have:=hb1.size;simp at this;omega);have hz1:w.heap.size < w1.heap.size:=(by omega))
    | ((with_reducible refine (HK.out G1.out _ (Below.al (Below.next (Below.al (Below.al (Below.refl _ _) _) _) hb1) _)).mono ?_);rintro e w2 ⟨rfl,hb2⟩;obtain ⟨hc2,hf2⟩:=bcell hb2;have hz2:w1.heap.size < w2.heap.size:=(by have:=hb2.size;simp at this;omega);have hz2a:w.heap.size < w2.heap.size:=(by omega);have hz2b:w.heap.size+1 < w2.heap.size:=(by omega)))
   exact bodyPost_ret (v:=.tuple #[.agg #[.int .i64 0,.slice none 0 0,.slice none 0 0],.slice none 0 0,.int .i64 al]) (by simp [results,Tryz.results64,go_sem, *]) rfl ⟨rfl,bel⟩
 ·rw [if_pos g1] at ht;have H0:=Hh ht;clear ht g1
  go_enter (mz_func (i:=64) rfl Tryz.func64),Tryz.ntmps64
  go_wp2_with (go_at_call 78;(with_reducible refine (checkBook_at (HB.out.below (bel)) HN.out H0.out).mono ?_);rintro e w1 ⟨rfl,hb1⟩;obtain ⟨hc1,hf1⟩:=bcell hb1;have hz1b:w.heap.size+1 < w1.heap.size:=(by have:=hb1.size;simp at this;omega);have hz1:w.heap.size < w1.heap.size:=(by omega));exact bodyPost_ret (v:=.tuple #[.agg #[.int .i64 0,.slice none 0 0,.slice none 0 0],.slice none 0 0,.int .i64 t]) (by simp [results,Tryz.results64,go_sem, *]) rfl ⟨rfl,bel⟩
theorem open_ok (hB:FBookAt w b vm vd vt) (hN:∀ m∈b.devs,m.name.size<=1000000) (hA:ActsAt w) {al:Int} {f:FuncId} {caps:Array Value} (hcall:EntC f) (hask:AskC b vm vd vt w f caps al) (ht:openAl b al=0) :
 Calls Mz.prog 64 #[.agg #[vm,vd,vt],.func (.func f) #[] caps] w (OpenOk w b vm vd vt):=by
 have HB:=Hh hB;have HN:=Hh hN;have HA:=Hh hA;have HK:=Hh hask;obtain ⟨rfl,⟨da,dc,rfl,_,_⟩,ta,tc,rfl,_,_⟩:=id hB;clear hB hN hA hask;unfold openAl at ht;split at ht
 ·rename_i g;exact absurd ht g
 ·rename_i g1
  split at ht
  ·rename_i g;exact absurd ht g
  ·rename_i g2
   split at ht
   ·cases ht
   ·rename_i g3
    obtain rfl:al=0:=Classical.not_not.1 g2;have G1:=Hh (Classical.not_not.1 g1);have hl0:0 < (histsI b).length:=List.length_pos_iff.2 g3;have hl1:¬ ((histsI b).length:Int)=0:=by omega
    clear g1 g2 g3 ht
    go_enter (mz_func (i:=64) rfl Tryz.func64),Tryz.ntmps64
    go_wp2_with (first
     | (go_at_call 78;(with_reducible refine (checkBook_at (HB.out.below (bel)) HN.out G1.out).mono ?_);rintro e w1 ⟨rfl,hb1⟩;obtain ⟨hc1,hf1⟩:=bcell hb1;have hz1b:w.heap.size+1 < w1.heap.size:=(by have:=hb1.size;simp at this;omega);have hz1:w.heap.size < w1.heap.size:=(by omega))
     | (go_at_call 105;(with_reducible refine (all_at2 (HB.out.below (Below.next (Below.al (Below.next (Below.al (Below.al (Below.refl _ _) _) _) hb1) _) hb2)) (HA.out.below (Below.next (Below.al (Below.next (Below.al (Below.al (Below.refl _ _) _) _) hb1) _) hb2)) G1.out).mono ?_);rintro e w3 ⟨l',rfl,hrow,hb3⟩;obtain ⟨hc3,hf3⟩:=bcell hb3;have hz3:w2.heap.size<=w3.heap.size:=hb3.size;have hz3a:w.heap.size < w3.heap.size:=(by omega);have hz3b:w.heap.size+1 < w3.heap.size:=(by omega);have hz3c:w1.heap.size < w3.heap.size:=(by omega);obtain ⟨la,lc,rfl⟩:=ownsRow_slice hrow;have HROW:=Hh hrow;clear hrow)
     | ((with_reducible refine (HK.out G1.out _ (Below.al (Below.next (Below.al (Below.al (Below.refl _ _) _) _) hb1) _)).mono ?_);rintro e w2 ⟨rfl,hb2⟩;obtain ⟨hc2,hf2⟩:=bcell hb2;have hz2:w1.heap.size < w2.heap.size:=(by have:=hb2.size;simp at this;omega);have hz2a:w.heap.size < w2.heap.size:=(by omega);have hz2b:w.heap.size+1 < w2.heap.size:=(by omega)))
    refine bodyPost_ret (v:=.tuple #[.agg #[.int .i64 b.most,.slice da b.devs.length dc,.slice ta b.tests.length tc],.slice la (histsI b).length lc,.int .i64 0]) (by simp [results,Tryz.results64,go_sem, *]) rfl ⟨la,lc,rfl,?_,bel⟩;have hk3:∀ (A:World) (o:Nat) (v:Value),KS (fun k=>k≠w.heap.size+1) A (A.setCell ⟨w.heap.size+1,o,none⟩ v):=fun A o v=>KS.setCell (by simp) _ _;exact states_row (ownsRow_ks HROW.out (((hk3 _ _ _).trans (hk3 _ _ _)).trans (hk3 _ _ _)) fun k hk=>by omega)
end
attribute [local go_sem] Oper.semAt_some
def devAl (b:Fbk) (k:Int):Int:=if inB k 0 ((b.devs.length:Int) - 1) then 0 else 6
section
variable {b:Fbk} {vm vd vt:Value} {w:World}
theorem nothingC:AskC b vm vd vt w 84 #[] 0:=fun _ W _=>by
 have:=nothing_at (.agg #[vm,vd,vt]) _ W rfl;simpa using this
theorem stateAsk_at {k:Int} {rd:Nat} (hB:FBookAt w b vm vd vt) (hc:w.cell? ⟨rd,0,none⟩=some (.int .i64 k)) (hrd:rd < w.heap.size) :
 Calls Mz.prog 106 (#[.agg #[vm,vd,vt]] ++ #[.pointer (some ⟨rd,0,none⟩)]) w fun e w'=>e=.returned (.int .i64 (devAl b k))/\Below w.heap.size w w':=by
 have HB:=Hh hB;obtain ⟨rfl,⟨da,dc,rfl,_,hdl⟩,ta,tc,rfl,_,_⟩:=hB;show Calls Mz.prog _ #[.agg #[.int .i64 b.most,.slice da b.devs.length dc,.slice ta b.tests.length tc],.pointer (some ⟨rd,0,none⟩)] w _;have e1:=fun o=>((Below.al (Below.refl w.heap.size w) o).cell (p:=⟨rd,0,none⟩) hrd).trans hc
 go_enter (mz_func (i:=106) rfl Tryz.func106),Tryz.ntmps106
 go_wp2_with (go_at_call 79;(with_reducible refine (device_at (t:=devAl b k) (HB.out.below (bel)) rfl).mono ?_);rintro e w1 ⟨rfl,hb1⟩);go_ret;exact ⟨rfl,bel⟩
theorem passAsk_at {l:List Int} {pa:Option Addr} {pc rd:Nat} (hB:FBookAt w b vm vd vt) (hp:IntsAt w pa l) (hl:l.length<=1000000) (hpc:l.length<=pc) (hc:w.cell? ⟨rd,0,none⟩=some (.slice pa l.length pc)) (hrd:rd < w.heap.size) :
 Calls Mz.prog 65 (#[.agg #[vm,vd,vt]] ++ #[.pointer (some ⟨rd,0,none⟩)]) w fun e w'=>e=.returned (.int .i64 (pathAl b.devs.length l))/\Below w.heap.size w w':=by
 have HB:=Hh hB;have HP:=Hh hp;obtain ⟨rfl,⟨da,dc,rfl,_,hdl⟩,ta,tc,rfl,_,_⟩:=hB;show Calls Mz.prog _ #[.agg #[.int .i64 b.most,.slice da b.devs.length dc,.slice ta b.tests.length tc],.pointer (some ⟨rd,0,none⟩)] w _;have e1:=fun o=>((Below.al (Below.refl w.heap.size w) o).cell (p:=⟨rd,0,none⟩) hrd).trans hc;clear hp
 go_enter (mz_func (i:=65) rfl Tryz.func65),Tryz.ntmps65
 go_wp2_with (go_at_call 66;(with_reducible refine (path_at (HB.out.below (bel)) (HP.out.below (bel)) hl hpc).mono ?_);rintro e w1 ⟨rfl,hb1⟩);go_ret;exact ⟨rfl,bel⟩
theorem soundAsk_at {l:List Int} {pa:Option Addr} {pc rd:Nat} (hB:FBookAt w b vm vd vt) (hp:IntsAt w pa l) (hl:l.length<=1000000) (hpc:l.length<=pc) (hc:w.cell? ⟨rd,0,none⟩=some (.slice pa l.length pc)) (hrd:rd < w.heap.size) :
 Calls Mz.prog 74 (#[.agg #[vm,vd,vt]] ++ #[.pointer (some ⟨rd,0,none⟩)]) w fun e w'=>e=.returned (.int .i64 (pathAl b.devs.length l))/\Below w.heap.size w w':=by
 have HB:=Hh hB;have HP:=Hh hp;obtain ⟨rfl,⟨da,dc,rfl,_,hdl⟩,ta,tc,rfl,_,_⟩:=hB;show Calls Mz.prog _ #[.agg #[.int .i64 b.most,.slice da b.devs.length dc,.slice ta b.tests.length tc],.pointer (some ⟨rd,0,none⟩)] w _;have e1:=fun o=>((Below.al (Below.refl w.heap.size w) o).cell (p:=⟨rd,0,none⟩) hrd).trans hc;clear hp
 go_enter (mz_func (i:=74) rfl Tryz.func74),Tryz.ntmps74
 go_wp2_with (go_at_call 66;(with_reducible refine (path_at (HB.out.below (bel)) (HP.out.below (bel)) hl hpc).mono ?_);rintro e w1 ⟨rfl,hb1⟩);go_ret;exact ⟨rfl,bel⟩
theorem passes2_at {s:Nat->Nat} {l:List Int} {pa:Option Addr} {pc rd:Nat} (hA:ActsAt w) (hs:∀ k,s k < 3) (hp:IntsAt w pa l) (hx:∀ x∈l,0<=x/\x < 6) (hl:l.length<=1000000) (hc:w.cell? ⟨rd,0,none⟩=some (.slice pa l.length pc)) (hrd:rd < w.heap.size) :
 Calls Mz.prog 68 (#[stV s] ++ #[.pointer (some ⟨rd,0,none⟩)]) w fun e w'=>e=.returned (.bool (playI s l).1)/\Below w.heap.size w w':=by
 have HP:=Hh hp;have HA:=Hh hA;have HX:=Hh hx;have HS:=Hh hs;show Calls Mz.prog _ #[stV s,.pointer (some ⟨rd,0,none⟩)] w _;have e1:=fun o=>((Below.al (Below.refl w.heap.size w) o).cell (p:=⟨rd,0,none⟩) hrd).trans hc;obtain ⟨r,n,hr⟩:∃ r n,playI s l=(r,n):=⟨_,_,rfl⟩;have HR:=Hh hr;rw [show (playI s l).1=r by rw [hr]];clear hp hA hx hs hr
 go_enter (mz_func (i:=68) rfl Tryz.func68),Tryz.ntmps68
 go_wp2_with (go_at_call 69;(with_reducible refine (play_at (s:=s) (HA.out.below (bel)) HS.out (HP.out.below (bel)) HX.out hl HR.out).mono ?_);rintro e w1 ⟨rfl,hb1⟩);go_ret;exact ⟨rfl,bel⟩
theorem sound3_at {s:Nat->Nat} {d:Nat} {rd:Nat} (hd:d < 6) (h1:w.cell? ⟨rd,d,none⟩=some (.int .i64 (s d:Int))) (hrd:rd < w.heap.size) :
 Calls Mz.prog 77 #[.int .i64 (d:Int),.pointer (some ⟨rd,0,none⟩)] w fun e w'=>e=.returned (.bool (decide (s d≠0)))/\w'=w:=by
 have hdI:(d:Int) < 6:=by omega
 go_enter (mz_func (i:=77) rfl Tryz.func77),Tryz.ntmps77
 go_wp2;go_ret;refine ⟨?_,rfl⟩;by_cases h:s d=0
 ·simp [h]
 ·have:¬ ((s d:Nat):Int)=0:=by omega
  simp [h]
def soundI (s:Nat->Nat) (l:List Int):Bool:=!(l.any fun x=>decide (s x.toNat≠0))
theorem anyIndex_at {a:Option Addr} {l:List Int} {c:Nat} {f:FuncId} {caps:Array Value} {q:Int->Bool} (h:IntsAt w a l) (hl:l.length<=1000000) (hcall:EntC f) (hf:∀ x∈l,Calls Mz.prog f (#[.int .i64 x] ++ caps) w fun e w'=>e=.returned (.bool (q x))/\w'=w) :
 Calls Mz.prog 120 #[.slice a l.length c,.func (.func f) #[] caps] w fun e w'=>∃ r:Int,e=.returned (.int .i64 r)/\(0<=r↔∃ x∈l,q x=true)/\w'=w:=by
 have H:=Hh h;have HF:=Hh hf;clear h hf
 go_enter (mz_func (i:=120) rfl Tryz.func120),Tryz.ntmps120
 go_wp2;go_loop [8] (fun i=>∃ k:Nat,k<=l.length/\i=.int .i64 k/\Hid (∀ j (hj:j < l.length),j < k->q l[j]=false)) (fun i=>l.length - (intOf i).toNat)
 case atStart=>exact ⟨0,Nat.zero_le _,rfl,fun j _ hj=>absurd hj (Nat.not_lt_zero _)⟩
 case round =>
  obtain ⟨k,hk,rfl,hno⟩:=hrel;by_cases hlt:k < l.length
  ·obtain ⟨b,o,rfl,hb,h1⟩:=H.out k hlt;have hq:=HF.out _ (List.getElem_mem hlt);obtain ⟨x,hx⟩:∃ x,l[k]=x:=⟨_,rfl⟩;rw [hx] at h1 hq;have HX:=Hh hx;have HQ:=Hh hq;clear hx hq;cases he:q x
   ·have HE:=Hh he;clear he;go_wp2_with ((with_reducible refine HQ.out.mono ?_);rintro e w' ⟨rfl,hw'⟩;subst hw';rw [HE.out]);go_round
    case rel =>
     refine ⟨k+1,hlt,by go_num,fun j hj hjk=>?_⟩;by_cases e:j < k
     ·exact hno.out j hj e
     ·obtain rfl:j=k:=by omega
      rw [HX.out];exact HE.out
    case measure=>simp [intOf];omega
   ·have HE:=Hh he;clear he;go_wp2_with ((with_reducible refine HQ.out.mono ?_);rintro e w' ⟨rfl,hw'⟩;subst hw';rw [HE.out]);go_ret;refine ⟨_,rfl,⟨fun _=>⟨x,?_,HE.out⟩,fun _=>by omega⟩,rfl⟩;rw [<- HX.out];exact List.getElem_mem hlt
  ·obtain rfl:k=l.length:=by omega
   go_wp2;go_ret;refine ⟨_,rfl,⟨fun h=>by omega,fun ⟨x,hx,hf⟩=>?_⟩,rfl⟩;obtain ⟨j,hj,e⟩:=List.getElem_of_mem hx;have:=hno.out j hj hj;rw [e,hf] at this;cases this
theorem any_at {a:Option Addr} {l:List Int} {c:Nat} {f:FuncId} {caps:Array Value} {q:Int->Bool} (h:IntsAt w a l) (hl:l.length<=1000000) (hcall:EntC f) (hf:∀ x∈l,Calls Mz.prog f (#[.int .i64 x] ++ caps) w fun e w'=>e=.returned (.bool (q x))/\w'=w) :
 Calls Mz.prog 76 #[.slice a l.length c,.func (.func f) #[] caps] w fun e w'=>e=.returned (.bool (l.any q))/\w'=w:=by
 have H:=Hh h;have HF:=Hh hf;clear h hf
 go_enter (mz_func (i:=76) rfl Tryz.func76),Tryz.ntmps76
 go_wp2_with (go_at_call 120;(with_reducible refine (anyIndex_at H.out hl hcall HF.out).mono ?_);rintro e w' ⟨r,rfl,hr,hw'⟩;subst hw');go_ret;refine ⟨?_,rfl⟩;have e:decide (0<=r)=l.any q:=by
  cases hd:l.any q
  ·simp only [List.any_eq_false] at hd;refine decide_eq_false fun h0=>?_;obtain ⟨x,hx,hf⟩:=hr.1 h0;have:=hd x hx;rw [hf] at this;simp at this
  ·simp only [List.any_eq_true] at hd;obtain ⟨x,hx,hf⟩:=hd;exact decide_eq_true (hr.2 ⟨x,hx,by simpa using hf⟩)
 rw [<- e];simp [hr]
theorem sound2_at {s:Nat->Nat} {l:List Int} {pa:Option Addr} {pc rd:Nat} (hp:IntsAt w pa l) (hx:∀ x∈l,0<=x/\x < 6) (hl:l.length<=1000000) (hc:w.cell? ⟨rd,0,none⟩=some (.slice pa l.length pc)) (hrd:rd < w.heap.size) :
 Calls Mz.prog 75 (#[stV s] ++ #[.pointer (some ⟨rd,0,none⟩)]) w fun e w'=>e=.returned (.bool (soundI s l))/\Below w.heap.size w w':=by
 have q:∀ j,j < 6->(w.alloc (.cells #[.int .i64 (s 0:Int),.int .i64 (s 1:Int),.int .i64 (s 2:Int),.int .i64 (s 3:Int),.int .i64 (s 4:Int),.int .i64 (s 5:Int)] 96)).cell? ⟨w.heap.size,j,none⟩=some (.int .i64 (s j:Int)):=fun j hj=>by rw [World.cell?_alloc_at _ _ _ _ rfl];exact statesV_get s hj
 have hf:∀ x∈l,Calls Mz.prog 77 (#[.int .i64 x] ++ #[.pointer (some ⟨w.heap.size,0,none⟩)]) (w.alloc (.cells #[.int .i64 (s 0:Int),.int .i64 (s 1:Int),.int .i64 (s 2:Int),.int .i64 (s 3:Int),.int .i64 (s 4:Int),.int .i64 (s 5:Int)] 96)) fun e w'=>e=.returned (.bool (decide (s x.toNat≠0)))/\w'=(w.alloc (.cells #[.int .i64 (s 0:Int),.int .i64 (s 1:Int),.int .i64 (s 2:Int),.int .i64 (s 3:Int),.int .i64 (s 4:Int),.int .i64 (s 5:Int)] 96)):=fun x hxl=>by
  obtain ⟨h0,h6⟩:=hx x hxl;have:=sound3_at (s:=s) (d:=x.toNat) (rd:=w.heap.size) (by omega) (q _ (by omega)) (by simp);rw [Int.toNat_of_nonneg h0] at this;exact this
 have HP:=Hh hp;have HF:=Hh hf;have e1:=fun o=>((Below.al (Below.refl w.heap.size w) o).cell (p:=⟨rd,0,none⟩) hrd).trans hc;show Calls Mz.prog _ #[stV s,.pointer (some ⟨rd,0,none⟩)] w _;clear q hf hx hp
 go_enter (mz_func (i:=75) rfl Tryz.func75),Tryz.ntmps75
 go_wp2_with (go_at_call 76;(with_reducible refine (any_at (HP.out.below (bel)) hl (fun _ _=>mz_call77 _ _) HF.out).mono ?_);rintro e w' ⟨rfl,hw'⟩;subst hw');go_ret;exact ⟨by simp [soundI],bel⟩
end
attribute [local go_sem] Oper.semAt_some
section
variable {b:Fbk} {vm vd vt:Value} {w:World}
theorem cell_last {v:Value} {t:TypeId} {r:Nat} (h:r=w.heap.size):(w.alloc (.cells #[v] t)).cell? ⟨r,0,none⟩=some v:=by
 rw [World.cell?_alloc_at _ _ _ _ h];rfl
theorem devAl_ok {k:Int} (h:devAl b k=0):0<=k/\k < b.devs.length:=by
 unfold devAl at h;split at h
 ·rename_i g
  simp [inB] at g;omega
 ·cases h
theorem openAl_ok {al:Int} (h:openAl b al=0):bookAl b=0/\al=0/\histsI b≠[]:=by
 unfold openAl at h;split at h
 ·rename_i g;exact absurd h g
 ·rename_i g1
  split at h
  ·rename_i g;exact absurd h g
  ·rename_i g2
   split at h
   ·cases h
   ·rename_i g3
    exact ⟨Classical.not_not.1 g1,Classical.not_not.1 g2,g3⟩
theorem histApi_ok (hB:FBookAt w b vm vd vt) (hN:∀ m∈b.devs,m.name.size<=1000000) (hA:ActsAt w) (h:bookAl b=0) :
 Calls Mz.prog 35 #[.agg #[vm,vd,vt]] w fun e w'=>e=.returned (.tuple #[.int .i64 ((histsI b).length:Int),.int .i64 0])/\Below w.heap.size w w':=by
 have HB:=Hh hB;have HN:=Hh hN;have HA:=Hh hA;have H:=Hh h;obtain ⟨rfl,⟨da,dc,rfl,_,_⟩,ta,tc,rfl,_,_⟩:=hB;clear hN h hA
 go_enter (mz_func (i:=35) rfl Tryz.func35),Tryz.ntmps35
 go_wp2_with (first
  | (go_at_call 78;(with_reducible refine (checkBook_at (HB.out.below (bel)) HN.out H.out).mono ?_);rintro e w1 ⟨rfl,hb1⟩;obtain ⟨hc1,hf1⟩:=bcell hb1;have hz1:w.heap.size < w1.heap.size:=(by have:=hb1.size;simp at this;omega))
  | (go_at_call 105;(with_reducible refine (all_at2 (HB.out.below (Below.next (Below.al (Below.refl _ _) _) hb1)) (HA.out.below (Below.next (Below.al (Below.refl _ _) _) hb1)) H.out).mono ?_);rintro e w3 ⟨l',rfl,hrow,hb3⟩;obtain ⟨la,lc,rfl⟩:=ownsRow_slice hrow;have HROW:=Hh hrow;clear hrow))
 exact bodyPost_ret (v:=.tuple #[.int .i64 ((histsI b).length:Int),.int .i64 0]) (by simp [results,Tryz.results35,go_sem, *]) rfl ⟨rfl,bel⟩
theorem state2_at {k:Int} {rd:Nat}:Calls Mz.prog 107 #[.int .i64 k,.pointer (some ⟨rd,0,none⟩)] w fun e w'=>∃ r,e=.returned (.func (.func 108) #[] #[.pointer (some ⟨rd,0,none⟩),.pointer (some ⟨r,0,none⟩)])/\w'.cell? ⟨r,0,none⟩=some (.int .i64 k)/\r < w'.heap.size/\Below w.heap.size w w':=by
 go_enter (mz_func (i:=107) rfl Tryz.func107),Tryz.ntmps107
 go_wp2;go_ret;refine ⟨w.heap.size,rfl,?_,by simp,bel⟩;rw [World.cell?_alloc_at _ _ _ _ rfl];rfl
theorem stateAsk {k:Int} (hB:FBookAt w b vm vd vt):∀ W0,Below w.heap.size w W0->w.heap.size+1 < W0.heap.size->W0.cell? ⟨w.heap.size+1,0,none⟩=some (.int .i64 k)->AskC b vm vd vt W0 106 #[.pointer (some ⟨w.heap.size+1,0,none⟩)] (devAl b k):=fun W0 hb hl hc _ W hW =>
 stateAsk_at (hB.below (Below.next hb hW)) ((hW.cell (p:=⟨w.heap.size+1,0,none⟩) hl).trans hc) (Nat.lt_of_lt_of_le hl hW.size)
def heldI (b:Fbk) (k:Int) (v:Nat):Int:=claimI ((histsI b).countP fun s=>decide (s k.toNat=v)) (histsI b).length
theorem stateApi_ok {k:Int} (hB:FBookAt w b vm vd vt) (hN:∀ m∈b.devs,m.name.size<=1000000) (hA:ActsAt w) (h:openAl b (devAl b k)=0) :
 Calls Mz.prog 36 #[.agg #[vm,vd,vt],.int .i64 k] w fun e w'=>e=.returned (.tuple #[.int .i64 (heldI b k 1),.int .i64 (heldI b k 2),.int .i64 0])/\Below w.heap.size w w':=by
 have HB:=Hh hB;have HN:=Hh hN;have HA:=Hh hA;have H:=Hh h;have HK:=Hh (stateAsk (k:=k) hB);obtain ⟨g1,g2,g3⟩:=openAl_ok h;have gd:=devAl_ok g2;have hd6:=(devsAl_ok (bookAl_ok g1).1).2.1;have hle:=hists_le hd6 (devsAl_ok (bookAl_ok g1).1).2.2.2;obtain ⟨n,hn⟩:∃ n:Nat,k=(n:Int):=⟨k.toNat,by omega⟩;have hn6:n < 6:=by omega
 have hcl:∀ (v:Nat) (w1 w2:World) (rk:Nat),w1.cell? ⟨w.heap.size+1,0,none⟩=some (.int .i64 k)->w.heap.size+1 < w1.heap.size->w1.cell? ⟨rk,0,none⟩=some (.int .i64 (v:Int))->rk < w1.heap.size ->
  ∀ s∈histsI b,∀ W,Below w1.heap.size w1 W->Calls Mz.prog 108 (#[stV s] ++ #[.pointer (some ⟨w.heap.size+1,0,none⟩),.pointer (some ⟨rk,0,none⟩)]) W fun e w'=>e=.returned (.bool (decide (s k.toNat=v)))/\Below W.heap.size W w':=fun v w1 w2 rk h1 h2 h3 h4 s _ W hW=>by
  subst hn;exact isState2_at hn6 ((hW.cell (p:=⟨w.heap.size+1,0,none⟩) h2).trans h1) ((hW.cell (p:=⟨rk,0,none⟩) h4).trans h3) (Nat.lt_of_lt_of_le h2 hW.size) (Nat.lt_of_lt_of_le h4 hW.size)
 have HCL:=Hh hcl;obtain ⟨rfl,⟨da,dc,rfl,_,_⟩,ta,tc,rfl,_,_⟩:=hB;have HH:=Hh (rfl:heldI b k 1=heldI b k 1);clear hN h hA g1 g2 g3 gd hd6 hn hn6 hcl
 go_enter (mz_func (i:=36) rfl Tryz.func36),Tryz.ntmps36
 go_wp2_with (first
  | (go_at_call 64;(with_reducible refine (open_ok (HB.out.below (bel)) HN.out (HA.out.below (bel)) (fun _ _=>mz_call106 _ _) (HK.out _ (bel) (by simp) (cell_last (by simp))) H.out).mono ?_);rintro e w1 ⟨la,lc,rfl,hst,hb1⟩;have hz1:w.heap.size+1 < w1.heap.size:=(by have:=hb1.size;simp at this;omega);have y1:=(hb1.cell (p:=⟨w.heap.size+1,0,none⟩) (by simp)).trans (cell_last (by simp));have HST:=Hh hst;clear hst)
  | (go_at_call 107;(with_reducible refine state2_at.mono ?_);rintro e w4 ⟨r4,rfl,hr4,hrl4,hb4⟩;have hz4:=Nat.lt_of_lt_of_le hz3 hb4.size;have y4:=(hb4.cell (p:=⟨w.heap.size+1,0,none⟩) hz3).trans y3;have HR4:=Hh hr4;have HRL4:=Hh hrl4;have HST4:=Hh (HST3.out.below hb4);clear hr4 hrl4)
  | (go_at_call 107;(with_reducible refine state2_at.mono ?_);rintro e w2 ⟨r,rfl,hr,hrl,hb2⟩;have hz2:w.heap.size+1 < w2.heap.size:=(by have:=hb2.size;simp at this;omega);have y2:=(hb2.cell (p:=⟨w.heap.size+1,0,none⟩) (by simp;omega)).trans (((Below.al (Below.refl w1.heap.size w1) _).cell (p:=⟨w.heap.size+1,0,none⟩) hz1).trans y1);have HR:=Hh hr;have HRL:=Hh hrl;have HST2:=Hh ((HST.out.below (Below.al (Below.refl _ _) _)).below hb2);clear hr hrl)
  | (go_at_call 67;(with_reducible refine (claim_at (t:=heldI b k 2) (so:=fun s=>decide (s k.toNat=2)) HST4.out (by omega) (fun _ _=>mz_call108 _ _) (HCL.out 2 _ w2 _ y4 hz4 HR4.out HRL4.out) rfl).mono ?_);rintro e w5 ⟨rfl,hb5⟩)
  | (go_at_call 67;(with_reducible refine (claim_at (t:=heldI b k 1) (so:=fun s=>decide (s k.toNat=1)) HST2.out (by omega) (fun _ _=>mz_call108 _ _) (HCL.out 1 _ w2 _ y2 hz2 HR.out HRL.out) rfl).mono ?_);rintro e w3 ⟨rfl,hb3⟩;have hz3:=Nat.lt_of_lt_of_le hz2 hb3.size;have y3:=(hb3.cell (p:=⟨w.heap.size+1,0,none⟩) hz2).trans y2;have HST3:=Hh (HST2.out.below hb3)))
 exact bodyPost_ret (v:=.tuple #[.int .i64 (heldI b k 1),.int .i64 (heldI b k 2),.int .i64 0]) (by simp [results,Tryz.results36,go_sem, *]) rfl ⟨rfl,bel⟩
end
attribute [local go_sem] Oper.semAt_some
def goodC (l:List (Nat->Nat)) (i:Nat):Int:=claimI (l.countP fun s=>decide (s i=0)) l.length
def suspTo (l:List (Nat->Nat)) (k:Nat):List Int:=((List.range k).filter fun i=>decide (goodC l i≠1)).map fun i:Nat=>(i:Int)
theorem suspTo_succ (l:List (Nat->Nat)) (k:Nat):suspTo l (k+1)=suspTo l k ++ if goodC l k≠1 then [(k:Int)] else []:=by
 unfold suspTo;rw [List.range_succ,List.filter_append,List.map_append];congr 1;by_cases h:goodC l k=1 <;> simp [h]
theorem suspTo_le (l:List (Nat->Nat)) (k:Nat):(suspTo l k).length<=k:=by
 unfold suspTo;rw [List.length_map];exact Nat.le_trans (List.length_filter_le _ _) (by simp)
section
variable {b:Fbk} {vm vd vt:Value} {w:World}
theorem suspects_at {a:Option Addr} {c:Nat} {l:List (Nat->Nat)} (hB:FBookAt w b vm vd vt) (hS:StatesAt w a l) (hl:l.length<=1000) (hd6:b.devs.length<=6):Calls Mz.prog 109 #[.agg #[vm,vd,vt],.slice a l.length c] w (IntsRet w (suspTo l b.devs.length)):=by
 obtain ⟨rfl,⟨da,dc,rfl,_,_⟩,ta,tc,rfl,_,_⟩:=hB;have HS:=Hh hS;clear hS
 go_enter (mz_func (i:=109) rfl Tryz.func109),Tryz.ntmps109
 go_wp2;obtain ⟨W0,hW0⟩:∃ W0,W0=w.alloc (.cells #[.int .i64 b.most,.slice da b.devs.length dc,.slice ta b.tests.length tc] 88):=⟨_,rfl⟩;rw [<- hW0];have hb0:Below w.heap.size w W0:=by rw [hW0];(exact bel)
 have hs0:w.heap.size < W0.heap.size:=by rw [hW0];simp
 clear hW0;go_loopw [5,11] (fun v i wr=>∃ (k:Nat) (a:Option Addr) (c:Nat),k<=b.devs.length/\i=.int .i64 k/\v=.slice a (suspTo l k).length c/\wr.ownsRow W0.heap.size 3 1 (.slice a (suspTo l k).length c) (suspTo l k).length ((suspTo l k).map (Value.int .i64))/\Below W0.heap.size W0 wr) (fun _ i _=>b.devs.length - (intOf i).toNat)
 case atStart=>exact ⟨0,none,0,Nat.zero_le _,rfl,rfl,by simpa [suspTo] using World.ownsRow_nil _ _ _ _,Below.refl _ _⟩
 case round =>
  obtain ⟨k,a2,c2,hk,rfl,rfl,hrow,hW⟩:=hrel;have hWs:=hW.size;obtain ⟨wo,rfl⟩:∃ x,x=wr:=⟨_,rfl⟩;have hle:=suspTo_le l k;have HROW:=Hh hrow;clear hrow;by_cases hlt:k < b.devs.length
  ·have hbw:=Below.next hb0 hW;have hsu:=suspTo_succ l k;have HST:=Hh (HS.out.below (Below.al hbw (.cells #[.int .i64 k] 3)));have hcl:∀ s∈l,∀ W,Below (wo.alloc (.cells #[.int .i64 k] 3)).heap.size (wo.alloc (.cells #[.int .i64 k] 3)) W->Calls Mz.prog 154 (#[stV s] ++ #[.pointer (some ⟨wo.heap.size,0,none⟩)]) W fun e w'=>e=.returned (.bool (decide (s k=0)))/\Below W.heap.size W w':=fun s _ W hW=>isGood_at (by omega) ((hW.cell (p:=⟨wo.heap.size,0,none⟩) (by simp)).trans (cell_last rfl)) (Nat.lt_of_lt_of_le (by simp) hW.size);obtain ⟨t,ht⟩:∃ t,goodC l k=t:=⟨_,rfl⟩;rw [ht] at hsu;have HSU:=Hh hsu;have HBW:=Hh hbw;have HCL:=Hh hcl;have HT:=Hh (show claimI (l.countP fun s=>decide (s k=0)) l.length=t from ht);clear hsu hbw hcl ht;by_cases hz:t=1
   ·subst hz;have hsu2:suspTo l (k+1)=suspTo l k:=by rw [HSU.out];simp
    have HS2:=Hh hsu2;clear hsu2;go_wp2_with (go_at_call 67;(with_reducible refine (claim_at (so:=fun s=>decide (s k=0)) HST.out hl (fun _ _=>mz_call154 _ _) HCL.out HT.out).mono ?_);rintro e w3 ⟨rfl,hb3⟩);go_roundw
    case rel=>exact ⟨k+1,a2,c2,by omega,by go_num,by rw [HS2.out],by rw [HS2.out];exact ownsRow_below (HROW.out.alloc _) hb3,(hW.alloc hWs _).trans (hb3.mono (by simp;omega))⟩
    case measure=>simp [intOf];omega
   ·have hsu2:suspTo l (k+1)=suspTo l k ++ [(k:Int)]:=by rw [HSU.out];simp [hz]
    have hln:(suspTo l (k+1)).length=(suspTo l k).length+1:=by rw [hsu2];simp
    have hzb:(t != 1)=true:=by simpa using hz
    have HS2:=Hh hsu2;have HLN:=Hh hln;clear hsu2 hln;go_wp2_with (first
     | (go_at_call 67;(with_reducible refine (claim_at (so:=fun s=>decide (s k=0)) HST.out hl (fun _ _=>mz_call154 _ _) HCL.out HT.out).mono ?_);rintro e w3 ⟨rfl,hb3⟩;have y3:=(hb3.cell (p:=⟨wo.heap.size,0,none⟩) (by simp)).trans (cell_last rfl);have hz3:wo.heap.size < w3.heap.size:=(by have:=hb3.size;simp at this;omega))
     | (at_builtin;go_loud (refine wpl_append1 rfl _ _ 26 rfl W0.heap.size 3 (mzu Tryz.underlying26) mz_intInfo rfl (by omega) (.slice a2 (suspTo l k).length c2) (suspTo l k).length _ rfl (ownsRow_below (HROW.out.alloc _) hb3) (by first | omega | (simp;omega)) (by omega) _ (n:=w3.heap.size) (by first | rfl | simp | omega) rfl (by simp [Value.oneCell']) ?_;intro g cap w6 hown6 hb6)))
    have hown7:w6.ownsRow W0.heap.size 3 1 (.slice (some ⟨g,0,none⟩) (suspTo l (k+1)).length cap) (suspTo l (k+1)).length ((suspTo l (k+1)).map (Value.int .i64)):=by
     rw [HLN.out,HS2.out,List.map_append];exact hown6
    have HOWN:=Hh hown7;clear hown6 hown7;go_roundw
    case rel=>exact ⟨k+1,_,_,by omega,by go_num,by rw [HLN.out],HOWN.out,((hW.alloc hWs _).trans (hb3.mono (by simp;omega))).trans hb6⟩
    case measure=>simp [intOf];omega
  ·obtain rfl:k=b.devs.length:=by omega
   have HW:=Hh hW;clear hW;go_wp2;exact bodyPost_ret (v:=.slice a2 (suspTo l b.devs.length).length c2) (by simp [results,Tryz.results109,go_sem, *]) rfl ⟨a2,c2,rfl,ints_row HROW.out,Below.next hb0 HW.out⟩
end
attribute [local go_sem] Oper.semAt_some
section
variable {b:Fbk} {vm vd vt:Value} {w:World}
def bk6 (h:bookAl b=0):b.devs.length<=6/\(histsI b).length<=1000:=by
 have hd6:=(devsAl_ok (bookAl_ok h).1).2.1;have hle:=hists_le hd6 (devsAl_ok (bookAl_ok h).1).2.2.2;exact ⟨hd6,by omega⟩
theorem suspApi_ok (hB:FBookAt w b vm vd vt) (hN:∀ m∈b.devs,m.name.size<=1000000) (hA:ActsAt w) (h:openAl b 0=0) :
 Calls Mz.prog 37 #[.agg #[vm,vd,vt]] w fun e w'=>∃ a c,e=.returned (.tuple #[.slice a (suspTo (histsI b) b.devs.length).length c,.int .i64 0])/\IntsAt w' a (suspTo (histsI b) b.devs.length)/\Below w.heap.size w w':=by
 have HB:=Hh hB;have HN:=Hh hN;have HA:=Hh hA;have H:=Hh h;obtain ⟨hd6,hle⟩:=bk6 (openAl_ok h).1;obtain ⟨rfl,⟨da,dc,rfl,_,_⟩,ta,tc,rfl,_,_⟩:=hB;clear hN h hA
 go_enter (mz_func (i:=37) rfl Tryz.func37),Tryz.ntmps37
 go_wp2_with (first
  | (go_at_call 64;(with_reducible refine (open_ok (HB.out.below (bel)) HN.out (HA.out.below (bel)) (fun _ _=>mz_call84 _ _) nothingC H.out).mono ?_);rintro e w1 ⟨la,lc,rfl,hst,hb1⟩;have HST:=Hh hst;clear hst)
  | (go_at_call 109;(with_reducible refine (suspects_at (HB.out.below (Below.al (Below.next (Below.al (Below.refl _ _) _) hb1) _)) (HST.out.below (Below.al (Below.refl _ _) _)) hle hd6).mono ?_);rintro e w2 ⟨a2,c2,rfl,hi2,hb2⟩;have HI:=Hh hi2;clear hi2))
 exact bodyPost_ret (v:=.tuple #[.slice a2 (suspTo (histsI b) b.devs.length).length c2,.int .i64 0]) (by simp [results,Tryz.results37,go_sem, *]) rfl ⟨a2,c2,rfl,HI.out,bel⟩
theorem passAsk {l:List Int} {pa:Option Addr} {pc:Nat} (hB:FBookAt w b vm vd vt) (hp:IntsAt w pa l) (hl:l.length<=1000000) (hpc:l.length<=pc):∀ W0,Below w.heap.size w W0->w.heap.size+1 < W0.heap.size->W0.cell? ⟨w.heap.size+1,0,none⟩=some (.slice pa l.length pc)->AskC b vm vd vt W0 65 #[.pointer (some ⟨w.heap.size+1,0,none⟩)] (pathAl b.devs.length l):=fun W0 hb hlt hc _ W hW =>
 passAsk_at (hB.below (Below.next hb hW)) (hp.below (Below.next hb hW)) hl hpc ((hW.cell (p:=⟨w.heap.size+1,0,none⟩) hlt).trans hc) (Nat.lt_of_lt_of_le hlt hW.size)
def passCI (b:Fbk) (l:List Int):Int:=claimI ((histsI b).countP fun s=>(playI s l).1) (histsI b).length
theorem passApi_ok {l:List Int} {pa:Option Addr} {pc:Nat} (hB:FBookAt w b vm vd vt) (hN:∀ m∈b.devs,m.name.size<=1000000) (hA:ActsAt w) (hp:IntsAt w pa l) (hl:l.length<=1000000) (hpc:l.length<=pc) (h:openAl b (pathAl b.devs.length l)=0) :
 Calls Mz.prog 17 #[.agg #[vm,vd,vt],.slice pa l.length pc] w fun e w'=>e=.returned (.tuple #[.int .i64 (passCI b l),.int .i64 0])/\Below w.heap.size w w':=by
 have HB:=Hh hB;have HN:=Hh hN;have HA:=Hh hA;have HP:=Hh hp;have H:=Hh h;have HK:=Hh (passAsk hB hp hl hpc);obtain ⟨hd6,hle⟩:=bk6 (openAl_ok h).1;have hpx:∀ x∈l,0<=x/\x < 6:=fun x hx=>by
  have:=(pathAl_ok (openAl_ok h).2.1).2 x hx;omega
 have hcl:∀ (W1:World),Below w.heap.size w W1->w.heap.size+1 < W1.heap.size->W1.cell? ⟨w.heap.size+1,0,none⟩=some (.slice pa l.length pc)->∀ s∈histsI b,∀ W,Below W1.heap.size W1 W->Calls Mz.prog 68 (#[stV s] ++ #[.pointer (some ⟨w.heap.size+1,0,none⟩)]) W fun e w'=>e=.returned (.bool ((playI s l).1))/\Below W.heap.size W w':=fun W1 hb h2 h1 s hs W hW =>
  passes2_at (HA.out.below (Below.next hb hW)) (hists_lt hs) (HP.out.below (Below.next hb hW)) hpx hl ((hW.cell (p:=⟨w.heap.size+1,0,none⟩) h2).trans h1) (Nat.lt_of_lt_of_le h2 hW.size)
 have HCL:=Hh hcl;have ht:claimI ((histsI b).countP fun s=>(playI s l).1) (histsI b).length=passCI b l:=rfl;have HT:=Hh ht;obtain ⟨rfl,⟨da,dc,rfl,_,_⟩,ta,tc,rfl,_,_⟩:=hB;clear hN h hA hp hpx hcl ht
 go_enter (mz_func (i:=17) rfl Tryz.func17),Tryz.ntmps17
 go_wp2_with (first
  | (go_at_call 64;(with_reducible refine (open_ok (HB.out.below (bel)) HN.out (HA.out.below (bel)) (fun _ _=>mz_call65 _ _) (HK.out _ (bel) (by simp) (cell_last (by simp))) H.out).mono ?_);rintro e w1 ⟨la,lc,rfl,hst,hb1⟩;have hz1:w.heap.size+1 < w1.heap.size:=(by have:=hb1.size;simp at this;omega);have y1:=((Below.al (Below.refl w1.heap.size w1) (.cells #[.int .i64 b.most,.slice da b.devs.length dc,.slice ta b.tests.length tc] 88)).cell (p:=⟨w.heap.size+1,0,none⟩) hz1).trans ((hb1.cell (p:=⟨w.heap.size+1,0,none⟩) (by simp)).trans (cell_last (by simp)));have HST:=Hh hst;clear hst)
  | (go_at_call 67;(with_reducible refine (claim_at (so:=fun s=>(playI s l).1) (HST.out.below (Below.al (Below.refl _ _) _)) hle (fun _ _=>mz_call68 _ _) (HCL.out _ (Below.al (Below.next (Below.al (Below.al (Below.refl _ _) _) _) hb1) _) (by simp;omega) y1) HT.out).mono ?_);rintro e w2 ⟨rfl,hb2⟩))
 exact bodyPost_ret (v:=.tuple #[.int .i64 (passCI b l),.int .i64 0]) (by simp [results,Tryz.results17,go_sem, *]) rfl ⟨rfl,bel⟩
theorem soundAsk {l:List Int} {pa:Option Addr} {pc:Nat} (hB:FBookAt w b vm vd vt) (hp:IntsAt w pa l) (hl:l.length<=1000000) (hpc:l.length<=pc):∀ W0,Below w.heap.size w W0->w.heap.size+1 < W0.heap.size->W0.cell? ⟨w.heap.size+1,0,none⟩=some (.slice pa l.length pc)->AskC b vm vd vt W0 74 #[.pointer (some ⟨w.heap.size+1,0,none⟩)] (pathAl b.devs.length l):=fun W0 hb hlt hc _ W hW =>
 soundAsk_at (hB.below (Below.next hb hW)) (hp.below (Below.next hb hW)) hl hpc ((hW.cell (p:=⟨w.heap.size+1,0,none⟩) hlt).trans hc) (Nat.lt_of_lt_of_le hlt hW.size)
def soundCI (b:Fbk) (l:List Int):Int:=claimI ((histsI b).countP fun s=>soundI s l) (histsI b).length
theorem soundApi_ok {l:List Int} {pa:Option Addr} {pc:Nat} (hB:FBookAt w b vm vd vt) (hN:∀ m∈b.devs,m.name.size<=1000000) (hA:ActsAt w) (hp:IntsAt w pa l) (hl:l.length<=1000000) (hpc:l.length<=pc) (h:openAl b (pathAl b.devs.length l)=0) :
 Calls Mz.prog 19 #[.agg #[vm,vd,vt],.slice pa l.length pc] w fun e w'=>e=.returned (.tuple #[.int .i64 (soundCI b l),.int .i64 0])/\Below w.heap.size w w':=by
 have HB:=Hh hB;have HN:=Hh hN;have HA:=Hh hA;have HP:=Hh hp;have H:=Hh h;have HK:=Hh (soundAsk hB hp hl hpc);obtain ⟨hd6,hle⟩:=bk6 (openAl_ok h).1;have hpx:∀ x∈l,0<=x/\x < 6:=fun x hx=>by
  have:=(pathAl_ok (openAl_ok h).2.1).2 x hx;omega
 have hcl:∀ (W1:World),Below w.heap.size w W1->w.heap.size+1 < W1.heap.size->W1.cell? ⟨w.heap.size+1,0,none⟩=some (.slice pa l.length pc)->∀ s∈histsI b,∀ W,Below W1.heap.size W1 W->Calls Mz.prog 75 (#[stV s] ++ #[.pointer (some ⟨w.heap.size+1,0,none⟩)]) W fun e w'=>e=.returned (.bool (soundI s l))/\Below W.heap.size W w':=fun W1 hb h2 h1 s hs W hW =>
  sound2_at (HP.out.below (Below.next hb hW)) hpx hl ((hW.cell (p:=⟨w.heap.size+1,0,none⟩) h2).trans h1) (Nat.lt_of_lt_of_le h2 hW.size)
 have HCL:=Hh hcl;have ht:claimI ((histsI b).countP fun s=>soundI s l) (histsI b).length=soundCI b l:=rfl;have HT:=Hh ht;obtain ⟨rfl,⟨da,dc,rfl,_,_⟩,ta,tc,rfl,_,_⟩:=hB;clear hN h hA hp hpx hcl ht
 go_enter (mz_func (i:=19) rfl Tryz.func19),Tryz.ntmps19
 go_wp2_with (first
  | (go_at_call 64;(with_reducible refine (open_ok (HB.out.below (bel)) HN.out (HA.out.below (bel)) (fun _ _=>mz_call74 _ _) (HK.out _ (bel) (by simp) (cell_last (by simp))) H.out).mono ?_);rintro e w1 ⟨la,lc,rfl,hst,hb1⟩;have hz1:w.heap.size+1 < w1.heap.size:=(by have:=hb1.size;simp at this;omega);have y1:=((Below.al (Below.refl w1.heap.size w1) (.cells #[.int .i64 b.most,.slice da b.devs.length dc,.slice ta b.tests.length tc] 88)).cell (p:=⟨w.heap.size+1,0,none⟩) hz1).trans ((hb1.cell (p:=⟨w.heap.size+1,0,none⟩) (by simp)).trans (cell_last (by simp)));have HST:=Hh hst;clear hst)
  | (go_at_call 67;(with_reducible refine (claim_at (so:=fun s=>soundI s l) (HST.out.below (Below.al (Below.refl _ _) _)) hle (fun _ _=>mz_call75 _ _) (HCL.out _ (Below.al (Below.next (Below.al (Below.al (Below.refl _ _) _) _) hb1) _) (by simp;omega) y1) HT.out).mono ?_);rintro e w2 ⟨rfl,hb2⟩))
 exact bodyPost_ret (v:=.tuple #[.int .i64 (soundCI b l),.int .i64 0]) (by simp [results,Tryz.results19,go_sem, *]) rfl ⟨rfl,bel⟩
end
def lesserI:List Int->List Int->Bool
 | x::l,y::m=>if x=y then lesserI l m else decide (x < y)
 | [],_::_=>true
 | _,[]=>false
theorem rin_any (n low high:Int) (w:World):Calls Mz.prog 43 #[.int .i64 n,.int .i64 low,.int .i64 high] w fun e w'=>e=.returned (.bool (inB n low high))/\w'=w:=by
 by_cases h1:low<=n
 ·by_cases h2:n<=high
  ·go_enter (mz_func (i:=43) rfl Tryz.func43),Tryz.ntmps43
   go_wp2;go_ret;exact ⟨by simp [inB,h1,h2],rfl⟩
  ·go_enter (mz_func (i:=43) rfl Tryz.func43),Tryz.ntmps43
   go_wp2;go_ret;exact ⟨by simp [inB,h1,h2],rfl⟩
 ·go_enter (mz_func (i:=43) rfl Tryz.func43),Tryz.ntmps43
  go_wp2;go_ret;exact ⟨by simp [inB];omega,rfl⟩
theorem rin_at {n low high:Int} {b:Bool} {w:World} (h:inB n low high=b):Calls Mz.prog 43 #[.int .i64 n,.int .i64 low,.int .i64 high] w fun e w'=>e=.returned (.bool b)/\w'=w :=
 (rin_any _ _ _ _).mono fun _ _ ⟨a,b⟩=>⟨h ▸ a,b⟩
theorem small_any (n:Nat) (w:World):Calls Mz.prog 174 #[.int .u8 n] w fun e w'=>e=.returned (.bool (decide (97<=n/\n<=122)))/\w'=w:=by
 by_cases h1:97<=n
 ·by_cases h2:n<=122
  ·go_enter (mz_func (i:=174) rfl Tryz.func174),Tryz.ntmps174
   go_wp2;go_ret;exact ⟨by simp [h1,h2];omega,rfl⟩
  ·go_enter (mz_func (i:=174) rfl Tryz.func174),Tryz.ntmps174
   go_wp2;go_ret;exact ⟨by simp [h1,h2];omega,rfl⟩
 ·go_enter (mz_func (i:=174) rfl Tryz.func174),Tryz.ntmps174
  go_wp2;go_ret;exact ⟨by simp [h1],rfl⟩
theorem digit_any (n:Nat) (w:World):Calls Mz.prog 175 #[.int .u8 n] w fun e w'=>e=.returned (.bool (decide (48<=n/\n<=57)))/\w'=w:=by
 by_cases h1:48<=n
 ·by_cases h2:n<=57
  ·go_enter (mz_func (i:=175) rfl Tryz.func175),Tryz.ntmps175
   go_wp2;go_ret;exact ⟨by simp [h1,h2];omega,rfl⟩
  ·go_enter (mz_func (i:=175) rfl Tryz.func175),Tryz.ntmps175
   go_wp2;go_ret;exact ⟨by simp [h1,h2];omega,rfl⟩
 ·go_enter (mz_func (i:=175) rfl Tryz.func175),Tryz.ntmps175
  go_wp2;go_ret;exact ⟨by simp [h1],rfl⟩
theorem rIsName_at (s:ByteArray) (w:World) (hs:s.size<=1000000) {t:Bool} (h:isName s.data.toList=t) :
 Calls Mz.prog 160 #[.string s] w fun e w'=>e=.returned (.bool t)/\w'=w:=by
 have H:=Hh h;clear h
 go_enter (mz_func (i:=160) rfl Tryz.func160),Tryz.ntmps160
 go_wp2;go_loop [3] (fun i=>∃ k:Nat,k<=s.size/\i=.int .i64 k/\∀ j,j < k->okAt j (s.data.toList.getD j 0)=true) (fun i=>s.size - (intOf i).toNat)
 case atStart=>exact ⟨0,Nat.zero_le _,rfl,fun j hj=>absurd hj (Nat.not_lt_zero _)⟩
 case round =>
  obtain ⟨k,hk,rfl,hok⟩:=hrel;by_cases hlt:k < s.size
  ·obtain ⟨n,hn⟩:∃ n:Nat,s[k].toNat=n:=⟨_,rfl⟩;have hok1:okAt k (s.data.toList.getD k 0)=okAt k s[k]:=by simp [hlt];rfl
   have hokn:okAt k s[k]=(decide (97<=n/\n<=122) || (decide (0 < k) && decide (48<=n/\n<=57))):=by simp [okAt,letter,digit,hn]
   have H1:=Hh hok1;have H2:=Hh hokn;clear hok1 hokn;have H3:=Hh hok;clear hok;have yes:((97<=n/\n<=122)\/(0 < k/\48<=n/\n<=57))->∀ j,j < k+1->okAt j (s.data.toList.getD j 0)=true:=fun hh j hj=>by
    by_cases hjk:j < k
    ·exact H3.out j hjk
    ·obtain rfl:j=k:=by omega
     rw [H1.out,H2.out];simp;omega
   have no:¬ ((97<=n/\n<=122)\/(0 < k/\48<=n/\n<=57))->t=false:=fun hh=>by
    have h0:okAt k s[k]=false:=by
     rw [H2.out];simp;omega
    rw [<- H.out];simp only [isName,okName];have:((List.range s.data.toList.length).all fun i=>okAt i (s.data.toList.getD i 0))=false:=by
     rw [List.all_eq_false];refine ⟨k,by simpa using hlt,?_⟩;rw [H1.out,h0];simp
    rw [this,Bool.false_and]
   have HY:=Hh yes;have HN:=Hh no;clear yes no;obtain ⟨sb,hsb⟩:∃ sb,decide (97<=n/\n<=122)=sb:=⟨_,rfl⟩;obtain ⟨db,hdb⟩:∃ db,decide (48<=n/\n<=57)=db:=⟨_,rfl⟩;have HS:=Hh hsb;have HD:=Hh hdb;clear hsb hdb;have HSA:=Hh (show ∀ w,Calls Mz.prog 174 #[.int .u8 n] w fun e w'=>e=.returned (.bool sb)/\w'=w from fun w=>by have:=small_any n w;rw [HS.out] at this;exact this);have HDA:=Hh (show ∀ w,Calls Mz.prog 175 #[.int .u8 n] w fun e w'=>e=.returned (.bool db)/\w'=w from fun w=>by have:=digit_any n w;rw [HD.out] at this;exact this);cases sb
   ·have HS2:=Hh (show ¬ (97<=n/\n<=122) by simpa using HS.out);by_cases hk0:k=0
    ·have N:=HN.out (by have:=HS2.out;omega);subst N hk0;go_wp2_with (first | (go_at_call 174;(with_reducible refine (HSA.out _).mono ?_);rintro e w1 ⟨rfl,rfl⟩) | (go_at_call 175;(with_reducible refine (HDA.out _).mono ?_);rintro e w1 ⟨rfl,rfl⟩));go_ret;exact ⟨rfl,rfl⟩
    ·have hk1:((k:Int) == 0)=false:=by simpa using hk0
     cases db
     ·have N:=HN.out (by have:=HS2.out;have:¬ (48<=n/\n<=57):=(by simpa using HD.out);omega);subst N;go_wp2_with (first | (go_at_call 174;(with_reducible refine (HSA.out _).mono ?_);rintro e w1 ⟨rfl,rfl⟩) | (go_at_call 175;(with_reducible refine (HDA.out _).mono ?_);rintro e w1 ⟨rfl,rfl⟩));go_ret;exact ⟨rfl,rfl⟩
     ·have Y:=Hh (HY.out (by have:48<=n/\n<=57:=(by simpa using HD.out);omega));go_wp2_with (first | (go_at_call 174;(with_reducible refine (HSA.out _).mono ?_);rintro e w1 ⟨rfl,rfl⟩) | (go_at_call 175;(with_reducible refine (HDA.out _).mono ?_);rintro e w1 ⟨rfl,rfl⟩));go_round
      case rel=>exact ⟨k+1,hlt,by go_num,Y.out⟩
      case measure=>simp [intOf];omega
   ·have Y:=Hh (HY.out (by have:97<=n/\n<=122:=(by simpa using HS.out);omega));go_wp2_with (first | (go_at_call 174;(with_reducible refine (HSA.out _).mono ?_);rintro e w1 ⟨rfl,rfl⟩) | (go_at_call 175;(with_reducible refine (HDA.out _).mono ?_);rintro e w1 ⟨rfl,rfl⟩));go_round
    case rel=>exact ⟨k+1,hlt,by go_num,Y.out⟩
    case measure=>simp [intOf];omega
  ·have hke:k=s.size:=by omega
   have hN:okName s.data.toList=true:=by
    simp only [okName,List.all_eq_true,List.mem_range];exact fun j hj=>hok j (by rw [hke];simpa using hj)
   have hI:inB s.size 1 9=t:=by rw [<- H.out];simp [isName,hN]
   have HI:=Hh hI;clear hI hN hke hok;go_wp2_with (go_at_call 43;(with_reducible refine (rin_at HI.out).mono ?_);rintro e w' ⟨rfl,rfl⟩);go_ret;exact ⟨rfl,rfl⟩
theorem hasNum_at {la:Option Addr} {lc n:Nat} {l:List Int} {x:Int} {w:World} {t:Bool} (hL:IntsAt w la l) (hn:n=l.length) (hl:l.length<=1000000) (h:decide (x∈l)=t) :
 Calls Mz.prog 41 #[.slice la n lc,.int .i64 x] w fun e w'=>e=.returned (.bool t)/\w'=w:=by
 subst hn;have H:=Hh h;clear h;have HP:=Hh hL;clear hL
 go_enter (mz_func (i:=41) rfl Tryz.func41),Tryz.ntmps41
 go_wp2;go_loop [5] (fun i=>∃ k:Nat,k<=l.length/\i=.int .i64 k/\Hid (x ∉ l.take k)) (fun i=>l.length - (intOf i).toNat)
 case atStart=>exact ⟨0,Nat.zero_le _,rfl,by simp [Hid]⟩
 case round =>
  obtain ⟨k,hk,rfl,hno⟩:=hrel;by_cases hlt:k < l.length
  ·obtain ⟨lb,lo,rfl,hlb,e0⟩:=HP.out k hlt;have htk:=List.take_succ_eq_append_getElem hlt;have hin:l[k]∈l:=List.getElem_mem hlt;generalize l[k]=q at e0 htk hin;have HTK:=Hh htk;have HIN:=Hh hin;clear htk hin;by_cases hq:q=x
   ·subst hq;have ht:t=true:=by rw [<- H.out];simpa using HIN.out
    subst ht;go_wp2;go_ret;exact ⟨rfl,rfl⟩
   ·have hd:(q == x)=false:=by simpa using hq
    have hn2:x ∉ l.take (k+1):=by
     rw [HTK.out];simp only [List.mem_append,List.mem_singleton,not_or];exact ⟨hno.out,fun h=>hq h.symm⟩
    have HN:=Hh hn2;clear hq hn2;go_wp2;go_round
    case rel=>exact ⟨k+1,by omega,by go_num,HN.out⟩
    case measure=>simp [intOf];omega
  ·have ht:t=false:=by
    have:=hno.out;rw [List.take_of_length_le (by omega)] at this;rw [<- H.out];simpa using this
   subst ht;go_wp2;go_ret;exact ⟨rfl,rfl⟩
theorem lesser_at {w:World} {la ma:Option Addr} {ln mn lc mc:Nat} {l m:List Int} (hL:IntsAt w la l) (hM:IntsAt w ma m) (hln:ln=l.length) (hmn:mn=m.length) (hl:l.length<=1000000) (hm:m.length<=1000000) {t:Bool} (ht:lesserI l m=t) :
 Calls Mz.prog 49 #[.slice la ln lc,.slice ma mn mc] w fun e w'=>e=.returned (.bool t)/\Below w.heap.size w w':=by
 subst hln hmn;have HT:=Hh ht;have HL:=Hh hL;have HM:=Hh hM;clear ht hL hM
 go_enter (mz_func (i:=49) rfl Tryz.func49),Tryz.ntmps49
 go_wp2;go_loopw [5] (fun i wr=>∃ (k:Nat),k<=l.length/\k<=m.length/\i=.int .i64 k/\Hid (lesserI (l.drop k) (m.drop k)=t)/\Below w.heap.size w wr) (fun i _=>l.length - (intOf i).toNat)
 case atStart=>exact ⟨0,Nat.zero_le _,Nat.zero_le _,rfl,HT.out,Below.refl _ _⟩
 case round =>
  obtain ⟨k,hk,hkm,rfl,hc,hW⟩:=hrel;have hc:=hc.out;by_cases hlt:k < l.length
  ·obtain ⟨lb,lo,rfl,hlb,e0⟩:=HL.out k hlt;have e0:=(hW.cell hlb).trans e0;have hlb2:lb < wr.heap.size:=Nat.lt_of_lt_of_le hlb hW.size;rw [List.drop_eq_getElem_cons hlt] at hc;by_cases hlm:k < m.length
   ·obtain ⟨mb,mo,rfl,hmb,e1⟩:=HM.out k hlm;have e1:=(hW.cell hmb).trans e1;have hmb2:mb < wr.heap.size:=Nat.lt_of_lt_of_le hmb hW.size;rw [List.drop_eq_getElem_cons hlm] at hc;unfold lesserI at hc;generalize l[k]=x at hc e0;generalize m[k]=y at hc e1;by_cases h1:x=y
    ·rw [if_pos h1] at hc;have HC:=Hh hc;subst h1;clear hc;go_wp2;go_quiet (fail);go_wp2;go_roundw
     case rel=>exact ⟨k+1,by omega,by omega,by go_num,HC.out,bel⟩
     case measure=>simp [intOf];omega
    ·rw [if_neg h1] at hc;have HC:=Hh hc;have hne:(x == y)=false:=by simpa using h1
     clear hc;go_wp2;go_quiet (fail);go_wp2;go_quiet (fail);go_wp2;go_ret;exact ⟨by rw [<- HC.out];rfl,bel⟩
   ·have hmk:m.drop k=[]:=List.drop_eq_nil_of_le (by omega);rw [hmk] at hc;unfold lesserI at hc;subst hc;clear hmk;go_wp2;go_ret;exact ⟨by first | rfl | (simp;done) | (simp;omega),hW⟩
  ·obtain rfl:k=l.length:=by omega
   rw [List.drop_length] at hc;by_cases hlm:l.length < m.length
   ·rw [List.drop_eq_getElem_cons hlm] at hc;unfold lesserI at hc;subst hc;go_wp2;go_ret;exact ⟨by first | rfl | (simp;done) | (simp;omega),hW⟩
   ·rw [List.drop_eq_nil_of_le (by omega)] at hc;unfold lesserI at hc;subst hc;go_wp2;go_ret;exact ⟨by first | rfl | (simp;done) | (simp;omega),hW⟩
theorem lesser_same:∀ {l m:List Int},(!lesserI l m && !lesserI m l)=decide (l=m)
 | [],[]=>by simp [lesserI]
 | [],_::_=>by simp [lesserI]
 | _::_,[]=>by simp [lesserI]
 | x::l,y::m=>by
  unfold lesserI;by_cases h:x=y
  ·subst h;rw [if_pos rfl,if_pos rfl,lesser_same];simp
  ·rw [if_neg h,if_neg (Ne.symm h)];have:¬ (x::l=y::m):=fun e=>h (List.cons.inj e).1;simp only [this,decide_false,Bool.and_eq_false_iff,Bool.not_eq_false',decide_eq_true_eq];omega
theorem sameNums_at {w:World} {la ma:Option Addr} {ln mn lc mc:Nat} {l m:List Int} (hL:IntsAt w la l) (hM:IntsAt w ma m) (hln:ln=l.length) (hmn:mn=m.length) (hl:l.length<=1000000) (hm:m.length<=1000000) {t:Bool} (ht:decide (l=m)=t) :
 Calls Mz.prog 23 #[.slice la ln lc,.slice ma mn mc] w fun e w'=>e=.returned (.bool t)/\Below w.heap.size w w':=by
 rw [<- lesser_same] at ht;have h1:=fun (w':World) (hb:Below w.heap.size w w')=>lesser_at (lc:=lc) (mc:=mc) (hL.below hb) (hM.below hb) hln hmn hl hm rfl;have h2:=fun (w':World) (hb:Below w.heap.size w w')=>lesser_at (lc:=mc) (mc:=lc) (hM.below hb) (hL.below hb) hmn hln hm hl rfl;generalize lesserI l m=x at ht h1;generalize lesserI m l=y at ht h2;have H1:=Hh h1;have H2:=Hh h2;clear h1 h2 hL hM hln hmn hl hm;subst ht;cases x
 all_goals
  go_enter (mz_func (i:=23) rfl Tryz.func23),Tryz.ntmps23
  go_wp2_with (first
   | (go_at_call 49;(with_reducible refine (H1.out _ (bel)).mono ?_);rintro e w1 ⟨rfl,hb1⟩)
   | (go_at_call 49;(with_reducible refine (H2.out _ (bel)).mono ?_);rintro e w2 ⟨rfl,hb2⟩))
  go_ret;exact ⟨by simp,bel⟩
end Mt
end Go.Proofs.YtgkajecjbflbbaaGreatDoor
