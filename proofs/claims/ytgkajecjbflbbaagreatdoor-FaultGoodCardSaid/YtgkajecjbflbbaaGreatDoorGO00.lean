/- FaultGood -/
import Derived.Test.YtgkajecjbflbbaaGreatDoorGBase
set_option maxHeartbeats 4000000
set_option maxRecDepth 100000
set_option linter.all false
namespace Go.Proofs.YtgkajecjbflbbaaGreatDoor
section
open Go Go.RowKit
section
variable {p q:Nat->Prop} {a b c w:World}
theorem KS.drew (p:Nat->Prop) (w:World):KS p w w.drew:=⟨rfl,rfl,rfl,Nat.le_refl _,fun _ _ _=>rfl⟩
end
variable {P:Program}
end
namespace Mt
open Go Go.RowKit Go.Maps
attribute [local go_sem] Oper.semAt_some
section
variable {b:Fbk} {vm vd vt:Value} {w:World}
theorem suspApi_no (hB:FBookAt w b vm vd vt) (hN:∀ m∈b.devs,m.name.size<=1000000) (hA:ActsAt w) {t:Int} (h:openAl b 0=t) (h0:t≠0) :
 Calls Mz.prog 37 #[.agg #[vm,vd,vt]] w fun e w'=>e=.returned (.tuple #[.slice none 0 0,.int .i64 t])/\Below w.heap.size w w':=by
 have HB:=Hh hB;have HN:=Hh hN;have HA:=Hh hA;have H:=Hh h;have hz3:(t != 0)=true:=by simpa using h0
 obtain ⟨rfl,⟨da,dc,rfl,_,_⟩,ta,tc,rfl,_,_⟩:=hB;clear hN h hA
 go_enter (mz_func (i:=37) rfl Tryz.func37),Tryz.ntmps37
 go_wp2_with (go_at_call 64;(with_reducible refine (open_no (HB.out.below (bel)) HN.out (HA.out.below (bel)) (fun _ _=>mz_call84 _ _) nothingC H.out h0).mono ?_);rintro e w1 ⟨rfl,hb1⟩);exact bodyPost_ret (v:=.tuple #[.slice none 0 0,.int .i64 t]) (by simp [results,Tryz.results37,go_sem, *]) rfl ⟨rfl,bel⟩
end
end Mt
namespace Mt
open Go Go.RowKit Go.Maps Go.Conc
attribute [local go_sem] Oper.semAt_some
theorem LB.ivt {b:Fbk} {vm vd vt:Value} {is:List (Option Addr × List Int)} {w:World} (h:LB b vm vd vt is w):Ivt w (LB b vm vd vt is) w:=⟨fun _ _ ha h=>h.alike ha,h,Stays.refl w⟩
end Mt
namespace Mt
open Go Go.RowKit Go.Maps
attribute [local go_sem] Oper.semAt_some
def cellsT (M:Nat->Option Addr × Nat):List Tst->Nat->List Value
 | [],_=>[]
 | t::l,k=>.slice (M k).1 t.path.length (M k).2::.int .i64 t.seen::cellsT M l (k+1)
theorem cellsT_len (M:Nat->Option Addr × Nat):∀ (l:List Tst) (k:Nat),(cellsT M l k).length=l.length * 2
 | [],_=>rfl
 | t::l,k=>by simp [cellsT,cellsT_len M l (k+1)];omega
theorem cellsT_get (M:Nat->Option Addr × Nat):∀ (l:List Tst) (k i:Nat) (h:i < l.length),(cellsT M l k)[i * 2]? = some (.slice (M (k+i)).1 l[i].path.length (M (k+i)).2)/\(cellsT M l k)[i * 2+1]? = some (.int .i64 l[i].seen)
 | t::l,k,0,_=>⟨rfl,rfl⟩
 | t::l,k,i+1,h=>by
  have:=cellsT_get M l (k+1) i (by simpa using h);rw [show (i+1) * 2=i * 2+1+1 by omega,show k+(i+1)=k+1+i by omega];exact this
theorem cellsT_one (M:Nat->Option Addr × Nat):∀ (l:List Tst) (k:Nat),∀ u∈cellsT M l k,u.oneCell'=true
 | [],_,u,h=>by cases h
 | t::l,k,u,h=>by
  simp only [cellsT,List.mem_cons] at h;rcases h with rfl | rfl | h
  ·rfl
  ·rfl
  ·exact cellsT_one M l (k+1) u h
theorem own_lit2 {w:World} {base:Nat} {e:TypeId} {n size:Nat} (hn:n=w.heap.size) (hb:base<=n):(w.alloc (.cells #[] e)).ownsRow base e size (.slice (some ⟨n,0,none⟩) 0 0) 0 []:=by
 subst hn;refine ⟨by simp,.inr ⟨_,0,#[],rfl,hb,?_,Nat.le_refl _,Nat.zero_le _,by simp,by simp⟩⟩;show (w.heap.push _)[w.heap.size]? = _;simp
section
variable {b:Fbk} {vm vd vt:Value} {w:World} {tb to:Nat}
end
end Mt
namespace Mt
open Go Go.RowKit Go.Maps Go.Conc
attribute [local go_sem] Oper.semAt_some
section
variable {P:Program} {K:Frame->List Frame->World->Prop} {b:Frame} {a:Act} {w0 w:World} {I:World->Prop} {k:List Item} {cs:List Frame} {n:Nat} {l:List (Nat × Value)} {D:List Deferred}
end
section
variable {a:Act} {o:Oper} {w:World} {ad:Addr} {v:Value} {x:Operand}
theorem ld_devs (ho:o.op=.load 22 x) (hx:a.eval x=.pointer (some ad)):∀ w:World,w.cell? ad=some v->(execOp a.eval o).run Tryz.prog w=.ok (.value v) w/\∀ e∈(execOp a.eval o).events Tryz.prog w #[],e.loc=.cell ad:=fun w hc=>by
 have e:execOp a.eval o=execOp (fun _=>.pointer (some ad)) { o with op:=.load 22 x }:=by unfold execOp;rw [ho];simp only [hx]
 rw [e];exact ⟨by simp [go_sem,hc],by simp [go_sem,hc]⟩
end
end Mt
namespace Mt
open Go Go.RowKit Go.Maps
attribute [local go_sem] Oper.semAt_some
section
variable {w:World} {a c:Option Addr} {l m:List Int} {ac cc:Nat}
theorem insideL_at (hL:IntsAt w a l) (hM:IntsAt w c m) (hl:l.length<=1000000) (hm:m.length<=1000000) {t:Bool} (h:(l.all fun x=>decide (x∈m))=t) :
 Calls Mz.prog 54 #[.slice a l.length ac,.slice c m.length cc] w fun e w'=>e=.returned (.bool t)/\w'=w:=by
 have HL:=Hh hL;have HM:=Hh hM;have H:=Hh h;clear hL hM h
 go_enter (mz_func (i:=54) rfl Tryz.func54),Tryz.ntmps54
 go_wp2;go_loopw [5] (fun i wr=>∃ j:Nat,j<=l.length/\i=.int .i64 (j:Int)/\Hid (∀ x∈l.take j,x∈m)/\wr=w) (fun i _=>l.length - (intOf i).toNat)
 case atStart=>exact ⟨0,Nat.zero_le _,rfl,by simp [Hid],rfl⟩
 case round =>
  obtain ⟨j,hj,rfl,hin,rfl⟩:=hrel;by_cases hlt:j < l.length
  ·obtain ⟨pb,po,rfl,hpb,e0⟩:=HL.out j hlt;obtain ⟨x,hx⟩:∃ x,l[j]=x:=⟨_,rfl⟩;have htk:=List.take_succ_eq_append_getElem hlt;have hmem:l[j]∈l:=List.getElem_mem hlt;rw [hx] at e0 htk hmem;have HTK:=Hh htk;have HMEM:=Hh hmem;clear hx htk hmem;have hltI:(j:Int) < (l.length:Int):=by omega
   by_cases hxm:x∈m
   ·have HX:=Hh hxm;have HD:=Hh (show decide (x∈m)=true by simp [hxm]);clear hxm;go_wp2_with (go_at_call 41;(with_reducible refine (hasNum_at (lc:=cc) HM.out rfl hm HD.out).mono ?_);rintro e w' ⟨rfl,rfl⟩);go_roundw
    case rel =>
     refine ⟨j+1,hlt,by go_num,fun y hy=>?_,by first | rfl | trivial⟩;rw [HTK.out] at hy;rcases List.mem_append.1 hy with hy | hy
     ·exact hin y hy
     ·rw [List.mem_singleton.1 hy];exact HX.out
    case measure=>simp [intOf];omega
   ·have HD:=Hh (show decide (x∈m)=false by simp [hxm]);have ht:t=false:=by
     rw [<- H.out,Bool.eq_false_iff];intro ha;rw [List.all_eq_true] at ha;have:=ha x HMEM.out;simp [hxm] at this
    subst ht;clear hxm;go_wp2_with (go_at_call 41;(with_reducible refine (hasNum_at (lc:=cc) HM.out rfl hm HD.out).mono ?_);rintro e w' ⟨rfl,rfl⟩);go_ret;exact ⟨rfl,by first | rfl | trivial⟩
  ·obtain rfl:j=l.length:=by omega
   have ht:t=true:=by
    rw [<- H.out,List.all_eq_true];intro x hx;have:=hin x (by rw [List.take_length];exact hx);simpa using this
   subst ht;go_wp2;go_ret;exact ⟨rfl,by first | rfl | trivial⟩
end
attribute [local go_sem] Oper.semAt_some
def NewRow (w w':World) (g:Option Addr) (n:Nat) (news:List Value):Prop:=0 < n->∃ r,g=some ⟨r,0,none⟩/\w.heap.size<=r/\r < w'.heap.size/\(∀ k,w'.frozen? ⟨r,k,none⟩=false)/\∀ j u,news[j]? = some u->w'.cell? ⟨r,j,none⟩=some u
theorem new_row {w w':World} {e:TypeId} {k n c:Nat} {a:Option Addr} {news:List Value} (h:w'.ownsRow w.heap.size e k (.slice a n c) n news):NewRow w w' a n news:=fun hn=>by
 obtain ⟨_,⟨_,h2⟩ | ⟨g,cap,cur,e1,e2,e3,e4,e5,e6,e7⟩⟩:=h
 ·omega
 ·cases e1;refine ⟨g,rfl,e2,(Array.getElem?_eq_some_iff.1 e3).1,fun k=>by unfold World.frozen?;rw [e3];simp,fun j u hj=>?_⟩;rw [<- e7,List.getElem?_take] at hj;split at hj
  ·unfold World.cell?;rw [e3];simpa using hj
  ·cases hj
theorem new_le {w w':World} {e:TypeId} {k n c:Nat} {a:Option Addr} {news:List Value} (h:w'.ownsRow w.heap.size e k (.slice a n c) n news):n<=c:=by
 obtain ⟨_,⟨e1,h2⟩ | ⟨g,cap,cur,e1,_,_,h1,_⟩⟩:=h
 ·omega
 ·cases e1;exact h1
theorem devInfo:(Mz.prog.info? 74).map (fun i=>(i.zero,i.size,i.bytes))=some (some (.agg #[.string ByteArray.empty,.bool false,.bool false,.int .i64 0]),4,32):=by kernel_rfl
theorem cloneD_at {w:World} {a:Option Addr} {n c:Nat} {news:List Value} (hl:news.length=n * 4) (hn:n<=20) (h0:a=none->n=0) (hs:∀ ad,a=some ad->∀ j u,news[j]? = some u->w.cell? (ad.add j)=some u) (hblk:∀ ad,a=some ad->0 < n->ad.block < w.heap.size) (h1:∀ u∈news,u.oneCell'=true) :
 Calls Mz.prog 156 #[.slice a n c] w fun e w'=>∃ g c',e=.returned (.slice g n c')/\n<=c'/\NewRow w w' g n news/\Below w.heap.size w w':=by
 cases a with
 | none =>
  obtain rfl:=h0 rfl;obtain rfl:news=[]:=List.eq_nil_of_length_eq_zero (hl.trans (Nat.zero_mul _));have hnil:=fun W=>Lib.run_eql_slice_nil (P:=Mz.prog) W 22 74 none 0 c 0 0 (mzu Tryz.underlying22);simp only [Option.isNone_none] at hnil;clear hs hl hblk h1
  go_enter (mz_func (i:=156) rfl Tryz.func156),Tryz.ntmps156
  go_wp2;exact bodyPost_ret (v:=.slice none 0 0) (by simp [results,Tryz.results156,go_sem, *]) rfl ⟨none,⟨0,rfl⟩,fun h=>absurd h (Nat.lt_irrefl _),Below.refl _ _⟩
 | some ad =>
  have hb0:=hblk ad rfl;have HS:=Hh (show ∀ W,Below w.heap.size w W->∀ j u,news[j]? = some u->W.cell? (ad.add j)=some u from fun W hb j u hj=>by
   have hp:0 < n:=by
    have:=(List.getElem?_eq_some_iff.1 hj).1
    rcases Nat.eq_zero_or_pos n with e | e
    ·subst e;omega
    ·exact e
   exact (hb.cell (p:=ad.add j) (by unfold Addr.add;split <;> exact hb0 hp)).trans (hs ad rfl j u hj))
  have H1:=Hh h1;have HL:=Hh hl;have hnil:=fun W=>Lib.run_eql_slice_nil (P:=Mz.prog) W 22 74 (some ad) n c 0 0 (mzu Tryz.underlying22);simp only [Option.isNone_some] at hnil;obtain ⟨i0,hi,hz0,hz1,hz2⟩:=info_parts devInfo;clear hs h1 hl hblk h0
  go_enter (mz_func (i:=156) rfl Tryz.func156),Tryz.ntmps156
  go_wp2_with (at_builtin;go_loud (refine wpList_append_own _ rfl _ _ 22 rfl w.heap.size 74 i0 _ 4 32 (mzu Tryz.underlying22) hi hz0 hz1 hz2 rfl (by decide) (.slice (some ⟨w.heap.size,0,none⟩) 0 0) 0 [] rfl (own_lit2 rfl (Nat.le_refl _)) ad n c news rfl HL.out (HS.out _ (Below.al (Below.refl _ _) _)) H1.out (by unfold maxLen;omega) (by omega) (by simp) ?_;intro v' w1 hown hgrow _;obtain ⟨a',c',rfl⟩:=ownsRow_slice hown));simp only [Nat.zero_add,List.nil_append] at hown;have hb:Below w.heap.size w w1:=KS.to_below ((KS.alloc (fun k=>k < w.heap.size) w _).trans (KS.grown (r:=w.heap.size) hgrow (by simp))) (Nat.le_refl _);exact bodyPost_ret (v:=.slice a' n c') (by simp [results,Tryz.results156,go_sem, *]) rfl ⟨a',c',rfl,new_le hown,new_row hown,hb⟩
theorem tstInfo2:(Mz.prog.info? 61).map (fun i=>(i.zero,i.size,i.bytes))=some (some (.agg #[.slice none 0 0,.int .i64 0]),2,32):=by kernel_rfl
theorem cloneT_at {w:World} {a:Option Addr} {n c:Nat} {news:List Value} (hl:news.length=n * 2) (hn:n<=20) (h0:a=none->n=0) (hs:∀ ad,a=some ad->∀ j u,news[j]? = some u->w.cell? (ad.add j)=some u) (hblk:∀ ad,a=some ad->0 < n->ad.block < w.heap.size) (h1:∀ u∈news,u.oneCell'=true) :
 Calls Mz.prog 157 #[.slice a n c] w fun e w'=>∃ g c',e=.returned (.slice g n c')/\n<=c'/\NewRow w w' g n news/\Below w.heap.size w w':=by
 cases a with
 | none =>
  obtain rfl:=h0 rfl;obtain rfl:news=[]:=List.eq_nil_of_length_eq_zero (hl.trans (Nat.zero_mul _));have hnil:=fun W=>Lib.run_eql_slice_nil (P:=Mz.prog) W 23 61 none 0 c 0 0 (mzu Tryz.underlying23);simp only [Option.isNone_none] at hnil;clear hs hl hblk h1
  go_enter (mz_func (i:=157) rfl Tryz.func157),Tryz.ntmps157
  go_wp2;exact bodyPost_ret (v:=.slice none 0 0) (by simp [results,Tryz.results157,go_sem, *]) rfl ⟨none,⟨0,rfl⟩,fun h=>absurd h (Nat.lt_irrefl _),Below.refl _ _⟩
 | some ad =>
  have hb0:=hblk ad rfl;have HS:=Hh (show ∀ W,Below w.heap.size w W->∀ j u,news[j]? = some u->W.cell? (ad.add j)=some u from fun W hb j u hj=>by
   have hp:0 < n:=by
    have:=(List.getElem?_eq_some_iff.1 hj).1
    rcases Nat.eq_zero_or_pos n with e | e
    ·subst e;omega
    ·exact e
   exact (hb.cell (p:=ad.add j) (by unfold Addr.add;split <;> exact hb0 hp)).trans (hs ad rfl j u hj))
  have H1:=Hh h1;have HL:=Hh hl;have hnil:=fun W=>Lib.run_eql_slice_nil (P:=Mz.prog) W 23 61 (some ad) n c 0 0 (mzu Tryz.underlying23);simp only [Option.isNone_some] at hnil;obtain ⟨i0,hi,hz0,hz1,hz2⟩:=info_parts tstInfo2;clear hs h1 hl hblk h0
  go_enter (mz_func (i:=157) rfl Tryz.func157),Tryz.ntmps157
  go_wp2_with (at_builtin;go_loud (refine wpList_append_own _ rfl _ _ 23 rfl w.heap.size 61 i0 _ 2 32 (mzu Tryz.underlying23) hi hz0 hz1 hz2 rfl (by decide) (.slice (some ⟨w.heap.size,0,none⟩) 0 0) 0 [] rfl (own_lit2 rfl (Nat.le_refl _)) ad n c news rfl HL.out (HS.out _ (Below.al (Below.refl _ _) _)) H1.out (by unfold maxLen;omega) (by omega) (by simp) ?_;intro v' w1 hown hgrow _;obtain ⟨a',c',rfl⟩:=ownsRow_slice hown));simp only [Nat.zero_add,List.nil_append] at hown;have hb:Below w.heap.size w w1:=KS.to_below ((KS.alloc (fun k=>k < w.heap.size) w _).trans (KS.grown (r:=w.heap.size) hgrow (by simp))) (Nat.le_refl _);exact bodyPost_ret (v:=.slice a' n c') (by simp [results,Tryz.results157,go_sem, *]) rfl ⟨a',c',rfl,new_le hown,new_row hown,hb⟩
theorem cloneI_at {w:World} {a:Option Addr} {n c:Nat} {news:List Value} (hl:news.length=n * 1) (hn:n<=20) (h0:a=none->n=0) (hs:∀ ad,a=some ad->∀ j u,news[j]? = some u->w.cell? (ad.add j)=some u) (hblk:∀ ad,a=some ad->0 < n->ad.block < w.heap.size) (h1:∀ u∈news,u.oneCell'=true) :
 Calls Mz.prog 115 #[.slice a n c] w fun e w'=>∃ g c',e=.returned (.slice g n c')/\n<=c'/\NewRow w w' g n news/\Below w.heap.size w w':=by
 cases a with
 | none =>
  obtain rfl:=h0 rfl;obtain rfl:news=[]:=List.eq_nil_of_length_eq_zero (hl.trans (Nat.zero_mul _));have hnil:=fun W=>Lib.run_eql_slice_nil (P:=Mz.prog) W 26 3 none 0 c 0 0 (mzu Tryz.underlying26);simp only [Option.isNone_none] at hnil;clear hs hl hblk h1
  go_enter (mz_func (i:=115) rfl Tryz.func115),Tryz.ntmps115
  go_wp2;exact bodyPost_ret (v:=.slice none 0 0) (by simp [results,Tryz.results115,go_sem, *]) rfl ⟨none,⟨0,rfl⟩,fun h=>absurd h (Nat.lt_irrefl _),Below.refl _ _⟩
 | some ad =>
  have hb0:=hblk ad rfl;have HS:=Hh (show ∀ W,Below w.heap.size w W->∀ j u,news[j]? = some u->W.cell? (ad.add j)=some u from fun W hb j u hj=>by
   have hp:0 < n:=by
    have:=(List.getElem?_eq_some_iff.1 hj).1
    rcases Nat.eq_zero_or_pos n with e | e
    ·subst e;omega
    ·exact e
   exact (hb.cell (p:=ad.add j) (by unfold Addr.add;split <;> exact hb0 hp)).trans (hs ad rfl j u hj))
  have H1:=Hh h1;have HL:=Hh hl;have hnil:=fun W=>Lib.run_eql_slice_nil (P:=Mz.prog) W 26 3 (some ad) n c 0 0 (mzu Tryz.underlying26);simp only [Option.isNone_some] at hnil;obtain ⟨i0,hi,hz0,hz1,hz2⟩:=info_parts mz_intInfo;clear hs h1 hl hblk h0
  go_enter (mz_func (i:=115) rfl Tryz.func115),Tryz.ntmps115
  go_wp2_with (at_builtin;go_loud (refine wpList_append_own _ rfl _ _ 26 rfl w.heap.size 3 i0 _ 1 8 (mzu Tryz.underlying26) hi hz0 hz1 hz2 rfl (by decide) (.slice (some ⟨w.heap.size,0,none⟩) 0 0) 0 [] rfl (own_lit2 rfl (Nat.le_refl _)) ad n c news rfl HL.out (HS.out _ (Below.al (Below.refl _ _) _)) H1.out (by unfold maxLen;omega) (by omega) (by simp) ?_;intro v' w1 hown hgrow _;obtain ⟨a',c',rfl⟩:=ownsRow_slice hown));simp only [Nat.zero_add,List.nil_append] at hown;have hb:Below w.heap.size w w1:=KS.to_below ((KS.alloc (fun k=>k < w.heap.size) w _).trans (KS.grown (r:=w.heap.size) hgrow (by simp))) (Nat.le_refl _);exact bodyPost_ret (v:=.slice a' n c') (by simp [results,Tryz.results115,go_sem, *]) rfl ⟨a',c',rfl,new_le hown,new_row hown,hb⟩
attribute [local go_sem] Oper.semAt_some
def cellsD:List Dev->List Value
 | []=>[]
 | d::l=>.string d.name::.bool d.held::.bool d.blind::.int .i64 d.time::cellsD l
theorem cellsD_len:∀ l:List Dev,(cellsD l).length=l.length * 4
 | []=>rfl
 | d::l=>by simp [cellsD,cellsD_len l];omega
theorem cellsD_get:∀ (l:List Dev) (i:Nat) (h:i < l.length),(cellsD l)[i * 4]? = some (.string l[i].name)/\(cellsD l)[i * 4+1]? = some (.bool l[i].held)/\(cellsD l)[i * 4+2]? = some (.bool l[i].blind)/\(cellsD l)[i * 4+3]? = some (.int .i64 l[i].time)
 | d::l,0,_=>⟨rfl,rfl,rfl,rfl⟩
 | d::l,i+1,h=>by
  have:=cellsD_get l i (by simpa using h);rw [show (i+1) * 4=i * 4+1+1+1+1 by omega];exact this
theorem cellsD_one:∀ (l:List Dev),∀ u∈cellsD l,u.oneCell'=true
 | [],u,h=>by cases h
 | d::l,u,h=>by
  simp only [cellsD,List.mem_cons] at h;rcases h with rfl | rfl | rfl | rfl | h
  ·rfl
  ·rfl
  ·rfl
  ·rfl
  ·exact cellsD_one l u h
theorem NewRow.below {w w1 w2:World} {g:Option Addr} {n:Nat} {l:List Value} (h:NewRow w w1 g n l) (hb:Below w1.heap.size w1 w2):NewRow w w2 g n l:=fun hn=>by
 obtain ⟨r,h1,h2,h3,h4,h5⟩:=h hn;exact ⟨r,h1,h2,Nat.lt_of_lt_of_le h3 hb.size,fun k=>(hb.frozen (p:=⟨r,k,none⟩) h3).trans (h4 k),fun j u hj=>(hb.cell (p:=⟨r,j,none⟩) h3).trans (h5 j u hj)⟩
theorem NewRow.low {w w1 w2:World} {g:Option Addr} {n:Nat} {l:List Value} (h:NewRow w1 w2 g n l) (hs:w.heap.size<=w1.heap.size):NewRow w w2 g n l:=fun hn=>by
 obtain ⟨r,h1,h2,h3⟩:=h hn;exact ⟨r,h1,Nat.le_trans hs h2,h3⟩
section
variable {b:Fbk} {vm vd vt:Value} {w:World}
theorem dev_src {a:Option Addr} (h:DevsAt w a b.devs):(a=none->b.devs.length=0)/\(∀ ad,a=some ad->∀ j u,(cellsD b.devs)[j]? = some u->w.cell? (ad.add j)=some u)/\∀ ad,a=some ad->0 < b.devs.length->ad.block < w.heap.size:=by
 refine ⟨fun e=>?_,fun ad e j u hj=>?_,fun ad e h0=>?_⟩
 ·rcases Nat.eq_zero_or_pos b.devs.length with h0 | h0
  ·exact h0
  ·obtain ⟨_,_,e',_⟩:=h 0 h0;rw [e] at e';cases e'
 ·have hl:j < b.devs.length * 4:=by
   have:=(List.getElem?_eq_some_iff.1 hj).1
   rwa [cellsD_len] at this
  obtain ⟨q,hq⟩:∃ q,j=q * 4\/j=q * 4+1\/j=q * 4+2\/j=q * 4+3:=⟨j / 4,by omega⟩;have hql:q < b.devs.length:=by omega
  obtain ⟨r,o,e',hr,k0,k1,k2,k3⟩:=h q hql;rw [e] at e';cases e';rw [add_off];have hg:=cellsD_get b.devs q hql;rcases hq with rfl | rfl | rfl | rfl
  ·rw [hg.1] at hj;cases hj;exact k0
  ·rw [hg.2.1] at hj;cases hj;exact k1
  ·rw [hg.2.2.1] at hj;cases hj;exact k2
  ·rw [hg.2.2.2] at hj;cases hj;exact k3
 ·obtain ⟨r,o,e',hr,_⟩:=h 0 h0;rw [e] at e';cases e';exact hr
theorem tst_src {a:Option Addr} (h:TestsAt w a b.tests):∃ M:Nat->Option Addr × Nat,(∀ k (h:k < b.tests.length),b.tests[k].path.length<=(M k).2/\b.tests[k].path.length<=1000000/\IntsAt w (M k).1 b.tests[k].path) /\
 (a=none->b.tests.length=0)/\(∀ ad,a=some ad->∀ j u,(cellsT M b.tests 0)[j]? = some u->w.cell? (ad.add j)=some u)/\∀ ad,a=some ad->0 < b.tests.length->ad.block < w.heap.size:=by
 rcases Nat.eq_zero_or_pos b.tests.length with h0 | h0
 ·refine ⟨fun _=>(none,0),fun k hk=>by omega,fun _=>h0,fun ad _ j u hj=>?_,fun ad _ hp=>by omega⟩;have:=(List.getElem?_eq_some_iff.1 hj).1;rw [cellsT_len] at this;omega
 ·obtain ⟨tb,to,rfl,htb,_⟩:=h 0 h0;obtain ⟨M,hM⟩:=Deep.choose_lt (α:=Option Addr × Nat) (n:=b.tests.length) (p:=fun k m=>∀ h:k < b.tests.length,w.cell? ⟨tb,to+k * 2,none⟩=some (.slice m.1 b.tests[k].path.length m.2)/\b.tests[k].path.length<=m.2/\b.tests[k].path.length<=1000000/\IntsAt w m.1 b.tests[k].path/\w.cell? ⟨tb,to+k * 2+1,none⟩=some (.int .i64 b.tests[k].seen)) (fun k hk=>by
   obtain ⟨b',o',e,_,pa,pc,h1,h2,h3,h4,h5⟩:=h k hk
   cases e
   exact ⟨(pa,pc),fun _=>⟨h1,h2,h3,h4,h5⟩⟩)
  refine ⟨M,fun k hk=>⟨(hM k hk hk).2.1,(hM k hk hk).2.2.1,(hM k hk hk).2.2.2.1⟩,fun e=>(by cases e),fun ad e j u hj=>?_,fun ad e _=>(by cases e;exact htb)⟩;cases e;rw [add_off];have hl:=(List.getElem?_eq_some_iff.1 hj).1;rw [cellsT_len] at hl;obtain ⟨q,hq⟩:∃ q,j=q * 2\/j=q * 2+1:=⟨j / 2,by omega⟩;have hql:q < b.tests.length:=by omega
  obtain ⟨h1,_,_,_,h5⟩:=hM q hql hql;have hg:=cellsT_get M b.tests 0 q hql;rw [Nat.zero_add] at hg;rcases hq with rfl | rfl
  ·rw [hg.1] at hj;cases hj;exact h1
  ·rw [hg.2] at hj;cases hj;exact h5
theorem NewRow.ks {w w1 w2:World} {p:Nat->Prop} {g:Option Addr} {n:Nat} {l:List Value} (h:NewRow w w1 g n l) (hk:KS p w1 w2) (hp:∀ r,w.heap.size<=r->p r):NewRow w w2 g n l:=fun hn=>by
 obtain ⟨r,h1,h2,h3,h4,h5⟩:=h hn;exact ⟨r,h1,h2,Nat.lt_of_lt_of_le h3 hk.size,fun k=>(hk.frozen (x:=⟨r,k,none⟩) h3 (hp r h2)).trans (h4 k),fun j u hj=>(hk.cell (x:=⟨r,j,none⟩) h3 (hp r h2)).trans (h5 j u hj)⟩
structure CopyInv (w A:World) (b:Fbk) (M:Nat->Option Addr × Nat) (g1 g2:Option Addr) (c1 c2 k:Nat) (W:World):Prop where
 bel:Below w.heap.size w W
 size:A.heap.size<=W.heap.size
 b0:W.cell? ⟨w.heap.size,0,none⟩=some (.int .i64 b.most)
 b1:W.cell? ⟨w.heap.size,1,none⟩=some (.slice g1 b.devs.length c1)
 b2:W.cell? ⟨w.heap.size,2,none⟩=some (.slice g2 b.tests.length c2)
 r0:W.cell? ⟨w.heap.size+1,0,none⟩=some (.int .i64 0)
 r1:W.cell? ⟨w.heap.size+1,1,none⟩=some (.slice none 0 0)
 r2:W.cell? ⟨w.heap.size+1,2,none⟩=some (.slice none 0 0)
 rf:∀ x,W.frozen? ⟨w.heap.size+1,x,none⟩=false
 dev:NewRow A W g1 b.devs.length (cellsD b.devs)
 ne:0 < b.devs.length->0 < b.tests.length->g1≠g2
 tst:0 < b.tests.length->∃ r,g2=some ⟨r,0,none⟩/\A.heap.size<=r/\r < W.heap.size/\(∀ x,W.frozen? ⟨r,x,none⟩=false)/\∀ q (h:q < b.tests.length),W.cell? ⟨r,q * 2+1,none⟩=some (.int .i64 b.tests[q].seen)/\(q < k->∃ pa pc,W.cell? ⟨r,q * 2,none⟩=some (.slice pa b.tests[q].path.length pc)/\b.tests[q].path.length<=pc/\NewRow A W pa b.tests[q].path.length (b.tests[q].path.map (Value.int .i64))/\(0 < b.tests[q].path.length->pa≠some ⟨r,0,none⟩/\(0 < b.devs.length->pa≠g1)))/\(k<=q->W.cell? ⟨r,q * 2,none⟩=some (.slice (M q).1 b.tests[q].path.length (M q).2))
theorem copy_start {w A w4:World} {b:Fbk} {M:Nat->Option Addr × Nat} {g1 g2 da ta:Option Addr} {c1 c2 dc tc:Nat} (hbA:Below w.heap.size w A) (hsA:A.heap.size=w.heap.size+2) (x1:∀ k u,(#[.int .i64 b.most,.slice da b.devs.length dc,.slice ta b.tests.length tc]:Array Value)[k]? = some u->A.cell? ⟨w.heap.size,k,none⟩=some u) (x2:∀ k u,(#[.int .i64 0,.slice none 0 0,.slice none 0 0]:Array Value)[k]? = some u->A.cell? ⟨w.heap.size+1,k,none⟩=some u)
 (f2:∀ k,A.frozen? ⟨w.heap.size+1,k,none⟩=false) (hb4:Below A.heap.size A w4) (hr1:NewRow A w4 g1 b.devs.length (cellsD b.devs)) (hr2:NewRow A w4 g2 b.tests.length (cellsT M b.tests 0)) (hne:0 < b.devs.length->0 < b.tests.length->g1≠g2) :
 CopyInv w A b M g1 g2 c1 c2 0 ((w4.setCell ⟨w.heap.size,1,none⟩ (.slice g1 b.devs.length c1)).setCell ⟨w.heap.size,2,none⟩ (.slice g2 b.tests.length c2)):=by
 have hk:KS (fun r=>r≠w.heap.size) w4 ((w4.setCell ⟨w.heap.size,1,none⟩ (.slice g1 b.devs.length c1)).setCell ⟨w.heap.size,2,none⟩ (.slice g2 b.tests.length c2)):=(KS.setCell (by simp) _ _).trans (KS.setCell (by simp) _ _);have hc:∀ k u,A.cell? ⟨w.heap.size,k,none⟩=some u->w4.cell? ⟨w.heap.size,k,none⟩=some u:=fun k u e=>(hb4.cell (p:=⟨w.heap.size,k,none⟩) (by simp;omega)).trans e;have hr:∀ k u,A.cell? ⟨w.heap.size+1,k,none⟩=some u->((w4.setCell ⟨w.heap.size,1,none⟩ (.slice g1 b.devs.length c1)).setCell ⟨w.heap.size,2,none⟩ (.slice g2 b.tests.length c2)).cell? ⟨w.heap.size+1,k,none⟩=some u:=fun k u e=>(hk.cell (x:=⟨w.heap.size+1,k,none⟩) (by have:=hb4.size;simp;omega) (by simp)).trans ((hb4.cell (p:=⟨w.heap.size+1,k,none⟩) (by simp;omega)).trans e);refine ⟨Below.setCell (Below.setCell (Below.next hbA hb4) (by simp) _) (by simp) _,Nat.le_trans hb4.size hk.size,?_,?_,?_,hr 0 _ (x2 0 _ rfl),hr 1 _ (x2 1 _ rfl),hr 2 _ (x2 2 _ rfl),fun x=>?_,hr1.ks hk (fun r h=>by omega),hne,fun h0=>?_⟩
 ·rw [World.cell?_setCell_other (h:=by simp),World.cell?_setCell_other (h:=by simp)];exact hc 0 _ (x1 0 _ rfl)
 ·rw [World.cell?_setCell_other (h:=by simp)];exact World.cell?_setCell_same' _ _ _ (by rw [hc 1 _ (x1 1 _ rfl)];rfl)
 ·exact World.cell?_setCell_same' _ _ _ (by rw [World.cell?_setCell_other (h:=by simp),hc 2 _ (x1 2 _ rfl)];rfl)
 ·exact (hk.frozen (x:=⟨w.heap.size+1,x,none⟩) (by have:=hb4.size;simp;omega) (by simp)).trans ((hb4.frozen (p:=⟨w.heap.size+1,x,none⟩) (by simp;omega)).trans (f2 x))
 ·obtain ⟨r,h1,h2,h3,h4,h5⟩:=hr2.ks hk (fun r h=>by omega) h0;refine ⟨r,h1,h2,h3,h4,fun q hq=>?_⟩;have hg:=cellsT_get M b.tests 0 q hq;rw [Nat.zero_add] at hg;exact ⟨h5 _ _ hg.2,fun h=>absurd h (Nat.not_lt_zero _),fun _=>h5 _ _ hg.1⟩
theorem ints_new {w w':World} {g:Option Addr} {l:List Int} (h:NewRow w w' g l.length (l.map (Value.int .i64))):IntsAt w' g l:=fun i hi=>by
 obtain ⟨r,h1,_,h3,_,h5⟩:=h (by omega);exact ⟨r,0,h1,h3,by rw [Nat.zero_add];exact h5 i _ (by simp [hi])⟩
theorem copy_step {w A W w5:World} {b:Fbk} {M:Nat->Option Addr × Nat} {g1 p1:Option Addr} {r c1 c2 k x:Nat} (h:CopyInv w A b M g1 (some ⟨r,0,none⟩) c1 c2 k W) (hsA:A.heap.size=w.heap.size+2) (hrA:A.heap.size<=r) (hk:k < b.tests.length) (hb:Below W.heap.size W w5) (hx:b.tests[k].path.length<=x) (hp:NewRow W w5 p1 b.tests[k].path.length (b.tests[k].path.map (Value.int .i64))) :
 CopyInv w A b M g1 (some ⟨r,0,none⟩) c1 c2 (k+1) (w5.setCell ⟨r,k * 2,none⟩ (.slice p1 b.tests[k].path.length x)):=by
 obtain ⟨r',e,h2,h3,h4,h5⟩:=h.tst (by omega);cases e;have hs:=h.size;have hK:KS (fun y=>y≠r) w5 (w5.setCell ⟨r,k * 2,none⟩ (.slice p1 b.tests[k].path.length x)):=KS.setCell (by simp) _ _;have hc:∀ B o u,B < A.heap.size->W.cell? ⟨B,o,none⟩=some u->(w5.setCell ⟨r,k * 2,none⟩ (.slice p1 b.tests[k].path.length x)).cell? ⟨B,o,none⟩=some u:=fun B o u hB e=>(hK.cell (x:=⟨B,o,none⟩) (by have:=hb.size;simp;omega) (by simp;omega)).trans ((hb.cell (p:=⟨B,o,none⟩) (by simp;omega)).trans e);have hw5:∀ o,w5.cell? ⟨r,o,none⟩=W.cell? ⟨r,o,none⟩:=fun o=>hb.cell (p:=⟨r,o,none⟩) h3;have ho:∀ o,o≠k * 2->(w5.setCell ⟨r,k * 2,none⟩ (.slice p1 b.tests[k].path.length x)).cell? ⟨r,o,none⟩=W.cell? ⟨r,o,none⟩:=fun o hne=>by
  rw [World.cell?_setCell_other (h:=fun e=>by injection e with _ e;exact hne e.symm)];exact hw5 o
 have hbel:=Below.setCell (p:=⟨r,k * 2,none⟩) (Below.next h.bel hb) (by simp;omega) (.slice p1 b.tests[k].path.length x);have hp':NewRow W (w5.setCell ⟨r,k * 2,none⟩ (.slice p1 b.tests[k].path.length x)) p1 b.tests[k].path.length (b.tests[k].path.map (Value.int .i64)):=hp.ks hK (fun y hy=>by omega);refine ⟨hbel,Nat.le_trans hs (Nat.le_trans hb.size hK.size),hc _ _ _ (by omega) h.b0,hc _ _ _ (by omega) h.b1,hc _ _ _ (by omega) h.b2,hc _ _ _ (by omega) h.r0,hc _ _ _ (by omega) h.r1,hc _ _ _ (by omega) h.r2,fun y=>?_,fun h0=>?_,h.ne,fun _=>⟨r,rfl,h2,Nat.lt_of_lt_of_le h3 (Nat.le_trans hb.size hK.size),fun y=>?_,fun q hq=>⟨?_,fun hqk=>?_,fun hqk=>?_⟩⟩⟩
 ·exact (hK.frozen (x:=⟨w.heap.size+1,y,none⟩) (by have:=hb.size;simp;omega) (by simp;omega)).trans ((hb.frozen (p:=⟨w.heap.size+1,y,none⟩) (by simp;omega)).trans (h.rf y))
 ·obtain ⟨r1,e1,k2,k3,k4,k5⟩:=h.dev h0;have hne:r1≠r:=fun e=>h.ne h0 (by omega) (by rw [e1,e]);exact ⟨r1,e1,k2,Nat.lt_of_lt_of_le k3 (Nat.le_trans hb.size hK.size),fun y=>(hK.frozen (x:=⟨r1,y,none⟩) (Nat.lt_of_lt_of_le k3 hb.size) hne).trans ((hb.frozen (p:=⟨r1,y,none⟩) k3).trans (k4 y)),fun j u hj=>(hK.cell (x:=⟨r1,j,none⟩) (Nat.lt_of_lt_of_le k3 hb.size) hne).trans ((hb.cell (p:=⟨r1,j,none⟩) k3).trans (k5 j u hj))⟩
 ·rw [World.frozen?_setCell];exact (hb.frozen (p:=⟨r,y,none⟩) h3).trans (h4 y)
 ·rw [ho _ (by omega)];exact (h5 q hq).1
 ·by_cases e:q=k
  ·subst e;refine ⟨p1,x,World.cell?_setCell_same' _ _ _ (by rw [hw5,(h5 q hq).2.2 (Nat.le_refl _)];rfl),hx,hp'.low hs,fun h0=>⟨fun e=>?_,fun hd e=>?_⟩⟩
   ·obtain ⟨y,e1,e2,_⟩:=hp h0;rw [e1] at e;injection e with e;injection e with e;omega
   ·obtain ⟨y,e1,e2,_⟩:=hp h0;obtain ⟨y',e3,_,e4,_⟩:=h.dev hd;rw [e1,e3] at e;injection e with e;injection e with e;omega
  ·obtain ⟨pa,pc,k1,k2,k3,k4⟩:=(h5 q hq).2.1 (by omega);refine ⟨pa,pc,by rw [ho _ (by omega)];exact k1,k2,fun hi=>?_,k4⟩;obtain ⟨pb,e1,e2,e3,e4,e5⟩:=k3 hi;refine ⟨pb,e1,e2,Nat.lt_of_lt_of_le e3 (Nat.le_trans hb.size hK.size),fun y=>?_,fun j u hj=>?_⟩
   ·rw [World.frozen?_setCell];exact (hb.frozen (p:=⟨pb,y,none⟩) e3).trans (e4 y)
   ·have hpr:pb≠r\/j≠k * 2:=by
     by_cases hh:pb=r/\j=k * 2
     ·obtain ⟨rfl,rfl⟩:=hh;have e6:=e5 _ _ hj;rw [(h5 k hk).2.2 (Nat.le_refl _)] at e6;cases e6;rw [List.getElem?_map] at hj
      cases hx:(b.tests[q].path)[k * 2]? with
      | none=>rw [hx] at hj;cases hj
      | some v=>rw [hx] at hj;cases hj
     ·omega
    rw [World.cell?_setCell_other (h:=fun e=>by injection e with x1 x2;rcases hpr with hh | hh;exact hh x1.symm;exact hh x2.symm)];exact (hb.cell (p:=⟨pb,j,none⟩) e3).trans (e5 j u hj)
 ·rw [ho _ (by omega)];exact (h5 q hq).2.2 (by omega)
theorem ints_src0 {w:World} {a:Option Addr} {l:List Int} (h:IntsAt w a l):(a=none->l.length=0)/\(∀ ad,a=some ad->∀ j u,(l.map (Value.int .i64))[j]? = some u->w.cell? (ad.add j)=some u)/\∀ ad,a=some ad->0 < l.length->ad.block < w.heap.size:=by
 refine ⟨fun e=>?_,fun ad e j u hj=>?_,fun ad e h0=>?_⟩
 ·rcases Nat.eq_zero_or_pos l.length with h0 | h0
  ·exact h0
  ·obtain ⟨_,_,e',_⟩:=h 0 h0;rw [e] at e';cases e'
 ·have hl:=(List.getElem?_eq_some_iff.1 hj).1;rw [List.length_map] at hl;obtain ⟨pb,po,e',_,k3⟩:=h j hl;rw [e] at e';cases e';rw [add_off,k3,<- hj];simp [hl]
 ·obtain ⟨pb,po,e',k2,_⟩:=h 0 h0;rw [e] at e';cases e';exact k2
structure OwnBook (w W:World) (b:Fbk) (g1:Option Addr) (c1:Nat) (g2:Option Addr) (c2:Nat):Prop where
 bel:Below w.heap.size w W
 dev:NewRow w W g1 b.devs.length (cellsD b.devs)
 ne:0 < b.devs.length->0 < b.tests.length->g1≠g2
 tst:0 < b.tests.length->∃ r,g2=some ⟨r,0,none⟩/\w.heap.size<=r/\r < W.heap.size/\(∀ x,W.frozen? ⟨r,x,none⟩=false)/\∀ q (h:q < b.tests.length),W.cell? ⟨r,q * 2+1,none⟩=some (.int .i64 b.tests[q].seen)/\∃ pa pc,W.cell? ⟨r,q * 2,none⟩=some (.slice pa b.tests[q].path.length pc)/\b.tests[q].path.length<=pc/\NewRow w W pa b.tests[q].path.length (b.tests[q].path.map (Value.int .i64))/\(0 < b.tests[q].path.length->pa≠some ⟨r,0,none⟩/\(0 < b.devs.length->pa≠g1))
theorem copy_done {w A W:World} {b:Fbk} {M:Nat->Option Addr × Nat} {g1 g2:Option Addr} {c1 c2:Nat} (h:CopyInv w A b M g1 g2 c1 c2 b.tests.length W) (hsA:A.heap.size=w.heap.size+2) (x y z:Value) :
 OwnBook w (((W.setCell ⟨w.heap.size+1,0,none⟩ x).setCell ⟨w.heap.size+1,1,none⟩ y).setCell ⟨w.heap.size+1,2,none⟩ z) b g1 c1 g2 c2:=by
 have hK:KS (fun r=>r≠w.heap.size+1) W (((W.setCell ⟨w.heap.size+1,0,none⟩ x).setCell ⟨w.heap.size+1,1,none⟩ y).setCell ⟨w.heap.size+1,2,none⟩ z):=((KS.setCell (by simp) _ _).trans (KS.setCell (by simp) _ _)).trans (KS.setCell (by simp) _ _);have hwA:w.heap.size<=A.heap.size:=by omega
 refine ⟨Below.setCell (Below.setCell (Below.setCell h.bel (by simp) _) (by simp) _) (by simp) _,(h.dev.ks hK (fun r hr=>by omega)).low hwA,h.ne,fun h0=>?_⟩;obtain ⟨r,e,k2,k3,k4,k5⟩:=h.tst h0;have hc:∀ o u,W.cell? ⟨r,o,none⟩=some u->(((W.setCell ⟨w.heap.size+1,0,none⟩ x).setCell ⟨w.heap.size+1,1,none⟩ y).setCell ⟨w.heap.size+1,2,none⟩ z).cell? ⟨r,o,none⟩=some u:=fun o u e=>(hK.cell (x:=⟨r,o,none⟩) k3 (by simp;omega)).trans e;refine ⟨r,e,by omega,Nat.lt_of_lt_of_le k3 hK.size,fun x=>(hK.frozen (x:=⟨r,x,none⟩) k3 (by simp;omega)).trans (k4 x),fun q hq=>?_⟩;obtain ⟨q1,q2,_⟩:=k5 q hq;obtain ⟨pa,pc,q3,q4,q5,q6⟩:=q2 hq;exact ⟨hc _ _ q1,pa,pc,hc _ _ q3,q4,(q5.ks hK (fun r hr=>by omega)).low hwA,q6⟩
theorem OwnBook.good {w W:World} {b:Fbk} {g1 g2:Option Addr} {c1 c2:Nat} (h:OwnBook w W b g1 c1 g2 c2) {r i:Nat} (hg:g1=some ⟨r,0,none⟩) (hi:i < b.devs.length) :
 OwnBook w ((W.setCell ⟨r,i * 4+1,none⟩ (.bool false)).setCell ⟨r,i * 4+2,none⟩ (.bool false)) { b with devs:=b.devs.set i { b.devs[i] with held:=false,blind:=false } } g1 c1 g2 c2:=by
 obtain ⟨r',e,k2,k3,k4,k5⟩:=h.dev (by omega);rw [hg] at e;cases e;have hK:KS (fun y=>y≠r) W ((W.setCell ⟨r,i * 4+1,none⟩ (.bool false)).setCell ⟨r,i * 4+2,none⟩ (.bool false)):=(KS.setCell (by simp) _ _).trans (KS.setCell (by simp) _ _);have away:∀ {g:Option Addr} {n:Nat} {l:List Value},NewRow w W g n l->(0 < n->g≠some ⟨r,0,none⟩)->NewRow w ((W.setCell ⟨r,i * 4+1,none⟩ (.bool false)).setCell ⟨r,i * 4+2,none⟩ (.bool false)) g n l:=fun hn hne h0=>by
  obtain ⟨y,e1,e2,e3,e4,e5⟩:=hn h0;have hy:y≠r:=fun e=>hne h0 (by rw [e1,e]);exact ⟨y,e1,e2,Nat.lt_of_lt_of_le e3 hK.size,fun x=>(hK.frozen (x:=⟨y,x,none⟩) e3 hy).trans (e4 x),fun j u hj=>(hK.cell (x:=⟨y,j,none⟩) e3 hy).trans (e5 j u hj)⟩
 have old:∀ j u,j≠i * 4+1->j≠i * 4+2->W.cell? ⟨r,j,none⟩=some u->((W.setCell ⟨r,i * 4+1,none⟩ (.bool false)).setCell ⟨r,i * 4+2,none⟩ (.bool false)).cell? ⟨r,j,none⟩=some u:=fun j u h1 h2 e=>by
  rw [World.cell?_setCell_other (h:=fun e=>by injection e with _ e;exact h2 e.symm),World.cell?_setCell_other (h:=fun e=>by injection e with _ e;exact h1 e.symm)];exact e
 have hgi:=cellsD_get b.devs i hi;refine ⟨Below.setCell (Below.setCell h.bel (by simpa using k2) _) (by simpa using k2) _,fun _=>⟨r,hg,k2,Nat.lt_of_lt_of_le k3 hK.size,fun x=>by rw [World.frozen?_setCell,World.frozen?_setCell];exact k4 x,fun j u hj=>?_⟩,fun h1 h2=>h.ne (by omega) h2,fun h0=>?_⟩
 ·have hl:=(List.getElem?_eq_some_iff.1 hj).1;rw [cellsD_len,List.length_set] at hl;obtain ⟨q,hq⟩:∃ q,j=q * 4\/j=q * 4+1\/j=q * 4+2\/j=q * 4+3:=⟨j / 4,by omega⟩;have hql:q < b.devs.length:=by omega
  have hgs:=cellsD_get (b.devs.set i { b.devs[i] with held:=false,blind:=false }) q (by simpa using hql);have hgq:=cellsD_get b.devs q hql;by_cases e:q=i
  ·subst e;simp only [List.getElem_set_self] at hgs;rcases hq with rfl | rfl | rfl | rfl
   ·rw [hgs.1] at hj;cases hj;exact old _ _ (by omega) (by omega) (k5 _ _ hgi.1)
   ·rw [hgs.2.1] at hj;cases hj;rw [World.cell?_setCell_other (h:=fun e=>by injection e with _ e;omega)];exact World.cell?_setCell_same' _ _ _ (by rw [k5 _ _ hgi.2.1];rfl)
   ·rw [hgs.2.2.1] at hj;cases hj;exact World.cell?_setCell_same' _ _ _ (by rw [World.cell?_setCell_other (h:=fun e=>by injection e with _ e;omega),k5 _ _ hgi.2.2.1];rfl)
   ·rw [hgs.2.2.2] at hj;cases hj;exact old _ _ (by omega) (by omega) (k5 _ _ hgi.2.2.2)
  ·simp only [List.getElem_set_ne (Ne.symm e)] at hgs;rcases hq with rfl | rfl | rfl | rfl
   ·rw [hgs.1] at hj;cases hj;exact old _ _ (by omega) (by omega) (k5 _ _ hgq.1)
   ·rw [hgs.2.1] at hj;cases hj;exact old _ _ (by omega) (by omega) (k5 _ _ hgq.2.1)
   ·rw [hgs.2.2.1] at hj;cases hj;exact old _ _ (by omega) (by omega) (k5 _ _ hgq.2.2.1)
   ·rw [hgs.2.2.2] at hj;cases hj;exact old _ _ (by omega) (by omega) (k5 _ _ hgq.2.2.2)
 ·obtain ⟨r2,e2,m2,m3,m4,m5⟩:=h.tst h0;have hne:r2≠r:=fun e=>h.ne (by omega) h0 (by rw [hg,e2,e]);refine ⟨r2,e2,m2,Nat.lt_of_lt_of_le m3 hK.size,fun x=>(hK.frozen (x:=⟨r2,x,none⟩) m3 hne).trans (m4 x),fun q hq=>?_⟩;obtain ⟨q1,pa,pc,q3,q4,q5,q6⟩:=m5 q hq;exact ⟨(hK.cell (x:=⟨r2,_,none⟩) m3 hne).trans q1,pa,pc,(hK.cell (x:=⟨r2,_,none⟩) m3 hne).trans q3,q4,away q5 (fun h0 e=>(q6 h0).2 (by omega) (by rw [e,hg])),fun h0=>⟨(q6 h0).1,fun _=>(q6 h0).2 (by omega)⟩⟩
theorem copied_at (hB:FBookAt w b vm vd vt) (hd20:b.devs.length<=20) (h20:b.tests.length<=20) (hp20:∀ t∈b.tests,t.path.length<=20) :
 Calls Mz.prog 114 #[.agg #[vm,vd,vt]] w fun e w'=>∃ g1 c1 g2 c2,e=.returned (.agg #[.int .i64 b.most,.slice g1 b.devs.length c1,.slice g2 b.tests.length c2])/\OwnBook w w' b g1 c1 g2 c2:=by
 have HB:=Hh hB;obtain ⟨rfl,⟨da,dc,rfl,hD,hdl⟩,ta,tc,rfl,hT,htl⟩:=hB;obtain ⟨d1,d2,d3⟩:=dev_src hD;obtain ⟨M,hM,t1,t2,t3⟩:=tst_src hT;have HM:=Hh hM
 go_enter (mz_func (i:=114) rfl Tryz.func114),Tryz.ntmps114
 go_wp2
 rename_i Q0 K0 hK0
 obtain ⟨A,hA⟩:∃ A,A=((w.alloc (.cells #[.int .i64 b.most,.slice da b.devs.length dc,.slice ta b.tests.length tc] 25)).alloc (.cells #[.int .i64 0,.slice none 0 0,.slice none 0 0] 25)):=⟨_,rfl⟩;rw [<- hA];have hbA:Below w.heap.size w A:=by rw [hA];(exact bel)
 have hsA:A.heap.size=w.heap.size+2:=by rw [hA];simp
 have x1:∀ k u,(#[.int .i64 b.most,.slice da b.devs.length dc,.slice ta b.tests.length tc]:Array Value)[k]? = some u->A.cell? ⟨w.heap.size,k,none⟩=some u:=fun k u hk=>by
  rw [hA,World.cell?_alloc_past _ _ _ (by simp),World.cell?_alloc_at _ _ _ _ (by simp)];exact hk
 have x2:∀ k u,(#[.int .i64 0,.slice none 0 0,.slice none 0 0]:Array Value)[k]? = some u->A.cell? ⟨w.heap.size+1,k,none⟩=some u:=fun k u hk=>by
  rw [hA,World.cell?_alloc_at _ _ _ _ (by simp)];exact hk
 have f1:∀ k,A.frozen? ⟨w.heap.size,k,none⟩=false:=fun k=>by
  rw [hA,World.frozen?_alloc_past _ _ _ (by simp),World.frozen?_alloc_at _ _ _ _ (by simp)]
 have f2:∀ k,A.frozen? ⟨w.heap.size+1,k,none⟩=false:=fun k=>by
  rw [hA,World.frozen?_alloc_at _ _ _ _ (by simp)]
 clear hA;have HT:=Hh (fun (w':World) (h:Below A.heap.size A w')=>(⟨(h.cell (p:=⟨w.heap.size,1,none⟩) (by simp;omega)).trans (x1 1 _ rfl),(h.cell (p:=⟨w.heap.size,2,none⟩) (by simp;omega)).trans (x1 2 _ rfl)⟩:w'.cell? ⟨w.heap.size,1,none⟩=some (.slice da b.devs.length dc)/\w'.cell? ⟨w.heap.size,2,none⟩=some (.slice ta b.tests.length tc)));have HZ:=Hh (fun (w':World) (h:Below A.heap.size A w') x=>(h.frozen (p:=⟨w.heap.size,x,none⟩) (by simp;omega)).trans (f1 x));have HBW:=Hh (fun (W:World) (h:Below A.heap.size A W)=>(Below.next hbA h:Below w.heap.size w W));have HCD:=Hh (fun (W:World) (h:Below A.heap.size A W)=>cloneD_at (w:=W) (a:=da) (c:=dc) (cellsD_len b.devs) hd20 d1 (fun ad e j u hj=>((HBW.out W h).cell (p:=ad.add j) (by have:=(List.getElem?_eq_some_iff.1 hj).1;rw [cellsD_len] at this;unfold Addr.add;split <;> exact d3 ad e (by omega))).trans (d2 ad e j u hj)) (fun ad e h0=>Nat.lt_of_lt_of_le (d3 ad e h0) (HBW.out W h).size) (cellsD_one b.devs));have HCT:=Hh (fun (W:World) (h:Below A.heap.size A W)=>cloneT_at (w:=W) (a:=ta) (c:=tc) (cellsT_len M b.tests 0) h20 t1 (fun ad e j u hj=>((HBW.out W h).cell (p:=ad.add j) (by have:=(List.getElem?_eq_some_iff.1 hj).1;rw [cellsT_len] at this;unfold Addr.add;split <;> exact t3 ad e (by omega))).trans (t2 ad e j u hj)) (fun ad e h0=>Nat.lt_of_lt_of_le (t3 ad e h0) (HBW.out W h).size) (cellsT_one M b.tests 0));clear d1 d2 d3 t1 t2 t3 hD hT;refine Code.wp_mono (Q:=fun e a w2=>e=.normal/\∃ g1 c1 g2 c2 w4,a=({ tmps:=#[.agg #[.int .i64 b.most,.slice da b.devs.length dc,.slice ta b.tests.length tc],.pointer (some ⟨w.heap.size,0,none⟩),.pointer (some ⟨w.heap.size+1,0,none⟩),U,U,.pointer (some ⟨w.heap.size,1,none⟩),.slice da b.devs.length dc,.slice g1 b.devs.length c1,.pointer (some ⟨w.heap.size,2,none⟩),.slice ta b.tests.length tc,.slice g2 b.tests.length c2,.pointer (some ⟨w.heap.size,1,none⟩),.pointer (some ⟨w.heap.size,2,none⟩),U,U,U,U,U,U,U,U,U,U,U,U,U,U,U,U,U,U],defers:=[] }:Act)/\w2=(w4.setCell ⟨w.heap.size,1,none⟩ (.slice g1 b.devs.length c1)).setCell ⟨w.heap.size,2,none⟩ (.slice g2 b.tests.length c2)/\Below A.heap.size A w4/\NewRow A w4 g1 b.devs.length (cellsD b.devs)/\NewRow A w4 g2 b.tests.length (cellsT M b.tests 0)/\(0 < b.devs.length->0 < b.tests.length->g1≠g2)) (fun e a w2 h=>?_) ?_
 ·obtain ⟨rfl,g1,c1,g2,c2,w4,rfl,rfl,hb4,hr1,hr2,hne⟩:=h;have HI:=copy_start (c1:=c1) (c2:=c2) hbA hsA x1 x2 f2 hb4 hr1 hr2 hne;generalize hV:(w4.setCell ⟨w.heap.size,1,none⟩ (.slice g1 b.devs.length c1)).setCell ⟨w.heap.size,2,none⟩ (.slice g2 b.tests.length c2)=V at HI ⊢;clear hV hb4 hr1 hr2 hne HT HZ HCD HCT x1 x2 f1 f2 HBW;have HI:=Hh HI;have y2:=HI.out.b2;refine hK0 _ _ ?_;clear hK0;go_wp2;go_loopw [16] (fun i wr=>∃ k:Nat,k<=b.tests.length/\i=.int .i64 (k:Int)/\Hid (CopyInv w A b M g1 g2 c1 c2 k wr)) (fun i _=>b.tests.length - (intOf i).toNat)
  case atStart=>exact ⟨0,Nat.zero_le _,rfl,HI⟩
  case round =>
   obtain ⟨k,hk,rfl,hI⟩:=hrel;by_cases hlt:k < b.tests.length
   ·have hltI:(k:Int) < (b.tests.length:Int):=by omega
    obtain ⟨r,rfl,hr1,hr2,hr3,hr4⟩:=hI.out.tst (by omega);obtain ⟨s1,_,s2⟩:=hr4 k hlt;have s2:=s2 (Nat.le_refl _);have y2:=hI.out.b2;go_wp2
    rename_i Q1 K1 hK1
    obtain ⟨hd1,hd2,hd3⟩:=ints_src0 ((hM k hlt).2.2.below (w':=wr) hI.out.bel);obtain ⟨AW,hAW⟩:∃ AW,AW=wr.alloc (.cells #[.slice (M k).1 b.tests[k].path.length (M k).2,.int .i64 b.tests[k].seen] 61):=⟨_,rfl⟩;rw [<- hAW];have hbW:Below wr.heap.size wr AW:=by rw [hAW];(exact bel)
    have hsW:AW.heap.size=wr.heap.size+1:=by rw [hAW];simp
    have cX:AW.cell? ⟨wr.heap.size,0,none⟩=some (.slice (M k).1 b.tests[k].path.length (M k).2):=by rw [hAW,World.cell?_alloc_at _ _ _ _ rfl];rfl
    have hsz:=hI.out.size;have cB:AW.cell? ⟨w.heap.size,2,none⟩=some (.slice (some ⟨r,0,none⟩) b.tests.length c2):=(hbW.cell (p:=⟨w.heap.size,2,none⟩) (by simp;omega)).trans y2;have ck:AW.cell? ⟨r,k * 2,none⟩=some (.slice (M k).1 b.tests[k].path.length (M k).2):=(hbW.cell (p:=⟨r,k * 2,none⟩) hr2).trans s2;have cz:AW.frozen? ⟨r,k * 2,none⟩=false:=(hbW.frozen (p:=⟨r,k * 2,none⟩) hr2).trans (hr3 _);clear hAW;have HT:=Hh (fun (w':World) (h:Below AW.heap.size AW w')=>(⟨(h.cell (p:=⟨w.heap.size,2,none⟩) (by simp;omega)).trans cB,(h.cell (p:=⟨wr.heap.size,0,none⟩) (by simp;omega)).trans cX⟩:w'.cell? ⟨w.heap.size,2,none⟩=some (.slice (some ⟨r,0,none⟩) b.tests.length c2)/\w'.cell? ⟨wr.heap.size,0,none⟩=some (.slice (M k).1 b.tests[k].path.length (M k).2)));have HG:=Hh (fun (w':World) (h:Below AW.heap.size AW w')=>(h.cell (p:=⟨r,k * 2,none⟩) (by simp;omega)).trans ck);have HZ:=Hh (fun (w':World) (h:Below AW.heap.size AW w')=>(h.frozen (p:=⟨r,k * 2,none⟩) (by simp;omega)).trans cz);have HCI:=Hh (fun (W:World) (h:Below AW.heap.size AW W)=>cloneI_at (w:=W) (a:=(M k).1) (c:=(M k).2) (news:=b.tests[k].path.map (Value.int .i64)) (n:=b.tests[k].path.length) (by simp) (hp20 _ (List.getElem_mem hlt)) hd1 (fun ad e j u hj=>((Below.next hbW h).cell (p:=ad.add j) (by have hl:=(List.getElem?_eq_some_iff.1 hj).1;rw [List.length_map] at hl;unfold Addr.add;split <;> exact hd3 ad e (by omega))).trans (hd2 ad e j u hj)) (fun ad e h0=>Nat.lt_of_lt_of_le (hd3 ad e h0) (Below.next hbW h).size) (fun u hu=>by obtain ⟨z,_,rfl⟩:=List.mem_map.1 hu;rfl));clear hd1 hd2 hd3 cB cX ck cz;refine Code.wp_mono (Q:=fun e a w2=>e=.normal/\∃ p1 x1 w5,a=({ tmps:=#[.agg #[.int .i64 b.most,.slice da b.devs.length dc,.slice ta b.tests.length tc],.pointer (some ⟨w.heap.size,0,none⟩),.pointer (some ⟨w.heap.size+1,0,none⟩),.int .i64 (k:Int),.pointer (some ⟨wr.heap.size,0,none⟩),.pointer (some ⟨w.heap.size,1,none⟩),.slice da b.devs.length dc,.slice g1 b.devs.length c1,.pointer (some ⟨w.heap.size,2,none⟩),.slice ta b.tests.length tc,.slice (some ⟨r,0,none⟩) b.tests.length c2,.pointer (some ⟨w.heap.size,1,none⟩),.pointer (some ⟨w.heap.size,2,none⟩),.pointer (some ⟨w.heap.size,2,none⟩),.slice (some ⟨r,0,none⟩) b.tests.length c2,.int .i64 (b.tests.length:Int),.int .i64 (k:Int),.bool true,.int .i64 (k:Int),.pointer (some ⟨r,k * 2,none⟩),.agg #[.slice (M k).1 b.tests[k].path.length (M k).2,.int .i64 b.tests[k].seen],.pointer (some ⟨w.heap.size,2,none⟩),.slice (some ⟨r,0,none⟩) b.tests.length c2,.int .i64 (k:Int),.pointer (some ⟨wr.heap.size,0,none⟩),.slice (M k).1 b.tests[k].path.length (M k).2,.slice p1 b.tests[k].path.length x1,.pointer (some ⟨r,k * 2,none⟩),.pointer (some ⟨r,k * 2,none⟩),u29,U],defers:=[] }:Act)/\w2=w5.setCell ⟨r,k * 2,none⟩ (.slice p1 b.tests[k].path.length x1)/\Below AW.heap.size AW w5/\b.tests[k].path.length<=x1/\NewRow AW w5 p1 b.tests[k].path.length (b.tests[k].path.map (Value.int .i64))) (fun e a w2 h=>?_) ?_
    ·obtain ⟨rfl,p1,x1,w5,rfl,rfl,hb5,hx5,hn5⟩:=h;have hnext:=Hh (copy_step hI.out hsA hr1 hlt (Below.next hbW hb5) hx5 (hn5.low hbW.size));refine hK1 _ _ ?_;clear hK1 HT HG HZ HCI;go_wp2;go_roundw
     case rel=>exact ⟨k+1,hlt,by go_num,hnext⟩
     case measure=>simp [intOf];omega
    refine wp_region_D (S:=fun _=>True) (T:=fun w'=>w'.cell? ⟨w.heap.size,2,none⟩=some (.slice (some ⟨r,0,none⟩) b.tests.length c2)/\w'.cell? ⟨wr.heap.size,0,none⟩=some (.slice (M k).1 b.tests[k].path.length (M k).2)) (d:=8) (by kernel_rfl) trivial (HT.out _ (bel)) (fun _ hTd=>?_);refine wpAnyD_take (i:=0) (v:=.pointer (some ⟨w.heap.size,2,none⟩)) rfl (by decide +kernel) (fun _ _ _ h=>by cases h.1) (Or.inl ⟨by rfl,?_⟩) trivial hTd ?_
    ·rintro w5 ⟨_,s1,s2⟩;go_simp
    refine wpAnyD_take (i:=1) (v:=.slice (some ⟨r,0,none⟩) b.tests.length c2) rfl (by decide +kernel) (fun _ _ _ h=>by cases h.1) (Or.inl ⟨by rfl,?_⟩) trivial hTd ?_
    ·rintro w5 ⟨_,s1,s2⟩;go_simp
    refine wpAnyD_take (i:=2) (v:=.int .i64 (k:Int)) rfl (by decide +kernel) (fun _ _ _ h=>by cases h.1) (Or.inl ⟨by rfl,?_⟩) trivial hTd ?_
    ·rintro w5 ⟨_,s1,s2⟩;go_simp
    refine wpAnyD_take (i:=3) (v:=.pointer (some ⟨wr.heap.size,0,none⟩)) rfl (by decide +kernel) (fun _ _ _ h=>by cases h.1) (Or.inl ⟨by rfl,?_⟩) trivial hTd ?_
    ·rintro w5 ⟨_,s1,s2⟩;go_simp
    refine wpAnyD_take (i:=4) (v:=.slice (M k).1 b.tests[k].path.length (M k).2) rfl (by decide +kernel) (fun _ _ _ h=>by cases h.1) (Or.inl ⟨by rfl,?_⟩) trivial hTd ?_
    ·rintro w5 ⟨_,s1,s2⟩;go_simp
    refine wpAnyD_ready [5] (by decide +kernel) (by simp) ?_;refine AllReadyD.pre 5 rfl (fun K9 hK=>?_) AllReadyD.nil;go_simp;refine (HCI.out _ (bel)).mono ?_;rintro e w5 ⟨p1,x1,rfl,hx1,hn1,hb5⟩;have hn1:=hn1.low (w:=AW) (by simp);have hb5:Below AW.heap.size AW w5:=bel;have u1:=HG.out _ hb5;have f1:=HZ.out _ hb5
    try go_simp
    refine hK.out _ _ trivial (HT.out _ (bel)) (fun _ _=>?_);refine wpAnyD_ready [6] (by decide +kernel) (by simp) ?_;refine AllReadyD.pre 6 rfl (fun K9 hK=>?_) AllReadyD.nil;go_simp;refine hK.out _ _ trivial (HT.out _ (bel)) (fun _ _=>?_);refine wpAnyD_ready [7] (by decide +kernel) (by simp) ?_;refine AllReadyD.pre 7 rfl (fun K9 hK=>?_) AllReadyD.nil;go_simp;refine hK.out _ _ trivial (HT.out _ (bel)) (fun _ _=>?_);refine wpAnyD_ready [8] (by decide +kernel) (by simp) ?_;refine AllReadyD.post 8 rfl (by rfl) (fun K9 hK=>?_) AllReadyD.nil;go_simp;refine hK.out _ _ trivial (fun _=>?_);exact wpAnyD_done (by decide +kernel) ⟨rfl,p1,x1,w5,by simp,rfl,hb5,hx1,hn1⟩ _
   ·obtain rfl:k=b.tests.length:=by omega
    have y0:=hI.out.b0;have y1:=hI.out.b1;have y2:=hI.out.b2;have z0:=hI.out.r0;have z1:=hI.out.r1;have z2:=hI.out.r2;have zf0:=hI.out.rf 0;have zf1:=hI.out.rf 1;have zf2:=hI.out.rf 2;go_wp2;have hown:=copy_done hI.out hsA (.int .i64 b.most) (.slice g1 b.devs.length c1) (.slice g2 b.tests.length c2);exact bodyPost_ret (v:=.agg #[.int .i64 b.most,.slice g1 b.devs.length c1,.slice g2 b.tests.length c2]) (by simp [results,Tryz.results114,go_sem, *]) rfl ⟨_,_,_,_,rfl,hown⟩
 refine wp_region_D (S:=fun _=>True) (T:=fun w'=>w'.cell? ⟨w.heap.size,1,none⟩=some (.slice da b.devs.length dc)/\w'.cell? ⟨w.heap.size,2,none⟩=some (.slice ta b.tests.length tc)) (d:=7) (by kernel_rfl) trivial (HT.out _ (bel)) (fun _ hTd=>?_);refine wpAnyD_take (i:=0) (v:=.pointer (some ⟨w.heap.size,1,none⟩)) rfl (by decide +kernel) (fun _ _ _ h=>by cases h.1) (Or.inl ⟨by rfl,?_⟩) trivial hTd ?_
 ·rintro w5 ⟨_,s1,s2⟩;go_simp
 refine wpAnyD_take (i:=1) (v:=.slice da b.devs.length dc) rfl (by decide +kernel) (fun _ _ _ h=>by cases h.1) (Or.inl ⟨by rfl,?_⟩) trivial hTd ?_
 ·rintro w5 ⟨_,s1,s2⟩;go_simp
 refine wpAnyD_take (i:=3) (v:=.pointer (some ⟨w.heap.size,2,none⟩)) rfl (by decide +kernel) (fun _ _ _ h=>by cases h.1) (Or.inl ⟨by rfl,?_⟩) trivial hTd ?_
 ·rintro w5 ⟨_,s1,s2⟩;go_simp
 refine wpAnyD_take (i:=4) (v:=.slice ta b.tests.length tc) rfl (by decide +kernel) (fun _ _ _ h=>by cases h.1) (Or.inl ⟨by rfl,?_⟩) trivial hTd ?_
 ·rintro w5 ⟨_,s1,s2⟩;go_simp
 refine wpAnyD_ready [2] (by decide +kernel) (by simp) ?_;refine AllReadyD.pre 2 rfl (fun K9 hK=>?_) AllReadyD.nil;go_simp;refine (HCD.out _ (bel)).mono ?_;rintro e w1 ⟨g1,c1,rfl,hl1,hr1,hb1⟩;have hr1:=hr1.low (w:=A) (by simp);have hb1:Below A.heap.size A w1:=bel
 try go_simp
 refine hK.out _ _ trivial (HT.out _ (bel)) (fun _ hTe=>?_);refine wpAnyD_take (i:=6) (v:=.pointer (some ⟨w.heap.size,1,none⟩)) rfl (by decide +kernel) (fun _ _ _ h=>by cases h.1) (Or.inl ⟨by rfl,?_⟩) trivial hTe ?_
 ·rintro w5 ⟨_,s1,s2⟩;go_simp
 refine wpAnyD_ready [5] (by decide +kernel) (by simp) ?_;refine AllReadyD.pre 5 rfl (fun K9 hK=>?_) AllReadyD.nil;go_simp;refine (HCT.out _ hb1).mono ?_;rintro e w2 ⟨g2,c2,rfl,hl2,hr2,hb2⟩;have hne:0 < b.devs.length->0 < b.tests.length->g1≠g2:=fun h1 h2 e=>by
  obtain ⟨q1,k1,_,k2,_⟩:=hr1 h1;obtain ⟨q2,k3,k4,_⟩:=hr2 h2;rw [k1,k3] at e;injection e with e;injection e with e;omega
 have hr1:=hr1.below hb2;have hr2:=hr2.low (w:=A) hb1.size;have hb2:Below A.heap.size A w2:=bel;obtain ⟨u1,u2⟩:=HT.out _ hb2;have z1:=HZ.out _ hb2 1;have z2:=HZ.out _ hb2 2
 try go_simp
 refine hK.out _ _ trivial (HT.out _ (bel)) (fun _ _=>?_);refine wpAnyD_ready [7] (by decide +kernel) (by simp) ?_;refine AllReadyD.post 7 rfl (by rfl) (fun K9 hK=>?_) AllReadyD.nil;go_simp;refine hK.out _ _ trivial (fun _=>?_);refine wpAnyD_ready [8] (by decide +kernel) (by simp) ?_;refine AllReadyD.post 8 rfl (by rfl) (fun K9 hK=>?_) AllReadyD.nil;go_simp;refine hK.out _ _ trivial (fun _=>?_);refine wpAnyD_ready [9] (by decide +kernel) (by simp) ?_;refine AllReadyD.post 9 rfl (by rfl) (fun K9 hK=>?_) AllReadyD.nil;go_simp;refine hK.out _ _ trivial (fun _=>?_);exact wpAnyD_done (by decide +kernel) ⟨rfl,g1,c1,g2,c2,w2,by simp,rfl,hb2,hr1,hr2,hne⟩ _
end
end Mt
end Go.Proofs.YtgkajecjbflbbaaGreatDoor
