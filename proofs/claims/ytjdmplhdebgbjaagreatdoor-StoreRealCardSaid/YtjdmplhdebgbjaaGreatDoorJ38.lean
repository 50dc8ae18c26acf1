/- Leads to StoreReal of chapter 6: Y1 V11 V12 Y2. -/
import Derived.Test.YtjdmplhdebgbjaaGreatDoorJ37
import Derived.Laws.CopyOwn
set_option maxHeartbeats 2000000
set_option maxRecDepth 100000
set_option linter.all false
namespace Go.Proofs.YtjdmplhdebgbjaaGreatDoor
open Go.RowKit Go.Maps Sp
attribute [local go_sem] Oper.semAt_some
theorem eqCame (a b c d a' b' c' d':Int) (w:World):(binOp .eql 90 (.agg #[.int .i64 a,.int .i64 b,.int .i64 c,.int .i64 d]) (.agg #[.int .i64 a',.int .i64 b',.int .i64 c',.int .i64 d'])).run Tryz.prog w=.ok (.bool (a == a' && b == b' && c == c' && d == d')) w:=by
 have u3:=Tryz.underlying3;rw [run_eql_struct,show (10000:Nat)=9999+1 from rfl,Op.equalIn];simp only [Sem.run_bind,run_underlying Tryz.underlying90,Result.andThen_ok];simp only [Std.Legacy.Range.forIn_eq_forIn_range',Std.Legacy.Range.size,Nat.sub_zero,Nat.add_sub_cancel,Nat.div_one,List.range'_succ,List.range'_zero,List.forIn_cons,List.forIn_nil];go_simp;by_cases h1:a=a' <;> by_cases h2:b=b' <;> by_cases h3:c=c' <;> by_cases h4:d=d' <;> simp [h1,h2,h3,h4]
theorem mem_pastsFrom {b:Bk}:∀ (l:List (List Prt)) (pre x:List Int),x∈pastsFrom b pre l↔∃ suf,x=pre ++ suf/\suf.length=l.length/\(∀ i (h:i < suf.length),0<=suf[i]/\∃ h2:i < l.length,suf[i]<=(l[i].length:Int))/\right b x=true
 | [],pre,x=>by
  unfold pastsFrom;constructor
  ·intro h;split at h
   ·rename_i hr
    simp only [List.mem_singleton] at h;exact ⟨[],by simp [h],rfl,fun i hi=>absurd hi (Nat.not_lt_zero _),by rw [h];exact hr⟩
   ·simp at h
  ·rintro ⟨suf,rfl,hl,_,hr⟩;obtain rfl:suf=[]:=List.length_eq_zero_iff.1 hl;rw [List.append_nil] at hr ⊢;rw [if_pos hr];simp
 | s::l,pre,x=>by
  unfold pastsFrom;rw [List.mem_flatMap];constructor
  ·rintro ⟨n,hn,hx⟩;obtain ⟨suf,rfl,hl,hr,hri⟩:=(mem_pastsFrom l _ x).1 hx;rw [List.mem_range] at hn;refine ⟨(n:Int)::suf,by simp,by simp [hl],fun i hi=>?_,hri⟩
   cases i with
   | zero=>simp;omega
   | succ i =>
    obtain ⟨h1,h2,h3⟩:=hr i (by simpa using hi);exact ⟨by simpa using h1,by simpa using h2,by simpa using h3⟩
  ·rintro ⟨suf,rfl,hl,hr,hri⟩
   match suf,hl with
   | y::suf,hl =>
    obtain ⟨h1,_,h3⟩:=hr 0 (by simp);simp only [List.getElem_cons_zero] at h1 h3;refine ⟨y.toNat,List.mem_range.2 (by omega),(mem_pastsFrom l _ _).2 ⟨suf,?_,by simpa using hl,fun i hi=>?_,?_⟩⟩
    ·rw [Int.toNat_of_nonneg h1];simp
    ·obtain ⟨h4,h5,h6⟩:=hr (i+1) (by simpa using hi);exact ⟨by simpa using h4,by simpa using h5,by simpa using h6⟩
    ·exact hri
theorem isHist_mem {b:Bk} {l:List Int} (h:isHistAl b l=0):isHist b l=decide (l∈pasts b):=by
 have hl:l.length=b.ss.length:=by
  unfold isHistAl at h;split at h
  ·rename_i hh;exact absurd h hh
  ·split at h
   ·cases h
   ·rename_i hh;exact Classical.not_not.1 hh
 unfold isHist;rw [h];simp only [decide_true,Bool.true_and];by_cases hm:l∈pasts b
 ·obtain ⟨suf,e,h1,h2,h3⟩:=(mem_pastsFrom b.ss [] l).1 hm;rw [List.nil_append] at e;subst e;have:inRange b.ss l=true:=by
   unfold inRange;rw [List.all_eq_true];intro i hi;have hi:i < l.length:=by simpa using hi
   obtain ⟨h4,h5,h6⟩:=h2 i hi;rw [getD_of_lt hi,List.getElem?_eq_getElem h5];unfold inB;exact decide_eq_true (show 0<=l[i]/\l[i]<=(b.ss[i].length:Int) from ⟨h4,h6⟩)
  rw [this,h3];simp [hm]
 ·have:¬ (inRange b.ss l=true/\right b l=true):=fun ⟨h1,h2⟩=>hm ((mem_pastsFrom b.ss [] l).2 ⟨l,rfl,hl,fun i hi=>by
   have hi2:i < b.ss.length:=hl ▸ hi
   have h3:=inRange_came h1 hl i hi2
   rw [getD_of_lt hi] at h3
   exact ⟨h3.1,hi2,h3.2⟩,h2⟩)
  simp only [hm,decide_false];cases h1:inRange b.ss l
  ·rfl
  ·cases h2:right b l
   ·rfl
   ·exact absurd ⟨h1,h2⟩ this
theorem pad_inj {x y:List Int} (h:x.length=y.length) (h4:x.length<=4) (e:pad x=pad y):x=y:=by
 unfold pad at e;rw [h] at e;exact List.append_cancel_right e
section
variable {b:Bk} {vr vg vm vs vc:Value} {w:World}
theorem isHistory_no (hB:BookAt w b vr vg vm vs vc) (hN:∀ m∈b.ms,m.name.size<=1000000) (hK:KindsAt w) {la:Option Addr} {lc:Nat} {l:List Int} {t:Int} (hL:l.length<=1000000) (ht:isHistAl b l=t) (h0:t≠0) :
 Calls Tryz.prog 9 #[.agg #[vr,vg,vm,vs,vc],.slice la l.length lc] w fun e w'=>e=.returned (.tuple #[.bool false,.int .i64 t])/\Below w.heap.size w w':=by
 have HB:=Hh hB;have HN:=Hh hN;have HK:=Hh hK;obtain ⟨rfl,rfl,⟨ma,mc,rfl,_,_⟩,⟨sa,sc,rfl,_,hsl⟩,ra,rc,rfl,_,_⟩:=id hB;clear hB hN hK;by_cases hk:bookAl b=0
 case neg =>
  have h1:isHistAl b l=bookAl b:=by unfold isHistAl;rw [if_pos hk]
  rw [h1] at ht;have H0:=Hh ht;have hz3:(t != 0)=true:=by simpa using h0
  clear ht h1 hk h0
  go_enter Tryz.func9,Tryz.ntmps9
  go_wp2_with (go_at_call 37;(with_reducible refine (checkBook_at (HB.out.below (bel)) HN.out (HK.out.below (bel)) H0.out).mono ?_);rintro e w1 ⟨rfl,hb1⟩;obtain ⟨hc1,hf1⟩:=bcell hb1;have hz1:w.heap.size+1+1 < w1.heap.size:=(by have:=hb1.size;simp at this;omega));have k9:KS (fun k=>k < w.heap.size) w1 ((w1.setCell ⟨w.heap.size+1,0,none⟩ (.bool false)).setCell ⟨w.heap.size+1+1,0,none⟩ (.int .i64 t)):=(KS.setCell (by simp) _ _).trans (KS.setCell (by simp;omega) _ _);have hbw:Below w.heap.size w w1:=bel;have c1:((w1.setCell ⟨w.heap.size+1,0,none⟩ (.bool false)).setCell ⟨w.heap.size+1+1,0,none⟩ (.int .i64 t)).cell? ⟨w.heap.size+1,0,none⟩=some (.bool false):=by
   rw [World.cell?_setCell_other (h:=fun e=>by injection e with e _ _;omega),World.cell?_setCell_same' _ _ _ (by rw [hc1 _ _ (by simp),World.cell?_alloc_past _ _ _ (by simp),alloc1_cell (by simp)];rfl)]
  have c2:((w1.setCell ⟨w.heap.size+1,0,none⟩ (.bool false)).setCell ⟨w.heap.size+1+1,0,none⟩ (.int .i64 t)).cell? ⟨w.heap.size+1+1,0,none⟩=some (.int .i64 t):=by
   rw [World.cell?_setCell_same' _ _ _ (by rw [World.cell?_setCell_other (h:=fun e=>by injection e with e _ _;omega),hc1 _ _ (by simp),alloc1_cell (by simp)];rfl)]
  exact bodyPost_ret (v:=.tuple #[.bool false,.int .i64 t]) (by simp [results,Tryz.results9,go_sem,c1,c2]) rfl ⟨rfl,hbw.trans (k9.to_below hbw.size)⟩
 have H0:=Hh hk;have hs4:=(bookAl_ok hk).1.sl;have h1:l.length≠b.ss.length:=fun e=>h0 (by rw [← ht];unfold isHistAl;rw [if_neg (by simpa using hk),if_neg (by simpa using e)]);have h2:t=2:=by rw [← ht];unfold isHistAl;rw [if_neg (by simpa using hk),if_pos h1]
 subst h2;have hne:((l.length:Int) != (b.ss.length:Int))=true:=by simp;omega
 clear ht h0 hk h1
 go_enter Tryz.func9,Tryz.ntmps9
 go_wp2_with (go_at_call 37;(with_reducible refine (checkBook_at (HB.out.below (bel)) HN.out (HK.out.below (bel)) H0.out).mono ?_);rintro e w1 ⟨rfl,hb1⟩;obtain ⟨hc1,hf1⟩:=bcell hb1;have hz1:w.heap.size+1+1 < w1.heap.size:=(by have:=hb1.size;simp at this;omega));have k9:KS (fun k=>k < w.heap.size) w1 ((w1.setCell ⟨w.heap.size+1,0,none⟩ (.bool false)).setCell ⟨w.heap.size+1+1,0,none⟩ (.int .i64 2)):=(KS.setCell (by simp) _ _).trans (KS.setCell (by simp;omega) _ _);have hbw:Below w.heap.size w w1:=bel;have c1:((w1.setCell ⟨w.heap.size+1,0,none⟩ (.bool false)).setCell ⟨w.heap.size+1+1,0,none⟩ (.int .i64 2)).cell? ⟨w.heap.size+1,0,none⟩=some (.bool false):=by
  rw [World.cell?_setCell_other (h:=fun e=>by injection e with e _ _;omega),World.cell?_setCell_same' _ _ _ (by rw [hc1 _ _ (by simp),World.cell?_alloc_past _ _ _ (by simp),alloc1_cell (by simp)];rfl)]
 have c2:((w1.setCell ⟨w.heap.size+1,0,none⟩ (.bool false)).setCell ⟨w.heap.size+1+1,0,none⟩ (.int .i64 2)).cell? ⟨w.heap.size+1+1,0,none⟩=some (.int .i64 2):=by
  rw [World.cell?_setCell_same' _ _ _ (by rw [World.cell?_setCell_other (h:=fun e=>by injection e with e _ _;omega),hc1 _ _ (by simp),alloc1_cell (by simp)];rfl)]
 exact bodyPost_ret (v:=.tuple #[.bool false,.int .i64 2]) (by simp [results,Tryz.results9,go_sem,c1,c2]) rfl ⟨rfl,hbw.trans (k9.to_below hbw.size)⟩
end
end Go.Proofs.YtjdmplhdebgbjaaGreatDoor
namespace Go.Proofs.YtjdmplhdebgbjaaGreatDoor
open Go.RowKit Sp
theorem sorted_ext:∀ {l m:List Int},l.Pairwise (· < ·)->m.Pairwise (· < ·)->(∀ x,x∈l↔x∈m)->l=m
 | [],[],_,_,_=>rfl
 | [],b::m,_,_,h=>by have:=(h b).2 (List.mem_cons_self ..);cases this
 | a::l,[],_,_,h=>by have:=(h a).1 (List.mem_cons_self ..);cases this
 | a::l,b::m,hl,hm,h=>by
  rw [List.pairwise_cons] at hl hm;have hab:a=b:=by
   have h1:=(h a).1 (List.mem_cons_self ..);have h2:=(h b).2 (List.mem_cons_self ..);rcases List.mem_cons.1 h1 with e | e
   ·exact e
   ·rcases List.mem_cons.1 h2 with e2 | e2
    ·exact e2.symm
    ·have:=hm.1 _ e;have:=hl.1 _ e2;omega
  subst hab;rw [sorted_ext hl.2 hm.2 fun x=>?_];constructor
  ·intro hx;rcases List.mem_cons.1 ((h x).1 (List.mem_cons_of_mem _ hx)) with e | e
   ·have:=hl.1 _ hx;omega
   ·exact e
  ·intro hx;rcases List.mem_cons.1 ((h x).2 (List.mem_cons_of_mem _ hx)) with e | e
   ·have:=hm.1 _ hx;omega
   ·exact e
theorem compact_part {zs:List Int} (hz:zs.Pairwise (·<=·)):∀ m,m<=zs.length->(Lib.compactUpTo zs.toArray m).Pairwise (· < ·)/\∀ x,x∈Lib.compactUpTo zs.toArray m↔∃ j,j < m/\zs.toArray[j]! = x
 | 0,_=>by simp [Lib.compactUpTo]
 | m+1,hm=>by
  obtain ⟨ih1,ih2⟩:=compact_part hz m (by omega);have hle:∀ i j,i<=j->j < zs.length->zs.toArray[i]! <= zs.toArray[j]! := fun i j hij hj=>by
   rw [getElem!_pos _ _ (by simp;omega),getElem!_pos _ _ (by simpa using hj)];simp only [List.getElem_toArray];rcases Nat.lt_or_ge i j with h | h
   ·exact (List.pairwise_iff_getElem.1 hz) i j (by omega) hj h
   ·obtain rfl:i=j:=by omega
    exact Int.le_refl _
  rw [Lib.compactUpTo_succ];by_cases hk:Lib.keeps zs.toArray m=true
  ·rw [if_pos hk];refine ⟨List.pairwise_append.2 ⟨ih1,List.pairwise_singleton ..,fun x hx y hy=>?_⟩,fun x=>?_⟩
   ·rw [List.mem_singleton] at hy;subst hy;obtain ⟨j,hj,rfl⟩:=(ih2 x).1 hx;unfold Lib.keeps at hk;have hk:=of_decide_eq_true hk;rcases hk with h | h
    ·omega
    ·have h1:=hle j (m - 1) (by omega) (by omega);have h2:=hle (m - 1) m (by omega) (by omega);omega
   ·rw [List.mem_append,List.mem_singleton,ih2];constructor
    ·rintro (⟨j,hj,e⟩ | rfl)
     ·exact ⟨j,by omega,e⟩
     ·exact ⟨m,by omega,rfl⟩
    ·rintro ⟨j,hj,e⟩;rcases Nat.lt_or_ge j m with h | h
     ·exact .inl ⟨j,h,e⟩
     ·obtain rfl:j=m:=by omega
      exact .inr e.symm
  ·rw [if_neg hk,List.append_nil];refine ⟨ih1,fun x=>?_⟩;rw [ih2];unfold Lib.keeps at hk;simp only [decide_eq_true_eq,not_or,Classical.not_not] at hk;constructor
   ·rintro ⟨j,hj,e⟩;exact ⟨j,by omega,e⟩
   ·rintro ⟨j,hj,e⟩;rcases Nat.lt_or_ge j m with h | h
    ·exact ⟨j,h,e⟩
    ·obtain rfl:j=m:=by omega
     exact ⟨j - 1,by omega,by rw [← e,hk.2]⟩
theorem mem_compact {zs:List Int} (hz:zs.Pairwise (·<=·)) {x:Int}:x∈Lib.compact zs↔x∈zs:=by
 unfold Lib.compact;rw [(compact_part hz _ (Nat.le_refl _)).2,List.mem_iff_getElem];constructor
 ·rintro ⟨j,hj,e⟩;rw [getElem!_pos _ _ (by simpa using hj)] at e;exact ⟨j,hj,by simpa using e⟩
 ·rintro ⟨j,hj,e⟩;exact ⟨j,hj,by rw [getElem!_pos _ _ (by simpa using hj)];simpa using e⟩
theorem sortI_sorted (l:List Int):(sortI l).Pairwise (·<=·):=by
 have:=List.pairwise_mergeSort (le:=fun x y:Int=>decide (x<=y)) (fun a b c h1 h2=>by simp at *;omega) (fun a b=>by simp;omega) l;exact this.imp (fun {a b} h=>by simpa using h)
theorem through_same {b:Bk} {s:Int} (h:throughAl b s=0):throughI b s=throughR b s:=by
 obtain ⟨hk,hpt,hps⟩:=openAl_ok h;have hin:inB s 0 ((b.ss.length:Int) - 1)=true:=by
  cases h:inB s 0 ((b.ss.length:Int) - 1)
  ·unfold throughAsk at hpt;rw [h] at hpt;simp at hpt
  ·rfl
 have hs0:0<=s/\s<=(b.ss.length:Int) - 1:=by unfold inB at hin;simpa using hin
 have hsl:s.toNat < b.ss.length:=by omega
 unfold throughI throughR;refine sorted_ext (compact_part (sortI_sorted _) _ (Nat.le_refl _)).1 ?_ fun x=>?_
 ·unfold throughTo;rw [List.pairwise_map];refine (List.Pairwise.filter _ (List.pairwise_lt_range (n:=(b.ss[s.toNat]?).elim 0 List.length+1))).imp fun {a c} h=>by omega
 ·rw [mem_compact (sortI_sorted _)];unfold sortI;rw [List.mem_mergeSort,List.mem_map];unfold throughTo;rw [List.mem_map];constructor
  ·rintro ⟨p,hp,rfl⟩;have hp2:=hp;unfold pasts at hp2;obtain ⟨suf,e,hlen,hb,_⟩:=(mem_pastsFrom _ _ _).1 hp2;simp only [List.nil_append] at e;subst e;obtain ⟨h1,h2,h3⟩:=hb s.toNat (by omega);have hg:p.getD s.toNat 0=p[s.toNat]'(by omega):=by simp [List.getD,List.getElem?_eq_getElem (show s.toNat < p.length by omega)]
   refine ⟨(p.getD s.toNat 0).toNat,?_,by rw [hg];omega⟩;rw [List.mem_filter,List.mem_range,List.any_eq_true];refine ⟨by rw [hg,List.getElem?_eq_getElem h2];simp only [Option.elim];omega,p,hp,by rw [hg];simp;omega⟩
  ·rintro ⟨n,hn,rfl⟩;rw [List.mem_filter,List.any_eq_true] at hn;obtain ⟨_,p,hp,e⟩:=hn;exact ⟨p,hp,by simpa using e⟩
end Go.Proofs.YtjdmplhdebgbjaaGreatDoor
namespace Go.Proofs.YtjdmplhdebgbjaaGreatDoor
open Go.RowKit Go.Maps Sp
def SesRaw (w:World) (a:Option Addr) (l:List (List Prt)):Prop:=∀ i (h:i < l.length),∃ b o,a=some ⟨b,o,none⟩/\b < w.heap.size /\
 ∃ pa pc,w.cell? ⟨b,o+i,none⟩=some (.slice pa l[i].length pc)/\l[i].length<=pc/\PartsAt w pa l[i]
structure RawAt (w:World) (b:Bk) (vr vg vm vs vc:Value):Prop where
 room:vr=.int .i64 b.room
 gap:vg=.int .i64 b.gap
 ms:∃ a c,vm=.slice a b.ms.length c/\MsgsAt w a b.ms
 ss:∃ a c,vs=.slice a b.ss.length c/\SesRaw w a b.ss
 rs:∃ a c,vc=.slice a b.rs.length c/\RecsAt w a b.rs
theorem SesRaw.below {w w':World} {a:Option Addr} {l:List (List Prt)} (h:SesRaw w a l) (hb:Below w.heap.size w w'):SesRaw w' a l:=fun i hi=>by
 obtain ⟨b,o,e,hlt,pa,pc,h1,h2,h4⟩:=h i hi;exact ⟨b,o,e,Nat.lt_of_lt_of_le hlt hb.size,pa,pc,(hb.cell hlt).trans h1,h2,h4.below hb⟩
def SmallB (b:Bk):Prop:=b.ms.length<=20/\b.ss.length<=20/\b.rs.length<=20/\(∀ m∈b.ms,m.name.size<=100)/\∀ s∈b.ss,s.length<=20
theorem RawAt.book {w:World} {b:Bk} {vr vg vm vs vc:Value} (h:RawAt w b vr vg vm vs vc) (hs:SmallB b):BookAt w b vr vg vm vs vc:=by
 obtain ⟨h1,h2,⟨a1,c1,e1,h3⟩,⟨a2,c2,e2,h4⟩,a3,c3,e3,h5⟩:=h;obtain ⟨s1,s2,s3,s4,s5⟩:=hs;refine ⟨h1,h2,⟨a1,c1,e1,h3,by omega⟩,⟨a2,c2,e2,fun i hi=>?_,by omega⟩,a3,c3,e3,h5,by omega⟩;obtain ⟨b',o,e,hlt,pa,pc,q1,q2,q4⟩:=h4 i hi;have:=s5 _ (List.getElem_mem hi);exact ⟨b',o,e,hlt,pa,pc,q1,q2,by omega,q4⟩
theorem great_at {b:Bk} {vr vg vm vs vc:Value} {w:World} (hB:RawAt w b vr vg vm vs vc) {g:Bool} (hg:g=true↔¬ SmallB b) :
 Calls Tryz.prog 23 #[.agg #[vr,vg,vm,vs,vc]] w fun e w'=>e=.returned (.bool g)/\Below w.heap.size w w':=by
 have HG:=Hh hg;clear hg;obtain ⟨rfl,rfl,⟨ma,mc,rfl,hM⟩,⟨sa,sc,rfl,hS⟩,ra,rc,rfl,_⟩:=hB;have HM:=Hh hM;clear hM;have HS:=Hh hS;clear hS;by_cases h1:20 < b.ms.length
 ·obtain rfl:g=true:=HG.out.2 fun h=>by have:=h.1;omega
  go_enter Tryz.func23,Tryz.ntmps23
  go_wp2;go_ret;exact ⟨rfl,bel⟩
 by_cases h2:20 < b.ss.length
 ·obtain rfl:g=true:=HG.out.2 fun h=>by have:=h.2.1;omega
  go_enter Tryz.func23,Tryz.ntmps23
  go_wp2;go_ret;exact ⟨rfl,bel⟩
 by_cases h3:20 < b.rs.length
 ·obtain rfl:g=true:=HG.out.2 fun h=>by have:=h.2.2.1;omega
  go_enter Tryz.func23,Tryz.ntmps23
  go_wp2;go_ret;exact ⟨rfl,bel⟩
 have hl1:b.ms.length<=20:=by omega
 have hl2:b.ss.length<=20:=by omega
 have hl3:b.rs.length<=20:=by omega
 go_enter Tryz.func23,Tryz.ntmps23
 go_wp2;obtain ⟨W0,hW0⟩:∃ W0,W0=w.alloc (.cells #[.int .i64 b.room,.int .i64 b.gap,.slice ma b.ms.length mc,.slice sa b.ss.length sc,.slice ra b.rs.length rc] 26):=⟨_,rfl⟩;rw [← hW0];have five:=Five.new w (.int .i64 b.room) (.int .i64 b.gap) (.slice ma b.ms.length mc) (.slice sa b.ss.length sc) (.slice ra b.rs.length rc) 26;rw [← hW0] at five;have hb0:Below w.heap.size w W0:=by rw [hW0];(exact bel)
 clear hW0;obtain ⟨n0,n1,n2,n3,n4,nl⟩:=five;go_loopw [3] (fun i wr=>∃ (k:Nat),k<=b.ms.length/\i=.int .i64 k/\Hid (∀ m∈b.ms.take k,m.name.size<=100)/\Below W0.heap.size W0 wr) (fun i _=>b.ms.length - (intOf i).toNat)
 case atStart=>exact ⟨0,Nat.zero_le _,rfl,by simp [Hid],Below.refl _ _⟩
 case round =>
  obtain ⟨k,hk,rfl,hG,hW⟩:=hrel;obtain ⟨wo,rfl⟩:∃ wo:World,wo=wr:=⟨_,rfl⟩;have hWs:=hW.size;have m2:=(hW.cell (p:=⟨w.heap.size,2,none⟩) nl).trans n2;have m3:=(hW.cell (p:=⟨w.heap.size,3,none⟩) nl).trans n3;have ml:w.heap.size < wo.heap.size:=by omega
  have hbw:=Below.next hb0 hW;clear n0 n1 n2 n3 n4;by_cases hlt:k < b.ms.length
  ·obtain ⟨mb,mo,rfl,hmb,h0,_,_⟩:=HM.out k hlt;have c0:=(hbw.cell hmb).trans h0;have hmb2:mb < wo.heap.size:=Nat.lt_of_lt_of_le hmb hbw.size;have htk:=List.take_succ_eq_append_getElem hlt;clear h0;have hgr:100 < b.ms[k].name.size->g=true:=fun h=>HG.out.2 fun hs=>by have:=hs.2.2.2.1 _ (List.getElem_mem hlt);omega
   generalize b.ms[k]=m at c0 htk hgr;have HT:=Hh htk;clear htk;obtain ⟨nm,gr,du⟩:=m;dsimp only at c0 hgr;by_cases h100:100 < nm.size
   ·obtain rfl:=hgr h100;clear hgr;go_wp2;go_ret;exact ⟨rfl,bel⟩
   ·clear hgr;have hle:nm.size<=100:=by omega
    go_wp2;go_roundw
    case rel =>
     refine ⟨k+1,by omega,by go_num,?_,bel⟩;intro m hm;rw [HT.out,List.mem_append,List.mem_singleton] at hm;rcases hm with hm | rfl
     ·exact hG.out m hm
     ·exact hle
    case measure=>simp [intOf];omega
  ·obtain rfl:k=b.ms.length:=by omega
   have hN:Hid (∀ m∈b.ms,m.name.size<=100):=by have:=hG.out;rwa [List.take_length] at this
   clear hG;go_wp2;go_loopw [4] (fun i wr=>∃ (k:Nat),k<=b.ss.length/\i=.int .i64 k/\Hid (∀ s∈b.ss.take k,s.length<=20)/\Below wo.heap.size wo wr) (fun i _=>b.ss.length - (intOf i).toNat)
   case atStart=>exact ⟨0,Nat.zero_le _,rfl,by simp [Hid],Below.refl _ _⟩
   case round =>
    obtain ⟨j,hj,rfl,hG,hX⟩:=hrel;have hXs:=hX.size;have l3:=(hX.cell (p:=⟨w.heap.size,3,none⟩) ml).trans m3;have ll:w.heap.size < wr.heap.size:=by omega
    have hbx:=Below.next hbw hX;clear m2 m3;by_cases hjt:j < b.ss.length
    ·obtain ⟨sb,so,rfl,hsb,pa,pc,h0,hpc,_⟩:=HS.out j hjt;have c0:=(hbx.cell hsb).trans h0;have hsb2:sb < wr.heap.size:=Nat.lt_of_lt_of_le hsb hbx.size;have htk:=List.take_succ_eq_append_getElem hjt;clear h0;have hgr:20 < b.ss[j].length->g=true:=fun h=>HG.out.2 fun hs=>by have:=hs.2.2.2.2 _ (List.getElem_mem hjt);omega
     generalize b.ss[j]=s at c0 htk hpc hgr;have HT:=Hh htk;clear htk;by_cases h20:20 < s.length
     ·obtain rfl:=hgr h20;clear hgr;go_wp2;go_ret;exact ⟨rfl,bel⟩
     ·clear hgr;have hle:s.length<=20:=by omega
      go_wp2;go_roundw
      case rel =>
       refine ⟨j+1,by omega,by go_num,?_,bel⟩;intro m hm;rw [HT.out,List.mem_append,List.mem_singleton] at hm;rcases hm with hm | rfl
       ·exact hG.out m hm
       ·exact hle
      case measure=>simp [intOf];omega
    ·obtain rfl:j=b.ss.length:=by omega
     have hQ:Hid (∀ s∈b.ss,s.length<=20):=by have:=hG.out;rwa [List.take_length] at this
     clear hG;obtain rfl:g=false:=by
      cases g with
      | false=>rfl
      | true=>exact absurd ⟨hl1,hl2,hl3,hN.out,hQ.out⟩ (HG.out.1 rfl)
     go_wp2;go_ret;exact ⟨rfl,bel⟩
attribute [local go_sem] Oper.semAt_some
section
variable {b:Bk} {vr vg vm vs vc:Value} {w:World}
theorem zeros_pad {l:List Int} (h:l.length<=4):splice [Value.int .i64 0,.int .i64 0,.int .i64 0,.int .i64 0] 0 (l.map (Value.int .i64))=(pad l).map (Value.int .i64):=by
 have e:[Value.int .i64 0,.int .i64 0,.int .i64 0,.int .i64 0]=List.replicate 4 (Value.int .i64 0):=rfl;unfold splice pad;rw [e];simp only [List.take_zero,List.nil_append,List.length_map,Nat.zero_add,List.drop_replicate,List.map_append,List.map_replicate]
theorem add_off' (b o j:Nat):Addr.add ⟨b,o,none⟩ j=⟨b,o+j,none⟩:=by unfold Addr.add;split <;> simp_all
theorem copy_lies {X:World} {g:Nat} {cur:List Value} {t:TypeId} {la:Option Addr} {lc:Nat} {l:List Int} (hg:X.heap[g]? = some (.cells cur.toArray t (0,0))) (hl:l.length<=4) (hc:cur.length=4) (hI:IntsAt X la l) :
 ∃ w2,(Builtin.copy_ #[30,30] 3 #[.slice (some ⟨g,0,none⟩) 4 4,.slice la l.length lc]).run Tryz.prog X=.ok (goInt l.length) w2/\w2.heap[g]? = some (.cells (splice cur 0 (l.map (Value.int .i64))).toArray t (0,0))/\KS (fun k=>k≠g) X w2:=by
 have hsz:(Tryz.prog.info? 3).map (·.size)=some 1:=by kernel_rfl
 by_cases h0:l.length=0
 ·obtain rfl:l=[]:=List.length_eq_zero_iff.1 h0;exact ⟨X,run_copy_none (P:=Tryz.prog) X 30 30 3 3 _ _ _ _ _ _ Tryz.underlying30 hsz (by simp),by rw [hg];simp [splice],KS.refl _ _⟩
 ·obtain ⟨b0,o0,rfl,_,_⟩:=hI 0 (by omega);have hr:=run_copy_row (P:=Tryz.prog) X 30 30 3 3 g 0 4 4 ⟨b0,o0,none⟩ l.length lc cur.toArray t (l.map (Value.int .i64)) Tryz.underlying30 hsz hg (by rw [List.length_map];exact (Nat.min_eq_left hl).symm) (fun j v hj=>by
   rw [List.getElem?_map] at hj
   obtain ⟨x,hx,rfl⟩:=Option.map_eq_some_iff.1 hj
   obtain ⟨hjl,rfl⟩:=List.getElem?_eq_some_iff.1 hx
   obtain ⟨b1,o1,e1,hlt1,hc1⟩:=hI j hjl
   cases e1
   rw [add_off'];exact hc1) (by rw [List.length_map,List.size_toArray,hc];omega) (fun u hu=>by obtain ⟨x,_,rfl⟩:=List.mem_map.1 hu;rfl)
  rw [List.length_map] at hr;refine ⟨_,hr,?_,⟨rfl,rfl,rfl,by simp [World.setRow],fun k _ hk=>setRow_other _ _ _ _ hk⟩⟩;rw [setRow_heap _ _ _ _ _ _ hg];simp [splice]
def HisJ (l:List Int) (W1:World) (pre:List (List Int)) (A:World):Prop:=Hid (l ∉ pre)/\KS (fun k=>k < W1.heap.size) W1 A
def HisX (b:Bk) (l:List Int) (w W1:World) (A:World):Prop:=Hid (l∈pasts b)/\A.cell? ⟨w.heap.size+1,0,none⟩=some (.bool true)/\A.cell? ⟨w.heap.size+1+1,0,none⟩=some (.int .i64 0)/\KS (fun k=>k < W1.heap.size/\k≠w.heap.size+1/\k≠w.heap.size+1+1) W1 A
theorem isHistory_ok (hB:BookAt w b vr vg vm vs vc) (hN:∀ m∈b.ms,m.name.size<=1000000) (hK:KindsAt w) {la:Option Addr} {lc:Nat} {l:List Int} (hL:IntsAt w la l) (ht:isHistAl b l=0) :
 Calls Tryz.prog 9 #[.agg #[vr,vg,vm,vs,vc],.slice la l.length lc] w fun e w'=>e=.returned (.tuple #[.bool (isHist b l),.int .i64 0])/\Below w.heap.size w w':=by
 rw [isHist_mem ht];have hk:bookAl b=0:=by
  unfold isHistAl at ht;split at ht
  ·rename_i hh;exact absurd ht hh
  ·rename_i hh;exact Classical.not_not.1 hh
 have hll:l.length=b.ss.length:=by
  unfold isHistAl at ht;rw [if_neg (by simpa using hk)] at ht;split at ht
  ·cases ht
  ·rename_i hh;exact Classical.not_not.1 hh
 refine (callsIn_wide (n:=0)).1 (callsIn_of_wp_marks Tryz.func9 rfl trivial (wpIn_wide.2 ?_) rfl);have HB:=Hh hB;have HN:=Hh hN;have HK:=Hh hK;have hbo:=(bookAl_ok hk).1;have HO:=Hh hbo;have HR:=Hh (bookAl_ok hk).2;have HBA:=Hh hk;have hsl:=hbo.sl;have HL:=Hh hL;have HLL:=Hh hll;obtain ⟨rfl,rfl,⟨ma,mc,rfl,_,_⟩,⟨sa,sc,rfl,_,_⟩,ra,rc,rfl,_,_⟩:=id hB;have hl4:l.length<=4:=by omega
 have hne:((l.length:Int) != (b.ss.length:Int))=false:=by simp;omega
 clear hB hN hK ht hk hbo hL hll;simp only [Tryz.ntmps9,List.size_toArray,List.length_cons,List.length_nil,Nat.reduceAdd,Nat.reduceSub,Array.replicate_succ,Array.replicate_zero,List.push_toArray,List.append_toArray,List.nil_append,List.cons_append];go_wp2_with (go_at_call 37;(with_reducible refine (checkBook_at (HB.out.below (bel)) HN.out (HK.out.below (bel)) HBA.out).mono ?_);rintro e w1 ⟨rfl,hb1⟩;obtain ⟨hc1,hf1⟩:=bcell hb1;have hz1:w.heap.size+1+1 < w1.heap.size:=(by have:=hb1.size;simp at this;omega));have hbw1:Below w.heap.size w w1:=bel;obtain ⟨w2,hr2,hg2,hk2⟩:=copy_lies (X:=w1.alloc (.cells #[.int .i64 0,.int .i64 0,.int .i64 0,.int .i64 0] 90)) (lc:=lc) (cur:=[.int .i64 0,.int .i64 0,.int .i64 0,.int .i64 0]) (World.alloc_heap_new w1 _) hl4 rfl (HL.out.below (bel));rw [hr2];rw [zeros_pad hl4] at hg2;have hpl:(pad l).length=4:=by unfold pad;simp;omega
 obtain ⟨p0,p1,p2,p3,hp⟩:=four hpl;rw [hp] at hg2;have hw2:w1.heap.size < w2.heap.size:=by have:=hk2.size;simp at this;omega
 have hkw:KS (fun k=>k < w1.heap.size) w1 w2:=(KS.alloc _ _ _).trans (hk2.mono fun k _ h=>by omega);have n0:w2.cell? ⟨w1.heap.size,0,none⟩=some (.int .i64 p0):=by unfold World.cell?;rw [hg2];rfl
 have n1:w2.cell? ⟨w1.heap.size,1,none⟩=some (.int .i64 p1):=by unfold World.cell?;rw [hg2];rfl
 have n2:w2.cell? ⟨w1.heap.size,2,none⟩=some (.int .i64 p2):=by unfold World.cell?;rw [hg2];rfl
 have n3:w2.cell? ⟨w1.heap.size,3,none⟩=some (.int .i64 p3):=by unfold World.cell?;rw [hg2];rfl
 have old:∀ b o,b < w1.heap.size->w2.cell? ⟨b,o,none⟩=w1.cell? ⟨b,o,none⟩:=fun b o h=>hkw.cell (x:=⟨b,o,none⟩) h h;have oldf:∀ b o,b < w1.heap.size->w2.frozen? ⟨b,o,none⟩=w1.frozen? ⟨b,o,none⟩:=fun b o h=>hkw.frozen (x:=⟨b,o,none⟩) h h;have q1:w2.cell? ⟨w.heap.size+1,0,none⟩=some (.bool false):=by rw [old _ _ (by omega),hc1 _ _ (by simp),World.cell?_alloc_past _ _ _ (by simp),alloc1_cell (by simp)]
 have q2:w2.cell? ⟨w.heap.size+1+1,0,none⟩=some (.int .i64 0):=by rw [old _ _ (by omega),hc1 _ _ (by simp),alloc1_cell (by simp)]
 have q3:w2.frozen? ⟨w.heap.size+1,0,none⟩=false:=by rw [oldf _ _ (by omega),hf1 _ _ (by simp),World.frozen?_alloc_past _ _ _ (by simp),World.frozen?_alloc_at _ _ _ _ (by simp)]
 have q4:w2.frozen? ⟨w.heap.size+1+1,0,none⟩=false:=by rw [oldf _ _ (by omega),hf1 _ _ (by simp),World.frozen?_alloc_at _ _ _ _ (by simp)]
 have mm:∀ k u,(#[.int .i64 b.room,.int .i64 b.gap,.slice ma b.ms.length mc,.slice sa b.ss.length sc,.slice ra b.rs.length rc]:Array Value)[k]? = some u->w2.cell? ⟨w.heap.size,k,none⟩=some u:=fun k u hk=>by
  rw [old _ _ (by omega),hc1 _ _ (by simp;omega),World.cell?_alloc_past _ _ _ (by simp;omega),World.cell?_alloc_past _ _ _ (by simp),World.cell?_alloc_at _ _ _ _ rfl];exact hk
 obtain ⟨m0,m1,m2,m3,m4⟩:_/\_/\_/\_/\_:=⟨mm 0 _ rfl,mm 1 _ rfl,mm 2 _ rfl,mm 3 _ rfl,mm 4 _ rfl⟩;have hbw2:Below w.heap.size w w2:=hbw1.trans ((hkw.mono fun k _ h=>by omega:KS (fun k=>k < w.heap.size) w1 w2).to_below (by omega));have HP:=Hh hp;have hwx:w.heap.size < w2.heap.size:=by omega
 clear hr2 hg2 hk2 hkw old oldf mm hc1 hf1 hb1 hp hpl hne;go_wp2;refine wpIn_wide.1 (wpIn_range (gf:=38) (recv:=.agg #[.int .i64 b.room,.int .i64 b.gap,.slice ma b.ms.length mc,.slice sa b.ss.length sc,.slice ra b.rs.length rc]) rfl (enters_of Tryz.func38 (by kernel_rfl) rfl)
  (encH (w2.heap.size+6)) (fun x args W h=>by rw [h.1];rfl) (pasts b) (fun k=>k=w2.heap.size+4) (fun k=>(k < w2.heap.size/\k≠w.heap.size+1/\k≠w.heap.size+1+1)∨(w2.heap.size+2<=k/\k<=w2.heap.size+5)) ⟨by omega,by omega⟩ (by omega)
  (fun W hW hsz=>?seq) (HisJ l w2) (fun pre A=>HisX b l w w2 A) ?hJ ?hJx ?h0 (fun pre x a A=>∃ B,w2.heap.size+6<=B/\B < A.heap.size/\A.cell? ⟨B,0,none⟩=some (.int .i64 ((pad x).getD 0 0))/\A.cell? ⟨B,1,none⟩=some (.int .i64 ((pad x).getD 1 0))/\A.cell? ⟨B,2,none⟩=some (.int .i64 ((pad x).getD 2 0))/\A.cell? ⟨B,3,none⟩=some (.int .i64 ((pad x).getD 3 0))/\HisJ l w2 pre A/\a={ tmps:=#[.agg #[.int .i64 b.room,.int .i64 b.gap,.slice ma b.ms.length mc,.slice sa b.ss.length sc,.slice ra b.rs.length rc],.slice la l.length lc,.pointer (some ⟨w.heap.size,0,none⟩),U,.pointer (some ⟨w.heap.size+1,0,none⟩),.pointer (some ⟨w.heap.size+1+1,0,none⟩),.int .i64 0,.pointer (some ⟨w1.heap.size,0,none⟩),.pointer (some ⟨B,0,none⟩),.agg #[.int .i64 b.room,.int .i64 b.gap,.slice ma b.ms.length mc,.slice sa b.ss.length sc,.slice ra b.rs.length rc],.int .i64 0,.int .i64 0,.bool false,U,.slice la l.length lc,.int .i64 l.length,.pointer (some ⟨w.heap.size,3,none⟩),.slice sa b.ss.length sc,.int .i64 b.ss.length,.bool false,.slice (some ⟨w1.heap.size,0,none⟩) 4 4,.slice la l.length lc,.int .i64 l.length,.agg #[.int .i64 b.room,.int .i64 b.gap,.slice ma b.ms.length mc,.slice sa b.ss.length sc,.slice ra b.rs.length rc],.agg #[.int .i64 b.room,.int .i64 b.gap,.slice ma b.ms.length mc,.slice sa b.ss.length sc,.slice ra b.rs.length rc],.func (.func 38) #[.agg #[.int .i64 b.room,.int .i64 b.gap,.slice ma b.ms.length mc,.slice sa b.ss.length sc,.slice ra b.rs.length rc]] #[],cameV (pad x),U,U,U],defers:=[] }) ?hMid ?assign ?body ?done ?stop)
 case seq =>
  have hh:=histories_iter HB.out HK.out HO.out HR.out (Below.next hbw2 hW) (p:=fun k=>(k < w2.heap.size/\k≠w.heap.size+1/\k≠w.heap.size+1+1)∨(w2.heap.size+2<=k/\k<=w2.heap.size+5)) (fun k hk=>.inl (by omega)) (fun k h1 h2=>.inr (by omega));have e4:W.heap.size+1+1+1+1=w2.heap.size+6:=by omega
  have e2:W.heap.size+1+1=w2.heap.size+4:=by omega
  rw [e4,e2] at hh;exact hh
 case hJ=>exact fun pre A B h hk=>⟨h.1,h.2.trans (hk.mono fun k _ hk=>by omega)⟩
 case hJx =>
  rintro pre A B ⟨h1,h2,h3,h4⟩ hk;have e1:=lt_of_cell h2;have e2:=lt_of_cell h3;simp only at e1 e2;exact ⟨h1,(hk.cell (x:=⟨w.heap.size+1,0,none⟩) e1 (by simp;omega)).trans h2,(hk.cell (x:=⟨w.heap.size+1+1,0,none⟩) e2 (by simp;omega)).trans h3,h4.trans (hk.mono fun k _ hk=>by omega)⟩
 case h0=>exact fun W hW hsz=>⟨by simp [Hid],KS.all hW _⟩
 case hMid =>
  rintro pre x a₁ A B ⟨Bx,h1,h2,c0,c1,c2,c3,hj,ha⟩ hk hsz;exact ⟨Bx,h1,by omega,(hk.cell h2 (by simp;omega)).trans c0,(hk.cell h2 (by simp;omega)).trans c1,(hk.cell h2 (by simp;omega)).trans c2,(hk.cell h2 (by simp;omega)).trans c3,⟨hj.1,hj.2.trans (hk.mono fun k _ hk=>by omega)⟩,ha⟩
 case assign =>
  rintro pre x args A hx ⟨rfl,hsz⟩ hj hlt;have hp4:=four (pad_length (x:=x) (by
   obtain ⟨suf,hx⟩:=hx
   have:=(pasts_came HO.out (x:=x) (by rw [hx];simp)).2.2
   omega))
  obtain ⟨x0,x1,x2,x3,hx4⟩:=hp4;have hv:cameV (pad x)=.agg #[.int .i64 x0,.int .i64 x1,.int .i64 x2,.int .i64 x3]:=by rw [hx4];rfl
  have HX:=Hh hx4;have HV:=Hh hv;rw [hv];have HJ:=Hh hj;clear hx4 hv hj;rw [one_param];show Code.wpIn _ _ _ _ _ { tmps:=#[.agg #[.int .i64 b.room,.int .i64 b.gap,.slice ma b.ms.length mc,.slice sa b.ss.length sc,.slice ra b.rs.length rc],.slice la l.length lc,.pointer (some ⟨w.heap.size,0,none⟩),U,.pointer (some ⟨w.heap.size+1,0,none⟩),.pointer (some ⟨w.heap.size+1+1,0,none⟩),.int .i64 0,.pointer (some ⟨w1.heap.size,0,none⟩),U,.agg #[.int .i64 b.room,.int .i64 b.gap,.slice ma b.ms.length mc,.slice sa b.ss.length sc,.slice ra b.rs.length rc],.int .i64 0,.int .i64 0,.bool false,U,.slice la l.length lc,.int .i64 l.length,.pointer (some ⟨w.heap.size,3,none⟩),.slice sa b.ss.length sc,.int .i64 b.ss.length,.bool false,.slice (some ⟨w1.heap.size,0,none⟩) 4 4,.slice la l.length lc,.int .i64 l.length,.agg #[.int .i64 b.room,.int .i64 b.gap,.slice ma b.ms.length mc,.slice sa b.ss.length sc,.slice ra b.rs.length rc],.agg #[.int .i64 b.room,.int .i64 b.gap,.slice ma b.ms.length mc,.slice sa b.ss.length sc,.slice ra b.rs.length rc],.func (.func 38) #[.agg #[.int .i64 b.room,.int .i64 b.gap,.slice ma b.ms.length mc,.slice sa b.ss.length sc,.slice ra b.rs.length rc]] #[],.agg #[.int .i64 x0,.int .i64 x1,.int .i64 x2,.int .i64 x3],U,U,U],defers:=[] } A
  gi_wp2
  refine ⟨(KS.alloc _ _ _),A.heap.size,by omega,by simp,?_,?_,?_,?_,⟨HJ.out.1,HJ.out.2.trans (KS.alloc _ _ _)⟩,?_⟩
  ·rw [HX.out,World.cell?_alloc_at _ _ _ _ rfl];rfl
  ·rw [HX.out,World.cell?_alloc_at _ _ _ _ rfl];rfl
  ·rw [HX.out,World.cell?_alloc_at _ _ _ _ rfl];rfl
  ·rw [HX.out,World.cell?_alloc_at _ _ _ _ rfl];rfl
  ·first | rw [HV.out] | (unfold cameV;rw [HX.out];rfl) | rfl
 case body =>
  rintro pre x a₁ A ⟨suf,hx⟩ ⟨Bx,h1,h2,c0,c1,c2,c3,hj,rfl⟩ hlt;have hmem:x∈pasts b:=by rw [hx];simp
  have hxl:=(pasts_came HO.out hmem).2.2;have ha:A.heap.size≥w2.heap.size:=hj.2.size;have k0:=(hj.2.cell (x:=⟨w1.heap.size,0,none⟩) (by simp;omega) (by simp;omega)).trans n0;have k1:=(hj.2.cell (x:=⟨w1.heap.size,1,none⟩) (by simp;omega) (by simp;omega)).trans n1;have k2:=(hj.2.cell (x:=⟨w1.heap.size,2,none⟩) (by simp;omega) (by simp;omega)).trans n2;have k3:=(hj.2.cell (x:=⟨w1.heap.size,3,none⟩) (by simp;omega) (by simp;omega)).trans n3;have r1:=(hj.2.cell (x:=⟨w.heap.size+1,0,none⟩) (by simp;omega) (by simp;omega)).trans q1;have r2:=(hj.2.cell (x:=⟨w.heap.size+1+1,0,none⟩) (by simp;omega) (by simp;omega)).trans q2;have r3:=(hj.2.frozen (x:=⟨w.heap.size+1,0,none⟩) (by simp;omega) (by simp;omega)).trans q3;have r4:=(hj.2.frozen (x:=⟨w.heap.size+1+1,0,none⟩) (by simp;omega) (by simp;omega)).trans q4;have hA1:w1.heap.size < A.heap.size:=by omega
  have hA2:w.heap.size+1 < A.heap.size:=by omega
  have hA3:w.heap.size+1+1 < A.heap.size:=by omega
  have HJ:=Hh hj;have HM:=Hh hmem;obtain ⟨x0,x1,x2,x3,hx4⟩:=four (pad_length (x:=x) (by omega));rw [hx4] at c0 c1 c2 c3;simp only [List.getD_cons_zero,List.getD_cons_succ] at c0 c1 c2 c3;have hxy:x=l↔[x0,x1,x2,x3]=[p0,p1,p2,p3]:=by
   constructor
   ·rintro rfl;rw [← hx4,← HP.out]
   ·intro e;exact pad_inj (by rw [hxl,HLL.out]) (by omega) (by rw [hx4,HP.out,e])
  clear hj hmem hx hxl hx4 n0 n1 n2 n3 q1 q2 q3 q4 m0 m1 m2 m3 m4;by_cases he:x=l
  ·have he2:=hxy.1 he;simp only [List.cons.injEq,and_true] at he2;obtain ⟨rfl,rfl,rfl,rfl⟩:=he2;have heq:=fun w=>(eqCame x0 x1 x2 x3 x0 x1 x2 x3 w).trans (by simp:_=Result.ok (Value.bool true) w);have HE:=Hh he;clear he hxy
   gi_wp2
   have ks:KS (fun k=>k≠w.heap.size+1/\k≠w.heap.size+1+1) A ((A.setCell ⟨w.heap.size+1,0,none⟩ (.bool true)).setCell ⟨w.heap.size+1+1,0,none⟩ (.int .i64 0)):=(KS.setCell (by simp) _ _).trans (KS.setCell (by simp) _ _);refine ⟨ks.mono fun k _ hk=>by omega,by rw [← HE.out];exact HM,?_,?_,(HJ.out.2.mono fun k _ hk=>hk.1).trans (ks.mono fun k _ hk=>⟨hk.2.1,hk.2.2⟩)⟩
   ·rw [World.cell?_setCell_other (h:=fun e=>by injection e with e _ _;omega),World.cell?_setCell_same' _ _ _ (by rw [r1];rfl)]
   ·rw [World.cell?_setCell_same' _ _ _ (by rw [World.cell?_setCell_other (h:=fun e=>by injection e with e _ _;omega),r2];rfl)]
  ·have hne4:(x0 == p0 && x1 == p1 && x2 == p2 && x3 == p3)=false:=by
    cases hq:(x0 == p0 && x1 == p1 && x2 == p2 && x3 == p3)
    ·rfl
    ·simp only [Bool.and_eq_true,beq_iff_eq] at hq;obtain ⟨⟨⟨rfl,rfl⟩,rfl⟩,rfl⟩:=hq;exact absurd (hxy.2 rfl) he
   have heq:=fun w=>(eqCame x0 x1 x2 x3 p0 p1 p2 p3 w).trans (by rw [hne4]:_=Result.ok (Value.bool false) w);have HE:=Hh he;clear he hxy hne4
   gi_wp2
   exact ⟨KS.refl _ _,fun h=>(List.mem_append.1 h).elim HJ.out.1.out (fun h=>HE.out (List.mem_singleton.1 h).symm),HJ.out.2⟩
 case done =>
  rintro W ⟨hno,hk⟩ hd;have r1:=(hk.cell (x:=⟨w.heap.size+1,0,none⟩) (by simp;omega) (by simp;omega)).trans q1;have r2:=(hk.cell (x:=⟨w.heap.size+1+1,0,none⟩) (by simp;omega) (by simp;omega)).trans q2;have r3:=(hk.frozen (x:=⟨w.heap.size+1,0,none⟩) (by simp;omega) (by simp;omega)).trans q3;have r4:=(hk.frozen (x:=⟨w.heap.size+1+1,0,none⟩) (by simp;omega) (by simp;omega)).trans q4;have hsz:=hk.size;have hA2:w.heap.size+1 < W.heap.size:=by omega
  have hA3:w.heap.size+1+1 < W.heap.size:=by omega
  have HKS:=Hh hk;clear hk n0 n1 n2 n3 q1 q2 q3 q4 m0 m1 m2 m3 m4;go_wp2;obtain ⟨W9,hW9⟩:∃ W9,W9=((W.setCell ⟨w.heap.size+1,0,none⟩ (.bool false)).setCell ⟨w.heap.size+1+1,0,none⟩ (.int .i64 0)):=⟨_,rfl⟩;rw [← hW9];have k9:KS (fun k=>k≠w.heap.size+1/\k≠w.heap.size+1+1) W W9:=by rw [hW9];exact (KS.setCell (by simp) _ _).trans (KS.setCell (by simp) _ _)
  have hD:w2.heap.size < W.heap.size:=(Array.getElem?_eq_some_iff.1 hd).1;have hd9:W9.heap[w2.heap.size]? = some (.deferred (some [])):=(k9.block _ hD (by omega)).trans hd;have k10:KS (fun k=>k≠w2.heap.size) W9 (W9.putObj w2.heap.size (.deferred none)):=KS.putObj (by simp) _ _;have c1:(W9.putObj w2.heap.size (.deferred none)).cell? ⟨w.heap.size+1,0,none⟩=some (.bool false):=by
   rw [k10.cell (x:=⟨w.heap.size+1,0,none⟩) (Nat.lt_of_lt_of_le hA2 k9.size) (by simp;omega),hW9,World.cell?_setCell_other (h:=fun e=>by injection e with e _ _;omega),World.cell?_setCell_same' _ _ _ (by rw [r1];rfl)]
  have c2:(W9.putObj w2.heap.size (.deferred none)).cell? ⟨w.heap.size+1+1,0,none⟩=some (.int .i64 0):=by
   rw [k10.cell (x:=⟨w.heap.size+1+1,0,none⟩) (Nat.lt_of_lt_of_le hA3 k9.size) (by simp;omega),hW9,World.cell?_setCell_same' _ _ _ (by rw [World.cell?_setCell_other (h:=fun e=>by injection e with e _ _;omega),r2];rfl)]
  have hbw:Below w.heap.size w (W9.putObj w2.heap.size (.deferred none)):=by
   have h2:=(HKS.out.toBelow (n:=w.heap.size) (by omega) (fun k hk=>by omega));have h3:=(k9.toBelow (n:=w.heap.size) (by omega) (fun k hk=>by omega));have h4:=(k10.toBelow (n:=w.heap.size) (by have:=k9.size;omega) (fun k hk=>by omega));exact ((hbw2.trans h2).trans h3).trans h4
  clear hW9 r1 r2 r3 r4;refine ⟨by simp,.inl ⟨_,_,rfl,run_takeDeferred hd9,?_⟩⟩;exact ⟨.tuple #[.bool false,.int .i64 0],by simp [results,Tryz.results9,go_sem,c1,c2],by rw [decide_eq_false hno.out],hbw⟩
 case stop =>
  rintro pre W ⟨hyes,r1,r2,hk⟩ hd;have HYES:=Hh hyes;clear hyes n0 n1 n2 n3 q1 q2 q3 q4 m0 m1 m2 m3 m4;have hsz:=hk.size;have hA2:w.heap.size+1 < W.heap.size:=by omega
  have hA3:w.heap.size+1+1 < W.heap.size:=by omega
  have k10:KS (fun k=>k≠w2.heap.size) W (W.putObj w2.heap.size (.deferred none)):=KS.putObj (by simp) _ _;have c1:=(k10.cell (x:=⟨w.heap.size+1,0,none⟩) hA2 (by simp;omega)).trans r1;have c2:=(k10.cell (x:=⟨w.heap.size+1+1,0,none⟩) hA3 (by simp;omega)).trans r2;have hbw:Below w.heap.size w (W.putObj w2.heap.size (.deferred none)):=by
   have h2:=(hk.toBelow (n:=w.heap.size) (by omega) (fun k hk=>by omega));have h4:=(k10.toBelow (n:=w.heap.size) (by omega) (fun k hk=>by omega));exact (hbw2.trans h2).trans h4
  refine wpIn_ret ?_;refine ⟨by simp,.inl ⟨_,_,rfl,run_takeDeferred hd,?_⟩⟩;exact ⟨.tuple #[.bool true,.int .i64 0],by simp [results,Tryz.results9,go_sem,c1,c2],by rw [decide_eq_true HYES.out.out],hbw⟩
end
end Go.Proofs.YtjdmplhdebgbjaaGreatDoor

