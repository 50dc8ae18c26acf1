/- Leads to StoreReached of chapter 6: E12 E13 Y1 Y2 V13 G2 U1 G4 G9. -/
import Derived.Test.YtgemjjdkjmpmlaaGreatDoorRF00
set_option maxHeartbeats 4000000
set_option maxRecDepth 100000
set_option linter.all false
namespace Go.Proofs.YtgemjjdkjmpmlaaGreatDoor
open Go.RowKit Go.Maps Sp
theorem flat_succ (f:Nat→List (List Int)) (k:Nat):(List.range (k+1)).flatMap f=(List.range k).flatMap f ++ f k:=by
 rw [List.range_succ,List.flatMap_append];simp
theorem intsV_pre {w:World} {B n c:Nat} {a:Option Addr} {pre:List Int} {k:Int} (h:w.ownsRow B 3 1 (.slice a n c) n ([] ++ pre.map (Value.int .i64) ++ [.int .i64 k])):IntsV w (.slice a n c) (pre ++ [k]):=IntsV.of (l:=pre ++ [k]) (by simpa using h)
section
variable {b:Bk} {vr vg vm vs vc:Value} {w:World}
theorem rPasts_step (hB:BookAt w b vr vg vm vs vc) (hp5:∀ s∈b.ss,s.length≤5) (h4:b.ss.length≤4) {pre:List Int} {s:List Prt} {l:List (List Prt)} (hs:b.ss.drop pre.length=s::l)
 (hin:∀ n:Nat,n≤s.length→∀ W la lc,Below w.heap.size w W→IntsV W (.slice la (pre.length+1) lc) (pre ++ [(n:Int)])→Calls Tryz.prog 71 #[.agg #[vr,vg,vm,vs,vc],.slice la (pre.length+1) lc] W (PastsOut W (pastsFrom b (pre ++ [(n:Int)]) l)))
 {la:Option Addr} {lc:Nat} (hL:IntsV w (.slice la pre.length lc) pre) :
 Calls Tryz.prog 71 #[.agg #[vr,vg,vm,vs,vc],.slice la pre.length lc] w (PastsOut w ((List.range (s.length+1)).flatMap fun (n:Nat)=>pastsFrom b (pre ++ [(n:Int)]) l)):=by
 have hlt:pre.length < b.ss.length:=by
  apply Classical.byContradiction
  intro h
  rw [List.drop_eq_nil_of_le (by omega)] at hs
  cases hs
 have hsl:(s::l).length≤4:=by rw [← hs,List.length_drop];omega
 have hall:∀ x∈s::l,x.length≤5:=fun x hx=>hp5 x (List.mem_of_mem_drop (hs ▸ hx))
 have hfew:=fun n (hn:n≤s.length+1)=>fuel_pasts (b:=b) (pre:=pre) hp5 hall hsl hn
 have hsx:b.ss[pre.length]=s:=by
  rw [List.drop_eq_getElem_cons hlt] at hs
  exact (List.cons.inj hs).1
 have hs5:s.length≤5:=hall s (List.mem_cons_self ..)
 obtain ⟨sa,sc,rfl,hS,hsl6⟩:=hB.ss
 obtain ⟨sb,so,rfl,hsb,pa,pc,h0,hpc,hpl,hPx⟩:=hS pre.length hlt
 clear hPx
 rw [hsx] at h0 hpc hpl
 obtain ⟨_,_,e,hI,hz,hlc⟩:=hL.form
 cases e
 have hlat0:∀ ad,la=some ad→ad.block < w.heap.size:=fun ad e=>(ownBlock_row hL ad.block (by rw [e];rfl)).2
 have HLAT:=Hh hlat0
 clear hlat0
 have HB:=Hh hB
 have HIN:=Hh hin
 have HI:=Hh hI
 have HZ:=Hh hz
 have HFEW:=Hh hfew
 have heq:((pre.length:Int) == (b.ss.length:Int))=false:=by simp;omega
 have hpi:(pre.length:Int) < b.ss.length:=by omega
 have hp0:(0:Int)≤(pre.length:Int):=by omega
 have hp4:pre.length < 4:=by omega
 generalize hflat:(fun (n:Nat)=>pastsFrom b (pre ++ [(n:Int)]) l)=f at hfew
 have HF:=Hh hflat
 have HIN2:Hid (∀ n:Nat,n≤s.length→∀ W la lc,Below w.heap.size w W→IntsV W (.slice la (pre.length+1) lc) (pre ++ [(n:Int)])→Calls Tryz.prog 71 #[.agg #[vr,vg,vm,.slice (some ⟨sb,so,none⟩) b.ss.length sc,vc],.slice la (pre.length+1) lc] W (PastsOut W (f n))):=by rw [← hflat];exact hin
 have HFEW2:Hid (∀ n,n≤s.length+1→((List.range n).flatMap f).length≤1296):=hfew
 clear hB hp5 hin hI hz hfew hS hs hsx hlt hall hsl hL HIN HFEW hflat
 generalize hpn:pre.length=pn at heq hpi hp0 hp4 h0 hlc
 have HPN:=Hh hpn
 rw [hpn] at HIN2
 clear hpn
 go_enter Tryz.func71,Tryz.ntmps71
 go_wp2
 obtain ⟨W0,hW0⟩:∃ W0,W0=w.alloc (.cells #[vr,vg,vm,.slice (some ⟨sb,so,none⟩) b.ss.length sc,vc] 26):=⟨_,rfl⟩
 rw [← hW0]
 have hb0:Below w.heap.size w W0:=by rw [hW0];(exact bel)
 have nn:∀ k u,(#[vr,vg,vm,.slice (some ⟨sb,so,none⟩) b.ss.length sc,vc]:Array Value)[k]? = some u→W0.cell? ⟨w.heap.size,k,none⟩=some u:=fun k u hk=>by
  rw [hW0,World.cell?_alloc_at _ _ _ _ rfl];exact hk
 have hs0:w.heap.size < W0.heap.size:=by rw [hW0];simp
 have hall:∀ w':World,Below W0.heap.size W0 w'→(Below W0.heap.size W0 w'∧w'.cell? ⟨w.heap.size,0,none⟩=some vr∧w'.cell? ⟨w.heap.size,1,none⟩=some vg∧w'.cell? ⟨w.heap.size,2,none⟩=some vm∧w'.cell? ⟨w.heap.size,3,none⟩=some (.slice (some ⟨sb,so,none⟩) b.ss.length sc)∧w'.cell? ⟨w.heap.size,4,none⟩=some vc):=fun w' h =>
  ⟨h,(h.cell (p:=⟨w.heap.size,0,none⟩) hs0).trans (nn 0 _ rfl),(h.cell (p:=⟨w.heap.size,1,none⟩) hs0).trans (nn 1 _ rfl),(h.cell (p:=⟨w.heap.size,2,none⟩) hs0).trans (nn 2 _ rfl),(h.cell (p:=⟨w.heap.size,3,none⟩) hs0).trans (nn 3 _ rfl),(h.cell (p:=⟨w.heap.size,4,none⟩) hs0).trans (nn 4 _ rfl)⟩
 have HALL:=Hh hall
 clear hW0 nn hall
 go_loopw [5,6] (fun v i wr=>∃ (k:Nat) (a:Option Addr) (c:Nat) (vs:List Value),k≤s.length+1∧i=.int .i64 k∧v=.slice a ((List.range k).flatMap f).length c∧wr.ownsRow W0.heap.size 30 1 (.slice a ((List.range k).flatMap f).length c) ((List.range k).flatMap f).length vs∧ListsV wr vs ((List.range k).flatMap f)∧Below W0.heap.size W0 wr) (fun _ i _=>s.length+1 - (intOf i).toNat)
 case atStart=>exact ⟨0,none,0,[],Nat.zero_le _,rfl,rfl,World.ownsRow_nil _ _ _ _,ListsV.nil _,Below.refl _ _⟩
 case round =>
  obtain ⟨k,a,c,vs,hk,rfl,rfl,hrow,hlv,hW⟩:=hrel
  have hWs:=hW.size
  obtain ⟨_,m0,m1,m2,m3,m4⟩:=HALL.out _ hW
  have hbw:=Below.next hb0 hW
  have hx1:w.heap.size < wr.heap.size:=by omega
  have g0:=(hbw.cell hsb).trans h0
  have hsb2:sb < wr.heap.size:=Nat.lt_of_lt_of_le hsb hbw.size
  have HROW:=Hh hrow
  have HLV:=Hh hlv
  by_cases hlt:k≤s.length
  ·have hfl:=flat_succ f k
   have hf1:=HFEW2.out (k+1) (by omega)
   rw [hfl,List.length_append] at hf1
   have HFL:=Hh hfl
   clear hrow hlv hfl
   have hcall:=HIN2.out k hlt
   have HCALL:=Hh hcall
   have hsrc:Src1 wr la lc (pre.map (Value.int .i64)):=(ints_src (HI.out.below hbw) HZ.out)
   have HSRC:=Hh hsrc
   have HBW:=Hh hbw
   have HLEN:=Hh (show (pre.map (Value.int .i64)).length=pn by rw [List.length_map];exact HPN.out)
   have HONE:=Hh (show ∀ u∈pre.map (Value.int .i64),u.oneCell'=true from fun u hu=>by obtain ⟨x,_,rfl⟩:=List.mem_map.1 hu;rfl)
   have HLT:=Hh (show ∀ ad,la=some ad→ad.block < wr.heap.size from fun ad e=>Nat.lt_of_lt_of_le (HLAT.out ad e) hbw.size)
   clear hcall hsrc
   generalize hout:(List.range k).flatMap f=out at hf1 HROW HLV HFL
   generalize hnew:f k=new at hf1 HFL HCALL
   have HO1:=Hh hout
   have HNW:=Hh hnew
   clear hout hnew
   go_wp2
   go_region_held3 (fun w'=>Below W0.heap.size W0 w'∧w'.cell? ⟨w.heap.size,0,none⟩=some vr∧w'.cell? ⟨w.heap.size,1,none⟩=some vg∧w'.cell? ⟨w.heap.size,2,none⟩=some vm∧w'.cell? ⟨w.heap.size,3,none⟩=some (.slice (some ⟨sb,so,none⟩) b.ss.length sc)∧w'.cell? ⟨w.heap.size,4,none⟩=some vc)
    ((go_split_ands;exact HALL.out _ (bel)))
    (first
      | (refine step_appW wr rfl _ _ 30 rfl 3 Tryz.underlying30 intInfo rfl (by omega) (.slice (some ⟨wr.heap.size,0,none⟩) 0 0) 0 [] rfl la pn lc (pre.map (Value.int .i64)) rfl HLEN.out HONE.out pn (by omega) (by omega) ?_ ?_ ?_ ?_;(focus ((exact bel)));exact own_lit rfl (Nat.le_refl _);exact (HSRC.out).ks (KS.all (show Below wr.heap.size wr _ from bel) (fun _=>True)) (fun ad e=>⟨HLT.out ad e,trivial⟩);intro a2 c2 w2 hown2 hks2 hbw2)
      | (refine step_appW wr rfl _ _ 30 rfl 3 Tryz.underlying30 intInfo rfl (by omega) (.slice (some ⟨wr.heap.size,0,none⟩) 0 0) 0 [] rfl la pn lc (pre.map (Value.int .i64)) rfl HLEN.out HONE.out pn (by omega) (by omega) ?_ ?_ ?_ ?_;(focus ((exact bel)));exact (own_lit (w:=wr.drew) rfl (Nat.le_refl _)).alloc _;exact (HSRC.out).ks (KS.all (show Below wr.heap.size wr _ from bel) (fun _=>True)) (fun ad e=>⟨HLT.out ad e,trivial⟩);intro a2 c2 w2 hown2 hks2 hbw2;have hsrc2:Src1 w2 (some ⟨wr.heap.size+1,0,none⟩) 1 [.int .i64 k]:=(src_new (wr.drew.alloc (.cells #[] 3)) [.int .i64 k] 3 (n:=wr.heap.size+1) (by simp) 1).ks hks2 (fun ad e=>by cases e;exact ⟨by simp,by simp [Value.ownBlock]⟩))
      | (refine step_appW wr rfl _ _ 30 rfl 3 Tryz.underlying30 intInfo rfl (by omega) (.slice (some ⟨wr.heap.size+1,0,none⟩) 0 0) 0 [] rfl la pn lc (pre.map (Value.int .i64)) rfl HLEN.out HONE.out pn (by omega) (by omega) ?_ ?_ ?_ ?_;(focus ((exact bel)));exact own_lit (by simp) (by omega);exact (HSRC.out).ks (KS.all (show Below wr.heap.size wr _ from bel) (fun _=>True)) (fun ad e=>⟨HLT.out ad e,trivial⟩);intro a2 c2 w2 hown2 hks2 hbw2;have hsrc2:Src1 w2 (some ⟨wr.heap.size,0,none⟩) 1 [.int .i64 k]:=((src_new wr.drew [.int .i64 k] 3 (n:=wr.heap.size) rfl 1).ks (KS.alloc (fun _=>True) _ (.cells #[] 3)) (fun ad e=>by cases e;exact ⟨by simp,trivial⟩)).ks hks2 (fun ad e=>by cases e;exact ⟨by simp;omega,by simp [Value.ownBlock]⟩))
      | (refine step_appW wr rfl _ _ 30 rfl 3 Tryz.underlying30 intInfo rfl (by omega) (.slice a2 pn c2) pn ([] ++ pre.map (Value.int .i64)) rfl (some ⟨w2.heap.size,0,none⟩) 1 1 [.int .i64 k] rfl rfl (by simp [Value.oneCell']) (pn+1) rfl (by omega) ?_ ?_ ?_ ?_;(focus ((exact bel)));exact hown2.alloc _;exact src_new w2 [.int .i64 k] 3 rfl 1;intro a4 c4 w4 hown4 hks4 hbw4)
      | (refine step_appW wr rfl _ _ 30 rfl 3 Tryz.underlying30 intInfo rfl (by omega) (.slice a2 pn c2) pn ([] ++ pre.map (Value.int .i64)) rfl (some ⟨wr.heap.size+1,0,none⟩) 1 1 [.int .i64 k] rfl rfl (by simp [Value.oneCell']) (pn+1) rfl (by omega) ?_ ?_ ?_ ?_;(focus ((exact bel)));exact hown2;exact hsrc2;intro a4 c4 w4 hown4 hks4 hbw4)
      | (refine step_appW wr rfl _ _ 30 rfl 3 Tryz.underlying30 intInfo rfl (by omega) (.slice a2 pn c2) pn ([] ++ pre.map (Value.int .i64)) rfl (some ⟨wr.heap.size,0,none⟩) 1 1 [.int .i64 k] rfl rfl (by simp [Value.oneCell']) (pn+1) rfl (by omega) ?_ ?_ ?_ ?_;(focus ((exact bel)));exact hown2;exact hsrc2;intro a4 c4 w4 hown4 hks4 hbw4)
      | (go_at_call 71;go_split_ands;(with_reducible refine (HCALL.out w4 a4 c4 (Below.next hbw hbw4) (intsV_pre hown4)).mono ?_);rintro e w5 ⟨a5,c5,vs5,rfl,hrow5,hl5,hb5⟩;have hbr5:Below wr.heap.size wr w5:=Below.next hbw4 hb5;have hown5:=ownsRow_below HROW.out hbr5)
      | (refine step_appW W0 rfl _ _ 43 rfl 30 Tryz.underlying43 listInfo rfl (by omega) (.slice a out.length c) out.length vs rfl a5 new.length c5 vs5 rfl hl5.1 hl5.one (out.length+new.length) rfl (by omega) ?_ ?_ ?_ ?_;exact Below.next hW hbr5;exact hown5;exact src_row hrow5;intro a6 c6 w6 hown6 hks6 hbw6))
   all_goals
    have hl6:=((HLV.out.below hbr5).append hl5).keep hown5 (by decide) hks6
    rw [← HFL.out] at hl6
    have hlen6:out.length+new.length=((List.range (k+1)).flatMap f).length:=by rw [HFL.out,List.length_append]
    rw [hlen6] at hown6
    have HL6:=Hh hl6
    have HR6:=Hh hown6
    have HE6:=Hh hlen6
    have HB6:=Hh hbw6
    clear hl6 hown6 hlen6 hks6
    go_wp2
    go_roundw
    case rel=>exact ⟨k+1,a6,c6,_,by omega,by go_num,by rw [HE6.out],HR6.out,HL6.out,HB6.out⟩
    case measure=>simp [intOf];omega
  ·obtain rfl:k=s.length+1:=by omega
   clear hrow hlv
   go_wp2
   go_ret
   exact ⟨a,c,vs,rfl,ownsRow_base HROW.out (by omega),HLV.out,hbw⟩
end
section
variable {b:Bk} {vr vg vm vs vc:Value} {w:World}
theorem rPasts_at (hO:BkOk b) (hr:∀ r∈b.rs,recAl b r=0):∀ (l:List (List Prt)) (pre:List Int) (w:World) (la:Option Addr) (lc:Nat),BookAt w b vr vg vm vs vc→b.ss.drop pre.length=l→pre.length≤b.ss.length→PreIn b.ss pre→IntsV w (.slice la pre.length lc) pre →
 Calls Tryz.prog 71 #[.agg #[vr,vg,vm,vs,vc],.slice la pre.length lc] w (PastsOut w (pastsFrom b pre l))
 | [],pre,w,la,lc,hB,hs,hle,hp,hL=>by
  have hl:pre.length=b.ss.length:=by
   apply Classical.byContradiction
   intro h
   have:=congrArg List.length hs
   rw [List.length_drop,List.length_nil] at this
   omega
  unfold pastsFrom
  exact rPasts_leaf hB hO hr hl hp hL
 | s::l,pre,w,la,lc,hB,hs,hle,hp,hL=>by
  have hlt:pre.length < b.ss.length:=by
   apply Classical.byContradiction
   intro h
   rw [List.drop_eq_nil_of_le (by omega)] at hs
   cases hs
  have hd:=List.drop_eq_getElem_cons hlt
  rw [hs] at hd
  obtain ⟨h1,h2⟩:=List.cons.inj hd
  unfold pastsFrom
  refine rPasts_step hB hO.pl hO.sl hs (fun n hn W la' lc' hW hL'=>?_) hL
  have:=rPasts_at hO hr l (pre ++ [(n:Int)]) W la' lc' (hB.below hW) (by rw [List.length_append];exact h2.symm) (by rw [List.length_append];simp;omega) (fun i hi=>?_) (by rw [List.length_append];exact hL')
  ·rw [List.length_append] at this;exact this
  ·rw [List.length_append] at hi
   by_cases hip:i < pre.length
   ·rw [List.getElem_append_left hip]
    exact hp i hip
   ·obtain rfl:i=pre.length:=by simp at hi;omega
    rw [List.getElem_append_right (Nat.le_refl _)]
    simp only [Nat.sub_self,List.getElem_cons_zero]
    exact ⟨by omega,hlt,by rw [← h1];omega⟩
theorem rPastsOf_at (hB:BookAt w b vr vg vm vs vc) (hO:BkOk b) (hr:∀ r∈b.rs,recAl b r=0) :
 Calls Tryz.prog 22 #[.agg #[vr,vg,vm,vs,vc]] w (PastsOut w (pasts b)):=by
 have hc:∀ (W:World) (hb:Below w.heap.size w W),Calls Tryz.prog 71 #[.agg #[vr,vg,vm,vs,vc],.slice none 0 0] W (PastsOut W (pasts b)):=fun (W:World) (hb:Below w.heap.size w W)=>rPasts_at (vr:=vr) (vg:=vg) (vm:=vm) (vs:=vs) (vc:=vc) hO hr b.ss [] W none 0 (hB.below hb) rfl (Nat.zero_le _) (fun i hi=>absurd hi (Nat.not_lt_zero _)) (IntsV.nil _)
 have HC:=Hh hc
 clear hc hB hO hr
 go_enter Tryz.func22,Tryz.ntmps22
 go_wp2_with (go_at_call 71;(with_reducible refine (HC.out _ (bel)).mono ?_);rintro e w1 ⟨a,c,vs',rfl,h1,h2,h3⟩)
 go_ret
 exact ⟨a,c,vs',rfl,ownsRow_base h1 (by simp),h2,bel⟩
end
attribute [local go_sem] Oper.semAt_some
theorem eqCame (a b c d a' b' c' d':Int) (w:World):(binOp .eql 124 (.agg #[.int .i64 a,.int .i64 b,.int .i64 c,.int .i64 d]) (.agg #[.int .i64 a',.int .i64 b',.int .i64 c',.int .i64 d'])).run Tryz.prog w=.ok (.bool (a == a' && b == b' && c == c' && d == d')) w:=by
 have u3:=Tryz.underlying3
 rw [run_eql_struct,show (10000:Nat)=9999+1 from rfl,Op.equalIn]
 simp only [Sem.run_bind,run_underlying Tryz.underlying124,Result.andThen_ok]
 simp only [Std.Legacy.Range.forIn_eq_forIn_range',Std.Legacy.Range.size,Nat.sub_zero,Nat.add_sub_cancel,Nat.div_one,List.range'_succ,List.range'_zero,List.forIn_cons,List.forIn_nil]
 go_simp
 by_cases h1:a=a' <;> by_cases h2:b=b' <;> by_cases h3:c=c' <;> by_cases h4:d=d' <;> simp [h1,h2,h3,h4]
theorem isHist_mem {b:Bk} {l:List Int} (h:isHistAl b l=0):isHist b l=decide (l∈pasts b):=by
 have hl:l.length=b.ss.length:=by
  unfold isHistAl at h
  split at h
  ·rename_i hh;exact absurd h hh
  ·split at h
   ·cases h
   ·rename_i hh;exact Classical.not_not.1 hh
 unfold isHist
 rw [h]
 simp only [decide_true,Bool.true_and]
 by_cases hm:l∈pasts b
 ·obtain ⟨suf,e,h1,h2,h3⟩:=(mem_pastsFrom b.ss [] l).1 hm
  rw [List.nil_append] at e
  subst e
  have:inRange b.ss l=true:=by
   unfold inRange
   rw [List.all_eq_true]
   intro i hi
   have hi:i < l.length:=by simpa using hi
   obtain ⟨h4,h5,h6⟩:=h2 i hi
   rw [getD_of_lt hi,List.getElem?_eq_getElem h5]
   unfold inB
   exact decide_eq_true (show 0≤l[i]∧l[i]≤(b.ss[i].length:Int) from ⟨h4,h6⟩)
  rw [this,h3];simp [hm]
 ·have:¬ (inRange b.ss l=true∧right b l=true):=fun ⟨h1,h2⟩=>hm ((mem_pastsFrom b.ss [] l).2 ⟨l,rfl,hl,fun i hi=>by
   have hi2:i < b.ss.length:=hl ▸ hi
   have h3:=inRange_came h1 hl i hi2
   rw [getD_of_lt hi] at h3
   exact ⟨h3.1,hi2,h3.2⟩,h2⟩)
  simp only [hm,decide_false]
  cases h1:inRange b.ss l
  ·rfl
  ·cases h2:right b l
   ·rfl
   ·exact absurd ⟨h1,h2⟩ this
theorem pad_inj {x y:List Int} (h:x.length=y.length) (h4:x.length≤4) (e:pad x=pad y):x=y:=by
 unfold pad at e
 rw [h] at e
 exact List.append_cancel_right e
section
variable {b:Bk} {vr vg vm vs vc:Value} {w:World}
theorem isHistory_no (hB:BookAt w b vr vg vm vs vc) (hN:∀ m∈b.ms,m.name.size≤1000000) (hK:KindsAt w) {la:Option Addr} {lc:Nat} {l:List Int} {t:Int} (hL:l.length≤1000000) (ht:isHistAl b l=t) (h0:t≠0) :
 Calls Tryz.prog 58 #[.agg #[vr,vg,vm,vs,vc],.slice la l.length lc] w fun e w'=>e=.returned (.tuple #[.bool false,.int .i64 t])∧Below w.heap.size w w':=by
 have HB:=Hh hB
 have HN:=Hh hN
 have HK:=Hh hK
 obtain ⟨rfl,rfl,⟨ma,mc,rfl,_,_⟩,⟨sa,sc,rfl,_,hsl⟩,ra,rc,rfl,_,_⟩:=id hB
 clear hB hN hK
 by_cases hk:bookAl b=0
 case neg =>
  have h1:isHistAl b l=bookAl b:=by unfold isHistAl;rw [if_pos hk]
  rw [h1] at ht
  have H0:=Hh ht
  have hz3:(t != 0)=true:=by simpa using h0
  clear ht h1 hk h0
  go_enter Tryz.func58,Tryz.ntmps58
  go_wp2_with (go_at_call 72;(with_reducible refine (checkBook_at (HB.out.below (bel)) HN.out (HK.out.below (bel)) H0.out).mono ?_);rintro e w1 ⟨rfl,hb1⟩;obtain ⟨hc1,hf1⟩:=bcell hb1;have hz1:w.heap.size+1+1 < w1.heap.size:=(by have:=hb1.size;simp at this;omega))
  have k9:KS (fun k=>k < w.heap.size) w1 ((w1.setCell ⟨w.heap.size+1,0,none⟩ (.bool false)).setCell ⟨w.heap.size+1+1,0,none⟩ (.int .i64 t)):=(KS.setCell (by simp) _ _).trans (KS.setCell (by simp;omega) _ _)
  have hbw:Below w.heap.size w w1:=bel
  have c1:((w1.setCell ⟨w.heap.size+1,0,none⟩ (.bool false)).setCell ⟨w.heap.size+1+1,0,none⟩ (.int .i64 t)).cell? ⟨w.heap.size+1,0,none⟩=some (.bool false):=by
   rw [World.cell?_setCell_other (h:=fun e=>by injection e with e _ _;omega),World.cell?_setCell_same' _ _ _ (by rw [hc1 _ _ (by simp),World.cell?_alloc_past _ _ _ (by simp),alloc1_cell (by simp)];rfl)]
  have c2:((w1.setCell ⟨w.heap.size+1,0,none⟩ (.bool false)).setCell ⟨w.heap.size+1+1,0,none⟩ (.int .i64 t)).cell? ⟨w.heap.size+1+1,0,none⟩=some (.int .i64 t):=by
   rw [World.cell?_setCell_same' _ _ _ (by rw [World.cell?_setCell_other (h:=fun e=>by injection e with e _ _;omega),hc1 _ _ (by simp),alloc1_cell (by simp)];rfl)]
  exact bodyPost_ret (v:=.tuple #[.bool false,.int .i64 t]) (by simp [results,Tryz.results58,go_sem,c1,c2]) rfl ⟨rfl,hbw.trans (k9.to_below hbw.size)⟩
 have H0:=Hh hk
 have hs4:=(bookAl_ok hk).1.sl
 have h1:l.length≠b.ss.length:=fun e=>h0 (by rw [← ht];unfold isHistAl;rw [if_neg (by simpa using hk),if_neg (by simpa using e)])
 have h2:t=2:=by rw [← ht];unfold isHistAl;rw [if_neg (by simpa using hk),if_pos h1]
 subst h2
 have hne:((l.length:Int) != (b.ss.length:Int))=true:=by simp;omega
 clear ht h0 hk h1
 go_enter Tryz.func58,Tryz.ntmps58
 go_wp2_with (go_at_call 72;(with_reducible refine (checkBook_at (HB.out.below (bel)) HN.out (HK.out.below (bel)) H0.out).mono ?_);rintro e w1 ⟨rfl,hb1⟩;obtain ⟨hc1,hf1⟩:=bcell hb1;have hz1:w.heap.size+1+1 < w1.heap.size:=(by have:=hb1.size;simp at this;omega))
 have k9:KS (fun k=>k < w.heap.size) w1 ((w1.setCell ⟨w.heap.size+1,0,none⟩ (.bool false)).setCell ⟨w.heap.size+1+1,0,none⟩ (.int .i64 2)):=(KS.setCell (by simp) _ _).trans (KS.setCell (by simp;omega) _ _)
 have hbw:Below w.heap.size w w1:=bel
 have c1:((w1.setCell ⟨w.heap.size+1,0,none⟩ (.bool false)).setCell ⟨w.heap.size+1+1,0,none⟩ (.int .i64 2)).cell? ⟨w.heap.size+1,0,none⟩=some (.bool false):=by
  rw [World.cell?_setCell_other (h:=fun e=>by injection e with e _ _;omega),World.cell?_setCell_same' _ _ _ (by rw [hc1 _ _ (by simp),World.cell?_alloc_past _ _ _ (by simp),alloc1_cell (by simp)];rfl)]
 have c2:((w1.setCell ⟨w.heap.size+1,0,none⟩ (.bool false)).setCell ⟨w.heap.size+1+1,0,none⟩ (.int .i64 2)).cell? ⟨w.heap.size+1+1,0,none⟩=some (.int .i64 2):=by
  rw [World.cell?_setCell_same' _ _ _ (by rw [World.cell?_setCell_other (h:=fun e=>by injection e with e _ _;omega),hc1 _ _ (by simp),alloc1_cell (by simp)];rfl)]
 exact bodyPost_ret (v:=.tuple #[.bool false,.int .i64 2]) (by simp [results,Tryz.results58,go_sem,c1,c2]) rfl ⟨rfl,hbw.trans (k9.to_below hbw.size)⟩
end
attribute [local go_sem] Oper.semAt_some
section
variable {b:Bk} {vr vg vm vs vc:Value} {w:World}
theorem zeros_pad {l:List Int} (h:l.length≤4):splice [Value.int .i64 0,.int .i64 0,.int .i64 0,.int .i64 0] 0 (l.map (Value.int .i64))=(pad l).map (Value.int .i64):=by
 have e:[Value.int .i64 0,.int .i64 0,.int .i64 0,.int .i64 0]=List.replicate 4 (Value.int .i64 0):=rfl
 unfold splice pad
 rw [e]
 simp only [List.take_zero,List.nil_append,List.length_map,Nat.zero_add,List.drop_replicate,List.map_append,List.map_replicate]
theorem add_off' (b o j:Nat):Addr.add ⟨b,o,none⟩ j=⟨b,o+j,none⟩:=by unfold Addr.add;split <;> simp_all
theorem copy_lies {X:World} {g:Nat} {cur:List Value} {t:TypeId} {la:Option Addr} {lc:Nat} {l:List Int} (hg:X.heap[g]? = some (.cells cur.toArray t (0,0))) (hl:l.length≤4) (hc:cur.length=4) (hI:IntsAt X la l) :
 ∃ w2,(Builtin.copy_ #[30,30] 3 #[.slice (some ⟨g,0,none⟩) 4 4,.slice la l.length lc]).run Tryz.prog X=.ok (goInt l.length) w2∧w2.heap[g]? = some (.cells (splice cur 0 (l.map (Value.int .i64))).toArray t (0,0))∧KS (fun k=>k≠g) X w2:=by
 have hsz:(Tryz.prog.info? 3).map (·.size)=some 1:=by kernel_rfl
 by_cases h0:l.length=0
 ·obtain rfl:l=[]:=List.length_eq_zero_iff.1 h0
  exact ⟨X,run_copy_none (P:=Tryz.prog) X 30 30 3 3 _ _ _ _ _ _ Tryz.underlying30 hsz (by simp),by rw [hg];simp [splice],KS.refl _ _⟩
 ·obtain ⟨b0,o0,rfl,_,_⟩:=hI 0 (by omega)
  have hr:=run_copy_row (P:=Tryz.prog) X 30 30 3 3 g 0 4 4 ⟨b0,o0,none⟩ l.length lc cur.toArray t (l.map (Value.int .i64)) Tryz.underlying30 hsz hg (by rw [List.length_map];exact (Nat.min_eq_left hl).symm) (fun j v hj=>by
   rw [List.getElem?_map] at hj
   obtain ⟨x,hx,rfl⟩:=Option.map_eq_some_iff.1 hj
   obtain ⟨hjl,rfl⟩:=List.getElem?_eq_some_iff.1 hx
   obtain ⟨b1,o1,e1,hlt1,hc1⟩:=hI j hjl
   cases e1
   rw [add_off'];exact hc1) (by rw [List.length_map,List.size_toArray,hc];omega) (fun u hu=>by obtain ⟨x,_,rfl⟩:=List.mem_map.1 hu;rfl)
  rw [List.length_map] at hr
  refine ⟨_,hr,?_,⟨rfl,rfl,rfl,by simp [World.setRow],fun k _ hk=>setRow_other _ _ _ _ hk⟩⟩
  rw [setRow_heap _ _ _ _ _ _ hg]
  simp [splice]
def HisJ (l:List Int) (W1:World) (pre:List (List Int)) (A:World):Prop:=Hid (l ∉ pre)∧KS (fun k=>k < W1.heap.size) W1 A
def HisX (b:Bk) (l:List Int) (w W1:World) (A:World):Prop:=Hid (l∈pasts b)∧A.cell? ⟨w.heap.size+1,0,none⟩=some (.bool true)∧A.cell? ⟨w.heap.size+1+1,0,none⟩=some (.int .i64 0)∧KS (fun k=>k < W1.heap.size∧k≠w.heap.size+1∧k≠w.heap.size+1+1) W1 A
theorem isHistory_ok (hB:BookAt w b vr vg vm vs vc) (hN:∀ m∈b.ms,m.name.size≤1000000) (hK:KindsAt w) {la:Option Addr} {lc:Nat} {l:List Int} (hL:IntsAt w la l) (ht:isHistAl b l=0) :
 Calls Tryz.prog 58 #[.agg #[vr,vg,vm,vs,vc],.slice la l.length lc] w fun e w'=>e=.returned (.tuple #[.bool (isHist b l),.int .i64 0])∧Below w.heap.size w w':=by
 rw [isHist_mem ht]
 have hk:bookAl b=0:=by
  unfold isHistAl at ht
  split at ht
  ·rename_i hh;exact absurd ht hh
  ·rename_i hh;exact Classical.not_not.1 hh
 have hll:l.length=b.ss.length:=by
  unfold isHistAl at ht
  rw [if_neg (by simpa using hk)] at ht
  split at ht
  ·cases ht
  ·rename_i hh;exact Classical.not_not.1 hh
 refine (callsIn_wide (n:=0)).1 (callsIn_of_wp_marks Tryz.func58 rfl trivial (wpIn_wide.2 ?_) rfl)
 have HB:=Hh hB
 have HN:=Hh hN
 have HK:=Hh hK
 have hbo:=(bookAl_ok hk).1
 have HO:=Hh hbo
 have HR:=Hh (bookAl_ok hk).2
 have HBA:=Hh hk
 have hsl:=hbo.sl
 have HL:=Hh hL
 have HLL:=Hh hll
 obtain ⟨rfl,rfl,⟨ma,mc,rfl,_,_⟩,⟨sa,sc,rfl,_,_⟩,ra,rc,rfl,_,_⟩:=id hB
 have hl4:l.length≤4:=by omega
 have hne:((l.length:Int) != (b.ss.length:Int))=false:=by simp;omega
 clear hB hN hK ht hk hbo hL hll
 simp only [Tryz.ntmps58,List.size_toArray,List.length_cons,List.length_nil,Nat.reduceAdd,Nat.reduceSub,Array.replicate_succ,Array.replicate_zero,List.push_toArray,List.append_toArray,List.nil_append,List.cons_append]
 go_wp2_with (go_at_call 72;(with_reducible refine (checkBook_at (HB.out.below (bel)) HN.out (HK.out.below (bel)) HBA.out).mono ?_);rintro e w1 ⟨rfl,hb1⟩;obtain ⟨hc1,hf1⟩:=bcell hb1;have hz1:w.heap.size+1+1 < w1.heap.size:=(by have:=hb1.size;simp at this;omega))
 have hbw1:Below w.heap.size w w1:=bel
 obtain ⟨w2,hr2,hg2,hk2⟩:=copy_lies (X:=w1.alloc (.cells #[.int .i64 0,.int .i64 0,.int .i64 0,.int .i64 0] 124)) (lc:=lc) (cur:=[.int .i64 0,.int .i64 0,.int .i64 0,.int .i64 0]) (World.alloc_heap_new w1 _) hl4 rfl (HL.out.below (bel))
 rw [hr2]
 rw [zeros_pad hl4] at hg2
 have hpl:(pad l).length=4:=by unfold pad;simp;omega
 obtain ⟨p0,p1,p2,p3,hp⟩:=four hpl
 rw [hp] at hg2
 have hw2:w1.heap.size < w2.heap.size:=by have:=hk2.size;simp at this;omega
 have hkw:KS (fun k=>k < w1.heap.size) w1 w2:=(KS.alloc _ _ _).trans (hk2.mono fun k _ h=>by omega)
 have n0:w2.cell? ⟨w1.heap.size,0,none⟩=some (.int .i64 p0):=by unfold World.cell?;rw [hg2];rfl
 have n1:w2.cell? ⟨w1.heap.size,1,none⟩=some (.int .i64 p1):=by unfold World.cell?;rw [hg2];rfl
 have n2:w2.cell? ⟨w1.heap.size,2,none⟩=some (.int .i64 p2):=by unfold World.cell?;rw [hg2];rfl
 have n3:w2.cell? ⟨w1.heap.size,3,none⟩=some (.int .i64 p3):=by unfold World.cell?;rw [hg2];rfl
 have old:∀ b o,b < w1.heap.size→w2.cell? ⟨b,o,none⟩=w1.cell? ⟨b,o,none⟩:=fun b o h=>hkw.cell (x:=⟨b,o,none⟩) h h
 have oldf:∀ b o,b < w1.heap.size→w2.frozen? ⟨b,o,none⟩=w1.frozen? ⟨b,o,none⟩:=fun b o h=>hkw.frozen (x:=⟨b,o,none⟩) h h
 have q1:w2.cell? ⟨w.heap.size+1,0,none⟩=some (.bool false):=by rw [old _ _ (by omega),hc1 _ _ (by simp),World.cell?_alloc_past _ _ _ (by simp),alloc1_cell (by simp)]
 have q2:w2.cell? ⟨w.heap.size+1+1,0,none⟩=some (.int .i64 0):=by rw [old _ _ (by omega),hc1 _ _ (by simp),alloc1_cell (by simp)]
 have q3:w2.frozen? ⟨w.heap.size+1,0,none⟩=false:=by rw [oldf _ _ (by omega),hf1 _ _ (by simp),World.frozen?_alloc_past _ _ _ (by simp),World.frozen?_alloc_at _ _ _ _ (by simp)]
 have q4:w2.frozen? ⟨w.heap.size+1+1,0,none⟩=false:=by rw [oldf _ _ (by omega),hf1 _ _ (by simp),World.frozen?_alloc_at _ _ _ _ (by simp)]
 have mm:∀ k u,(#[.int .i64 b.room,.int .i64 b.gap,.slice ma b.ms.length mc,.slice sa b.ss.length sc,.slice ra b.rs.length rc]:Array Value)[k]? = some u→w2.cell? ⟨w.heap.size,k,none⟩=some u:=fun k u hk=>by
  rw [old _ _ (by omega),hc1 _ _ (by simp;omega),World.cell?_alloc_past _ _ _ (by simp;omega),World.cell?_alloc_past _ _ _ (by simp),World.cell?_alloc_at _ _ _ _ rfl];exact hk
 obtain ⟨m0,m1,m2,m3,m4⟩:_∧_∧_∧_∧_:=⟨mm 0 _ rfl,mm 1 _ rfl,mm 2 _ rfl,mm 3 _ rfl,mm 4 _ rfl⟩
 have hbw2:Below w.heap.size w w2:=hbw1.trans ((hkw.mono fun k _ h=>by omega:KS (fun k=>k < w.heap.size) w1 w2).to_below (by omega))
 have HP:=Hh hp
 have hwx:w.heap.size < w2.heap.size:=by omega
 clear hr2 hg2 hk2 hkw old oldf mm hc1 hf1 hb1 hp hpl hne
 go_wp2
 refine wpIn_wide.1 (wpIn_range (gf:=102) (recv:=.agg #[.int .i64 b.room,.int .i64 b.gap,.slice ma b.ms.length mc,.slice sa b.ss.length sc,.slice ra b.rs.length rc]) rfl (enters_of Tryz.func102 (by kernel_rfl) rfl)
  (encH (w2.heap.size+6)) (fun x args W h=>by rw [h.1];rfl) (pasts b) (fun k=>k=w2.heap.size+4) (fun k=>(k < w2.heap.size∧k≠w.heap.size+1∧k≠w.heap.size+1+1)∨(w2.heap.size+2≤k∧k≤w2.heap.size+5)) ⟨by omega,by omega⟩ (by omega)
  (fun W hW hsz=>?seq) (HisJ l w2) (fun pre A=>HisX b l w w2 A) ?hJ ?hJx ?h0 (fun pre x a A=>∃ B,w2.heap.size+6≤B∧B < A.heap.size∧A.cell? ⟨B,0,none⟩=some (.int .i64 ((pad x).getD 0 0))∧A.cell? ⟨B,1,none⟩=some (.int .i64 ((pad x).getD 1 0))∧A.cell? ⟨B,2,none⟩=some (.int .i64 ((pad x).getD 2 0))∧A.cell? ⟨B,3,none⟩=some (.int .i64 ((pad x).getD 3 0))∧HisJ l w2 pre A∧a={ tmps:=#[.agg #[.int .i64 b.room,.int .i64 b.gap,.slice ma b.ms.length mc,.slice sa b.ss.length sc,.slice ra b.rs.length rc],.slice la l.length lc,.pointer (some ⟨w.heap.size,0,none⟩),U,.pointer (some ⟨w.heap.size+1,0,none⟩),.pointer (some ⟨w.heap.size+1+1,0,none⟩),.int .i64 0,.pointer (some ⟨w1.heap.size,0,none⟩),.pointer (some ⟨B,0,none⟩),.agg #[.int .i64 b.room,.int .i64 b.gap,.slice ma b.ms.length mc,.slice sa b.ss.length sc,.slice ra b.rs.length rc],.int .i64 0,.int .i64 0,.bool false,U,.slice la l.length lc,.int .i64 l.length,.pointer (some ⟨w.heap.size,3,none⟩),.slice sa b.ss.length sc,.int .i64 b.ss.length,.bool false,.slice (some ⟨w1.heap.size,0,none⟩) 4 4,.slice la l.length lc,.int .i64 l.length,.agg #[.int .i64 b.room,.int .i64 b.gap,.slice ma b.ms.length mc,.slice sa b.ss.length sc,.slice ra b.rs.length rc],.agg #[.int .i64 b.room,.int .i64 b.gap,.slice ma b.ms.length mc,.slice sa b.ss.length sc,.slice ra b.rs.length rc],.func (.func 102) #[.agg #[.int .i64 b.room,.int .i64 b.gap,.slice ma b.ms.length mc,.slice sa b.ss.length sc,.slice ra b.rs.length rc]] #[],cameV (pad x),U,U,U],defers:=[] }) ?hMid ?assign ?body ?done ?stop)
 case seq =>
  have hh:=histories_iter HB.out HK.out HO.out HR.out (Below.next hbw2 hW) (p:=fun k=>(k < w2.heap.size∧k≠w.heap.size+1∧k≠w.heap.size+1+1)∨(w2.heap.size+2≤k∧k≤w2.heap.size+5)) (fun k hk=>.inl (by omega)) (fun k h1 h2=>.inr (by omega))
  have e4:W.heap.size+1+1+1+1=w2.heap.size+6:=by omega
  have e2:W.heap.size+1+1=w2.heap.size+4:=by omega
  rw [e4,e2] at hh
  exact hh
 case hJ=>exact fun pre A B h hk=>⟨h.1,h.2.trans (hk.mono fun k _ hk=>by omega)⟩
 case hJx =>
  rintro pre A B ⟨h1,h2,h3,h4⟩ hk
  have e1:=lt_of_cell h2
  have e2:=lt_of_cell h3
  simp only at e1 e2
  exact ⟨h1,(hk.cell (x:=⟨w.heap.size+1,0,none⟩) e1 (by simp;omega)).trans h2,(hk.cell (x:=⟨w.heap.size+1+1,0,none⟩) e2 (by simp;omega)).trans h3,h4.trans (hk.mono fun k _ hk=>by omega)⟩
 case h0=>exact fun W hW hsz=>⟨by simp [Hid],KS.all hW _⟩
 case hMid =>
  rintro pre x a₁ A B ⟨Bx,h1,h2,c0,c1,c2,c3,hj,ha⟩ hk hsz
  exact ⟨Bx,h1,by omega,(hk.cell h2 (by simp;omega)).trans c0,(hk.cell h2 (by simp;omega)).trans c1,(hk.cell h2 (by simp;omega)).trans c2,(hk.cell h2 (by simp;omega)).trans c3,⟨hj.1,hj.2.trans (hk.mono fun k _ hk=>by omega)⟩,ha⟩
 case assign =>
  rintro pre x args A hx ⟨rfl,hsz⟩ hj hlt
  have hp4:=four (pad_length (x:=x) (by
   obtain ⟨suf,hx⟩:=hx
   have:=(pasts_came HO.out (x:=x) (by rw [hx];simp)).2.2
   omega))
  obtain ⟨x0,x1,x2,x3,hx4⟩:=hp4
  have hv:cameV (pad x)=.agg #[.int .i64 x0,.int .i64 x1,.int .i64 x2,.int .i64 x3]:=by rw [hx4];rfl
  have HX:=Hh hx4
  have HV:=Hh hv
  rw [hv]
  have HJ:=Hh hj
  clear hx4 hv hj
  rw [one_param]
  show Code.wpIn _ _ _ _ _ { tmps:=#[.agg #[.int .i64 b.room,.int .i64 b.gap,.slice ma b.ms.length mc,.slice sa b.ss.length sc,.slice ra b.rs.length rc],.slice la l.length lc,.pointer (some ⟨w.heap.size,0,none⟩),U,.pointer (some ⟨w.heap.size+1,0,none⟩),.pointer (some ⟨w.heap.size+1+1,0,none⟩),.int .i64 0,.pointer (some ⟨w1.heap.size,0,none⟩),U,.agg #[.int .i64 b.room,.int .i64 b.gap,.slice ma b.ms.length mc,.slice sa b.ss.length sc,.slice ra b.rs.length rc],.int .i64 0,.int .i64 0,.bool false,U,.slice la l.length lc,.int .i64 l.length,.pointer (some ⟨w.heap.size,3,none⟩),.slice sa b.ss.length sc,.int .i64 b.ss.length,.bool false,.slice (some ⟨w1.heap.size,0,none⟩) 4 4,.slice la l.length lc,.int .i64 l.length,.agg #[.int .i64 b.room,.int .i64 b.gap,.slice ma b.ms.length mc,.slice sa b.ss.length sc,.slice ra b.rs.length rc],.agg #[.int .i64 b.room,.int .i64 b.gap,.slice ma b.ms.length mc,.slice sa b.ss.length sc,.slice ra b.rs.length rc],.func (.func 102) #[.agg #[.int .i64 b.room,.int .i64 b.gap,.slice ma b.ms.length mc,.slice sa b.ss.length sc,.slice ra b.rs.length rc]] #[],.agg #[.int .i64 x0,.int .i64 x1,.int .i64 x2,.int .i64 x3],U,U,U],defers:=[] } A
  gi_wp2
  refine ⟨(KS.alloc _ _ _),A.heap.size,by omega,by simp,?_,?_,?_,?_,⟨HJ.out.1,HJ.out.2.trans (KS.alloc _ _ _)⟩,?_⟩
  ·rw [HX.out,World.cell?_alloc_at _ _ _ _ rfl];rfl
  ·rw [HX.out,World.cell?_alloc_at _ _ _ _ rfl];rfl
  ·rw [HX.out,World.cell?_alloc_at _ _ _ _ rfl];rfl
  ·rw [HX.out,World.cell?_alloc_at _ _ _ _ rfl];rfl
  ·first | rw [HV.out] | (unfold cameV;rw [HX.out];rfl) | rfl
 case body =>
  rintro pre x a₁ A ⟨suf,hx⟩ ⟨Bx,h1,h2,c0,c1,c2,c3,hj,rfl⟩ hlt
  have hmem:x∈pasts b:=by rw [hx];simp
  have hxl:=(pasts_came HO.out hmem).2.2
  have ha:A.heap.size≥w2.heap.size:=hj.2.size
  have k0:=(hj.2.cell (x:=⟨w1.heap.size,0,none⟩) (by simp;omega) (by simp;omega)).trans n0
  have k1:=(hj.2.cell (x:=⟨w1.heap.size,1,none⟩) (by simp;omega) (by simp;omega)).trans n1
  have k2:=(hj.2.cell (x:=⟨w1.heap.size,2,none⟩) (by simp;omega) (by simp;omega)).trans n2
  have k3:=(hj.2.cell (x:=⟨w1.heap.size,3,none⟩) (by simp;omega) (by simp;omega)).trans n3
  have r1:=(hj.2.cell (x:=⟨w.heap.size+1,0,none⟩) (by simp;omega) (by simp;omega)).trans q1
  have r2:=(hj.2.cell (x:=⟨w.heap.size+1+1,0,none⟩) (by simp;omega) (by simp;omega)).trans q2
  have r3:=(hj.2.frozen (x:=⟨w.heap.size+1,0,none⟩) (by simp;omega) (by simp;omega)).trans q3
  have r4:=(hj.2.frozen (x:=⟨w.heap.size+1+1,0,none⟩) (by simp;omega) (by simp;omega)).trans q4
  have hA1:w1.heap.size < A.heap.size:=by omega
  have hA2:w.heap.size+1 < A.heap.size:=by omega
  have hA3:w.heap.size+1+1 < A.heap.size:=by omega
  have HJ:=Hh hj
  have HM:=Hh hmem
  obtain ⟨x0,x1,x2,x3,hx4⟩:=four (pad_length (x:=x) (by omega))
  rw [hx4] at c0 c1 c2 c3
  simp only [List.getD_cons_zero,List.getD_cons_succ] at c0 c1 c2 c3
  have hxy:x=l↔[x0,x1,x2,x3]=[p0,p1,p2,p3]:=by
   constructor
   ·rintro rfl;rw [← hx4,← HP.out]
   ·intro e;exact pad_inj (by rw [hxl,HLL.out]) (by omega) (by rw [hx4,HP.out,e])
  clear hj hmem hx hxl hx4 n0 n1 n2 n3 q1 q2 q3 q4 m0 m1 m2 m3 m4
  by_cases he:x=l
  ·have he2:=hxy.1 he
   simp only [List.cons.injEq,and_true] at he2
   obtain ⟨rfl,rfl,rfl,rfl⟩:=he2
   have heq:=fun w=>(eqCame x0 x1 x2 x3 x0 x1 x2 x3 w).trans (by simp:_=Result.ok (Value.bool true) w)
   have HE:=Hh he
   clear he hxy
   gi_wp2
   have ks:KS (fun k=>k≠w.heap.size+1∧k≠w.heap.size+1+1) A ((A.setCell ⟨w.heap.size+1,0,none⟩ (.bool true)).setCell ⟨w.heap.size+1+1,0,none⟩ (.int .i64 0)):=(KS.setCell (by simp) _ _).trans (KS.setCell (by simp) _ _)
   refine ⟨ks.mono fun k _ hk=>by omega,by rw [← HE.out];exact HM,?_,?_,(HJ.out.2.mono fun k _ hk=>hk.1).trans (ks.mono fun k _ hk=>⟨hk.2.1,hk.2.2⟩)⟩
   ·rw [World.cell?_setCell_other (h:=fun e=>by injection e with e _ _;omega),World.cell?_setCell_same' _ _ _ (by rw [r1];rfl)]
   ·rw [World.cell?_setCell_same' _ _ _ (by rw [World.cell?_setCell_other (h:=fun e=>by injection e with e _ _;omega),r2];rfl)]
  ·have hne4:(x0 == p0 && x1 == p1 && x2 == p2 && x3 == p3)=false:=by
    cases hq:(x0 == p0 && x1 == p1 && x2 == p2 && x3 == p3)
    ·rfl
    ·simp only [Bool.and_eq_true,beq_iff_eq] at hq
     obtain ⟨⟨⟨rfl,rfl⟩,rfl⟩,rfl⟩:=hq
     exact absurd (hxy.2 rfl) he
   have heq:=fun w=>(eqCame x0 x1 x2 x3 p0 p1 p2 p3 w).trans (by rw [hne4]:_=Result.ok (Value.bool false) w)
   have HE:=Hh he
   clear he hxy hne4
   gi_wp2
   exact ⟨KS.refl _ _,fun h=>(List.mem_append.1 h).elim HJ.out.1.out (fun h=>HE.out (List.mem_singleton.1 h).symm),HJ.out.2⟩
 case done =>
  rintro W ⟨hno,hk⟩ hd
  have r1:=(hk.cell (x:=⟨w.heap.size+1,0,none⟩) (by simp;omega) (by simp;omega)).trans q1
  have r2:=(hk.cell (x:=⟨w.heap.size+1+1,0,none⟩) (by simp;omega) (by simp;omega)).trans q2
  have r3:=(hk.frozen (x:=⟨w.heap.size+1,0,none⟩) (by simp;omega) (by simp;omega)).trans q3
  have r4:=(hk.frozen (x:=⟨w.heap.size+1+1,0,none⟩) (by simp;omega) (by simp;omega)).trans q4
  have hsz:=hk.size
  have hA2:w.heap.size+1 < W.heap.size:=by omega
  have hA3:w.heap.size+1+1 < W.heap.size:=by omega
  have HKS:=Hh hk
  clear hk n0 n1 n2 n3 q1 q2 q3 q4 m0 m1 m2 m3 m4
  go_wp2
  obtain ⟨W9,hW9⟩:∃ W9,W9=((W.setCell ⟨w.heap.size+1,0,none⟩ (.bool false)).setCell ⟨w.heap.size+1+1,0,none⟩ (.int .i64 0)):=⟨_,rfl⟩
  rw [← hW9]
  have k9:KS (fun k=>k≠w.heap.size+1∧k≠w.heap.size+1+1) W W9:=by rw [hW9];exact (KS.setCell (by simp) _ _).trans (KS.setCell (by simp) _ _)
  have hD:w2.heap.size < W.heap.size:=(Array.getElem?_eq_some_iff.1 hd).1
  have hd9:W9.heap[w2.heap.size]? = some (.deferred (some [])):=(k9.block _ hD (by omega)).trans hd
  have k10:KS (fun k=>k≠w2.heap.size) W9 (W9.putObj w2.heap.size (.deferred none)):=KS.putObj (by simp) _ _
  have c1:(W9.putObj w2.heap.size (.deferred none)).cell? ⟨w.heap.size+1,0,none⟩=some (.bool false):=by
   rw [k10.cell (x:=⟨w.heap.size+1,0,none⟩) (Nat.lt_of_lt_of_le hA2 k9.size) (by simp;omega),hW9,World.cell?_setCell_other (h:=fun e=>by injection e with e _ _;omega),World.cell?_setCell_same' _ _ _ (by rw [r1];rfl)]
  have c2:(W9.putObj w2.heap.size (.deferred none)).cell? ⟨w.heap.size+1+1,0,none⟩=some (.int .i64 0):=by
   rw [k10.cell (x:=⟨w.heap.size+1+1,0,none⟩) (Nat.lt_of_lt_of_le hA3 k9.size) (by simp;omega),hW9,World.cell?_setCell_same' _ _ _ (by rw [World.cell?_setCell_other (h:=fun e=>by injection e with e _ _;omega),r2];rfl)]
  have hbw:Below w.heap.size w (W9.putObj w2.heap.size (.deferred none)):=by
   have h2:=(HKS.out.toBelow (n:=w.heap.size) (by omega) (fun k hk=>by omega))
   have h3:=(k9.toBelow (n:=w.heap.size) (by omega) (fun k hk=>by omega))
   have h4:=(k10.toBelow (n:=w.heap.size) (by have:=k9.size;omega) (fun k hk=>by omega))
   exact ((hbw2.trans h2).trans h3).trans h4
  clear hW9 r1 r2 r3 r4
  refine ⟨by simp,.inl ⟨_,_,rfl,run_takeDeferred hd9,?_⟩⟩
  exact ⟨.tuple #[.bool false,.int .i64 0],by simp [results,Tryz.results58,go_sem,c1,c2],by rw [decide_eq_false hno.out],hbw⟩
 case stop =>
  rintro pre W ⟨hyes,r1,r2,hk⟩ hd
  have HYES:=Hh hyes
  clear hyes n0 n1 n2 n3 q1 q2 q3 q4 m0 m1 m2 m3 m4
  have hsz:=hk.size
  have hA2:w.heap.size+1 < W.heap.size:=by omega
  have hA3:w.heap.size+1+1 < W.heap.size:=by omega
  have k10:KS (fun k=>k≠w2.heap.size) W (W.putObj w2.heap.size (.deferred none)):=KS.putObj (by simp) _ _
  have c1:=(k10.cell (x:=⟨w.heap.size+1,0,none⟩) hA2 (by simp;omega)).trans r1
  have c2:=(k10.cell (x:=⟨w.heap.size+1+1,0,none⟩) hA3 (by simp;omega)).trans r2
  have hbw:Below w.heap.size w (W.putObj w2.heap.size (.deferred none)):=by
   have h2:=(hk.toBelow (n:=w.heap.size) (by omega) (fun k hk=>by omega))
   have h4:=(k10.toBelow (n:=w.heap.size) (by omega) (fun k hk=>by omega))
   exact (hbw2.trans h2).trans h4
  refine wpIn_ret ?_
  refine ⟨by simp,.inl ⟨_,_,rfl,run_takeDeferred hd,?_⟩⟩
  exact ⟨.tuple #[.bool true,.int .i64 0],by simp [results,Tryz.results58,go_sem,c1,c2],by rw [decide_eq_true HYES.out.out],hbw⟩
end
end Go.Proofs.YtgemjjdkjmpmlaaGreatDoor
namespace Go.Proofs.YtgemjjdkjmpmlaaGreatDoor
open Go.RowKit Go.Maps Sp Mt Go.Conc
section
variable {w w1:World} {B:Nat} {b:Bk} {l:List Int} {vr vg vm vs vc:Value} {la:Option Addr}
theorem isHistory_at (hB:BookAt w b vr vg vm vs vc) (hN:∀ m∈b.ms,m.name.size≤1000000) (hK:KindsAt w) {lc:Nat} (hL:IntsAt w la l) (hl:l.length≤1000000) {i:Bool} {h:Int} (hi:isHist b l=i) (hh:isHistAl b l=h) :
 Calls Tryz.prog 58 #[.agg #[vr,vg,vm,vs,vc],.slice la l.length lc] w fun e w'=>e=.returned (.tuple #[.bool i,.int .i64 h])∧Below w.heap.size w w':=by
 by_cases h0:h=0
 ·subst h0 hi
  exact isHistory_ok hB hN hK hL hh
 ·have:i=false:=by
   rw [← hi];unfold isHist;rw [hh];simp [h0]
  subst this
  exact isHistory_no hB hN hK hl hh h0
end
end Go.Proofs.YtgemjjdkjmpmlaaGreatDoor
namespace Go.Proofs.YtgemjjdkjmpmlaaGreatDoor
open Go.RowKit Go.Maps Sp
section
variable {b:Bk} {vr vg vm vs vc:Value} {w:World}
theorem delivered_no (hB:BookAt w b vr vg vm vs vc) (hN:∀ m∈b.ms,m.name.size≤1000000) (hK:KindsAt w) {t:Int} (ht:openAl b 0=t) (h0:t≠0) :
 Calls Tryz.prog 39 #[.agg #[vr,vg,vm,vs,vc]] w fun e w'=>e=.returned (.tuple #[.slice none 0 0,.int .i64 t])∧Below w.heap.size w w':=by
 have HB:=Hh hB
 have HN:=Hh hN
 have HK:=Hh hK
 have HT:=Hh ht
 have HH0:=Hh h0
 have hz3:(t != 0)=true:=by simpa using h0
 obtain ⟨rfl,rfl,⟨ma,mc,rfl,_,_⟩,⟨sa,sc,rfl,_,_⟩,ra,rc,rfl,_,_⟩:=id hB
 clear hB hN hK ht
 go_enter Tryz.func39,Tryz.ntmps39
 go_wp2_with (go_at_call 66;(with_reducible refine (open_nothing_no (HB.out.below (bel)) HN.out (HK.out.below (bel)) (al:=0) (fun hk W hW=>nothing_any _ _ _ _ _ _) HT.out HH0.out).mono ?_);rintro e w3 ⟨rfl,hb3⟩;obtain ⟨hc3,hf3⟩:=bcell hb3;have hz3:=hb3.size;(try simp at hz3))
 exact bodyPost_ret (v:=.tuple #[.slice none 0 0,.int .i64 t]) (by simp [results,Tryz.results39,go_sem, *]) rfl ⟨rfl,bel⟩
end
theorem hasNum_at {la:Option Addr} {lc n:Nat} {l:List Int} {x:Int} {w:World} {t:Bool} (hL:IntsAt w la l) (hn:n=l.length) (hl:l.length≤1000000) (h:decide (x∈l)=t) :
 Calls Tryz.prog 61 #[.slice la n lc,.int .i64 x] w fun e w'=>e=.returned (.bool t)∧w'=w:=by
 subst hn
 have H:=Hh h;clear h
 have HP:=Hh hL;clear hL
 go_enter Tryz.func61,Tryz.ntmps61
 go_wp2
 go_loop [5] (fun i=>∃ k:Nat,k≤l.length∧i=.int .i64 k∧Hid (x ∉ l.take k)) (fun i=>l.length - (intOf i).toNat)
 case atStart=>exact ⟨0,Nat.zero_le _,rfl,by simp [Hid]⟩
 case round =>
  obtain ⟨k,hk,rfl,hno⟩:=hrel
  by_cases hlt:k < l.length
  ·obtain ⟨lb,lo,rfl,hlb,e0⟩:=HP.out k hlt
   have htk:=List.take_succ_eq_append_getElem hlt
   have hin:l[k]∈l:=List.getElem_mem hlt
   generalize l[k]=q at e0 htk hin
   have HTK:=Hh htk
   have HIN:=Hh hin
   clear htk hin
   by_cases hq:q=x
   ·subst hq
    have ht:t=true:=by rw [← H.out];simpa using HIN.out
    subst ht
    go_wp2
    go_ret
    exact ⟨rfl,rfl⟩
   ·have hd:(q == x)=false:=by simpa using hq
    have hn2:x ∉ l.take (k+1):=by
     rw [HTK.out]
     simp only [List.mem_append,List.mem_singleton,not_or]
     exact ⟨hno.out,fun h=>hq h.symm⟩
    have HN:=Hh hn2
    clear hq hn2
    go_wp2
    go_round
    case rel=>exact ⟨k+1,by omega,by go_num,HN.out⟩
    case measure=>simp [intOf];omega
  ·have ht:t=false:=by
    have:=hno.out
    rw [List.take_of_length_le (by omega)] at this
    rw [← H.out];simpa using this
   subst ht
   go_wp2
   go_ret
   exact ⟨rfl,rfl⟩
end Go.Proofs.YtgemjjdkjmpmlaaGreatDoor
namespace Go.Proofs.YtgemjjdkjmpmlaaGreatDoor
open Go.RowKit Sp
def mostJ (x:Int) (l:List Int):Int:=l.foldl max x
theorem mostJ_succ (x:Int) (l:List Int) (k:Nat) (h:k < l.length):mostJ x (l.take (k+1))=max (mostJ x (l.take k)) l[k]:=by
 rw [List.take_succ_eq_append_getElem h]
 unfold mostJ
 rw [List.foldl_append]
 rfl
theorem neg_least:∀ (l:List Int) (x:Int),- leastI (-x) (negI l)=mostJ x l
 | [],x=>by simp [leastI,mostJ,negI]
 | y::l,x=>by
  have:=neg_least l (max x y)
  have e:min (-x) (-y)=- max x y:=by omega
  simp only [leastI,mostJ,negI,List.map_cons,List.foldl_cons,e] at this ⊢
  exact this
theorem leastI_head (l:List Int):leastI (l.headD 0) l=leastI (l.headD 0) l.tail:=by
 cases l with
 | nil=>rfl
 | cons x l =>
  have e:min x x=x:=by omega
  simp only [leastI,List.headD_cons,List.foldl_cons,List.tail_cons,e]
theorem mostJ_head (l:List Int):mostJ (l.headD 0) l=mostJ (l.headD 0) l.tail:=by
 cases l with
 | nil=>rfl
 | cons x l =>
  have e:max x x=x:=by omega
  simp only [mostJ,List.headD_cons,List.foldl_cons,List.tail_cons,e]
theorem loI_all (b:Bk) (p:Prt):loI b p=leastI ((oftenI b (pasts b) p).headD 0) (oftenI b (pasts b) p):=(leastI_head _).symm
theorem hiI_all (b:Bk) (p:Prt):hiI b p=mostJ ((oftenI b (pasts b) p).headD 0) (oftenI b (pasts b) p):=by
 rw [mostJ_head]
 exact neg_least _ _
theorem least_pos:∀ (l:List Int) (x:Int),0 < leastI x l↔0 < x∧∀ y∈l,0 < y
 | [],x=>by simp [leastI]
 | y::l,x=>by
  have:=least_pos l (min x y)
  simp only [leastI,List.foldl_cons] at this ⊢
  rw [this]
  simp only [List.mem_cons,forall_eq_or_imp]
  constructor
  ·rintro ⟨h1,h2⟩;exact ⟨by omega,by omega,h2⟩
  ·rintro ⟨h1,h2,h3⟩;exact ⟨by omega,h3⟩
theorem most_zero:∀ (l:List Int) (x:Int),0≤x→(∀ y∈l,0≤y)→(mostJ x l=0↔x=0∧∀ y∈l,y=0)
 | [],x,_,_=>by simp [mostJ]
 | y::l,x,hx,hl=>by
  have hy:=hl y (List.mem_cons_self ..)
  have:=most_zero l (max x y) (by omega) fun z hz=>hl z (List.mem_cons_of_mem _ hz)
  simp only [mostJ,List.foldl_cons] at this ⊢
  rw [this]
  simp only [List.mem_cons,forall_eq_or_imp]
  constructor
  ·rintro ⟨h1,h2⟩;exact ⟨by omega,by omega,h2⟩
  ·rintro ⟨h1,h2,h3⟩;exact ⟨by omega,h3⟩
theorem say_one {s m:Int} (hm:0 < m):sayI s m=1↔s=m:=by
 unfold sayI
 by_cases h0:s=0
 ·rw [if_pos h0];omega
 ·rw [if_neg h0]
  by_cases h1:s=m
  ·rw [if_pos h1];omega
  ·rw [if_neg h1];omega
theorem say_two {s m:Int}:sayI s m=2↔s=0:=by
 unfold sayI
 by_cases h0:s=0
 ·rw [if_pos h0];omega
 ·rw [if_neg h0]
  by_cases h1:s=m
  ·rw [if_pos h1];omega
  ·rw [if_neg h1];omega
theorem count_all (l:List Int):countI l 1=(l.length:Int)↔∀ y∈l,0 < y:=by
 unfold countI
 rw [Int.ofNat_inj,List.length_filter_eq_length_iff]
 simp only [decide_eq_true_eq]
 exact ⟨fun h y hy=>by have:=h y hy;omega,fun h y hy=>by have:=h y hy;omega⟩
theorem count_none (l:List Int) (h0:∀ y∈l,0≤y):countI l 1=0↔∀ y∈l,y=0:=by
 unfold countI
 rw [show (0:Int)=((0:Nat):Int) from rfl,Int.ofNat_inj,List.length_eq_zero_iff,List.filter_eq_nil_iff]
 simp only [decide_eq_true_eq]
 exact ⟨fun h y hy=>by have:=h y hy;have:=h0 y hy;omega,fun h y hy=>by have:=h y hy;omega⟩
theorem head_mem {l:List Int} (h:l≠[]):l.headD 0∈l:=by
 cases l with
 | nil=>exact absurd rfl h
 | cons x l=>simp
theorem came_band {l:List Int} (h:l≠[]) (h0:∀ y∈l,0≤y):(sayI (countI l 1) (l.length:Int)=1↔0 < leastI (l.headD 0) l)∧(sayI (countI l 1) (l.length:Int)=2↔mostJ (l.headD 0) l=0):=by
 have hn:0 < (l.length:Int):=by have:=List.length_pos_iff.2 h;omega
 rw [say_one hn,say_two,count_all,count_none l h0,least_pos,most_zero _ _ (h0 _ (head_mem h)) h0]
 exact ⟨⟨fun k=>⟨k _ (head_mem h),k⟩,fun k=>k.2⟩,⟨fun k=>⟨k _ (head_mem h),k⟩,fun k=>k.2⟩⟩
theorem whole_say {s n:Int} (hn:0 < n):(sayI s n=1↔s=n)∧(sayI s n=2↔s=0):=⟨say_one hn,say_two⟩
theorem often_len (b:Bk) (l:List (List Int)) (p:Prt):(oftenI b l p).length=l.length:=by simp [oftenI]
theorem through_asc {b:Bk} (s:Int):(throughI b s).Pairwise (· < ·):=(compact_part (sortI_sorted _) _ (Nat.le_refl _)).1
theorem groups_pos {b:Bk} (h:bookAl b=0):∀ m∈b.ms,1≤m.groups∧m.groups≤4:=by
 obtain ⟨_,h1,_,_⟩:=bookAl_parts h
 unfold msgsAl at h1
 split at h1
 ·cases h1
 ·have:∀ (l:List Msg) (seen:List (List UInt8)),goM seen l=0→∀ m∈l,1≤m.groups∧m.groups≤4:=by
   intro l
   induction l with
   | nil=>intro _ _ m hm;cases hm
   | cons x l ih =>
    intro seen hg m hm
    unfold goM at hg
    split at hg
    ·cases hg
    ·split at hg
     ·cases hg
     ·split at hg
      ·cases hg
      ·rename_i hx
       rcases List.mem_cons.1 hm with rfl | hm
       ·simp only [not_or,Bool.not_eq_false,inB,decide_eq_true_eq] at hx
        omega
       ·exact ih _ hg m hm
  exact this _ _ h1
theorem past_hist {b:Bk} (h:bookAl b=0) {x:List Int} (hx:x∈pasts b):isHistAl b x=0∧isHist b x=true:=by
 obtain ⟨h1,h2,h3⟩:=mem_pasts.1 hx
 have h0:isHistAl b x=0:=by unfold isHistAl;rw [if_neg (by simp [h]),if_neg (by simp [h1])]
 refine ⟨h0,?_⟩
 unfold isHist inRange
 rw [h0,h3]
 simp only [decide_true,Bool.true_and,Bool.and_true,List.all_eq_true,List.mem_range]
 intro i hi
 obtain ⟨k1,k2,k3⟩:=h2 i hi
 simp only [List.getD_eq_getElem?_getD,List.getElem?_eq_getElem hi,Option.getD_some,List.getElem?_eq_getElem k2,Option.elim]
 simp [inB]
 omega
theorem past_len {b:Bk} {x:List Int} (hx:x∈pasts b):x.length=b.ss.length:=(mem_pasts.1 hx).1
theorem past_came {b:Bk} {x:List Int} (hx:x∈pasts b):Came b x:=by
 obtain ⟨h1,h2,_⟩:=mem_pasts.1 hx
 intro i hi
 obtain ⟨k1,k2,k3⟩:=h2 i (by omega)
 simp only [List.getD_eq_getElem?_getD,List.getElem?_eq_getElem (show i < x.length by omega),Option.getD_some]
 exact ⟨k1,k3⟩
theorem thr_is {b:Bk} {s:Int} (h:throughAl b s=0):thr b s=throughI b s:=by
 unfold thr
 rw [if_pos h,through_same h]
theorem thr_mem {b:Bk} {s:Int} (h:throughAl b s=0) (v:Int):v∈thr b s↔v∈(pasts b).map fun x=>x.getD s.toNat 0:=by
 rw [thr_is h]
 unfold throughI
 rw [mem_compact (sortI_sorted _)]
 unfold sortI
 rw [List.mem_mergeSort]
theorem thr_asc {b:Bk} {s:Int} (h:throughAl b s=0):(thr b s).Pairwise (· < ·):=by
 rw [thr_is h]
 exact through_asc s
theorem copies_nn (b:Bk) (x:List Int) (p:Prt):0≤copies b x p:=by unfold copies;exact Int.natCast_nonneg _
def lowK (b:Bk) (p:Prt) (k:Nat):Int:=leastI ((oftenI b (pasts b) p).headD 0) ((oftenI b (pasts b) p).take k)
def topK (b:Bk) (p:Prt) (k:Nat):Int:=mostJ ((oftenI b (pasts b) p).headD 0) ((oftenI b (pasts b) p).take k)
theorem oftenI_at (b:Bk) (p:Prt) {k:Nat} (h:k < (pasts b).length):(oftenI b (pasts b) p)[k]'(by rw [often_len];exact h)=copies b (pasts b)[k] p:=by simp [oftenI]
theorem lowK_succ (b:Bk) (p:Prt) {k:Nat} (h:k < (pasts b).length):lowK b p (k+1)=min (lowK b p k) (copies b (pasts b)[k] p)∧topK b p (k+1)=max (topK b p k) (copies b (pasts b)[k] p):=by
 have hl:k < (oftenI b (pasts b) p).length:=by rw [often_len];exact h
 refine ⟨?_,?_⟩
 ·unfold lowK
  rw [leastI_succ _ _ _ hl,oftenI_at b p h]
 ·unfold topK
  rw [mostJ_succ _ _ _ hl,oftenI_at b p h]
theorem lowK_all (b:Bk) (p:Prt):lowK b p (pasts b).length=loI b p∧topK b p (pasts b).length=hiI b p:=by
 unfold lowK topK
 rw [show (pasts b).length=(oftenI b (pasts b) p).length from (often_len _ _ _).symm,List.take_length]
 exact ⟨(loI_all b p).symm,(hiI_all b p).symm⟩
theorem headD_often (b:Bk) (p:Prt) (h:0 < (pasts b).length):(oftenI b (pasts b) p).headD 0=copies b (pasts b)[0] p:=by
 have hg:∀ (l:List (List Int)) (h:0 < l.length),(oftenI b l p).headD 0=copies b (l[0]'h) p:=fun l h=>by
  cases l with
  | nil=>simp at h
  | cons x l=>rfl
 exact hg _ h
def seenK (b:Bk) (i k:Nat):List Int:=((pasts b).take k).map fun x=>x.getD i 0
theorem seenK_succ (b:Bk) (i:Nat) {k:Nat} (h:k < (pasts b).length):seenK b i (k+1)=seenK b i k ++ [(pasts b)[k].getD i 0]:=by
 unfold seenK
 rw [List.take_succ_eq_append_getElem h,List.map_append]
 rfl
theorem seenK_len (b:Bk) (i k:Nat) (h:k≤(pasts b).length):(seenK b i k).length=k:=by
 unfold seenK
 simp
 omega
theorem seenK_all (b:Bk) (i:Nat):seenK b i (pasts b).length=(pasts b).map fun x=>x.getD i 0:=by
 unfold seenK
 rw [List.take_length]
def wholeK (b:Bk) (m k:Nat):Nat:=((pasts b).take k).countP fun x=>decide (haveOf b x m=(b.ms[m]?).elim 0 Msg.groups)
theorem wholeK_succ (b:Bk) (m:Nat) {k:Nat} (h:k < (pasts b).length):wholeK b m (k+1)=wholeK b m k+if haveOf b (pasts b)[k] m=(b.ms[m]?).elim 0 Msg.groups then 1 else 0:=by
 unfold wholeK
 rw [List.take_succ_eq_append_getElem h,List.countP_append]
 simp [List.countP_cons]
theorem wholeK_le (b:Bk) (m k:Nat):wholeK b m k≤(pasts b).length:=by
 unfold wholeK
 exact Nat.le_trans List.countP_le_length (by simp;omega)
theorem wholeK_all (b:Bk) (m:Nat):(wholeK b m (pasts b).length:Int)=wholeI b (pasts b) m:=by
 unfold wholeK wholeI
 rw [List.take_length]
 congr 1
 refine List.countP_congr fun x hx=>?_
 unfold isWhole
 have e:haveOf b (pad x) m=haveOf b x m:=by
  unfold haveOf
  simp only [copies_pad (past_len hx)]
 rw [e]
theorem delivered_at2 {b:Bk} {m:Nat} (h:m < (deliveredI b).length):(deliveredI b)[m]=sayI (wholeI b (pasts b) m) ((pasts b).length:Int):=by
 have e:∀ (f:Nat→Int) (n m:Nat) (h:m < ((List.range n).map f).length),((List.range n).map f)[m]=f m:=fun f n m h=>by simp
 exact e _ _ _ h
end Go.Proofs.YtgemjjdkjmpmlaaGreatDoor
