/- Leads to StorePacked of chapter 6: O1 T3 Law Law2 Law3 Co5 U1 G5 U2 G9 U10 U12 W1. -/
import Derived.Test.YtgemjjdkjmpmlaaGreatDoorTBase
import Derived.StillTailTactics
set_option maxHeartbeats 4000000
set_option maxRecDepth 100000
set_option linter.all false
namespace Go.Proofs.YtgemjjdkjmpmlaaGreatDoor
open Go.RowKit Go.Maps Sp
section
variable {b:Bk} {vr vg vm vs vc:Value} {w:World}
theorem open_timed_no1 (hB:BookAt w b vr vg vm vs vc) (hN:∀ m∈b.ms,m.name.size≤1000000) (hK:KindsAt w) (c0:Value) {al:Int} (hask:bookAl b=0→∀ W,Below w.heap.size w W→Calls Tryz.prog 118 #[.agg #[vr,vg,vm,vs,vc],c0] W fun e w'=>e=.returned (.int .i64 al)∧Below W.heap.size W w') {t:Int} (ht:bookAl b=t) (h0:t≠0) :
 Calls Tryz.prog 66 #[.agg #[vr,vg,vm,vs,vc],.func (.func 118) #[] #[c0]] w fun e w'=>e=.returned (.tuple #[.agg #[.int .i64 0,.int .i64 0,.slice none 0 0,.slice none 0 0,.slice none 0 0],.slice none 0 0,.int .i64 t])∧Below w.heap.size w w':=by
 have HB:=Hh hB
 have HN:=Hh hN
 have HK:=Hh hK
 have HA:=Hh hask
 obtain ⟨rfl,rfl,⟨ma,mc,rfl,_,_⟩,⟨sa,sc,rfl,_,_⟩,ra,rc,rfl,_,_⟩:=id hB
 clear hB hN hK hask
 have H0:=Hh ht
 have hz3:(t != 0)=true:=by simpa using h0
 clear ht
 go_enter Tryz.func66,Tryz.ntmps66
 go_wp2_with (go_at_call 72;(with_reducible refine (checkBook_at (HB.out.below (Below.al (Below.al (Below.refl _ _) _) _)) HN.out (HK.out.below (Below.al (Below.al (Below.refl _ _) _) _)) H0.out).mono ?_);rintro e w1 ⟨rfl,hb1⟩;obtain ⟨hc1,hf1⟩:=bcell hb1;have hz1:w.heap.size < w1.heap.size:=(by have:=hb1.size;simp at this;omega);have hz1b:w.heap.size+1 < w1.heap.size:=(by have:=hb1.size;simp at this;omega))
 exact bodyPost_ret (v:=.tuple #[.agg #[.int .i64 0,.int .i64 0,.slice none 0 0,.slice none 0 0,.slice none 0 0],.slice none 0 0,.int .i64 t]) (by simp [results,Tryz.results66,go_sem, *]) rfl ⟨rfl,bel⟩
theorem open_timed_no2 (hB:BookAt w b vr vg vm vs vc) (hN:∀ m∈b.ms,m.name.size≤1000000) (hK:KindsAt w) (c0:Value) {al:Int} (hask:bookAl b=0→∀ W,Below w.heap.size w W→Calls Tryz.prog 118 #[.agg #[vr,vg,vm,vs,vc],c0] W fun e w'=>e=.returned (.int .i64 al)∧Below W.heap.size W w') {t:Int} (hk:bookAl b=0) (ht:al=t) (h0:t≠0) :
 Calls Tryz.prog 66 #[.agg #[vr,vg,vm,vs,vc],.func (.func 118) #[] #[c0]] w fun e w'=>e=.returned (.tuple #[.agg #[.int .i64 0,.int .i64 0,.slice none 0 0,.slice none 0 0,.slice none 0 0],.slice none 0 0,.int .i64 t])∧Below w.heap.size w w':=by
 subst ht
 have HB:=Hh hB
 have HN:=Hh hN
 have HK:=Hh hK
 have HA:=Hh hask
 obtain ⟨rfl,rfl,⟨ma,mc,rfl,_,_⟩,⟨sa,sc,rfl,_,_⟩,ra,rc,rfl,_,_⟩:=id hB
 clear hB hN hK hask
 have H0:=Hh hk
 have hz3:(al != 0)=true:=by simpa using h0
 clear hk
 go_enter Tryz.func66,Tryz.ntmps66
 go_wp2_with (first | (go_at_call 72;(with_reducible refine (checkBook_at (HB.out.below (Below.al (Below.al (Below.refl _ _) _) _)) HN.out (HK.out.below (Below.al (Below.al (Below.refl _ _) _) _)) H0.out).mono ?_);rintro e w1 ⟨rfl,hb1⟩;obtain ⟨hc1,hf1⟩:=bcell hb1;have hz1:w.heap.size < w1.heap.size:=(by have:=hb1.size;simp at this;omega);have hz1b:w.heap.size+1 < w1.heap.size:=(by have:=hb1.size;simp at this;omega)) | (go_at_call 118;(with_reducible refine (HA.out H0.out _ (Below.al (Below.next (Below.al (Below.al (Below.refl _ _) _) _) hb1) _)).mono ?_);rintro e w2 ⟨rfl,hb2⟩;obtain ⟨hc2,hf2⟩:=bcell hb2;have hz2:w1.heap.size < w2.heap.size:=(by have:=hb2.size;simp at this;omega);have hz2a:w.heap.size < w2.heap.size:=(by omega);have hz2b:w.heap.size+1 < w2.heap.size:=(by omega)))
 exact bodyPost_ret (v:=.tuple #[.agg #[.int .i64 0,.int .i64 0,.slice none 0 0,.slice none 0 0,.slice none 0 0],.slice none 0 0,.int .i64 al]) (by simp [results,Tryz.results66,go_sem, *]) rfl ⟨rfl,bel⟩
theorem open_timed_no3 (hB:BookAt w b vr vg vm vs vc) (hN:∀ m∈b.ms,m.name.size≤1000000) (hK:KindsAt w) (c0:Value) {al:Int} (hask:bookAl b=0→∀ W,Below w.heap.size w W→Calls Tryz.prog 118 #[.agg #[vr,vg,vm,vs,vc],c0] W fun e w'=>e=.returned (.int .i64 al)∧Below W.heap.size W w') (hk:bookAl b=0) (ht:al=0) (hp:pasts b=[]) :
 Calls Tryz.prog 66 #[.agg #[vr,vg,vm,vs,vc],.func (.func 118) #[] #[c0]] w fun e w'=>e=.returned (.tuple #[.agg #[.int .i64 0,.int .i64 0,.slice none 0 0,.slice none 0 0,.slice none 0 0],.slice none 0 0,.int .i64 10])∧Below w.heap.size w w':=by
 subst ht
 have HB:=Hh hB
 have HN:=Hh hN
 have HK:=Hh hK
 have HA:=Hh hask
 obtain ⟨rfl,rfl,⟨ma,mc,rfl,_,_⟩,⟨sa,sc,rfl,_,_⟩,ra,rc,rfl,_,_⟩:=id hB
 clear hB hN hK hask
 have H0:=Hh hk
 have HL:=Hh (show (pasts b).length=0 by rw [hp];rfl)
 clear hk hp
 go_enter Tryz.func66,Tryz.ntmps66
 go_wp2_with (first | (go_at_call 72;(with_reducible refine (checkBook_at (HB.out.below (Below.al (Below.al (Below.refl _ _) _) _)) HN.out (HK.out.below (Below.al (Below.al (Below.refl _ _) _) _)) H0.out).mono ?_);rintro e w1 ⟨rfl,hb1⟩;obtain ⟨hc1,hf1⟩:=bcell hb1;have hz1:w.heap.size < w1.heap.size:=(by have:=hb1.size;simp at this;omega);have hz1b:w.heap.size+1 < w1.heap.size:=(by have:=hb1.size;simp at this;omega)) | (go_at_call 118;(with_reducible refine (HA.out H0.out _ (Below.al (Below.next (Below.al (Below.al (Below.refl _ _) _) _) hb1) _)).mono ?_);rintro e w2 ⟨rfl,hb2⟩;obtain ⟨hc2,hf2⟩:=bcell hb2;have hz2:w1.heap.size < w2.heap.size:=(by have:=hb2.size;simp at this;omega);have hz2a:w.heap.size < w2.heap.size:=(by omega);have hz2b:w.heap.size+1 < w2.heap.size:=(by omega)) | (go_at_call 73;(with_reducible refine (all_at2 (HB.out.below (Below.next (Below.al (Below.next (Below.al (Below.al (Below.refl _ _) _) _) hb1) _) hb2)) (HK.out.below (Below.next (Below.al (Below.next (Below.al (Below.al (Below.refl _ _) _) _) hb1) _) hb2)) H0.out).mono ?_);rintro e w3 ⟨l',rfl,hrow,hb3⟩;obtain ⟨hc3,hf3⟩:=bcell hb3;have hz3:w2.heap.size≤w3.heap.size:=hb3.size;have hz3a:w.heap.size < w3.heap.size:=(by omega);have hz3b:w.heap.size+1 < w3.heap.size:=(by omega);have hz3c:w1.heap.size < w3.heap.size:=(by omega);obtain ⟨la,lc,rfl⟩:=ownsRow_slice hrow;rw [HL.out];have HROW:=Hh hrow;clear hrow))
 exact bodyPost_ret (v:=.tuple #[.agg #[.int .i64 0,.int .i64 0,.slice none 0 0,.slice none 0 0,.slice none 0 0],.slice none 0 0,.int .i64 10]) (by simp [results,Tryz.results66,go_sem, *]) rfl ⟨rfl,bel⟩
theorem open_timed_no (hB:BookAt w b vr vg vm vs vc) (hN:∀ m∈b.ms,m.name.size≤1000000) (hK:KindsAt w) (c0:Value) {al:Int} (hask:bookAl b=0→∀ W,Below w.heap.size w W→Calls Tryz.prog 118 #[.agg #[vr,vg,vm,vs,vc],c0] W fun e w'=>e=.returned (.int .i64 al)∧Below W.heap.size W w') {t:Int} (ht:openAl b al=t) (h0:t≠0) :
 Calls Tryz.prog 66 #[.agg #[vr,vg,vm,vs,vc],.func (.func 118) #[] #[c0]] w fun e w'=>e=.returned (.tuple #[.agg #[.int .i64 0,.int .i64 0,.slice none 0 0,.slice none 0 0,.slice none 0 0],.slice none 0 0,.int .i64 t])∧Below w.heap.size w w':=by
 unfold openAl at ht
 split at ht
 ·exact open_timed_no1 hB hN hK c0 hask ht h0
 ·rename_i hk
  have hk:bookAl b=0:=by simpa using hk
  split at ht
  ·exact open_timed_no2 hB hN hK c0 hask hk ht h0
  ·rename_i ha
   split at ht
   ·rename_i hp
    subst ht
    exact open_timed_no3 hB hN hK c0 hask hk (by simpa using ha) hp
   ·exact absurd ht.symm h0
end
attribute [local go_sem] Oper.semAt_some
section
variable {b:Bk} {vr vg vm vs vc:Value} {w:World}
theorem goodApi_ok (hB:BookAt w b vr vg vm vs vc) (hN:∀ m∈b.ms,m.name.size≤1000000) (hK:KindsAt w) {pa:Option Addr} {pc:Nat} {plan:List Int} {pn:Nat} (hpl:pn=plan.length) (hP:IntsAt w pa plan) (now:Int) (ht:openAl b (planAsk b.ms.length plan.length now)=0) {o:List Int} (ho:planOk (loadsI b) plan=some o) :
 Calls Tryz.prog 44 #[.agg #[vr,vg,vm,vs,vc],.slice pa pn pc,.int .i64 now] w fun e w'=>e=.returned (.tuple #[.bool (goodI b plan o now),.int .i64 0])∧Below w.heap.size w w':=by
 have HB:=Hh hB
 have HN:=Hh hN
 have HK:=Hh hK
 have HP:=Hh hP
 have HT:=Hh ht
 have HOO:=Hh ho
 have HPL:=Hh hpl
 obtain ⟨hk,hpt,hps⟩:=openAl_ok ht
 have hbo:=(bookAl_ok hk).1
 obtain ⟨hnow,hpm⟩:=planAsk_ok hpt
 have hnow2:0≤now∧now≤1000:=by
  unfold timedAsk inB at hnow
  split at hnow
  ·rename_i h;simp at h;omega
  ·cases h0:(1:Int) with
   | _=>cases hnow
 have hml5:=hbo.ml
 have HPM:=Hh hpm
 have HLT:=Hh (planOk_lt ho ((loadsI_len b).trans hpm.symm))
 have HBD:=Hh (planOk_bd ho (by omega) (loadsI_bd hk))
 have HN2:=Hh (nightOk hk)
 obtain ⟨rfl,rfl,⟨ma,mc,rfl,_,_⟩,⟨sa,sc,rfl,_,_⟩,ra,rc,rfl,_,_⟩:=id hB
 clear hB hN hK hP ht hpl ho hk hpt hps hbo hnow hpm
 go_enter Tryz.func44,Tryz.ntmps44
 go_wp2_with (first
  | (go_at_call 77;(with_reducible refine (planned_yes (HB.out.below (bel)) HN.out (HK.out.below (bel)) HPL.out (HP.out.below (bel)) now HT.out HOO.out).mono ?_);rintro e w3 ⟨RB,lc,tc,lc2,ta,la,rfl,hl3,ht3,hc3,hb3⟩;have HT3:=Hh ht3;clear hl3 ht3 hc3;have hz3:=hb3.size;(try simp at hz3))
  | (go_at_call 88;(with_reducible refine (good_at (HB.out.below (bel)) HN2.out.due HN2.out.gap _ rfl (HP.out.below (bel)) HPL.out HPM.out (HT3.out.below (bel)) rfl HBD.out.2 HBD.out.1 HLT.out (by omega) hnow2 rfl).mono ?_);rintro e w4 ⟨rfl,hb4⟩;have hz4:=hb4.size;(try simp at hz4)))
 exact bodyPost_ret (v:=.tuple #[.bool (goodI b plan o now),.int .i64 0]) (by simp [results,Tryz.results44,go_sem, *]) rfl ⟨rfl,bel⟩
end
end Go.Proofs.YtgemjjdkjmpmlaaGreatDoor
namespace Go.Proofs.YtgemjjdkjmpmlaaGreatDoor
open Go.RowKit Sp Mt Go.Conc
section
variable {P:Program} {b:Frame} {a:Act} {w:World} {k:List Item} {cs:List Frame} {K:Frame→List Frame→World→Prop}
theorem Twin.refl0 (w:World):Twin 0 w w:=⟨rfl,rfl,rfl,fun _=>rfl,fun _=>rfl,fun _ _=>rfl⟩
theorem Twin.at0 {w w1:World} (h:Twin 0 w w1) (d:Nat):Twin 0 w (w1.at d):=⟨h.os,h.output,h.size,h.cell,h.frozen,h.block⟩
theorem Twin.old0 {w w1 w2:World} (h:Twin 0 w w1) (k:Old w1 w2):Old w w2:=⟨k.os.trans h.os,k.output.trans h.output,by rw [← h.size];exact k.size,fun i hi=>(k.block i (by rw [h.size];exact hi)).trans (h.block i (Nat.zero_le _))⟩
def LeadsA (P:Program) (K:Frame→List Frame→World→Prop) (fr:Frame) (cs:List Frame) (w:World):Prop:=∀ w',Twin 0 w w'→Leads P K fr cs w'
theorem LeadsA.here {fr:Frame} (h:LeadsA P K fr cs w):Leads P K fr cs w:=h w (Twin.refl0 w)
theorem all_region {id:Nat} {ops:Array Oper} (h:LeadsA P K (b.at a (.inRegion ops (List.range ops.size)::k)) cs w):LeadsA P K (b.at a (.code (.region id ops false)::k)) cs w:=fun _ t=>leads_region fun d=>h _ (t.at0 d)
theorem all_end {ops:Array Oper} (h:LeadsA P K (b.at a k) cs w):LeadsA P K (b.at a (.inRegion ops []::k)) cs w:=fun _ t=>leads_inRegion fun d=>h _ (t.at0 d)
theorem all_seq {x y:Code} (h:LeadsA P K (b.at a (.code x::.code y::k)) cs w):LeadsA P K (b.at a (.code (.seq x y)::k)) cs w:=fun _ t=>leads_seq fun d=>h _ (t.at0 d)
theorem all_ret (h:LeadsA P K { b.at a (.code .ret::k) with mode:=.returning } cs w):LeadsA P K (b.at a (.code .ret::k)) cs w:=fun _ t=>leads_ret fun d=>h _ (t.at0 d)
theorem all_op {ops:Array Oper} {i:Nat} {rest:List Nat} (v:Value) (hb:b.kind=.normal) {o:Oper} (ho:ops[i]? = some o) (hw:Region.wanted o (yielded ops a.tmps)=true)
 (hr:∀ w',(execOp a.eval o).run P w'=.ok (.value v) w') (he:∀ w',(execOp a.eval o).events P w' #[]=#[])
 (h:LeadsA P K (b.at (a.put o.dst v) (.inRegion ops rest::k)) cs w):LeadsA P K (b.at a (.inRegion ops (i::rest)::k)) cs w:=fun _ t =>
 leads_op v hb ho hw (fun d=>hr _) (fun d e hm=>by rw [he] at hm;simp at hm) fun d=>h _ (t.at0 d)
theorem all_call {ops:Array Oper} {i:Nat} {rest:List Nat} (f:FuncId) (args:Array Value) (hb:b.kind=.normal) {o:Oper} (ho:ops[i]? = some o) (hw:Region.wanted o (yielded ops a.tmps)=true)
 (hr:∀ w',(execOp a.eval o).run P w'=.ok (.enter f args) w') (he:∀ w',(execOp a.eval o).events P w' #[]=#[]) {Z:Value→World→Prop}
 (hc:∀ (c:Frame) (w':World),Twin 0 w w'→Leads P (fun fr' cs' w1=>∃ v,fr'=c.finish v∧cs'=cs∧Z v w1) (Frame.enter P f args .normal) (c::cs) w')
 (h:∀ v w1,Z v w1→LeadsA P K (b.at (a.put o.dst v) (.inRegion ops rest::k)) cs w1):LeadsA P K (b.at a (.inRegion ops (i::rest)::k)) cs w:=fun w' t =>
 leads_call hb ho hw (fun d=>hr _) (fun d=>he _) (fun d=>hc _ _ (t.at0 d)) fun v w1 hz=>(h v w1 hz).here
end
section
variable {w:World} {cs:List Frame} {c:Frame}
theorem lone_call {f:FuncId} {args:Array Value} {v:Value} {w':World} (t:Twin 0 w w') (h:∀ W,Twin w.heap.size w W→Calls Tryz.prog f args W fun e w2=>e=.returned v∧Below W.heap.size W w2) :
 Leads Tryz.prog (fun fr' cs' w1=>∃ v',fr'=c.finish v'∧cs'=cs∧v'=v∧Old w w1) (Frame.enter Tryz.prog f args .normal) (c::cs) w':=by
 refine (calls_co (Z:=fun v' _=>v'=v) (fun _ _ _ _ h=>h) fun W hW=>?_).mono ?_
 ·refine (h W ⟨hW.os.trans t.os,hW.output.trans t.output,hW.size.trans t.size,fun a=>(hW.cell a).trans (t.cell a),fun a=>(hW.frozen a).trans (t.frozen a),fun k hk=>(hW.block k (by rw [t.size];exact hk)).trans (t.block k (Nat.zero_le _))⟩).mono ?_
  rintro e w2 ⟨rfl,hb⟩
  exact ⟨_,rfl,rfl,hb⟩
 ·rintro fr' cs' w1 ⟨v',h1,h2,h3,ho⟩
  exact ⟨v',h1,h2,h3,t.old0 ho⟩
end
theorem wps_cons {P:Program} {c:Code} {l:List Code} {Q:Act→World→Prop} {a:Act} {w:World} (h:c.wp P (fun e a' w'=>e=.normal∧a'.defers=[]∧∀ X,Twin 0 w' X→wps P l Q a' X) a w):wps P (c::l) Q a w :=
 Code.wp_mono (fun _ _ _ ⟨h1,h2,h3⟩=>⟨h1,h2,fun _=>h3 _ ⟨rfl,rfl,rfl,fun _=>rfl,fun _=>rfl,fun _ _=>rfl⟩⟩) h
theorem Twin.five {n:Nat} {w w1:World} (h:Twin n w w1) {r:Nat} {v0 v1 v2 v3 v4:Value} (k:Five w r v0 v1 v2 v3 v4):Five w1 r v0 v1 v2 v3 v4:=⟨(h.cell _).trans k.c0,(h.cell _).trans k.c1,(h.cell _).trans k.c2,(h.cell _).trans k.c3,(h.cell _).trans k.c4,by rw [h.size];exact k.lt⟩
theorem Old.twin0 {w w1 X:World} (h:Old w w1) (t:Twin 0 w1 X):Old w X:=⟨t.os.trans h.os,t.output.trans h.output,by rw [t.size];exact h.size,fun k hk=>(t.block k (Nat.zero_le _)).trans (h.block k hk)⟩
theorem Old.ofBelow {w w1:World} (h:Below w.heap.size w w1):Old w w1:=⟨h.os,h.output,h.size,h.block⟩
theorem Old.ks {w A B:World} {O:Nat} (h:Old w A) (hO:w.heap.size≤O) (hk:KS (fun k=>k < A.heap.size∧k≠O) A B):Old w B:=⟨hk.os.trans h.os,hk.output.trans h.output,Nat.le_trans h.size hk.size,fun k hkl=>(hk.block k (Nat.lt_of_lt_of_le hkl h.size) ⟨Nat.lt_of_lt_of_le hkl h.size,by omega⟩).trans (h.block k hkl)⟩
def NQ (R:Act→World→Prop):Exit→Act→World→Prop
 | .normal,a,w=>R a w
 | _,_,_=>False
theorem wps_nq {P:Program} {c:Code} {l:List Code} {Q:Act→World→Prop} {a:Act} {w:World} (h:c.wp P (NQ fun a' w'=>a'.defers=[]∧∀ X,Twin 0 w' X→wps P l Q a' X) a w):wps P (c::l) Q a w:=by
 refine wps_cons (Code.wp_mono (fun e a' w' hq=>?_) h)
 cases e <;> first | exact ⟨rfl,hq.1,hq.2⟩ | exact hq.elim
section
variable {P:Program} {b:Frame} {a:Act} {w:World} {k:List Item} {cs:List Frame} {K:Frame→List Frame→World→Prop}
theorem put_at {a:Act} {j:Nat} {v:Value} (h:j < a.tmps.size):(a.put (some j) v).tmps[j]? = some v:=by
 show (a.tmps.setIfInBounds j v)[j]? = some v
 simp [h]
theorem put_keep {a:Act} {j i:Nat} {v:Value} (hne:i≠j):(a.put (some j) v).tmps[i]? = a.tmps[i]? := by
 show (a.tmps.setIfInBounds j v)[i]? = a.tmps[i]?
 rw [Array.getElem?_setIfInBounds_ne (by omega)]
theorem wanted_g {o ok:Oper} {ops:Array Oper} {tmps:Array Value} {m j:Nat} {want:Bool} (hg:o.guard=some (m,want)) (hk:ops[m]? = some ok) (hd:ok.dst=some j) (hA:tmps[j]? = some (.bool want)):Region.wanted o (yielded ops tmps)=true:=by
 unfold Region.wanted yielded
 rw [hg]
 simp [hk,hd,hA]
theorem unwanted_g {o ok:Oper} {ops:Array Oper} {tmps:Array Value} {m j:Nat} {want:Bool} (hg:o.guard=some (m,want)) (hk:ops[m]? = some ok) (hd:ok.dst=some j) (hA:tmps[j]? = some (.bool (!want))):Region.wanted o (yielded ops tmps)=false:=by
 unfold Region.wanted yielded
 rw [hg]
 cases want <;> simp [hk,hd,hA]
end
section
variable {P:Program} {b:Frame} {a:Act} {w:World} {k:List Item} {cs:List Frame} {K:Frame→List Frame→World→Prop}
theorem unwanted_u {o ok:Oper} {ops:Array Oper} {tmps:Array Value} {m j:Nat} {want:Bool} (hg:o.guard=some (m,want)) (hk:ops[m]? = some ok) (hd:ok.dst=some j) (hA:tmps[j]? = some undef):Region.wanted o (yielded ops tmps)=false:=by
 unfold Region.wanted yielded
 rw [hg]
 cases want <;> simp [hk,hd,hA] <;> exact fun h=>by cases (show (none:Option Bool)=_ from h)
end
def KnL (a:Act):List (Nat × Value)→Prop
 | []=>True
 | x::l=>a.tmps[x.1]? = some x.2∧KnL a l
structure Kn (a:Act) (n:Nat) (l:List (Nat × Value)):Prop where
 sz:a.tmps.size=n
 df:a.defers=[]
 kn:KnL a l
theorem KnL.get {a:Act} {j:Nat} {v:Value}:∀ {l:List (Nat × Value)},KnL a l→l.lookup j=some v→a.tmps[j]? = some v
 | [],_,e=>by simp at e
 | (i,u)::l,h,e=>by
  rw [List.lookup_cons] at e
  by_cases hji:j=i
  ·subst hji
   simp at e
   rw [← e]
   exact h.1
  ·rw [beq_eq_false_iff_ne.2 hji] at e
   exact KnL.get h.2 e
theorem KnL.put {a:Act} {j:Nat} {v:Value}:∀ {l:List (Nat × Value)},KnL a l→(l.all fun x=>x.1 != j)=true→KnL (a.put (some j) v) l
 | [],_,_=>trivial
 | x::l,h,e=>by
  simp only [List.all_cons,Bool.and_eq_true,bne_iff_ne] at e
  exact ⟨(put_keep e.1).trans h.1,KnL.put h.2 e.2⟩
section
variable {P:Program} {b:Frame} {a:Act} {w:World} {k:List Item} {cs:List Frame} {K:Frame→List Frame→World→Prop} {n:Nat} {l:List (Nat × Value)}
theorem Kn.g (q:Kn a n l) (j:Nat) {v:Value} (e:l.lookup j=some v):a.tmps[j]? = some v:=q.kn.get e
theorem Kn.cons (q:Kn a n l) {j:Nat} (hj:j < n) (e:(l.all fun x=>x.1 != j)=true) (v:Value):Kn (a.put (some j) v) n ((j,v)::l):=⟨(Array.size_setIfInBounds).trans q.sz,q.df,put_at (by rw [q.sz];exact hj),q.kn.put e⟩
theorem st {ops:Array Oper} {i j:Nat} {rest:List Nat} (v:Value) (hb:b.kind=.normal) {o:Oper} (ho:ops[i]? = some o) (hd:o.dst=some j) (hw:Region.wanted o (yielded ops a.tmps)=true)
 (hx:∀ w',(execOp a.eval o).run P w'=.ok (.value v) w'∧(execOp a.eval o).events P w' #[]=#[]) (q:Kn a n l) (hj:j < n) (e:(l.all fun x=>x.1 != j)=true)
 (h:∀ a1,Kn a1 n ((j,v)::l)→LeadsA P K (b.at a1 (.inRegion ops rest::k)) cs w):LeadsA P K (b.at a (.inRegion ops (i::rest)::k)) cs w:=by
 refine all_op v hb ho hw (fun w'=>(hx w').1) (fun w'=>(hx w').2) ?_
 rw [hd]
 exact h _ (q.cons hj e v)
theorem sc {ops:Array Oper} {i j:Nat} {rest:List Nat} (f:FuncId) (args:Array Value) (hb:b.kind=.normal) {o:Oper} (ho:ops[i]? = some o) (hd:o.dst=some j) (hw:Region.wanted o (yielded ops a.tmps)=true)
 (hx:∀ w',(execOp a.eval o).run P w'=.ok (.enter f args) w'∧(execOp a.eval o).events P w' #[]=#[]) (q:Kn a n l) (hj:j < n) (e:(l.all fun x=>x.1 != j)=true) {v:Value}
 (hc:∀ (c:Frame) (w':World),Twin 0 w w'→Leads P (fun fr' cs' w1=>∃ v',fr'=c.finish v'∧cs'=cs∧v'=v∧Old w w1) (Frame.enter P f args .normal) (c::cs) w')
 (h:∀ (a1:Act) (w1:World),Old w w1→Kn a1 n ((j,v)::l)→LeadsA P K (b.at a1 (.inRegion ops rest::k)) cs w1):LeadsA P K (b.at a (.inRegion ops (i::rest)::k)) cs w:=by
 refine all_call f args hb ho hw (fun w'=>(hx w').1) (fun w'=>(hx w').2) (Z:=fun v' w1=>v'=v∧Old w w1) hc ?_
 rintro v' w1 ⟨rfl,ho1⟩
 rw [hd]
 exact h _ _ ho1 (q.cons hj e v')
theorem sk {ops:Array Oper} {i j:Nat} {rest:List Nat} {o:Oper} (ho:ops[i]? = some o) (hd:o.dst=some j) (hw:Region.wanted o (yielded ops a.tmps)=false) (q:Kn a n l) (hj:j < n) (e:(l.all fun x=>x.1 != j)=true)
 (h:∀ a1,Kn a1 n ((j,undef)::l)→LeadsA P K (b.at a1 (.inRegion ops rest::k)) cs w):LeadsA P K (b.at a (.inRegion ops (i::rest)::k)) cs w:=fun _ t =>
 leads_go (fun d=>stepG_unwanted ho hw) fun d=>by
  rw [hd]
  exact h (a.put (some j) undef) (q.cons hj e undef) _ (t.at0 d)
end
def sql:Code→Code
 | .seq a _=>a
 | c=>c
def sqr:Code→Code
 | .seq _ b=>b
 | c=>c
def cnd:Code→Code
 | .cond _ a _=>a
 | c=>c
def sqN:Nat→Code→Code
 | 0,c=>c
 | k+1,c=>sqN k (sqr c)
theorem fr_of {F:(Nat→Value)→Act} {a':Act} (h:a'=F fun i=>a'.tmps.getD i undef):∃ d,a'=F d:=⟨_,h⟩
theorem OldN.refl (n:Nat) (w:World):OldN n w w:=⟨rfl,rfl,Nat.le_refl _,fun _ _=>rfl⟩
theorem OldN.trans {n:Nat} {a b c:World} (h:OldN n a b) (k:OldN n b c):OldN n a c:=⟨k.os.trans h.os,k.output.trans h.output,Nat.le_trans h.size k.size,fun i hi=>(k.block i hi).trans (h.block i hi)⟩
theorem OldN.twin0 {n:Nat} {w w1 X:World} (h:OldN n w w1) (t:Twin 0 w1 X):OldN n w X:=⟨t.os.trans h.os,t.output.trans h.output,by rw [t.size];exact h.size,fun k hk=>(t.block k (Nat.zero_le _)).trans (h.block k hk)⟩
theorem OldN.ks {n O:Nat} {w A B:World} (h:OldN n w A) (hn:n≤w.heap.size) (hO:n≤O) (hk:KS (fun k=>k≠O) A B):OldN n w B:=⟨hk.os.trans h.os,hk.output.trans h.output,Nat.le_trans h.size hk.size,fun k hkl=>(hk.block k (Nat.lt_of_lt_of_le hkl (Nat.le_trans hn h.size)) (by show k≠O;omega)).trans (h.block k hkl)⟩
section
variable {P:Program} {b:Frame} {a:Act} {w:World} {k:List Item} {cs:List Frame} {K:Frame→List Frame→World→Prop}
end
def blk:Code→Code
 | .block _ c=>c
 | c=>c
def lpc:Code→Code
 | .loop c=>c
 | c=>c
end Go.Proofs.YtgemjjdkjmpmlaaGreatDoor
namespace Go.Proofs.YtgemjjdkjmpmlaaGreatDoor
open Go.RowKit Go.Maps Sp
theorem hasNum_at {la:Option Addr} {lc n:Nat} {l:List Int} {x:Int} {w:World} {t:Bool} (hL:IntsAt w la l) (hn:n=l.length) (hl:l.length≤1000000) (h:decide (x∈l)=t) :
 Calls Tryz.prog 61 #[.slice la n lc,.int .i64 x] w fun e w'=>e=.returned (.bool t)∧w'=w:=by
 subst hn
 have H:=Hh h;clear h
 have HP:=Hh hL;clear hL
 go_enter Tryz.func61,Tryz.ntmps61
 go_wp2
 go_loop [5] (fun i=>∃ k:Nat,k≤l.length∧i=.int .i64 k∧Hid (x ∉ l.take k)) (fun i=>l.length - (intOf i).toNat)
 case atStart=>exact ⟨0,Nat.zero_le _,rfl,by simp [Hid]⟩
 case round =>
  obtain ⟨k,hk,rfl,hno⟩:=hrel
  by_cases hlt:k < l.length
  ·obtain ⟨lb,lo,rfl,hlb,e0⟩:=HP.out k hlt
   have htk:=List.take_succ_eq_append_getElem hlt
   have hin:l[k]∈l:=List.getElem_mem hlt
   generalize l[k]=q at e0 htk hin
   have HTK:=Hh htk
   have HIN:=Hh hin
   clear htk hin
   by_cases hq:q=x
   ·subst hq
    have ht:t=true:=by rw [← H.out];simpa using HIN.out
    subst ht
    go_wp2
    go_ret
    exact ⟨rfl,rfl⟩
   ·have hd:(q == x)=false:=by simpa using hq
    have hn2:x ∉ l.take (k+1):=by
     rw [HTK.out]
     simp only [List.mem_append,List.mem_singleton,not_or]
     exact ⟨hno.out,fun h=>hq h.symm⟩
    have HN:=Hh hn2
    clear hq hn2
    go_wp2
    go_round
    case rel=>exact ⟨k+1,by omega,by go_num,HN.out⟩
    case measure=>simp [intOf];omega
  ·have ht:t=false:=by
    have:=hno.out
    rw [List.take_of_length_le (by omega)] at this
    rw [← H.out];simpa using this
   subst ht
   go_wp2
   go_ret
   exact ⟨rfl,rfl⟩
end Go.Proofs.YtgemjjdkjmpmlaaGreatDoor
namespace Go.Proofs.YtgemjjdkjmpmlaaGreatDoor
open Go.RowKit Sp
theorem lesser_trans:∀ {a b c:List Int},lesserI a b=true→lesserI b c=true→lesserI a c=true
 | [],[],_,h,_=>by cases h
 | _::_,[],_,h,_=>by simp [lesserI] at h
 | [],_::_,[],_,h=>by simp [lesserI] at h
 | [],_::_,_::_,_,_=>rfl
 | _::_,_::_,[],_,h=>by simp [lesserI] at h
 | x::a,y::b,z::c,h,k=>by
  unfold lesserI at h k ⊢
  by_cases e:x=y
  ·subst e
   rw [if_pos rfl] at h
   by_cases e2:x=z
   ·rw [if_pos e2] at k ⊢;exact lesser_trans h k
   ·rw [if_neg e2] at k ⊢;exact k
  ·rw [if_neg e] at h
   by_cases e2:y=z
   ·subst e2;rw [if_neg e];exact h
   ·rw [if_neg e2] at k
    simp only [decide_eq_true_eq] at h k
    rw [if_neg (by omega)]
    simp only [decide_eq_true_eq];omega
theorem lesser_irrefl:∀ a:List Int,lesserI a a=false
 | []=>rfl
 | x::a=>by unfold lesserI;rw [if_pos rfl];exact lesser_irrefl a
end Go.Proofs.YtgemjjdkjmpmlaaGreatDoor
namespace Go.Proofs.YtgemjjdkjmpmlaaGreatDoor
open Go.RowKit Go.Maps Sp
def NumsRet (w:World) (l:List Int) (e:Ending) (w':World):Prop:=∃ a c,e=.returned (.slice a l.length c)∧IntsAt w' a l∧Below w.heap.size w w'
section
variable {w:World} {la:Option Addr} {lc n:Nat} {l:List Int}
end
end Go.Proofs.YtgemjjdkjmpmlaaGreatDoor
namespace Go.Proofs.YtgemjjdkjmpmlaaGreatDoor
open Go.RowKit Sp
def LexLt (p q:Prt):Prop:=p.1 < q.1∨p.1=q.1∧p.2 < q.2
theorem partsL_sorted (b:Bk):(partsL b).Pairwise LexLt:=by
 unfold partsL partsTo
 rw [List.pairwise_flatMap]
 refine ⟨fun i _=>?_,?_⟩
 ·unfold partsOf
  rw [List.pairwise_map]
  exact List.pairwise_lt_range.imp fun {a c} h=>.inr ⟨rfl,by show (a:Int) < (c:Int);omega⟩
 ·exact List.pairwise_lt_range.imp fun {i j} h p hp q hq=>by
   unfold partsOf at hp hq
   obtain ⟨_,_,rfl⟩:=List.mem_map.1 hp
   obtain ⟨_,_,rfl⟩:=List.mem_map.1 hq
   exact .inl (by show (i:Int) < (j:Int);omega)
theorem missI_sorted (b:Bk):(missI b).Pairwise LexLt:=(partsL_sorted b).filter _
theorem missI_isPart {b:Bk} {p:Prt} (h:p∈missI b):isPart b p=true:=parts_isPart (List.mem_filter.1 h).1
end Go.Proofs.YtgemjjdkjmpmlaaGreatDoor
namespace Go.Proofs.YtgemjjdkjmpmlaaGreatDoor
open Go.RowKit Go.Maps Sp
def U16sAt (w:World) (a:Option Addr) (l:List Int):Prop:=∀ i (h:i < l.length),∃ b o,a=some ⟨b,o,none⟩∧b < w.heap.size∧w.cell? ⟨b,o+i,none⟩=some (.int .u16 l[i])∧0≤l[i]∧l[i]≤65535
theorem U16sAt.below {w w':World} {a:Option Addr} {l:List Int} (h:U16sAt w a l) (hb:Below w.heap.size w w'):U16sAt w' a l:=fun i hi=>by
 obtain ⟨b,o,e,hlt,h1,h2⟩:=h i hi
 exact ⟨b,o,e,Nat.lt_of_lt_of_le hlt hb.size,(hb.cell hlt).trans h1,h2⟩
def choiceI (l:List Int) (k:Nat):Int:=l.getD k 0
theorem choiceI_bd {w:World} {a:Option Addr} {l:List Int} (h:U16sAt w a l) (k:Nat):0≤choiceI l k∧choiceI l k≤65535:=by
 unfold choiceI
 by_cases hk:k < l.length
 ·obtain ⟨_,_,_,_,_,h1,h2⟩:=h k hk
  simp only [List.getD_eq_getElem?_getD,List.getElem?_eq_getElem hk,Option.getD_some]
  exact ⟨h1,h2⟩
 ·simp only [List.getD_eq_getElem?_getD,List.getElem?_eq_none (Nat.le_of_not_lt hk),Option.getD_none]
  omega
section
variable {w:World} {la:Option Addr} {lc n:Nat} {l:List Int}
theorem choice_at (hL:U16sAt w la l) (hn:n=l.length) (k:Nat) {t:Int} (ht:choiceI l k=t) :
 Calls Tryz.prog 65 #[.slice la n lc,.int .i64 k] w fun e w'=>e=.returned (.int .i64 t)∧w'=w:=by
 subst hn ht
 unfold choiceI
 by_cases hk:k < l.length
 ·obtain ⟨b,o,rfl,hb,h0,h1,h2⟩:=hL k hk
  simp only [List.getD_eq_getElem?_getD,List.getElem?_eq_getElem hk,Option.getD_some]
  generalize l[k]=x at h0 h1 h2
  have hw:IntKind.i64.wrap x=x:=wrapI (by omega) (by omega)
  go_enter Tryz.func65,Tryz.ntmps65
  go_wp2
  go_ret
  exact ⟨rfl,rfl⟩
 ·simp only [List.getD_eq_getElem?_getD,List.getElem?_eq_none (Nat.le_of_not_lt hk),Option.getD_none]
  go_enter Tryz.func65,Tryz.ntmps65
  go_wp2
  go_ret
  exact ⟨rfl,rfl⟩
end
section
variable {b:Bk} {vr vg vm vs vc:Value} {w:World} {la:Option Addr} {lc n:Nat} {l:List Int}
end
section
variable {b:Bk} {vr vg vm vs vc:Value} {w:World} {la:Option Addr} {lc n:Nat} {l:List Prt}
theorem ordered_at (hB:BookAt w b vr vg vm vs vc) (hG:∀ m∈b.ms,0≤m.groups∧m.groups≤1000) (hL:PartsAt w la l) (hn:n=l.length) (hl:l.length≤1000000) (hp:∀ p∈l,isPart b p=true) (ho:l.Pairwise LexLt) :
 Calls Tryz.prog 18 #[.agg #[vr,vg,vm,vs,vc],.slice la n lc] w fun e w'=>e=.returned (.bool true)∧Below w.heap.size w w':=by
 subst hn
 have HB:=Hh hB
 have HL:=Hh hL
 have HG:=Hh hG
 have HP:=Hh hp
 have HO:=Hh ho
 clear hB hG hL hp ho
 go_enter Tryz.func18,Tryz.ntmps18
 go_wp2
 obtain ⟨W0,hW0⟩:∃ W0,W0=w.alloc (.cells #[vr,vg,vm,vs,vc] 26):=⟨_,rfl⟩
 rw [← hW0]
 have hb0:Below w.heap.size w W0:=by rw [hW0];(exact bel)
 have nn:∀ k u,(#[vr,vg,vm,vs,vc]:Array Value)[k]? = some u→W0.cell? ⟨w.heap.size,k,none⟩=some u:=fun k u hk=>by
  rw [hW0,World.cell?_alloc_at _ _ _ _ rfl];exact hk
 have c0:=nn 0 _ rfl
 have c1:=nn 1 _ rfl
 have c2:=nn 2 _ rfl
 have c3:=nn 3 _ rfl
 have c4:=nn 4 _ rfl
 have hs0:w.heap.size < W0.heap.size:=by rw [hW0];simp
 have HB0:=Hh hb0
 clear hW0 nn hb0
 go_loopw [5] (fun i wr=>∃ k:Nat,k≤l.length∧i=.int .i64 k∧Below W0.heap.size W0 wr) (fun i _=>l.length - (intOf i).toNat)
 case atStart=>exact ⟨0,Nat.zero_le _,rfl,Below.refl _ _⟩
 case round =>
  obtain ⟨k,hk,rfl,hW⟩:=hrel
  have hWs:=hW.size
  have hbr:=Below.next HB0.out hW
  by_cases hlt:k < l.length
  ·obtain ⟨lb,lo,rfl,hlb,e0,e1⟩:=HL.out k hlt
   have d0:=(hbr.cell (p:=⟨lb,lo+k * 2,none⟩) hlb).trans e0
   have d1:=(hbr.cell (p:=⟨lb,lo+k * 2+1,none⟩) hlb).trans e1
   have x0:=(hW.cell (p:=⟨w.heap.size,0,none⟩) hs0).trans c0
   have x1:=(hW.cell (p:=⟨w.heap.size,1,none⟩) hs0).trans c1
   have x2:=(hW.cell (p:=⟨w.heap.size,2,none⟩) hs0).trans c2
   have x3:=(hW.cell (p:=⟨w.heap.size,3,none⟩) hs0).trans c3
   have x4:=(hW.cell (p:=⟨w.heap.size,4,none⟩) hs0).trans c4
   have hlb2:lb < wr.heap.size:=Nat.lt_of_lt_of_le hlb hbr.size
   have hx2:w.heap.size < wr.heap.size:=by omega
   have HI:=Hh (HP.out _ (List.getElem_mem hlt))
   have HBr:=Hh (HB.out.below hbr)
   by_cases h0:k=0
   ·subst h0
    generalize l[0]=q at d0 d1 HI e0 e1
    obtain ⟨qm,qg⟩:=q
    have d8:wr.cell? ⟨lb,lo,none⟩=some (.int .i64 qm):=by simpa using d0
    have d9:wr.cell? ⟨lb,lo+1,none⟩=some (.int .i64 qg):=by simpa using d1
    clear e0 e1 c0 c1 c2 c3 c4 hbr d0 d1
    go_wp2
    (refine wp_region_bel (by kernel_rfl) (by kernel_rfl) ?_;(repeat (go_big_quiet_step ((go_at_call 69;with_reducible exact Calls.bel_of (rIs_at (p:=(qm,qg)) (HBr.out.below (later_below _ _)) HG.out HI.out)))));refine wpQuiet_nil ?_;rintro _ ⟨xq,rfl⟩)
    go_wp2
    go_roundw
    case rel=>exact ⟨1,by omega,by go_num,Below.next hW (later_below _ _)⟩
    case measure=>simp [intOf];omega
   ·obtain ⟨j,rfl⟩:∃ j,k=j+1:=⟨k - 1,by omega⟩
    obtain ⟨lb',lo',e',hlb',e2,e3⟩:=HL.out j (by omega)
    cases e'
    have y0:=(hbr.cell (p:=⟨lb,lo+j * 2,none⟩) hlb).trans e2
    have y1:=(hbr.cell (p:=⟨lb,lo+j * 2+1,none⟩) hlb).trans e3
    have hlx:=List.pairwise_iff_getElem.1 HO.out j (j+1) (by omega) hlt (by omega)
    generalize l[j]=r at y0 y1 hlx e2 e3
    generalize l[j+1]=q at d0 d1 HI hlx e0 e1
    obtain ⟨qm,qg⟩:=q
    obtain ⟨rm,rg⟩:=r
    simp only at d0 d1 y0 y1
    unfold LexLt at hlx
    simp only at hlx
    have hwj:IntKind.i64.wrap (((j+1:Nat):Int) - 1)=(j:Int):=by rw [wrapI (by omega) (by omega)];simp
    have hgt:decide ((0:Int) < ((j+1:Nat):Int))=true:=by simp
    have h1:decide (qm < rm)=false:=by rw [decide_eq_false_iff_not];omega
    clear e0 e1 e2 e3 c0 c1 c2 c3 c4 hbr
    by_cases hm:qm=rm
    ·have h2:(qm == rm)=true:=by rw [beq_iff_eq];exact hm
     have h3:decide (qg≤rg)=false:=by rw [decide_eq_false_iff_not];omega
     clear hlx hm
     go_wp2
     (refine wp_region_bel (by kernel_rfl) (by kernel_rfl) ?_;(repeat (go_big_quiet_step ((go_at_call 69;with_reducible exact Calls.bel_of (rIs_at (p:=(qm,qg)) (HBr.out.below (later_below _ _)) HG.out HI.out)))));refine wpQuiet_nil ?_;rintro _ ⟨xq,rfl⟩)
     go_wp2
     go_roundw
     case rel=>exact ⟨j+1+1,by omega,by go_num,Below.next hW (later_below _ _)⟩
     case measure=>simp [intOf];omega
    ·have h2:(qm == rm)=false:=by rw [beq_eq_false_iff_ne];exact hm
     clear hlx hm
     go_wp2
     (refine wp_region_bel (by kernel_rfl) (by kernel_rfl) ?_;(repeat (go_big_quiet_step ((go_at_call 69;with_reducible exact Calls.bel_of (rIs_at (p:=(qm,qg)) (HBr.out.below (later_below _ _)) HG.out HI.out)))));refine wpQuiet_nil ?_;rintro _ ⟨xq,rfl⟩)
     go_wp2
     go_roundw
     case rel=>exact ⟨j+1+1,by omega,by go_num,Below.next hW (later_below _ _)⟩
     case measure=>simp [intOf];omega
  ·obtain rfl:k=l.length:=by omega
   go_wp2
   go_ret
   exact ⟨rfl,hbr⟩
end
section
variable {b:Bk} {vr vg vm vs vc:Value} {w:World}
theorem loads_at (hB:BookAt w b vr vg vm vs vc) (hms:b.ms.length≤20) {la:Option Addr} {lc n:Nat} {l:List Prt} (hL:PartsAt w la l) (hn:n=l.length) (hll:l.length≤5000) (hp:∀ p∈l,isPart b p=true) :
 Calls Tryz.prog 32 #[.agg #[vr,vg,vm,vs,vc],.slice la n lc] w (NumsRet w (loadsOf b.ms.length l)):=by
 subst hn
 have HL:=Hh hL
 have HPT:=Hh hp
 have hmk:=run_make_row' (P:=Tryz.prog) 30 3 (.int .i64 0) 8 Tryz.underlying30 intInfo rfl .i64 .i64 b.ms.length (by omega) (by omega)
 obtain ⟨rfl,rfl,⟨ma,mc,rfl,_,_⟩,⟨sa,sc,rfl,_,_⟩,ra,rc,rfl,_,_⟩:=id hB
 clear hB hL hp
 go_enter Tryz.func32,Tryz.ntmps32
 go_wp2
 obtain ⟨W0,hW0⟩:∃ W0,W0=((w.alloc (.cells #[.int .i64 b.room,.int .i64 b.gap,.slice ma b.ms.length mc,.slice sa b.ss.length sc,.slice ra b.rs.length rc] 26)).alloc (.cells (madeCells #[.int .i64 0] b.ms.length) 3)):=⟨_,rfl⟩
 rw [← hW0]
 have hb0:Below w.heap.size w W0:=by rw [hW0];(exact bel)
 have hs0:W0.heap.size=w.heap.size+1+1:=by rw [hW0];simp
 have hR:RowAt W0 (w.heap.size+1) (List.replicate b.ms.length 0):=by
  rw [hW0]
  simpa using RowAt.made (w.alloc (.cells #[.int .i64 b.room,.int .i64 b.gap,.slice ma b.ms.length mc,.slice sa b.ss.length sc,.slice ra b.rs.length rc] 26)) b.ms.length 3
 have HR:=Hh hR
 clear hW0 hR hmk
 go_loopw [6] (fun i wr=>∃ (k:Nat),k≤l.length∧i=.int .i64 k∧KS (fun j=>j≠w.heap.size+1) W0 wr∧RowAt wr (w.heap.size+1) (loadsOf b.ms.length (l.take k))) (fun i _=>l.length - (intOf i).toNat)
 case atStart=>exact ⟨0,Nat.zero_le _,rfl,KS.refl _ _,by rw [List.take_zero,loadsOf_nil];exact HR.out⟩
 case round =>
  obtain ⟨k,hk,rfl,hW,hrw⟩:=hrel
  have hWs:=hW.size
  have hRl:=hrw.lt
  by_cases hlt:k < l.length
  ·obtain ⟨pb,po,rfl,hpb,d0,d1⟩:=HL.out k hlt
   have hpb0:pb < W0.heap.size:=Nat.lt_of_lt_of_le hpb hb0.size
   have e0:=(hW.cell (x:=⟨pb,po+k * 2,none⟩) hpb0 (by simp only;omega)).trans ((hb0.cell (p:=⟨pb,po+k * 2,none⟩) hpb).trans d0)
   have hpr:pb < wr.heap.size:=Nat.lt_of_lt_of_le hpb0 hWs
   have hp:=HPT.out _ (List.getElem_mem hlt)
   obtain ⟨q,hq,hqn⟩:∃ q:Nat,l[k].1=q∧q < b.ms.length:=by
    unfold isPart inB at hp
    simp only [Bool.and_eq_true,decide_eq_true_eq] at hp
    exact ⟨l[k].1.toNat,by omega,by omega⟩
   have htk:=List.take_succ_eq_append_getElem hlt
   have hsn:=loadsOf_snoc b.ms.length (l.take k) l[k] hq hqn
   rw [← htk] at hsn
   have hql:q < (loadsOf b.ms.length (l.take k)).length:=by rw [loadsOf_length];exact hqn
   have hc:=hrw.c q hql
   have hf:=hrw.f q hql
   have hset:=hrw.set hql ((loadsOf b.ms.length (l.take k))[q]+1)
   rw [← hsn] at hset
   have hbd:=loadsOf_bd b.ms.length (l.take k) _ (List.getElem_mem hql)
   have htl:=List.length_take_le k l
   generalize (loadsOf b.ms.length (l.take k))[q]=y at hc hset hbd
   generalize hx:l[k]=x at e0 hq hset d0 d1
   obtain ⟨x1,x2⟩:=x
   simp only at hq e0 hset
   subst hq
   have HSET:=Hh hset
   have hwy:IntKind.i64.wrap (y+1)=y+1:=IntWalk.i64_in _ (by omega)
   clear hset hrw htk hsn hx hp d0 d1
   go_wp2
   go_roundw
   case rel=>exact ⟨k+1,by omega,by go_num,hW.trans (KS.setCell (by simp) _ _),HSET.out⟩
   case measure=>simp [intOf];omega
  ·obtain rfl:k=l.length:=by omega
   rw [List.take_length] at hrw
   have HRW:=Hh hrw
   clear hrw
   go_wp2
   go_ret
   exact ⟨some ⟨w.heap.size+1,0,none⟩,b.ms.length,by rw [loadsOf_length];rfl,HRW.out.ints,hb0.trans (KS.toBelow (n:=w.heap.size) hW (by omega) (fun k hk=>by omega))⟩
end
end Go.Proofs.YtgemjjdkjmpmlaaGreatDoor
