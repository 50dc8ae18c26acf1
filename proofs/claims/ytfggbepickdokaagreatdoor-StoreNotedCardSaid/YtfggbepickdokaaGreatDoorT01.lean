/- Leads to the Store laws of chapter 6: K4 Q K5 K6 K7. -/
import Derived.Test.YtfggbepickdokaaGreatDoorT00
import Derived.Laws.EntriesVeiled
set_option maxHeartbeats 1000000
set_option maxRecDepth 100000
set_option linter.all false
namespace Go.Proofs.YtfggbepickdokaaGreatDoor
open Go.RowKit Go.Maps Sp
theorem isPart_bounds {b:Bk} (hG:∀ m∈b.ms,0≤m.groups∧m.groups≤1000) (hl:b.ms.length≤1000000) {p:Prt} (h:isPart b p=true):i64ok p.1∧i64ok p.2:=by
 unfold isPart inB at h
 simp only [Bool.and_eq_true,decide_eq_true_eq] at h
 have hi:p.1.toNat < b.ms.length:=by omega
 rw [List.getElem?_eq_getElem hi] at h
 have:=hG _ (List.getElem_mem hi)
 simp only [Option.elim] at h
 have e1:IntKind.i64.min=-9223372036854775808:=rfl
 have e2:IntKind.i64.max=9223372036854775807:=rfl
 refine ⟨?_,?_⟩ <;> (unfold i64ok;simp [Lit.wf,e1,e2];omega)
structure Five (w:World) (r:Nat) (v0 v1 v2 v3 v4:Value):Prop where
 c0:w.cell? ⟨r,0,none⟩=some v0
 c1:w.cell? ⟨r,1,none⟩=some v1
 c2:w.cell? ⟨r,2,none⟩=some v2
 c3:w.cell? ⟨r,3,none⟩=some v3
 c4:w.cell? ⟨r,4,none⟩=some v4
 lt:r < w.heap.size
theorem Five.new (w:World) (v0 v1 v2 v3 v4:Value) (t:TypeId):Five (w.alloc (.cells #[v0,v1,v2,v3,v4] t)) w.heap.size v0 v1 v2 v3 v4 :=
 ⟨by simp,by simp,by simp,by simp,by simp,by simp⟩
theorem Five.below {w w':World} {r:Nat} {v0 v1 v2 v3 v4:Value} (h:Five w r v0 v1 v2 v3 v4) {n:Nat} (hb:Below n w w') (hr:r < n):Five w' r v0 v1 v2 v3 v4 :=
 ⟨(hb.cell hr).trans h.c0,(hb.cell hr).trans h.c1,(hb.cell hr).trans h.c2,(hb.cell hr).trans h.c3,(hb.cell hr).trans h.c4,Nat.lt_of_lt_of_le h.lt hb.size⟩
theorem sessions_at {b:Bk} {vr vg vm vs vc:Value} {w:World} (hB:BookAt w b vr vg vm vs vc) (hG:∀ m∈b.ms,0≤m.groups∧m.groups≤1000) {t:Int} (h:sessAl b=t) :
 Calls Tryz.prog 111 #[.agg #[vr,vg,vm,vs,vc]] w fun e w'=>e=.returned (.int .i64 t)∧Below w.heap.size w w':=by
 obtain ⟨sa,sc,rfl,hM,hl⟩:=hB.ss
 unfold sessAl at h
 by_cases h4:4 < b.ss.length
 ·rw [if_pos h4] at h
  subst h
  go_enter Tryz.func111,Tryz.ntmps111
  go_wp2
  go_ret
  exact ⟨rfl,bel⟩
 ·rw [if_neg h4] at h
  have H:=Hh h;clear h
  have HB:=Hh hB;clear hB
  have HG:=Hh hG;clear hG
  have HM:=Hh hM;clear hM
  have hmm:=@run_makeMap Tryz.prog
  go_enter Tryz.func111,Tryz.ntmps111
  go_wp2
  obtain ⟨W0,hW0⟩:∃ W0,W0=w.alloc (.cells #[vr,vg,vm,.slice sa b.ss.length sc,vc] 88):=⟨_,rfl⟩
  rw [← hW0]
  have five:=Five.new w vr vg vm (.slice sa b.ss.length sc) vc 88
  rw [← hW0] at five
  have hb0:Below w.heap.size w W0:=by rw [hW0];(exact bel)
  have hB0:=HB.out.below hb0
  have HS:Hid (SessAt W0 sa b.ss):=by obtain ⟨_,_,e,h,_⟩:=hB0.ss;cases e;exact h
  clear HM
  clear hW0
  go_loopw [17] (fun i wr=>∃ (k:Nat),k≤b.ss.length∧i=.int .i64 k∧Hid (goS b (b.ss.drop k)=t)∧Below W0.heap.size W0 wr) (fun i _=>b.ss.length - (intOf i).toNat)
  case atStart=>exact ⟨0,Nat.zero_le _,rfl,H.out,Below.refl _ _⟩
  case round =>
   obtain ⟨k,hk,rfl,hG0,hW⟩:=hrel
   obtain ⟨wo,rfl⟩:∃ wo:World,wo=wr:=⟨_,rfl⟩
   have hWs:=hW.size
   by_cases hlt:k < b.ss.length
   ·obtain ⟨sb,so,rfl,hsb,pa,pc,h0,hpc,hpl,hP⟩:=HS.out k hlt
    have c0:=(hW.cell hsb).trans h0
    have hsb2:sb < wo.heap.size:=Nat.lt_of_lt_of_le hsb hW.size
    have hP0:=Hh hP;clear hP
    have hG':=hG0.out
    rw [List.drop_eq_getElem_cons hlt,goS] at hG'
    clear hG0 h0
    generalize hs:b.ss[k]=s at c0 hG' hpc hpl hP0
    have HSS:=Hh hs;clear hs
    by_cases h5:5 < s.length
    ·rw [if_pos h5] at hG'
     subst hG'
     go_wp2
     go_ret
     exact ⟨rfl,bel⟩
    ·rw [if_neg h5] at hG'
     have HG1:=Hh hG';clear hG'
     go_wp2
     obtain ⟨W1,hW1⟩:∃ W1,W1=(wo.alloc (.cells #[.slice pa s.length pc] 40)).alloc (.map #[] 0):=⟨_,rfl⟩
     rw [← hW1]
     have hs1:wo.heap.size+2≤W1.heap.size:=by rw [hW1];simp
     have hset:=SetAt.made (wo.alloc (.cells #[.slice pa s.length pc] 40)) Tryz.prog 65 4
     rw [World.size_alloc,← hW1] at hset
     have hb1:Below wo.heap.size wo W1:=by rw [hW1];(exact bel)
     have fiveo:=five.below hW five.lt
     have hBo:=hB0.below hW
     have HPo:=Hh (show PartsAt wo pa s from hP0.out.below hW)
     have HBo:=Hh hBo;clear hBo
     have hW1b:Below W0.heap.size W0 W1:=hW.trans (hb1.mono hWs)
     clear hW1
     go_loopw [29] (fun i wr=>∃ (j:Nat) (seen:List Prt),j≤s.length∧i=.int .i64 j∧Hid (goP b seen (s.drop j)=goP b [] s)∧SetAt wr Tryz.prog 65 4 (wo.heap.size+1) j (seen.map partV)∧Below (wo.heap.size+1) W1 wr) (fun i _=>s.length - (intOf i).toNat)
     case atStart=>exact ⟨0,[],Nat.zero_le _,rfl,by simp [Hid],hset,Below.refl _ _⟩
     case round =>
      obtain ⟨j,seen,hj,rfl,hQ,hS,hWi⟩:=hrel
      have hWis:=hWi.size
      have hWo:Below wo.heap.size wo wr:=hb1.trans (hWi.mono (by omega))
      by_cases hltj:j < s.length
      ·obtain ⟨pb,po,rfl,hpb,p0,p1⟩:=HPo.out j hltj
       have d0:=(hWo.cell hpb).trans p0
       have d1:=(hWo.cell hpb).trans p1
       have hpb2:pb < wr.heap.size:=by omega
       have five2:=fiveo.below hWo (Nat.lt_of_lt_of_le five.lt hWs)
       have hQ':=hQ.out
       rw [List.drop_eq_getElem_cons hltj,goP] at hQ'
       clear hQ p0 p1
       generalize hp:s[j]=p at d0 d1 hQ'
       obtain ⟨pm,pg⟩:=p
       dsimp only at d0 d1
       have HP2:=Hh hp;clear hp
       obtain ⟨y0,y1,y2,y3,y4,ylt⟩:=five2
       have HBr:=Hh (HBo.out.below hWo)
       cases hi:isPart b (pm,pg)
       ·have H1:=Hh hi
        simp only [hi,if_true] at hQ'
        have hG2:=HG1.out
        rw [← hQ',if_pos (by decide)] at hG2
        subst hG2
        clear hi hQ'
        go_wp2_with (go_at_call 125;(with_reducible refine (isPart_at (p:=(pm,pg)) (HBr.out.below (bal _ _)) HG.out H1.out).mono ?_);rintro e w1 ⟨rfl,hc1⟩;obtain ⟨hcc,hcf⟩:=bcell hc1;have hS1:=(hS.al _).below hc1;have hz1:=hc1.size)
        go_ret
        exact ⟨rfl,bel⟩
       ·have H1:=Hh hi
        simp only [hi,Bool.true_eq_false,if_false] at hQ'
        obtain ⟨kl,hkey⟩:=partKey (pm,pg) (isPart_bounds HG.out (by have:=HBo.out.ms;obtain ⟨_,_,_,_,h⟩:=this;exact h) hi).1 (isPart_bounds HG.out (by have:=HBo.out.ms;obtain ⟨_,_,_,_,h⟩:=this;exact h) hi).2
        clear hi
        by_cases hmem:(pm,pg)∈seen
        ·have HR:=Hh (mem_partV.2 hmem)
         simp only [hmem,if_true] at hQ'
         have hG2:=HG1.out
         rw [← hQ',if_pos (by decide)] at hG2
         subst hG2
         clear hmem hQ'
         go_wp2_with (first
          | (go_at_call 125;(with_reducible refine (isPart_at (p:=(pm,pg)) (HBr.out.below (bal _ _)) HG.out H1.out).mono ?_);rintro e w1 ⟨rfl,hc1⟩;obtain ⟨hcc,hcf⟩:=bcell hc1;have hS1:=(hS.al _).below hc1;have hz1:=hc1.size)
          | (at_lookup;refine wpList_lookup_set_yes rfl _ _ 170 rfl partKeyed Tryz.underlying170 Tryz.underlying4 (zeroBool _) rfl hS1 hkey HR.out rfl ?_))
         go_ret
         exact ⟨rfl,bel⟩
        ·have HR:=Hh (fun h=>hmem (mem_partV.1 h))
         simp only [hmem,if_false] at hQ'
         have HQ:=Hh hQ'
         clear hmem hQ'
         go_wp2_with (first
          | (go_at_call 125;(with_reducible refine (isPart_at (p:=(pm,pg)) (HBr.out.below (bal _ _)) HG.out H1.out).mono ?_);rintro e w1 ⟨rfl,hc1⟩;obtain ⟨hcc,hcf⟩:=bcell hc1;have hS1:=(hS.al _).below hc1;have hz1:=hc1.size)
          | (at_lookup;refine wpList_lookup_set_no rfl _ _ 170 rfl partKeyed Tryz.underlying170 Tryz.underlying4 (zeroBool _) rfl hS1 hkey HR.out rfl ?_)
          | (at_mapUpdate;refine wpList_put_set rfl _ _ _ 170 rfl partKeyed Tryz.underlying170 Tryz.underlying4 (by unfold maxLen;omega) rfl hS1 hkey rfl rfl ?_;intro w2 hS2 hg2))
         go_roundw
         case rel=>exact ⟨j+1,(pm,pg)::seen,by omega,by go_num,HQ.out,hS2,bel⟩
         case measure=>simp [intOf];omega
      ·have hQ':goP b seen (s.drop j)=goP b [] s:=hQ.out
       rw [List.drop_eq_nil_of_le (by omega)] at hQ'
       simp only [goP] at hQ'
       have hG2:=HG1.out
       rw [← hQ',if_neg (by decide)] at hG2
       have HG2:=Hh hG2
       clear hQ' hG2 hQ
       go_wp2
       go_roundw
       case rel=>exact ⟨k+1,by omega,by go_num,HG2.out,bel⟩
       case measure=>simp [intOf];omega
   ·have:goS b (b.ss.drop k)=t:=hG0.out
    rw [List.drop_eq_nil_of_le (by omega)] at this
    simp only [goS] at this
    subst this
    go_wp2
    go_ret
    exact ⟨rfl,bel⟩
end Go.Proofs.YtfggbepickdokaaGreatDoor
namespace Go.Proofs.YtfggbepickdokaaGreatDoor
open Go Go.RowKit
structure Bel (W:World) where
 w:World
 h:Below W.heap.size W w
instance (W : World) : Inhabited (Bel W) := ⟨⟨W, Below.refl _ _⟩⟩
def later (W:World) (x:Bel W):World:=x.w
section
variable {W:World} {x:Bel W} {b o:Nat}
theorem later_below (W:World) (x:Bel W):Below W.heap.size W (later W x):=x.h
theorem cell?_later (h:b < W.heap.size):(later W x).cell? ⟨b,o,none⟩=W.cell? ⟨b,o,none⟩:=x.h.cell (p:=⟨b,o,none⟩) h
theorem frozen?_later (h:b < W.heap.size):(later W x).frozen? ⟨b,o,none⟩=W.frozen? ⟨b,o,none⟩:=x.h.frozen (p:=⟨b,o,none⟩) h
attribute [go_sem] cell?_later frozen?_later
theorem Calls.bel_of {P:Program} {f:FuncId} {args:Array Value} {v:Value}
 (h:Calls P f args (later W x) fun e w'=>e=.returned v∧Below (later W x).heap.size (later W x) w'):Calls P f args (later W x) fun e w''=>e=.returned v∧∃ y,w''=later W y :=
 h.mono fun _ w' ⟨he,hb⟩=>⟨he,⟨w',Below.next x.h hb⟩,rfl⟩
theorem wp_region_bel {P:Program} {id:Nat} {Q:Exit→Act→World→Prop} {a:Act} {l:List Oper} (hm:P.follows .mixedOrders=true) (hB:Region.lexB .any l.toArray=true)
 (h:wpQuiet P l.toArray (fun w'=>∃ x,w'=later W x) (fun a'=>∀ w',(∃ x,w'=later W x)→Q .normal a' w') l a):(Code.region id l.toArray true).wp P Q a W :=
 wp_region_quiet (C:=fun w'=>∃ x,w'=later W x) hm hB ⟨⟨{ W with drawn:=W.drawn+1 },⟨rfl,rfl,rfl,Nat.le_refl _,fun _ _=>rfl⟩⟩,rfl⟩ (by simpa using h)
end
end Go.Proofs.YtfggbepickdokaaGreatDoor
namespace Go.Proofs.YtfggbepickdokaaGreatDoor
open Go.RowKit Go.Maps Sp
theorem kind4_at {b:Bk} {vr vg vm vs vc:Value} {w:World} (hB:BookAt w b vr vg vm vs vc) (hG:∀ m∈b.ms,0≤m.groups∧m.groups≤1000) (k:Value) (p:Prt) (m:Value) {t:Bool} (h:isPart b p=t) :
 Calls Tryz.prog 181 #[.agg #[vr,vg,vm,vs,vc],.agg #[k,.int .i64 p.1,.int .i64 p.2,m]] w fun e w'=>e=.returned (.tuple #[.int .i64 (b.ss.length:Int),.bool t])∧Below w.heap.size w w':=by
 obtain ⟨sa,sc,rfl,hM,hl⟩:=hB.ss
 have HB:=Hh hB;clear hB hM
 have HG:=Hh hG;clear hG
 have H:=Hh h;clear h
 go_enter Tryz.func181,Tryz.ntmps181
 go_wp2
 (refine wp_region_bel (by kernel_rfl) (by kernel_rfl) ?_;(repeat (go_big_quiet_step ((go_at_call 125;with_reducible exact Calls.bel_of (isPart_at (p:=p) (HB.out.below (Below.next (Below.al (Below.al (Below.refl _ _) _) _) (later_below _ _))) HG.out H.out)))));refine wpQuiet_nil ?_;rintro _ ⟨xq,rfl⟩)
 go_wp2
 go_ret2
 exact ⟨rfl,by have:=later_below _ xq;(exact bel)⟩
theorem inB_nat {a:Int} {n:Nat}:inB a 0 ((n:Int) - 1)=true↔0≤a∧a.toNat < n:=by
 unfold inB
 simp only [decide_eq_true_eq]
 omega
theorem kind0_no {b:Bk} {vr vg vm vs vc:Value} {w:World} (hB:BookAt w b vr vg vm vs vc) (k:Value) (a:Int) (v3 v4:Value) (h:inB a 0 ((b.ss.length:Int) - 1)=false) :
 Calls Tryz.prog 176 #[.agg #[vr,vg,vm,vs,vc],.agg #[k,.int .i64 a,v3,v4]] w fun e w'=>e=.returned (.tuple #[.int .i64 0,.bool false])∧Below w.heap.size w w':=by
 obtain ⟨sa,sc,rfl,hM,hl⟩:=hB.ss
 have e1:IntKind.i64.wrap ((b.ss.length:Int) - 1)=(b.ss.length:Int) - 1:=IntWalk.i64_in _ (by omega)
 have H:=Hh h;clear h hB hM
 go_enter Tryz.func176,Tryz.ntmps176
 go_wp2_with (go_at_call 63;(with_reducible refine (inside_at H.out).mono ?_);rintro e w' ⟨rfl,rfl⟩)
 go_ret2
 exact ⟨rfl,bel⟩
theorem kind0_yes {b:Bk} {vr vg vm vs vc:Value} {w:World} (hB:BookAt w b vr vg vm vs vc) (k:Value) (a:Int) (v3 v4:Value) (h:inB a 0 ((b.ss.length:Int) - 1)=true) :
 Calls Tryz.prog 176 #[.agg #[vr,vg,vm,vs,vc],.agg #[k,.int .i64 a,v3,v4]] w fun e w'=>e=.returned (.tuple #[.int .i64 (((b.ss[a.toNat]?).elim 0 List.length:Nat):Int),.bool true])∧Below w.heap.size w w':=by
 obtain ⟨sa,sc,rfl,hM,hl⟩:=hB.ss
 obtain ⟨h1,h2⟩:=inB_nat.1 h
 obtain ⟨sb,so,rfl,hsb,pa,pc,c0,hpc,hpl,_⟩:=hM _ h2
 have e1:IntKind.i64.wrap ((b.ss.length:Int) - 1)=(b.ss.length:Int) - 1:=IntWalk.i64_in _ (by omega)
 rw [List.getElem?_eq_getElem h2,Option.elim]
 have h3:a < b.ss.length:=by omega
 generalize hs:b.ss[a.toNat]=s at *
 have H:=Hh h;have HS:=Hh hs;clear h hB hM hs
 go_enter Tryz.func176,Tryz.ntmps176
 go_wp2_with (go_at_call 63;(with_reducible refine (inside_at H.out).mono ?_);rintro e w' ⟨rfl,rfl⟩)
 go_ret2
 exact ⟨rfl,bel⟩
theorem kind5_no {b:Bk} {vr vg vm vs vc:Value} {w:World} (hB:BookAt w b vr vg vm vs vc) (k:Value) (a:Int) (v3 v4:Value) (h:inB a 0 ((b.ms.length:Int) - 1)=false) :
 Calls Tryz.prog 183 #[.agg #[vr,vg,vm,vs,vc],.agg #[k,.int .i64 a,v3,v4]] w fun e w'=>e=.returned (.tuple #[.int .i64 0,.bool false])∧Below w.heap.size w w':=by
 obtain ⟨sa,sc,rfl,hM,hl⟩:=hB.ms
 have e1:IntKind.i64.wrap ((b.ms.length:Int) - 1)=(b.ms.length:Int) - 1:=IntWalk.i64_in _ (by omega)
 have H:=Hh h;clear h hB hM
 go_enter Tryz.func183,Tryz.ntmps183
 go_wp2_with (go_at_call 63;(with_reducible refine (inside_at H.out).mono ?_);rintro e w' ⟨rfl,rfl⟩)
 go_ret2
 exact ⟨rfl,bel⟩
theorem kind5_yes {b:Bk} {vr vg vm vs vc:Value} {w:World} (hB:BookAt w b vr vg vm vs vc) (k:Value) (a:Int) (v3 v4:Value) (h:inB a 0 ((b.ms.length:Int) - 1)=true) :
 Calls Tryz.prog 183 #[.agg #[vr,vg,vm,vs,vc],.agg #[k,.int .i64 a,v3,v4]] w fun e w'=>e=.returned (.tuple #[.int .i64 ((b.ms[a.toNat]?).elim 0 Msg.groups),.bool true])∧Below w.heap.size w w':=by
 obtain ⟨sa,sc,rfl,hM,hl⟩:=hB.ms
 obtain ⟨h1,h2⟩:=inB_nat.1 h
 obtain ⟨sb,so,rfl,hsb,c0,c1,c2⟩:=hM _ h2
 have e1:IntKind.i64.wrap ((b.ms.length:Int) - 1)=(b.ms.length:Int) - 1:=IntWalk.i64_in _ (by omega)
 rw [List.getElem?_eq_getElem h2,Option.elim]
 have h3:a < b.ms.length:=by omega
 generalize hs:b.ms[a.toNat]=s at *
 have H:=Hh h;have HS:=Hh hs;clear h hB hM hs
 go_enter Tryz.func183,Tryz.ntmps183
 go_wp2_with (go_at_call 63;(with_reducible refine (inside_at H.out).mono ?_);rintro e w' ⟨rfl,rfl⟩)
 go_ret2
 exact ⟨rfl,bel⟩
def kindWord:Nat→List UInt8
 | 0=>[97,108,108]
 | 1=>[98,114,111,107,101]
 | 2=>[108,101,97,115,116]
 | 3=>[109,111,115,116]
 | 4=>[99,111,112,105,101,115]
 | _=>[104,97,118,101]
def kindMost:Nat→Nat
 | 4=>181
 | 5=>183
 | _=>176
def kindRight:Nat→Nat
 | 0=>177
 | 1=>178
 | 2=>179
 | 3=>180
 | 4=>182
 | _=>184
def KindsAt (w:World):Prop:=0 < w.heap.size∧∀ i,i < 6 →
 (∃ s:ByteArray,s.data.toList=kindWord i∧w.cell? ⟨0,i * 5,none⟩=some (.string s)) ∧
 w.cell? ⟨0,i * 5+1,none⟩=some (.bool (usesB i))∧w.cell? ⟨0,i * 5+2,none⟩=some (.bool (usesMany i)) ∧
 w.cell? ⟨0,i * 5+3,none⟩=some (.func (.func (kindMost i)) #[] #[])∧w.cell? ⟨0,i * 5+4,none⟩=some (.func (.func (kindRight i)) #[] #[])
theorem KindsAt.below {w w':World} (h:KindsAt w) (hb:Below w.heap.size w w'):KindsAt w' :=
 ⟨Nat.lt_of_lt_of_le h.1 hb.size,fun i hi=>by
   obtain ⟨⟨s,e,h0⟩,h1,h2,h3,h4⟩:=h.2 i hi
   exact ⟨⟨s,e,(hb.cell h.1).trans h0⟩,(hb.cell h.1).trans h1,(hb.cell h.1).trans h2,(hb.cell h.1).trans h3,(hb.cell h.1).trans h4⟩⟩
def recV (r:Rec):Value:=.agg #[.int .i64 r.k,.int .i64 r.a,.int .i64 r.b,.int .i64 r.m]
section
variable {b:Bk} {vr vg vm vs vc:Value} {w:World}
def RecPost (w:World) (t:Int) (e:Ending) (w':World):Prop:=e=.returned (.int .i64 t)∧Below w.heap.size w w'
theorem record_out (r:Rec) (h:inB r.k 0 5=false) :
 Calls Tryz.prog 131 #[.agg #[vr,vg,vm,vs,vc],recV r] w (RecPost w 1):=by
 have H:=Hh h;clear h
 unfold recV
 go_enter Tryz.func131,Tryz.ntmps131
 go_wp2_with (go_at_call 63;(with_reducible refine (inside_at H.out).mono ?_);rintro e w' ⟨rfl,rfl⟩)
 go_ret
 exact ⟨rfl,bel⟩
theorem record_0 (hB:BookAt w b vr vg vm vs vc) (hG:∀ m∈b.ms,0≤m.groups∧m.groups≤1000) (hK:KindsAt w) (a rb m:Int) {t:Int} (h:recAl b ⟨0,a,rb,m⟩=t) :
 Calls Tryz.prog 131 #[.agg #[vr,vg,vm,vs,vc],.agg #[.int .i64 0,.int .i64 a,.int .i64 rb,.int .i64 m]] w (RecPost w t):=by
 obtain ⟨hlt,hK⟩:=hK
 obtain ⟨⟨s,_,k0⟩,k1,k2,k3,k4⟩:=hK 0 (by omega)
 simp [usesB,usesMany,kindMost,kindRight] at k0 k1 k2 k3 k4
 simp [recAl,usesB,usesMany,show inB 0 0 5=true from by decide] at h
 have HK:=Hh (show inB 0 0 5=true from by decide)
 have HB:=Hh hB
 have HG:=Hh hG
 clear hB hG hK
 by_cases hrb:rb=0
 rotate_left
 ·simp [hrb] at h
  subst h
  go_enter Tryz.func131,Tryz.ntmps131
  go_wp2_with (first | (go_at_call 63;(with_reducible refine (inside_at HK.out).mono ?_);rintro e w' ⟨rfl,rfl⟩) | (go_at_call 63;(with_reducible refine (inside_at HM.out).mono ?_);rintro e w' ⟨rfl,rfl⟩))
  go_ret
  exact ⟨rfl,bel⟩
 subst hrb
 by_cases hm:m=0
 rotate_left
 ·simp [hm] at h
  subst h
  go_enter Tryz.func131,Tryz.ntmps131
  go_wp2_with (first | (go_at_call 63;(with_reducible refine (inside_at HK.out).mono ?_);rintro e w' ⟨rfl,rfl⟩) | (go_at_call 63;(with_reducible refine (inside_at HM.out).mono ?_);rintro e w' ⟨rfl,rfl⟩))
  go_ret
  exact ⟨rfl,bel⟩
 subst hm
 cases hO:inB a 0 ((b.ss.length:Int) - 1)
 ·simp [most,hO] at h
  subst h
  have HO:=Hh hO;clear hO
  go_enter Tryz.func131,Tryz.ntmps131
  go_wp2_with (first | (go_at_call 63;(with_reducible refine (inside_at HK.out).mono ?_);rintro e w' ⟨rfl,rfl⟩) | (go_at_call 176;(with_reducible refine (kind0_no (HB.out.below (Below.al (Below.al (Below.al (Below.refl _ _) _) _) _)) _ _ _ _ HO.out).mono ?_);rintro e w1 ⟨rfl,hb1⟩;obtain ⟨hc1,hf1⟩:=bcell hb1;have hz1:=hb1.size) | (go_at_call 63;(with_reducible refine (inside_at HM.out).mono ?_);rintro e w' ⟨rfl,rfl⟩))
  go_ret
  exact ⟨rfl,bel⟩
 ·have ht:(if inB 0 0 (((b.ss[a.toNat]?).elim 0 List.length:Nat):Int)=true then (0:Int) else 1)=t:=by simpa [most,hO] using h
  clear h
  have HO:=Hh hO;clear hO
  cases hM:inB 0 0 (((b.ss[a.toNat]?).elim 0 List.length:Nat):Int)
  all_goals
   rw [hM] at ht
   have HM:=Hh hM;clear hM
   simp at ht
   subst ht
   go_enter Tryz.func131,Tryz.ntmps131
   go_wp2_with (first | (go_at_call 63;(with_reducible refine (inside_at HK.out).mono ?_);rintro e w' ⟨rfl,rfl⟩) | (go_at_call 176;(with_reducible refine (kind0_yes (HB.out.below (Below.al (Below.al (Below.al (Below.refl _ _) _) _) _)) _ _ _ _ HO.out).mono ?_);rintro e w1 ⟨rfl,hb1⟩;obtain ⟨hc1,hf1⟩:=bcell hb1;have hz1:=hb1.size) | (go_at_call 63;(with_reducible refine (inside_at HM.out).mono ?_);rintro e w' ⟨rfl,rfl⟩))
   go_ret
   exact ⟨rfl,bel⟩
theorem record_1 (hB:BookAt w b vr vg vm vs vc) (hG:∀ m∈b.ms,0≤m.groups∧m.groups≤1000) (hK:KindsAt w) (a rb m:Int) {t:Int} (h:recAl b ⟨1,a,rb,m⟩=t) :
 Calls Tryz.prog 131 #[.agg #[vr,vg,vm,vs,vc],.agg #[.int .i64 1,.int .i64 a,.int .i64 rb,.int .i64 m]] w (RecPost w t):=by
 obtain ⟨hlt,hK⟩:=hK
 obtain ⟨⟨s,_,k0⟩,k1,k2,k3,k4⟩:=hK 1 (by omega)
 simp [usesB,usesMany,kindMost,kindRight] at k0 k1 k2 k3 k4
 simp [recAl,usesB,usesMany,show inB 1 0 5=true from by decide] at h
 have HK:=Hh (show inB 1 0 5=true from by decide)
 have HB:=Hh hB
 have HG:=Hh hG
 clear hB hG hK
 by_cases hrb:rb=0
 rotate_left
 ·simp [hrb] at h
  subst h
  go_enter Tryz.func131,Tryz.ntmps131
  go_wp2_with (first | (go_at_call 63;(with_reducible refine (inside_at HK.out).mono ?_);rintro e w' ⟨rfl,rfl⟩) | (go_at_call 63;(with_reducible refine (inside_at HM.out).mono ?_);rintro e w' ⟨rfl,rfl⟩))
  go_ret
  exact ⟨rfl,bel⟩
 subst hrb
 by_cases hm:m=0
 rotate_left
 ·simp [hm] at h
  subst h
  go_enter Tryz.func131,Tryz.ntmps131
  go_wp2_with (first | (go_at_call 63;(with_reducible refine (inside_at HK.out).mono ?_);rintro e w' ⟨rfl,rfl⟩) | (go_at_call 63;(with_reducible refine (inside_at HM.out).mono ?_);rintro e w' ⟨rfl,rfl⟩))
  go_ret
  exact ⟨rfl,bel⟩
 subst hm
 cases hO:inB a 0 ((b.ss.length:Int) - 1)
 ·simp [most,hO] at h
  subst h
  have HO:=Hh hO;clear hO
  go_enter Tryz.func131,Tryz.ntmps131
  go_wp2_with (first | (go_at_call 63;(with_reducible refine (inside_at HK.out).mono ?_);rintro e w' ⟨rfl,rfl⟩) | (go_at_call 176;(with_reducible refine (kind0_no (HB.out.below (Below.al (Below.al (Below.al (Below.refl _ _) _) _) _)) _ _ _ _ HO.out).mono ?_);rintro e w1 ⟨rfl,hb1⟩;obtain ⟨hc1,hf1⟩:=bcell hb1;have hz1:=hb1.size) | (go_at_call 63;(with_reducible refine (inside_at HM.out).mono ?_);rintro e w' ⟨rfl,rfl⟩))
  go_ret
  exact ⟨rfl,bel⟩
 ·have ht:(if inB 0 0 (((b.ss[a.toNat]?).elim 0 List.length:Nat):Int)=true then (0:Int) else 1)=t:=by simpa [most,hO] using h
  clear h
  have HO:=Hh hO;clear hO
  cases hM:inB 0 0 (((b.ss[a.toNat]?).elim 0 List.length:Nat):Int)
  all_goals
   rw [hM] at ht
   have HM:=Hh hM;clear hM
   simp at ht
   subst ht
   go_enter Tryz.func131,Tryz.ntmps131
   go_wp2_with (first | (go_at_call 63;(with_reducible refine (inside_at HK.out).mono ?_);rintro e w' ⟨rfl,rfl⟩) | (go_at_call 176;(with_reducible refine (kind0_yes (HB.out.below (Below.al (Below.al (Below.al (Below.refl _ _) _) _) _)) _ _ _ _ HO.out).mono ?_);rintro e w1 ⟨rfl,hb1⟩;obtain ⟨hc1,hf1⟩:=bcell hb1;have hz1:=hb1.size) | (go_at_call 63;(with_reducible refine (inside_at HM.out).mono ?_);rintro e w' ⟨rfl,rfl⟩))
   go_ret
   exact ⟨rfl,bel⟩
theorem record_2 (hB:BookAt w b vr vg vm vs vc) (hG:∀ m∈b.ms,0≤m.groups∧m.groups≤1000) (hK:KindsAt w) (a rb m:Int) {t:Int} (h:recAl b ⟨2,a,rb,m⟩=t) :
 Calls Tryz.prog 131 #[.agg #[vr,vg,vm,vs,vc],.agg #[.int .i64 2,.int .i64 a,.int .i64 rb,.int .i64 m]] w (RecPost w t):=by
 obtain ⟨hlt,hK⟩:=hK
 obtain ⟨⟨s,_,k0⟩,k1,k2,k3,k4⟩:=hK 2 (by omega)
 simp [usesB,usesMany,kindMost,kindRight] at k0 k1 k2 k3 k4
 simp [recAl,usesB,usesMany,show inB 2 0 5=true from by decide] at h
 have HK:=Hh (show inB 2 0 5=true from by decide)
 have HB:=Hh hB
 have HG:=Hh hG
 clear hB hG hK
 by_cases hrb:rb=0
 rotate_left
 ·simp [hrb] at h
  subst h
  go_enter Tryz.func131,Tryz.ntmps131
  go_wp2_with (first | (go_at_call 63;(with_reducible refine (inside_at HK.out).mono ?_);rintro e w' ⟨rfl,rfl⟩) | (go_at_call 63;(with_reducible refine (inside_at HM.out).mono ?_);rintro e w' ⟨rfl,rfl⟩))
  go_ret
  exact ⟨rfl,bel⟩
 subst hrb
 cases hO:inB a 0 ((b.ss.length:Int) - 1)
 ·simp [most,hO] at h
  subst h
  have HO:=Hh hO;clear hO
  go_enter Tryz.func131,Tryz.ntmps131
  go_wp2_with (first | (go_at_call 63;(with_reducible refine (inside_at HK.out).mono ?_);rintro e w' ⟨rfl,rfl⟩) | (go_at_call 176;(with_reducible refine (kind0_no (HB.out.below (Below.al (Below.al (Below.al (Below.refl _ _) _) _) _)) _ _ _ _ HO.out).mono ?_);rintro e w1 ⟨rfl,hb1⟩;obtain ⟨hc1,hf1⟩:=bcell hb1;have hz1:=hb1.size) | (go_at_call 63;(with_reducible refine (inside_at HM.out).mono ?_);rintro e w' ⟨rfl,rfl⟩))
  go_ret
  exact ⟨rfl,bel⟩
 ·have ht:(if inB m 0 (((b.ss[a.toNat]?).elim 0 List.length:Nat):Int)=true then (0:Int) else 1)=t:=by simpa [most,hO] using h
  clear h
  have HO:=Hh hO;clear hO
  cases hM:inB m 0 (((b.ss[a.toNat]?).elim 0 List.length:Nat):Int)
  all_goals
   rw [hM] at ht
   have HM:=Hh hM;clear hM
   simp at ht
   subst ht
   go_enter Tryz.func131,Tryz.ntmps131
   go_wp2_with (first | (go_at_call 63;(with_reducible refine (inside_at HK.out).mono ?_);rintro e w' ⟨rfl,rfl⟩) | (go_at_call 176;(with_reducible refine (kind0_yes (HB.out.below (Below.al (Below.al (Below.al (Below.refl _ _) _) _) _)) _ _ _ _ HO.out).mono ?_);rintro e w1 ⟨rfl,hb1⟩;obtain ⟨hc1,hf1⟩:=bcell hb1;have hz1:=hb1.size) | (go_at_call 63;(with_reducible refine (inside_at HM.out).mono ?_);rintro e w' ⟨rfl,rfl⟩))
   go_ret
   exact ⟨rfl,bel⟩
theorem record_3 (hB:BookAt w b vr vg vm vs vc) (hG:∀ m∈b.ms,0≤m.groups∧m.groups≤1000) (hK:KindsAt w) (a rb m:Int) {t:Int} (h:recAl b ⟨3,a,rb,m⟩=t) :
 Calls Tryz.prog 131 #[.agg #[vr,vg,vm,vs,vc],.agg #[.int .i64 3,.int .i64 a,.int .i64 rb,.int .i64 m]] w (RecPost w t):=by
 obtain ⟨hlt,hK⟩:=hK
 obtain ⟨⟨s,_,k0⟩,k1,k2,k3,k4⟩:=hK 3 (by omega)
 simp [usesB,usesMany,kindMost,kindRight] at k0 k1 k2 k3 k4
 simp [recAl,usesB,usesMany,show inB 3 0 5=true from by decide] at h
 have HK:=Hh (show inB 3 0 5=true from by decide)
 have HB:=Hh hB
 have HG:=Hh hG
 clear hB hG hK
 by_cases hrb:rb=0
 rotate_left
 ·simp [hrb] at h
  subst h
  go_enter Tryz.func131,Tryz.ntmps131
  go_wp2_with (first | (go_at_call 63;(with_reducible refine (inside_at HK.out).mono ?_);rintro e w' ⟨rfl,rfl⟩) | (go_at_call 63;(with_reducible refine (inside_at HM.out).mono ?_);rintro e w' ⟨rfl,rfl⟩))
  go_ret
  exact ⟨rfl,bel⟩
 subst hrb
 cases hO:inB a 0 ((b.ss.length:Int) - 1)
 ·simp [most,hO] at h
  subst h
  have HO:=Hh hO;clear hO
  go_enter Tryz.func131,Tryz.ntmps131
  go_wp2_with (first | (go_at_call 63;(with_reducible refine (inside_at HK.out).mono ?_);rintro e w' ⟨rfl,rfl⟩) | (go_at_call 176;(with_reducible refine (kind0_no (HB.out.below (Below.al (Below.al (Below.al (Below.refl _ _) _) _) _)) _ _ _ _ HO.out).mono ?_);rintro e w1 ⟨rfl,hb1⟩;obtain ⟨hc1,hf1⟩:=bcell hb1;have hz1:=hb1.size) | (go_at_call 63;(with_reducible refine (inside_at HM.out).mono ?_);rintro e w' ⟨rfl,rfl⟩))
  go_ret
  exact ⟨rfl,bel⟩
 ·have ht:(if inB m 0 (((b.ss[a.toNat]?).elim 0 List.length:Nat):Int)=true then (0:Int) else 1)=t:=by simpa [most,hO] using h
  clear h
  have HO:=Hh hO;clear hO
  cases hM:inB m 0 (((b.ss[a.toNat]?).elim 0 List.length:Nat):Int)
  all_goals
   rw [hM] at ht
   have HM:=Hh hM;clear hM
   simp at ht
   subst ht
   go_enter Tryz.func131,Tryz.ntmps131
   go_wp2_with (first | (go_at_call 63;(with_reducible refine (inside_at HK.out).mono ?_);rintro e w' ⟨rfl,rfl⟩) | (go_at_call 176;(with_reducible refine (kind0_yes (HB.out.below (Below.al (Below.al (Below.al (Below.refl _ _) _) _) _)) _ _ _ _ HO.out).mono ?_);rintro e w1 ⟨rfl,hb1⟩;obtain ⟨hc1,hf1⟩:=bcell hb1;have hz1:=hb1.size) | (go_at_call 63;(with_reducible refine (inside_at HM.out).mono ?_);rintro e w' ⟨rfl,rfl⟩))
   go_ret
   exact ⟨rfl,bel⟩
theorem record_4 (hB:BookAt w b vr vg vm vs vc) (hG:∀ m∈b.ms,0≤m.groups∧m.groups≤1000) (hK:KindsAt w) (a rb m:Int) {t:Int} (h:recAl b ⟨4,a,rb,m⟩=t) :
 Calls Tryz.prog 131 #[.agg #[vr,vg,vm,vs,vc],.agg #[.int .i64 4,.int .i64 a,.int .i64 rb,.int .i64 m]] w (RecPost w t):=by
 obtain ⟨hlt,hK⟩:=hK
 obtain ⟨⟨s,_,k0⟩,k1,k2,k3,k4⟩:=hK 4 (by omega)
 simp [usesB,usesMany,kindMost,kindRight] at k0 k1 k2 k3 k4
 simp [recAl,usesB,usesMany,show inB 4 0 5=true from by decide] at h
 have HK:=Hh (show inB 4 0 5=true from by decide)
 have HB:=Hh hB
 have HG:=Hh hG
 clear hB hG hK
 cases hO:isPart b (a,rb)
 ·simp [most,hO] at h
  subst h
  have HO:=Hh hO;clear hO
  go_enter Tryz.func131,Tryz.ntmps131
  go_wp2_with (first | (go_at_call 63;(with_reducible refine (inside_at HK.out).mono ?_);rintro e w' ⟨rfl,rfl⟩) | (go_at_call 181;(with_reducible refine (kind4_at (HB.out.below (Below.al (Below.al (Below.al (Below.refl _ _) _) _) _)) HG.out _ (a,rb) _ HO.out).mono ?_);rintro e w1 ⟨rfl,hb1⟩;obtain ⟨hc1,hf1⟩:=bcell hb1;have hz1:=hb1.size) | (go_at_call 63;(with_reducible refine (inside_at HM.out).mono ?_);rintro e w' ⟨rfl,rfl⟩))
  go_ret
  exact ⟨rfl,bel⟩
 ·have ht:(if inB m 0 (b.ss.length:Int)=true then (0:Int) else 1)=t:=by simpa [most,hO] using h
  clear h
  have HO:=Hh hO;clear hO
  cases hM:inB m 0 (b.ss.length:Int)
  all_goals
   rw [hM] at ht
   have HM:=Hh hM;clear hM
   simp at ht
   subst ht
   go_enter Tryz.func131,Tryz.ntmps131
   go_wp2_with (first | (go_at_call 63;(with_reducible refine (inside_at HK.out).mono ?_);rintro e w' ⟨rfl,rfl⟩) | (go_at_call 181;(with_reducible refine (kind4_at (HB.out.below (Below.al (Below.al (Below.al (Below.refl _ _) _) _) _)) HG.out _ (a,rb) _ HO.out).mono ?_);rintro e w1 ⟨rfl,hb1⟩;obtain ⟨hc1,hf1⟩:=bcell hb1;have hz1:=hb1.size) | (go_at_call 63;(with_reducible refine (inside_at HM.out).mono ?_);rintro e w' ⟨rfl,rfl⟩))
   go_ret
   exact ⟨rfl,bel⟩
theorem record_5 (hB:BookAt w b vr vg vm vs vc) (hG:∀ m∈b.ms,0≤m.groups∧m.groups≤1000) (hK:KindsAt w) (a rb m:Int) {t:Int} (h:recAl b ⟨5,a,rb,m⟩=t) :
 Calls Tryz.prog 131 #[.agg #[vr,vg,vm,vs,vc],.agg #[.int .i64 5,.int .i64 a,.int .i64 rb,.int .i64 m]] w (RecPost w t):=by
 obtain ⟨hlt,hK⟩:=hK
 obtain ⟨⟨s,_,k0⟩,k1,k2,k3,k4⟩:=hK 5 (by omega)
 simp [usesB,usesMany,kindMost,kindRight] at k0 k1 k2 k3 k4
 simp [recAl,usesB,usesMany,show inB 5 0 5=true from by decide] at h
 have HK:=Hh (show inB 5 0 5=true from by decide)
 have HB:=Hh hB
 have HG:=Hh hG
 clear hB hG hK
 by_cases hrb:rb=0
 rotate_left
 ·simp [hrb] at h
  subst h
  go_enter Tryz.func131,Tryz.ntmps131
  go_wp2_with (first | (go_at_call 63;(with_reducible refine (inside_at HK.out).mono ?_);rintro e w' ⟨rfl,rfl⟩) | (go_at_call 63;(with_reducible refine (inside_at HM.out).mono ?_);rintro e w' ⟨rfl,rfl⟩))
  go_ret
  exact ⟨rfl,bel⟩
 subst hrb
 cases hO:inB a 0 ((b.ms.length:Int) - 1)
 ·simp [most,hO] at h
  subst h
  have HO:=Hh hO;clear hO
  go_enter Tryz.func131,Tryz.ntmps131
  go_wp2_with (first | (go_at_call 63;(with_reducible refine (inside_at HK.out).mono ?_);rintro e w' ⟨rfl,rfl⟩) | (go_at_call 183;(with_reducible refine (kind5_no (HB.out.below (Below.al (Below.al (Below.al (Below.refl _ _) _) _) _)) _ _ _ _ HO.out).mono ?_);rintro e w1 ⟨rfl,hb1⟩;obtain ⟨hc1,hf1⟩:=bcell hb1;have hz1:=hb1.size) | (go_at_call 63;(with_reducible refine (inside_at HM.out).mono ?_);rintro e w' ⟨rfl,rfl⟩))
  go_ret
  exact ⟨rfl,bel⟩
 ·have ht:(if inB m 0 ((b.ms[a.toNat]?).elim 0 Msg.groups)=true then (0:Int) else 1)=t:=by simpa [most,hO] using h
  clear h
  have HO:=Hh hO;clear hO
  cases hM:inB m 0 ((b.ms[a.toNat]?).elim 0 Msg.groups)
  all_goals
   rw [hM] at ht
   have HM:=Hh hM;clear hM
   simp at ht
   subst ht
   go_enter Tryz.func131,Tryz.ntmps131
   go_wp2_with (first | (go_at_call 63;(with_reducible refine (inside_at HK.out).mono ?_);rintro e w' ⟨rfl,rfl⟩) | (go_at_call 183;(with_reducible refine (kind5_yes (HB.out.below (Below.al (Below.al (Below.al (Below.refl _ _) _) _) _)) _ _ _ _ HO.out).mono ?_);rintro e w1 ⟨rfl,hb1⟩;obtain ⟨hc1,hf1⟩:=bcell hb1;have hz1:=hb1.size) | (go_at_call 63;(with_reducible refine (inside_at HM.out).mono ?_);rintro e w' ⟨rfl,rfl⟩))
   go_ret
   exact ⟨rfl,bel⟩
theorem record_at (hB:BookAt w b vr vg vm vs vc) (hG:∀ m∈b.ms,0≤m.groups∧m.groups≤1000) (hK:KindsAt w) (r:Rec) {t:Int} (h:recAl b r=t) :
 Calls Tryz.prog 131 #[.agg #[vr,vg,vm,vs,vc],recV r] w (RecPost w t):=by
 cases hk:inB r.k 0 5
 ·simp [recAl,hk] at h
  subst h
  exact record_out r hk
 ·obtain ⟨k,a,rb,m⟩:=r
  simp only [inB,decide_eq_true_eq] at hk
  have:k=0∨k=1∨k=2∨k=3∨k=4∨k=5:=by omega
  rcases this with rfl | rfl | rfl | rfl | rfl | rfl
  ·exact record_0 hB hG hK a rb m h
  ·exact record_1 hB hG hK a rb m h
  ·exact record_2 hB hG hK a rb m h
  ·exact record_3 hB hG hK a rb m h
  ·exact record_4 hB hG hK a rb m h
  ·exact record_5 hB hG hK a rb m h
end
section
variable {b:Bk} {vr vg vm vs vc:Value} {w:World}
theorem record_at2 (hB:BookAt w b vr vg vm vs vc) (hG:∀ m∈b.ms,0≤m.groups∧m.groups≤1000) (hK:KindsAt w) (r:Rec) {t:Int} (h:recAl b r=t) :
 Calls Tryz.prog 131 #[.agg #[vr,vg,vm,vs,vc],.agg #[.int .i64 r.k,.int .i64 r.a,.int .i64 r.b,.int .i64 r.m]] w fun e w'=>e=.returned (.int .i64 t)∧Below w.heap.size w w':=record_at hB hG hK r h
theorem records_at (hB:BookAt w b vr vg vm vs vc) (hG:∀ m∈b.ms,0≤m.groups∧m.groups≤1000) (hK:KindsAt w) {t:Int} (h:recsAl b=t) :
 Calls Tryz.prog 112 #[.agg #[vr,vg,vm,vs,vc]] w fun e w'=>e=.returned (.int .i64 t)∧Below w.heap.size w w':=by
 obtain ⟨sa,sc,rfl,hM,hl⟩:=hB.rs
 unfold recsAl at h
 by_cases h4:5 < b.rs.length
 ·rw [if_pos h4] at h
  subst h
  go_enter Tryz.func112,Tryz.ntmps112
  go_wp2
  go_ret
  exact ⟨rfl,bel⟩
 ·rw [if_neg h4] at h
  have H:=Hh h;clear h
  have HB:=Hh hB;clear hB
  have HG:=Hh hG;clear hG
  have HK:=Hh hK;clear hK
  clear hM
  go_enter Tryz.func112,Tryz.ntmps112
  go_wp2
  obtain ⟨W0,hW0⟩:∃ W0,W0=w.alloc (.cells #[vr,vg,vm,vs,.slice sa b.rs.length sc] 88):=⟨_,rfl⟩
  rw [← hW0]
  have five:=Five.new w vr vg vm vs (.slice sa b.rs.length sc) 88
  rw [← hW0] at five
  have hb0:Below w.heap.size w W0:=by rw [hW0];(exact bel)
  have HB0:=Hh (HB.out.below hb0)
  have HK0:=Hh (HK.out.below hb0)
  have HS:Hid (RecsAt W0 sa b.rs):=by obtain ⟨_,_,e,h,_⟩:=HB0.out.rs;cases e;exact h
  clear hW0
  go_loopw [15] (fun i wr=>∃ (k:Nat),k≤b.rs.length∧i=.int .i64 k∧Hid (goR b (b.rs.drop k)=t)∧Below W0.heap.size W0 wr) (fun i _=>b.rs.length - (intOf i).toNat)
  case atStart=>exact ⟨0,Nat.zero_le _,rfl,H.out,Below.refl _ _⟩
  case round =>
   obtain ⟨k,hk,rfl,hG0,hW⟩:=hrel
   have hWs:=hW.size
   by_cases hlt:k < b.rs.length
   ·obtain ⟨sb,so,rfl,hsb,e0,e1,e2,e3⟩:=HS.out k hlt
    have c0:=(hW.cell hsb).trans e0
    have c1:=(hW.cell hsb).trans e1
    have c2:=(hW.cell hsb).trans e2
    have c3:=(hW.cell hsb).trans e3
    have hsb2:sb < wr.heap.size:=Nat.lt_of_lt_of_le hsb hW.size
    have hG':=hG0.out
    rw [List.drop_eq_getElem_cons hlt,goR] at hG'
    clear hG0 e0 e1 e2 e3
    generalize hs:b.rs[k]=s at c0 c1 c2 c3 hG'
    obtain ⟨rk,ra,rb,rm⟩:=s
    dsimp only at c0 c1 c2 c3
    have HSS:=Hh hs;clear hs
    obtain ⟨y0,y1,y2,y3,y4,ylt⟩:=five.below hW five.lt
    have HBr:=Hh (HB0.out.below hW)
    have HKr:=Hh (HK0.out.below hW)
    by_cases hz:recAl b ⟨rk,ra,rb,rm⟩=0
    ·rw [if_neg (by simpa using hz)] at hG'
     have HZ:=Hh hz
     have HG1:=Hh hG'
     clear hz hG'
     go_wp2_with (go_at_call 131;(with_reducible refine (record_at2 (HBr.out.below (bal _ _)) HG.out (HKr.out.below (bal _ _)) ⟨rk,ra,rb,rm⟩ HZ.out).mono ?_);rintro e w1 ⟨rfl,hb1⟩)
     go_roundw
     case rel=>exact ⟨k+1,by omega,by go_num,HG1.out,bel⟩
     case measure=>simp [intOf];omega
    ·rw [if_pos (by simpa using hz)] at hG'
     have HZ:=Hh hG'
     have hz2:(t == 0)=false:=by rw [← hG'];simpa using hz
     have hz3:(t != 0)=true:=by rw [← hG'];simpa using hz
     have hz4:¬ t=0:=by rw [← hG'];exact hz
     clear hz hG'
     go_wp2_with (go_at_call 131;(with_reducible refine (record_at2 (HBr.out.below (bal _ _)) HG.out (HKr.out.below (bal _ _)) ⟨rk,ra,rb,rm⟩ HZ.out).mono ?_);rintro e w1 ⟨rfl,hb1⟩)
     go_ret
     exact ⟨rfl,bel⟩
   ·have:goR b (b.rs.drop k)=t:=hG0.out
    rw [List.drop_eq_nil_of_le (by omega)] at this
    simp only [goR] at this
    subst this
    go_wp2
    go_ret
    exact ⟨rfl,bel⟩
end
end Go.Proofs.YtfggbepickdokaaGreatDoor
