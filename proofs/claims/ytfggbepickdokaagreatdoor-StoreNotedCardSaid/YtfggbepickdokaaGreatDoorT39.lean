/- Leads to the Store laws of chapter 6: E6 E7 E8 E9 E10 E11 E12 E13 E14 Y1 V11. -/
import Derived.Test.YtfggbepickdokaaGreatDoorT38
import Derived.Laws.CopyOwn
set_option maxHeartbeats 2000000
set_option maxRecDepth 100000
set_option linter.all false
namespace Go.Proofs.YtfggbepickdokaaGreatDoor
open Go.RowKit Go.Maps Sp
section
variable {b:Bk} {vr vg vm vs vc:Value} {w:World}
theorem rRec_no (vr vg vm vs vc:Value) (k a rb m:Int) (w:World) (h:inB k 0 5=false) :
 Calls Tryz.prog 76 #[.agg #[vr,vg,vm,vs,vc],.agg #[.int .i64 k,.int .i64 a,.int .i64 rb,.int .i64 m]] w fun e w'=>e=.returned (.int .i64 1)∧Below w.heap.size w w':=by
 have hk:k < 0∨(0≤k∧5 < k):=by unfold inB at h;simp only [decide_eq_false_iff_not] at h;omega
 rcases hk with hk | ⟨hk0,hk5⟩
 all_goals
  go_enter Tryz.func76,Tryz.ntmps76
  go_wp2
  go_ret
  exact ⟨rfl,bel⟩
theorem rRec_0 (hB:BookAt w b vr vg vm vs vc) (hG:∀ m∈b.ms,0≤m.groups∧m.groups≤1000) (a rb m:Int) {t:Int} (h:recAl b ⟨0,a,rb,m⟩=t) :
 Calls Tryz.prog 76 #[.agg #[vr,vg,vm,vs,vc],.agg #[.int .i64 0,.int .i64 a,.int .i64 rb,.int .i64 m]] w fun e w'=>e=.returned (.int .i64 t)∧Below w.heap.size w w':=by
 obtain ⟨rfl,rfl,⟨ma,mc,rfl,hM,hml⟩,⟨sa,sc,rfl,hS,hsl⟩,ra,rc,rfl,_,_⟩:=id hB
 have HB:=Hh hB
 have HG:=Hh hG
 have HM:=Hh hM
 have HS:=Hh hS
 clear hB hG hM hS
 unfold recAl at h
 simp only [inB,usesB,usesMany,most] at h
 by_cases hb:rb=0
 case neg =>
  have ht:t=1:=by rw [← h];simp [hb]
  subst ht
  clear h
  have hb2:(rb != 0)=true:=by simpa using hb
  go_enter Tryz.func76,Tryz.ntmps76
  go_wp2
  go_ret
  exact ⟨rfl,bel⟩
 subst hb
 by_cases hm:m=0
 case neg =>
  have ht:t=1:=by rw [← h];simp [hm]
  subst ht
  clear h
  have hm2:(m != 0)=true:=by simpa using hm
  go_enter Tryz.func76,Tryz.ntmps76
  go_wp2
  go_ret
  exact ⟨rfl,bel⟩
 subst hm
 cases hin:inB a 0 ((b.ss.length:Int) - 1)
 case false =>
  have ht:t=6:=by rw [← h];simp only [inB] at hin;simp [hin]
  subst ht
  have HIN:=Hh hin
  clear h hin
  go_enter Tryz.func76,Tryz.ntmps76
  go_wp2_with (go_at_call 118;(with_reducible refine (there_at hsl HIN.out).mono ?_);rintro e w' ⟨rfl,rfl⟩)
  go_ret
  exact ⟨rfl,bel⟩
 have ha:0≤a∧a.toNat < b.ss.length:=by unfold inB at hin;simp only [decide_eq_true_eq] at hin;omega
 obtain ⟨n,rfl⟩:∃ n:Nat,a=n:=⟨a.toNat,by omega⟩
 have hn:n < b.ss.length:=by omega
 have hn0:(0:Int)≤n:=by omega
 obtain ⟨sb,so,rfl,hsb,pa,pc,h0,hpc,hpl,_⟩:=HS.out n hn
 have hgs:((b.ss[(n:Int).toNat]?).elim 0 List.length:Nat)=b.ss[n].length:=by rw [Int.toNat_natCast,List.getElem?_eq_getElem hn];rfl
 rw [hgs] at h
 generalize b.ss[n]=s at h0 hpc hpl h
 have ht:t=if inB 0 0 (s.length:Int) then 0 else 1:=by
  rw [← h];simp only [inB] at hin
  have hle:(n:Int)≤((b.ss.length:Nat):Int) - 1:=by omega
  simp [hin,inB,hle]
 clear h hgs
 have HIN:=Hh hin
 clear hin
 cases hi2:inB 0 0 (s.length:Int)
 all_goals
  have HI2:=Hh hi2
  rw [hi2] at ht
  simp only [if_true,if_false,Bool.false_eq_true] at ht
  subst ht
  clear hi2
  go_enter Tryz.func76,Tryz.ntmps76
  go_wp2_with (first | (go_at_call 118;(with_reducible refine (there_at hsl HIN.out).mono ?_);rintro e w' ⟨rfl,rfl⟩) | (go_at_call 26;(with_reducible refine (rin_at HI2.out).mono ?_);rintro e w' ⟨rfl,rfl⟩))
  go_ret
  exact ⟨rfl,bel⟩
theorem rRec_1 (hB:BookAt w b vr vg vm vs vc) (hG:∀ m∈b.ms,0≤m.groups∧m.groups≤1000) (a rb m:Int) {t:Int} (h:recAl b ⟨1,a,rb,m⟩=t) :
 Calls Tryz.prog 76 #[.agg #[vr,vg,vm,vs,vc],.agg #[.int .i64 1,.int .i64 a,.int .i64 rb,.int .i64 m]] w fun e w'=>e=.returned (.int .i64 t)∧Below w.heap.size w w':=by
 obtain ⟨rfl,rfl,⟨ma,mc,rfl,hM,hml⟩,⟨sa,sc,rfl,hS,hsl⟩,ra,rc,rfl,_,_⟩:=id hB
 have HB:=Hh hB
 have HG:=Hh hG
 have HM:=Hh hM
 have HS:=Hh hS
 clear hB hG hM hS
 unfold recAl at h
 simp only [inB,usesB,usesMany,most] at h
 by_cases hb:rb=0
 case neg =>
  have ht:t=1:=by rw [← h];simp [hb]
  subst ht
  clear h
  have hb2:(rb != 0)=true:=by simpa using hb
  go_enter Tryz.func76,Tryz.ntmps76
  go_wp2
  go_ret
  exact ⟨rfl,bel⟩
 subst hb
 by_cases hm:m=0
 case neg =>
  have ht:t=1:=by rw [← h];simp [hm]
  subst ht
  clear h
  have hm2:(m != 0)=true:=by simpa using hm
  go_enter Tryz.func76,Tryz.ntmps76
  go_wp2
  go_ret
  exact ⟨rfl,bel⟩
 subst hm
 cases hin:inB a 0 ((b.ss.length:Int) - 1)
 case false =>
  have ht:t=6:=by rw [← h];simp only [inB] at hin;simp [hin]
  subst ht
  have HIN:=Hh hin
  clear h hin
  go_enter Tryz.func76,Tryz.ntmps76
  go_wp2_with (go_at_call 118;(with_reducible refine (there_at hsl HIN.out).mono ?_);rintro e w' ⟨rfl,rfl⟩)
  go_ret
  exact ⟨rfl,bel⟩
 have ha:0≤a∧a.toNat < b.ss.length:=by unfold inB at hin;simp only [decide_eq_true_eq] at hin;omega
 obtain ⟨n,rfl⟩:∃ n:Nat,a=n:=⟨a.toNat,by omega⟩
 have hn:n < b.ss.length:=by omega
 have hn0:(0:Int)≤n:=by omega
 obtain ⟨sb,so,rfl,hsb,pa,pc,h0,hpc,hpl,_⟩:=HS.out n hn
 have hgs:((b.ss[(n:Int).toNat]?).elim 0 List.length:Nat)=b.ss[n].length:=by rw [Int.toNat_natCast,List.getElem?_eq_getElem hn];rfl
 rw [hgs] at h
 generalize b.ss[n]=s at h0 hpc hpl h
 have ht:t=if inB 0 0 (s.length:Int) then 0 else 1:=by
  rw [← h];simp only [inB] at hin
  have hle:(n:Int)≤((b.ss.length:Nat):Int) - 1:=by omega
  simp [hin,inB,hle]
 clear h hgs
 have HIN:=Hh hin
 clear hin
 cases hi2:inB 0 0 (s.length:Int)
 all_goals
  have HI2:=Hh hi2
  rw [hi2] at ht
  simp only [if_true,if_false,Bool.false_eq_true] at ht
  subst ht
  clear hi2
  go_enter Tryz.func76,Tryz.ntmps76
  go_wp2_with (first | (go_at_call 118;(with_reducible refine (there_at hsl HIN.out).mono ?_);rintro e w' ⟨rfl,rfl⟩) | (go_at_call 26;(with_reducible refine (rin_at HI2.out).mono ?_);rintro e w' ⟨rfl,rfl⟩))
  go_ret
  exact ⟨rfl,bel⟩
theorem rRec_2 (hB:BookAt w b vr vg vm vs vc) (hG:∀ m∈b.ms,0≤m.groups∧m.groups≤1000) (a rb m:Int) {t:Int} (h:recAl b ⟨2,a,rb,m⟩=t) :
 Calls Tryz.prog 76 #[.agg #[vr,vg,vm,vs,vc],.agg #[.int .i64 2,.int .i64 a,.int .i64 rb,.int .i64 m]] w fun e w'=>e=.returned (.int .i64 t)∧Below w.heap.size w w':=by
 obtain ⟨rfl,rfl,⟨ma,mc,rfl,hM,hml⟩,⟨sa,sc,rfl,hS,hsl⟩,ra,rc,rfl,_,_⟩:=id hB
 have HB:=Hh hB
 have HG:=Hh hG
 have HM:=Hh hM
 have HS:=Hh hS
 clear hB hG hM hS
 unfold recAl at h
 simp only [inB,usesB,usesMany,most] at h
 by_cases hb:rb=0
 case neg =>
  have ht:t=1:=by rw [← h];simp [hb]
  subst ht
  clear h
  have hb2:(rb != 0)=true:=by simpa using hb
  go_enter Tryz.func76,Tryz.ntmps76
  go_wp2
  go_ret
  exact ⟨rfl,bel⟩
 subst hb
 cases hin:inB a 0 ((b.ss.length:Int) - 1)
 case false =>
  have ht:t=6:=by rw [← h];simp only [inB] at hin;simp [hin]
  subst ht
  have HIN:=Hh hin
  clear h hin
  go_enter Tryz.func76,Tryz.ntmps76
  go_wp2_with (go_at_call 118;(with_reducible refine (there_at hsl HIN.out).mono ?_);rintro e w' ⟨rfl,rfl⟩)
  go_ret
  exact ⟨rfl,bel⟩
 have ha:0≤a∧a.toNat < b.ss.length:=by unfold inB at hin;simp only [decide_eq_true_eq] at hin;omega
 obtain ⟨n,rfl⟩:∃ n:Nat,a=n:=⟨a.toNat,by omega⟩
 have hn:n < b.ss.length:=by omega
 have hn0:(0:Int)≤n:=by omega
 obtain ⟨sb,so,rfl,hsb,pa,pc,h0,hpc,hpl,_⟩:=HS.out n hn
 have hgs:((b.ss[(n:Int).toNat]?).elim 0 List.length:Nat)=b.ss[n].length:=by rw [Int.toNat_natCast,List.getElem?_eq_getElem hn];rfl
 rw [hgs] at h
 generalize b.ss[n]=s at h0 hpc hpl h
 have ht:t=if inB m 0 (s.length:Int) then 0 else 1:=by
  rw [← h];simp only [inB] at hin
  have hle:(n:Int)≤((b.ss.length:Nat):Int) - 1:=by omega
  simp [hin,inB,hle]
 clear h hgs
 have HIN:=Hh hin
 clear hin
 cases hi2:inB m 0 (s.length:Int)
 all_goals
  have HI2:=Hh hi2
  rw [hi2] at ht
  simp only [if_true,if_false,Bool.false_eq_true] at ht
  subst ht
  clear hi2
  go_enter Tryz.func76,Tryz.ntmps76
  go_wp2_with (first | (go_at_call 118;(with_reducible refine (there_at hsl HIN.out).mono ?_);rintro e w' ⟨rfl,rfl⟩) | (go_at_call 26;(with_reducible refine (rin_at HI2.out).mono ?_);rintro e w' ⟨rfl,rfl⟩))
  go_ret
  exact ⟨rfl,bel⟩
theorem rRec_3 (hB:BookAt w b vr vg vm vs vc) (hG:∀ m∈b.ms,0≤m.groups∧m.groups≤1000) (a rb m:Int) {t:Int} (h:recAl b ⟨3,a,rb,m⟩=t) :
 Calls Tryz.prog 76 #[.agg #[vr,vg,vm,vs,vc],.agg #[.int .i64 3,.int .i64 a,.int .i64 rb,.int .i64 m]] w fun e w'=>e=.returned (.int .i64 t)∧Below w.heap.size w w':=by
 obtain ⟨rfl,rfl,⟨ma,mc,rfl,hM,hml⟩,⟨sa,sc,rfl,hS,hsl⟩,ra,rc,rfl,_,_⟩:=id hB
 have HB:=Hh hB
 have HG:=Hh hG
 have HM:=Hh hM
 have HS:=Hh hS
 clear hB hG hM hS
 unfold recAl at h
 simp only [inB,usesB,usesMany,most] at h
 by_cases hb:rb=0
 case neg =>
  have ht:t=1:=by rw [← h];simp [hb]
  subst ht
  clear h
  have hb2:(rb != 0)=true:=by simpa using hb
  go_enter Tryz.func76,Tryz.ntmps76
  go_wp2
  go_ret
  exact ⟨rfl,bel⟩
 subst hb
 cases hin:inB a 0 ((b.ss.length:Int) - 1)
 case false =>
  have ht:t=6:=by rw [← h];simp only [inB] at hin;simp [hin]
  subst ht
  have HIN:=Hh hin
  clear h hin
  go_enter Tryz.func76,Tryz.ntmps76
  go_wp2_with (go_at_call 118;(with_reducible refine (there_at hsl HIN.out).mono ?_);rintro e w' ⟨rfl,rfl⟩)
  go_ret
  exact ⟨rfl,bel⟩
 have ha:0≤a∧a.toNat < b.ss.length:=by unfold inB at hin;simp only [decide_eq_true_eq] at hin;omega
 obtain ⟨n,rfl⟩:∃ n:Nat,a=n:=⟨a.toNat,by omega⟩
 have hn:n < b.ss.length:=by omega
 have hn0:(0:Int)≤n:=by omega
 obtain ⟨sb,so,rfl,hsb,pa,pc,h0,hpc,hpl,_⟩:=HS.out n hn
 have hgs:((b.ss[(n:Int).toNat]?).elim 0 List.length:Nat)=b.ss[n].length:=by rw [Int.toNat_natCast,List.getElem?_eq_getElem hn];rfl
 rw [hgs] at h
 generalize b.ss[n]=s at h0 hpc hpl h
 have ht:t=if inB m 0 (s.length:Int) then 0 else 1:=by
  rw [← h];simp only [inB] at hin
  have hle:(n:Int)≤((b.ss.length:Nat):Int) - 1:=by omega
  simp [hin,inB,hle]
 clear h hgs
 have HIN:=Hh hin
 clear hin
 cases hi2:inB m 0 (s.length:Int)
 all_goals
  have HI2:=Hh hi2
  rw [hi2] at ht
  simp only [if_true,if_false,Bool.false_eq_true] at ht
  subst ht
  clear hi2
  go_enter Tryz.func76,Tryz.ntmps76
  go_wp2_with (first | (go_at_call 118;(with_reducible refine (there_at hsl HIN.out).mono ?_);rintro e w' ⟨rfl,rfl⟩) | (go_at_call 26;(with_reducible refine (rin_at HI2.out).mono ?_);rintro e w' ⟨rfl,rfl⟩))
  go_ret
  exact ⟨rfl,bel⟩
theorem rRec_4 (hB:BookAt w b vr vg vm vs vc) (hG:∀ m∈b.ms,0≤m.groups∧m.groups≤1000) (a rb m:Int) {t:Int} (h:recAl b ⟨4,a,rb,m⟩=t) :
 Calls Tryz.prog 76 #[.agg #[vr,vg,vm,vs,vc],.agg #[.int .i64 4,.int .i64 a,.int .i64 rb,.int .i64 m]] w fun e w'=>e=.returned (.int .i64 t)∧Below w.heap.size w w':=by
 obtain ⟨rfl,rfl,⟨ma,mc,rfl,hM,hml⟩,⟨sa,sc,rfl,hS,hsl⟩,ra,rc,rfl,_,_⟩:=id hB
 have HB:=Hh hB
 have HG:=Hh hG
 have HM:=Hh hM
 have HS:=Hh hS
 clear hB hG hM hS
 unfold recAl at h
 simp only [inB,usesB,usesMany,most] at h
 cases hin:isPart b (a,rb)
 case false =>
  have ht:t=6:=by rw [← h];simp [hin]
  subst ht
  have HIN:=Hh hin
  clear h hin
  go_enter Tryz.func76,Tryz.ntmps76
  go_wp2_with (go_at_call 116;(with_reducible refine (rIs_at (p:=(a,rb)) (HB.out.below (bel)) HG.out HIN.out).mono ?_);rintro e w1 ⟨rfl,hb1⟩)
  go_ret
  exact ⟨rfl,bel⟩
 have ht:t=if inB m 0 (b.ss.length:Int) then 0 else 1:=by rw [← h];simp [hin,inB]
 have HIN:=Hh hin
 clear h hin
 cases hi2:inB m 0 (b.ss.length:Int)
 all_goals
  have HI2:=Hh hi2
  rw [hi2] at ht
  simp only [if_true,if_false,Bool.false_eq_true] at ht
  subst ht
  clear hi2
  go_enter Tryz.func76,Tryz.ntmps76
  go_wp2_with (first | (go_at_call 116;(with_reducible refine (rIs_at (p:=(a,rb)) (HB.out.below (bel)) HG.out HIN.out).mono ?_);rintro e w1 ⟨rfl,hb1⟩;obtain ⟨hc1,hf1⟩:=bcell hb1;have hz1:=hb1.size;(try simp at hz1)) | (go_at_call 26;(with_reducible refine (rin_at HI2.out).mono ?_);rintro e w' ⟨rfl,rfl⟩))
  go_ret
  exact ⟨rfl,bel⟩
theorem rRec_5 (hB:BookAt w b vr vg vm vs vc) (hG:∀ m∈b.ms,0≤m.groups∧m.groups≤1000) (a rb m:Int) {t:Int} (h:recAl b ⟨5,a,rb,m⟩=t) :
 Calls Tryz.prog 76 #[.agg #[vr,vg,vm,vs,vc],.agg #[.int .i64 5,.int .i64 a,.int .i64 rb,.int .i64 m]] w fun e w'=>e=.returned (.int .i64 t)∧Below w.heap.size w w':=by
 obtain ⟨rfl,rfl,⟨ma,mc,rfl,hM,hml⟩,⟨sa,sc,rfl,hS,hsl⟩,ra,rc,rfl,_,_⟩:=id hB
 have HB:=Hh hB
 have HG:=Hh hG
 have HM:=Hh hM
 have HS:=Hh hS
 clear hB hG hM hS
 unfold recAl at h
 simp only [inB,usesB,usesMany,most] at h
 by_cases hb:rb=0
 case neg =>
  have ht:t=1:=by rw [← h];simp [hb]
  subst ht
  clear h
  have hb2:(rb != 0)=true:=by simpa using hb
  go_enter Tryz.func76,Tryz.ntmps76
  go_wp2
  go_ret
  exact ⟨rfl,bel⟩
 subst hb
 cases hin:inB a 0 ((b.ms.length:Int) - 1)
 case false =>
  have ht:t=6:=by rw [← h];simp only [inB] at hin;simp [hin]
  subst ht
  have HIN:=Hh hin
  clear h hin
  go_enter Tryz.func76,Tryz.ntmps76
  go_wp2_with (go_at_call 118;(with_reducible refine (there_at hml HIN.out).mono ?_);rintro e w' ⟨rfl,rfl⟩)
  go_ret
  exact ⟨rfl,bel⟩
 have ha:0≤a∧a.toNat < b.ms.length:=by unfold inB at hin;simp only [decide_eq_true_eq] at hin;omega
 obtain ⟨n,rfl⟩:∃ n:Nat,a=n:=⟨a.toNat,by omega⟩
 have hn:n < b.ms.length:=by omega
 have hn0:(0:Int)≤n:=by omega
 obtain ⟨mb,mo,rfl,hmb,_,h0,_⟩:=HM.out n hn
 have hgs:((b.ms[(n:Int).toNat]?).elim 0 Msg.groups)=b.ms[n].groups:=by rw [Int.toNat_natCast,List.getElem?_eq_getElem hn];rfl
 rw [hgs] at h
 generalize b.ms[n].groups=gr at h0 h
 have ht:t=if inB m 0 gr then 0 else 1:=by
  rw [← h];simp only [inB] at hin
  have hle:(n:Int)≤((b.ms.length:Nat):Int) - 1:=by omega
  simp [hin,inB,hle]
 clear h hgs
 have HIN:=Hh hin
 clear hin
 cases hi2:inB m 0 gr
 all_goals
  have HI2:=Hh hi2
  rw [hi2] at ht
  simp only [if_true,if_false,Bool.false_eq_true] at ht
  subst ht
  clear hi2
  go_enter Tryz.func76,Tryz.ntmps76
  go_wp2_with (first | (go_at_call 118;(with_reducible refine (there_at hml HIN.out).mono ?_);rintro e w' ⟨rfl,rfl⟩) | (go_at_call 26;(with_reducible refine (rin_at HI2.out).mono ?_);rintro e w' ⟨rfl,rfl⟩))
  go_ret
  exact ⟨rfl,bel⟩
theorem rRec_at (hB:BookAt w b vr vg vm vs vc) (hG:∀ m∈b.ms,0≤m.groups∧m.groups≤1000) (r:Rec) {t:Int} (h:recAl b r=t) :
 Calls Tryz.prog 76 #[.agg #[vr,vg,vm,vs,vc],.agg #[.int .i64 r.k,.int .i64 r.a,.int .i64 r.b,.int .i64 r.m]] w fun e w'=>e=.returned (.int .i64 t)∧Below w.heap.size w w':=by
 obtain ⟨k,a,rb,m⟩:=r
 by_cases hk:inB k 0 5=false
 ·have ht:t=1:=by rw [← h];unfold recAl;simp [hk]
  subst ht
  exact rRec_no _ _ _ _ _ _ _ _ _ _ hk
 ·have hk2:k=0∨k=1∨k=2∨k=3∨k=4∨k=5:=by unfold inB at hk;simp only [decide_eq_false_iff_not,Classical.not_not] at hk;omega
  rcases hk2 with rfl | rfl | rfl | rfl | rfl | rfl
  ·exact rRec_0 hB hG a rb m h
  ·exact rRec_1 hB hG a rb m h
  ·exact rRec_2 hB hG a rb m h
  ·exact rRec_3 hB hG a rb m h
  ·exact rRec_4 hB hG a rb m h
  ·exact rRec_5 hB hG a rb m h
end
section
variable {b:Bk} {vr vg vm vs vc:Value} {w:World}
theorem rCheckBook_at (hB:BookAt w b vr vg vm vs vc) (hN:∀ m∈b.ms,m.name.size≤1000000) {t:Int} (h:bookAl b=t) :
 Calls Tryz.prog 23 #[.agg #[vr,vg,vm,vs,vc]] w fun e w'=>e=.returned (.int .i64 t)∧Below w.heap.size w w':=by
 obtain ⟨rfl,rfl,⟨ma,mc,rfl,hM,hml⟩,⟨sa,sc,rfl,hS,hsl⟩,ra,rc,rfl,hR,hrl⟩:=id hB
 have HB:=Hh hB
 have HN:=Hh hN
 have HR:=Hh hR
 clear hB hM hS hN hR
 unfold bookAl at h
 by_cases hnm:numbersAl b=0
 case neg =>
  have h1:t=1:=by
   rw [if_pos hnm] at h
   rw [← h]
   unfold numbersAl at hnm ⊢
   split at hnm
   ·exact absurd rfl hnm
   ·rename_i hh;rw [if_neg hh]
  subst h1
  have hor:inB b.room 1 20=false∨(inB b.room 1 20=true∧inB b.gap 0 99=false):=by
   unfold numbersAl at hnm
   cases h1:inB b.room 1 20
   ·exact .inl rfl
   ·cases h2:inB b.gap 0 99
    ·exact .inr ⟨rfl,rfl⟩
    ·rw [h1,h2] at hnm;simp at hnm
  clear h hnm
  rcases hor with h1 | ⟨h1,h2⟩
  ·have H1:=Hh h1;clear h1
   go_enter Tryz.func23,Tryz.ntmps23
   go_wp2_with (go_at_call 26;(with_reducible refine (rin_at H1.out).mono ?_);rintro e w' ⟨rfl,rfl⟩)
   go_ret
   exact ⟨rfl,bel⟩
  ·have H1:=Hh h1
   have H2:=Hh h2
   clear h1 h2
   go_enter Tryz.func23,Tryz.ntmps23
   go_wp2_with (first | (go_at_call 26;(with_reducible refine (rin_at H1.out).mono ?_);rintro e w' ⟨rfl,rfl⟩) | (go_at_call 26;(with_reducible refine (rin_at H2.out).mono ?_);rintro e w' ⟨rfl,rfl⟩))
   go_ret
   exact ⟨rfl,bel⟩
 rw [if_neg (by simpa using hnm)] at h
 have hnn:inB b.room 1 20=true∧inB b.gap 0 99=true:=by
  unfold numbersAl at hnm
  cases h1:inB b.room 1 20
  ·rw [h1] at hnm;simp at hnm
  ·cases h2:inB b.gap 0 99
   ·rw [h1,h2] at hnm;simp at hnm
   ·exact ⟨rfl,rfl⟩
 have H1:=Hh hnn.1
 have H2:=Hh hnn.2
 clear hnm hnn
 by_cases hms:msgsAl b=0
 case neg =>
  rw [if_pos hms] at h
  have HMS:=Hh h
  have hz3:(t != 0)=true:=by rw [← h];simpa using hms
  clear h hms
  go_enter Tryz.func23,Tryz.ntmps23
  go_wp2_with (first
   | (go_at_call 26;(with_reducible refine (rin_at H1.out).mono ?_);rintro e w' ⟨rfl,rfl⟩)
   | (go_at_call 26;(with_reducible refine (rin_at H2.out).mono ?_);rintro e w' ⟨rfl,rfl⟩)
   | (go_at_call 74;(with_reducible refine (rMessages_at (HB.out.below (bel)) HN.out HMS.out).mono ?_);rintro e w1 ⟨rfl,hb1⟩))
  go_ret
  exact ⟨rfl,bel⟩
 rw [if_neg (by simpa using hms)] at h
 have HMS:=Hh hms
 have HG:=Hh (msgsAl_ok hms)
 clear hms
 by_cases hss:sessAl b=0
 case neg =>
  rw [if_pos hss] at h
  have HSS:=Hh h
  have hz3:(t != 0)=true:=by rw [← h];simpa using hss
  clear h hss
  go_enter Tryz.func23,Tryz.ntmps23
  go_wp2_with (first
   | (go_at_call 26;(with_reducible refine (rin_at H1.out).mono ?_);rintro e w' ⟨rfl,rfl⟩)
   | (go_at_call 26;(with_reducible refine (rin_at H2.out).mono ?_);rintro e w' ⟨rfl,rfl⟩)
   | (go_at_call 74;(with_reducible refine (rMessages_at (HB.out.below (bel)) HN.out HMS.out).mono ?_);rintro e w1 ⟨rfl,hb1⟩;obtain ⟨hc1,hf1⟩:=bcell hb1;have hz1:w.heap.size < w1.heap.size:=(by have:=hb1.size;simp at this;omega))
   | (go_at_call 75;(with_reducible refine (rSessions_at (HB.out.below (bel)) HG.out HSS.out).mono ?_);rintro e w2 ⟨rfl,hb2⟩))
  go_ret
  exact ⟨rfl,bel⟩
 rw [if_neg (by simpa using hss)] at h
 have HSS:=Hh hss
 clear hss
 have HR2:=Hh h
 clear h
 have hz0:((0:Int) != 0)=false:=rfl
 have key:∀ (v:Prop),v→v:=fun _ h=>h
 go_enter Tryz.func23,Tryz.ntmps23
 go_wp2_with (first
  | (go_at_call 26;(with_reducible refine (rin_at H1.out).mono ?_);rintro e w' ⟨rfl,rfl⟩)
  | (go_at_call 26;(with_reducible refine (rin_at H2.out).mono ?_);rintro e w' ⟨rfl,rfl⟩)
  | (go_at_call 74;(with_reducible refine (rMessages_at (HB.out.below (bel)) HN.out HMS.out).mono ?_);rintro e w1 ⟨rfl,hb1⟩;obtain ⟨hc1,hf1⟩:=bcell hb1;have hz1:w.heap.size < w1.heap.size:=(by have:=hb1.size;simp at this;omega))
  | (go_at_call 75;(with_reducible refine (rSessions_at (HB.out.below (bel)) HG.out HSS.out).mono ?_);rintro e w2 ⟨rfl,hb2⟩;obtain ⟨hc2,hf2⟩:=bcell hb2;have hz2:w.heap.size < w2.heap.size:=(by have:=hb2.size;omega)))
 ·have hr:=HR2.out
  unfold recsAl at hr
  rw [if_pos (by omega)] at hr
  subst hr
  go_ret
  exact ⟨rfl,bel⟩
 ·have hbw:Below w.heap.size w w2:=bel
  have nn:∀ k u,(#[.int .i64 b.room,.int .i64 b.gap,.slice ma b.ms.length mc,.slice sa b.ss.length sc,.slice ra b.rs.length rc]:Array Value)[k]? = some u→w2.cell? ⟨w.heap.size,k,none⟩=some u:=fun k u hk=>by
   rw [hc2 _ _ hz1,hc1 _ _ (by simp),World.cell?_alloc_at _ _ _ _ rfl];exact hk
  have n0:=nn 0 _ rfl
  have n1:=nn 1 _ rfl
  have n2:=nn 2 _ rfl
  have n3:=nn 3 _ rfl
  have n4:=nn 4 _ rfl
  have hr:=HR2.out
  unfold recsAl at hr
  rw [if_neg (by omega)] at hr
  have HR3:=Hh hr
  clear nn hc1 hf1 hc2 hf2 hr hb1 hb2 hz1
  go_loopw [5] (fun i wr=>∃ (k:Nat),k≤b.rs.length∧i=.int .i64 k∧Hid (goR b (b.rs.drop k)=t)∧Below w2.heap.size w2 wr) (fun i _=>b.rs.length - (intOf i).toNat)
  case atStart=>exact ⟨0,Nat.zero_le _,rfl,HR3.out,Below.refl _ _⟩
  case round =>
   obtain ⟨k,hk,rfl,hG0,hW⟩:=hrel
   have hWs:=hW.size
   have m0:=(hW.cell (p:=⟨w.heap.size,0,none⟩) hz2).trans n0
   have m1:=(hW.cell (p:=⟨w.heap.size,1,none⟩) hz2).trans n1
   have m2:=(hW.cell (p:=⟨w.heap.size,2,none⟩) hz2).trans n2
   have m3:=(hW.cell (p:=⟨w.heap.size,3,none⟩) hz2).trans n3
   have m4:=(hW.cell (p:=⟨w.heap.size,4,none⟩) hz2).trans n4
   have hx2:w.heap.size < wr.heap.size:=by omega
   have hbr:=Below.next hbw hW
   have hg0:=hG0.out
   by_cases hlt:k < b.rs.length
   ·obtain ⟨rb,ro,rfl,hrb,e0,e1,e2,e3⟩:=HR.out k hlt
    have e0:=(hbr.cell hrb).trans e0
    have e1:=(hbr.cell hrb).trans e1
    have e2:=(hbr.cell hrb).trans e2
    have e3:=(hbr.cell hrb).trans e3
    have hrb2:rb < wr.heap.size:=Nat.lt_of_lt_of_le hrb hbr.size
    rw [List.drop_eq_getElem_cons hlt,goR] at hg0
    generalize b.rs[k]=r at e0 e1 e2 e3 hg0
    obtain ⟨rk,rA,rB,rm⟩:=r
    simp only at e0 e1 e2 e3
    have HBr:=Hh (HB.out.below hbr)
    have hg1:=fun (x:Int) (hx:recAl b ⟨rk,rA,rB,rm⟩=x)=>hx
    by_cases hra:recAl b ⟨rk,rA,rB,rm⟩=0
    ·rw [if_neg (by simpa using hra)] at hg0
     have HRA:=Hh hra
     have HG0:=Hh hg0
     clear hra hg0 hg1
     go_wp2
     (refine wp_region_bel (by kernel_rfl) (by kernel_rfl) ?_;(repeat (go_big_quiet_step ((go_at_call 76;with_reducible exact Calls.bel_of (rRec_at (HBr.out.below (later_below _ _)) HG.out ⟨rk,rA,rB,rm⟩ HRA.out)))));refine wpQuiet_nil ?_;rintro _ ⟨xq,rfl⟩)
     go_wp2
     go_roundw
     case rel=>exact ⟨k+1,by omega,by go_num,HG0.out,Below.next hW (later_below _ _)⟩
     case measure=>simp [intOf];omega
    ·rw [if_pos hra] at hg0
     have HRA:=Hh hg0
     have hz3:(t != 0)=true:=by rw [← hg0];simpa using hra
     clear hra hg0 hg1
     go_wp2
     (refine wp_region_bel (by kernel_rfl) (by kernel_rfl) ?_;(repeat (go_big_quiet_step ((go_at_call 76;with_reducible exact Calls.bel_of (rRec_at (HBr.out.below (later_below _ _)) HG.out ⟨rk,rA,rB,rm⟩ HRA.out)))));refine wpQuiet_nil ?_;rintro _ ⟨xq,rfl⟩)
     go_wp2
     go_ret
     exact ⟨rfl,Below.next hbr (later_below _ _)⟩
   ·rw [List.drop_eq_nil_of_le (by omega)] at hg0
    simp only [goR] at hg0
    subst hg0
    go_wp2
    go_ret
    exact ⟨rfl,hbr⟩
end
section
variable {b:Bk} {vr vg vm vs vc:Value} {w:World}
end
section
variable {b:Bk} {vr vg vm vs vc:Value} {w:World} {la:Option Addr} {ln lc:Nat} {l:List Int}
end
namespace Sp
end Sp
section
variable {b:Bk} {vr vg vm vs vc:Value} {w:World} {la:Option Addr} {ln lc:Nat} {l:List Int}
end
section
variable {b:Bk} {vr vg vm vs vc:Value} {w:World}
end
section
variable {b:Bk} {vr vg vm vs vc:Value} {w:World}
end
section
variable {b:Bk} {vr vg vm vs vc:Value} {w:World}
end
def throughTo (b:Bk) (s:Nat) (k:Nat):List Int:=((List.range k).filter fun (n:Nat)=>(pasts b).any fun x=>x.getD s 0 == (n:Int)).map fun (n:Nat)=>(n:Int)
theorem throughTo_len (b:Bk) (s k:Nat):(throughTo b s k).length≤k:=by
 unfold throughTo
 rw [List.length_map]
 exact Nat.le_trans (List.length_filter_le _ _) (by simp)
def throughR (b:Bk) (s:Int):List Int:=throughTo b s.toNat (((b.ss[s.toNat]?).elim 0 List.length)+1)
section
variable {b:Bk} {vr vg vm vs vc:Value} {w:World}
end
attribute [local go_sem] Oper.semAt_some
theorem mem_pastsFrom {b:Bk}:∀ (l:List (List Prt)) (pre x:List Int),x∈pastsFrom b pre l↔∃ suf,x=pre ++ suf∧suf.length=l.length∧(∀ i (h:i < suf.length),0≤suf[i]∧∃ h2:i < l.length,suf[i]≤(l[i].length:Int))∧right b x=true
 | [],pre,x=>by
  unfold pastsFrom
  constructor
  ·intro h
   split at h
   ·rename_i hr
    simp only [List.mem_singleton] at h
    exact ⟨[],by simp [h],rfl,fun i hi=>absurd hi (Nat.not_lt_zero _),by rw [h];exact hr⟩
   ·simp at h
  ·rintro ⟨suf,rfl,hl,_,hr⟩
   obtain rfl:suf=[]:=List.length_eq_zero_iff.1 hl
   rw [List.append_nil] at hr ⊢
   rw [if_pos hr];simp
 | s::l,pre,x=>by
  unfold pastsFrom
  rw [List.mem_flatMap]
  constructor
  ·rintro ⟨n,hn,hx⟩
   obtain ⟨suf,rfl,hl,hr,hri⟩:=(mem_pastsFrom l _ x).1 hx
   rw [List.mem_range] at hn
   refine ⟨(n:Int)::suf,by simp,by simp [hl],fun i hi=>?_,hri⟩
   cases i with
   | zero=>simp;omega
   | succ i =>
    obtain ⟨h1,h2,h3⟩:=hr i (by simpa using hi)
    exact ⟨by simpa using h1,by simpa using h2,by simpa using h3⟩
  ·rintro ⟨suf,rfl,hl,hr,hri⟩
   match suf,hl with
   | y::suf,hl =>
    obtain ⟨h1,_,h3⟩:=hr 0 (by simp)
    simp only [List.getElem_cons_zero] at h1 h3
    refine ⟨y.toNat,List.mem_range.2 (by omega),(mem_pastsFrom l _ _).2 ⟨suf,?_,by simpa using hl,fun i hi=>?_,?_⟩⟩
    ·rw [Int.toNat_of_nonneg h1];simp
    ·obtain ⟨h4,h5,h6⟩:=hr (i+1) (by simpa using hi)
     exact ⟨by simpa using h4,by simpa using h5,by simpa using h6⟩
    ·exact hri
section
variable {b:Bk} {vr vg vm vs vc:Value} {w:World}
end
end Go.Proofs.YtfggbepickdokaaGreatDoor
namespace Go.Proofs.YtfggbepickdokaaGreatDoor
open Go.RowKit Sp
theorem sorted_ext:∀ {l m:List Int},l.Pairwise (· < ·)→m.Pairwise (· < ·)→(∀ x,x∈l↔x∈m)→l=m
 | [],[],_,_,_=>rfl
 | [],b::m,_,_,h=>by have:=(h b).2 (List.mem_cons_self ..);cases this
 | a::l,[],_,_,h=>by have:=(h a).1 (List.mem_cons_self ..);cases this
 | a::l,b::m,hl,hm,h=>by
  rw [List.pairwise_cons] at hl hm
  have hab:a=b:=by
   have h1:=(h a).1 (List.mem_cons_self ..)
   have h2:=(h b).2 (List.mem_cons_self ..)
   rcases List.mem_cons.1 h1 with e | e
   ·exact e
   ·rcases List.mem_cons.1 h2 with e2 | e2
    ·exact e2.symm
    ·have:=hm.1 _ e
     have:=hl.1 _ e2
     omega
  subst hab
  rw [sorted_ext hl.2 hm.2 fun x=>?_]
  constructor
  ·intro hx
   rcases List.mem_cons.1 ((h x).1 (List.mem_cons_of_mem _ hx)) with e | e
   ·have:=hl.1 _ hx;omega
   ·exact e
  ·intro hx
   rcases List.mem_cons.1 ((h x).2 (List.mem_cons_of_mem _ hx)) with e | e
   ·have:=hm.1 _ hx;omega
   ·exact e
theorem compact_part {zs:List Int} (hz:zs.Pairwise (·≤·)):∀ m,m≤zs.length→(Lib.compactUpTo zs.toArray m).Pairwise (· < ·)∧∀ x,x∈Lib.compactUpTo zs.toArray m↔∃ j,j < m∧zs.toArray[j]! = x
 | 0,_=>by simp [Lib.compactUpTo]
 | m+1,hm=>by
  obtain ⟨ih1,ih2⟩:=compact_part hz m (by omega)
  have hle:∀ i j,i≤j→j < zs.length→zs.toArray[i]! ≤ zs.toArray[j]! := fun i j hij hj=>by
   rw [getElem!_pos _ _ (by simp;omega),getElem!_pos _ _ (by simpa using hj)]
   simp only [List.getElem_toArray]
   rcases Nat.lt_or_ge i j with h | h
   ·exact (List.pairwise_iff_getElem.1 hz) i j (by omega) hj h
   ·obtain rfl:i=j:=by omega
    exact Int.le_refl _
  rw [Lib.compactUpTo_succ]
  by_cases hk:Lib.keeps zs.toArray m=true
  ·rw [if_pos hk]
   refine ⟨List.pairwise_append.2 ⟨ih1,List.pairwise_singleton ..,fun x hx y hy=>?_⟩,fun x=>?_⟩
   ·rw [List.mem_singleton] at hy
    subst hy
    obtain ⟨j,hj,rfl⟩:=(ih2 x).1 hx
    unfold Lib.keeps at hk
    have hk:=of_decide_eq_true hk
    rcases hk with h | h
    ·omega
    ·have h1:=hle j (m - 1) (by omega) (by omega)
     have h2:=hle (m - 1) m (by omega) (by omega)
     omega
   ·rw [List.mem_append,List.mem_singleton,ih2]
    constructor
    ·rintro (⟨j,hj,e⟩ | rfl)
     ·exact ⟨j,by omega,e⟩
     ·exact ⟨m,by omega,rfl⟩
    ·rintro ⟨j,hj,e⟩
     rcases Nat.lt_or_ge j m with h | h
     ·exact .inl ⟨j,h,e⟩
     ·obtain rfl:j=m:=by omega
      exact .inr e.symm
  ·rw [if_neg hk,List.append_nil]
   refine ⟨ih1,fun x=>?_⟩
   rw [ih2]
   unfold Lib.keeps at hk
   simp only [decide_eq_true_eq,not_or,Classical.not_not] at hk
   constructor
   ·rintro ⟨j,hj,e⟩
    exact ⟨j,by omega,e⟩
   ·rintro ⟨j,hj,e⟩
    rcases Nat.lt_or_ge j m with h | h
    ·exact ⟨j,h,e⟩
    ·obtain rfl:j=m:=by omega
     exact ⟨j - 1,by omega,by rw [← e,hk.2]⟩
theorem mem_compact {zs:List Int} (hz:zs.Pairwise (·≤·)) {x:Int}:x∈Lib.compact zs↔x∈zs:=by
 unfold Lib.compact
 rw [(compact_part hz _ (Nat.le_refl _)).2,List.mem_iff_getElem]
 constructor
 ·rintro ⟨j,hj,e⟩
  rw [getElem!_pos _ _ (by simpa using hj)] at e
  exact ⟨j,hj,by simpa using e⟩
 ·rintro ⟨j,hj,e⟩
  exact ⟨j,hj,by rw [getElem!_pos _ _ (by simpa using hj)];simpa using e⟩
theorem sortI_sorted (l:List Int):(sortI l).Pairwise (·≤·):=by
 have:=List.pairwise_mergeSort (le:=fun x y:Int=>decide (x≤y)) (fun a b c h1 h2=>by simp at *;omega) (fun a b=>by simp;omega) l
 exact this.imp (fun {a b} h=>by simpa using h)
theorem through_same {b:Bk} {s:Int} (h:throughAl b s=0):throughI b s=throughR b s:=by
 obtain ⟨hk,hpt,hps⟩:=openAl_ok h
 have hin:inB s 0 ((b.ss.length:Int) - 1)=true:=by
  cases h:inB s 0 ((b.ss.length:Int) - 1)
  ·unfold throughAsk at hpt;rw [h] at hpt;simp at hpt
  ·rfl
 have hs0:0≤s∧s≤(b.ss.length:Int) - 1:=by unfold inB at hin;simpa using hin
 have hsl:s.toNat < b.ss.length:=by omega
 unfold throughI throughR
 refine sorted_ext (compact_part (sortI_sorted _) _ (Nat.le_refl _)).1 ?_ fun x=>?_
 ·unfold throughTo
  rw [List.pairwise_map]
  refine (List.Pairwise.filter _ (List.pairwise_lt_range (n:=(b.ss[s.toNat]?).elim 0 List.length+1))).imp fun {a c} h=>by omega
 ·rw [mem_compact (sortI_sorted _)]
  unfold sortI
  rw [List.mem_mergeSort,List.mem_map]
  unfold throughTo
  rw [List.mem_map]
  constructor
  ·rintro ⟨p,hp,rfl⟩
   have hp2:=hp
   unfold pasts at hp2
   obtain ⟨suf,e,hlen,hb,_⟩:=(mem_pastsFrom _ _ _).1 hp2
   simp only [List.nil_append] at e
   subst e
   obtain ⟨h1,h2,h3⟩:=hb s.toNat (by omega)
   have hg:p.getD s.toNat 0=p[s.toNat]'(by omega):=by simp [List.getD,List.getElem?_eq_getElem (show s.toNat < p.length by omega)]
   refine ⟨(p.getD s.toNat 0).toNat,?_,by rw [hg];omega⟩
   rw [List.mem_filter,List.mem_range,List.any_eq_true]
   refine ⟨by rw [hg,List.getElem?_eq_getElem h2];simp only [Option.elim];omega,p,hp,by rw [hg];simp;omega⟩
  ·rintro ⟨n,hn,rfl⟩
   rw [List.mem_filter,List.any_eq_true] at hn
   obtain ⟨_,p,hp,e⟩:=hn
   exact ⟨p,hp,by simpa using e⟩
end Go.Proofs.YtfggbepickdokaaGreatDoor
