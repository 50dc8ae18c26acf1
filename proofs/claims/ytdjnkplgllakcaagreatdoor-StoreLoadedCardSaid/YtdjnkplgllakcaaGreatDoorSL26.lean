/- StoreLoaded -/
import Derived.Test.YtdjnkplgllakcaaGreatDoorSL25
import Derived.Laws.CopyOwn
import Derived.Test.YtdjnkplgllakcaaGreatDoorRows
import Derived.LaidMore
import Derived.ProofKit
import Derived.Conc.Holds
import Derived.SevenTiedAt
set_option maxHeartbeats 2000000
set_option maxRecDepth 100000
set_option linter.all false
namespace Go.Proofs.YtdjnkplgllakcaaGreatDoor
open Go.RowKit Go.Maps Sp
section
variable {b:Bk} {vr vg vm vs vc:Value} {w:World}
theorem rRec_no (vr vg vm vs vc:Value) (k a rb m:Int) (w:World) (h:inB k 0 5=false) :
 Calls Tryz.prog 54 #[.agg #[vr,vg,vm,vs,vc],.agg #[.int .i64 k,.int .i64 a,.int .i64 rb,.int .i64 m]] w fun e w'=>e=.returned (.int .i64 1)/\Below w.heap.size w w':=by
 have hk:k < 0\/(0<=k/\5 < k):=by unfold inB at h;simp only [decide_eq_false_iff_not] at h;omega
 rcases hk with hk | ⟨hk0,hk5⟩
 all_goals
  go_enter Tryz.func54,Tryz.ntmps54
  go_wp2;go_ret;exact ⟨rfl,bel⟩
theorem rRec_0 (hB:BookAt w b vr vg vm vs vc) (hG:∀ m∈b.ms,0<=m.groups/\m.groups<=1000) (a rb m:Int) {t:Int} (h:recAl b ⟨0,a,rb,m⟩=t) :
 Calls Tryz.prog 54 #[.agg #[vr,vg,vm,vs,vc],.agg #[.int .i64 0,.int .i64 a,.int .i64 rb,.int .i64 m]] w fun e w'=>e=.returned (.int .i64 t)/\Below w.heap.size w w':=by
 obtain ⟨rfl,rfl,⟨ma,mc,rfl,hM,hml⟩,⟨sa,sc,rfl,hS,hsl⟩,ra,rc,rfl,_,_⟩:=id hB;have HB:=Hh hB;have HG:=Hh hG;have HM:=Hh hM;have HS:=Hh hS;clear hB hG hM hS;unfold recAl at h;simp only [inB,usesB,usesMany,most] at h;by_cases hb:rb=0
 case neg =>
  have ht:t=1:=by rw [<- h];simp [hb]
  subst ht;clear h;have hb2:(rb != 0)=true:=by simpa using hb
  go_enter Tryz.func54,Tryz.ntmps54
  go_wp2;go_ret;exact ⟨rfl,bel⟩
 subst hb;by_cases hm:m=0
 case neg =>
  have ht:t=1:=by rw [<- h];simp [hm]
  subst ht;clear h;have hm2:(m != 0)=true:=by simpa using hm
  go_enter Tryz.func54,Tryz.ntmps54
  go_wp2;go_ret;exact ⟨rfl,bel⟩
 subst hm;cases hin:inB a 0 ((b.ss.length:Int) - 1)
 case false =>
  have ht:t=6:=by rw [<- h];simp only [inB] at hin;simp [hin]
  subst ht;have HIN:=Hh hin;clear h hin
  go_enter Tryz.func54,Tryz.ntmps54
  go_wp2_with (go_at_call 77;(with_reducible refine (there_at hsl HIN.out).mono ?_);rintro e w' ⟨rfl,rfl⟩);go_ret;exact ⟨rfl,bel⟩
 have ha:0<=a/\a.toNat < b.ss.length:=by unfold inB at hin;simp only [decide_eq_true_eq] at hin;omega
 obtain ⟨n,rfl⟩:∃ n:Nat,a=n:=⟨a.toNat,by omega⟩;have hn:n < b.ss.length:=by omega
 have hn0:(0:Int)<=n:=by omega
 obtain ⟨sb,so,rfl,hsb,pa,pc,h0,hpc,hpl,_⟩:=HS.out n hn;have hgs:((b.ss[(n:Int).toNat]?).elim 0 List.length:Nat)=b.ss[n].length:=by rw [Int.toNat_natCast,List.getElem?_eq_getElem hn];rfl
 rw [hgs] at h;generalize b.ss[n]=s at h0 hpc hpl h;have ht:t=if inB 0 0 (s.length:Int) then 0 else 1:=by
  rw [<- h];simp only [inB] at hin;have hle:(n:Int)<=((b.ss.length:Nat):Int) - 1:=by omega
  simp [hin,inB,hle]
 clear h hgs;have HIN:=Hh hin;clear hin;cases hi2:inB 0 0 (s.length:Int)
 all_goals
  have HI2:=Hh hi2;rw [hi2] at ht;simp only [if_true,if_false,Bool.false_eq_true] at ht;subst ht;clear hi2
  go_enter Tryz.func54,Tryz.ntmps54
  go_wp2_with (first | (go_at_call 77;(with_reducible refine (there_at hsl HIN.out).mono ?_);rintro e w' ⟨rfl,rfl⟩) | (go_at_call 51;(with_reducible refine (rin_at HI2.out).mono ?_);rintro e w' ⟨rfl,rfl⟩));go_ret;exact ⟨rfl,bel⟩
theorem rRec_1 (hB:BookAt w b vr vg vm vs vc) (hG:∀ m∈b.ms,0<=m.groups/\m.groups<=1000) (a rb m:Int) {t:Int} (h:recAl b ⟨1,a,rb,m⟩=t) :
 Calls Tryz.prog 54 #[.agg #[vr,vg,vm,vs,vc],.agg #[.int .i64 1,.int .i64 a,.int .i64 rb,.int .i64 m]] w fun e w'=>e=.returned (.int .i64 t)/\Below w.heap.size w w':=by
 obtain ⟨rfl,rfl,⟨ma,mc,rfl,hM,hml⟩,⟨sa,sc,rfl,hS,hsl⟩,ra,rc,rfl,_,_⟩:=id hB;have HB:=Hh hB;have HG:=Hh hG;have HM:=Hh hM;have HS:=Hh hS;clear hB hG hM hS;unfold recAl at h;simp only [inB,usesB,usesMany,most] at h;by_cases hb:rb=0
 case neg =>
  have ht:t=1:=by rw [<- h];simp [hb]
  subst ht;clear h;have hb2:(rb != 0)=true:=by simpa using hb
  go_enter Tryz.func54,Tryz.ntmps54
  go_wp2;go_ret;exact ⟨rfl,bel⟩
 subst hb;by_cases hm:m=0
 case neg =>
  have ht:t=1:=by rw [<- h];simp [hm]
  subst ht;clear h;have hm2:(m != 0)=true:=by simpa using hm
  go_enter Tryz.func54,Tryz.ntmps54
  go_wp2;go_ret;exact ⟨rfl,bel⟩
 subst hm;cases hin:inB a 0 ((b.ss.length:Int) - 1)
 case false =>
  have ht:t=6:=by rw [<- h];simp only [inB] at hin;simp [hin]
  subst ht;have HIN:=Hh hin;clear h hin
  go_enter Tryz.func54,Tryz.ntmps54
  go_wp2_with (go_at_call 77;(with_reducible refine (there_at hsl HIN.out).mono ?_);rintro e w' ⟨rfl,rfl⟩);go_ret;exact ⟨rfl,bel⟩
 have ha:0<=a/\a.toNat < b.ss.length:=by unfold inB at hin;simp only [decide_eq_true_eq] at hin;omega
 obtain ⟨n,rfl⟩:∃ n:Nat,a=n:=⟨a.toNat,by omega⟩;have hn:n < b.ss.length:=by omega
 have hn0:(0:Int)<=n:=by omega
 obtain ⟨sb,so,rfl,hsb,pa,pc,h0,hpc,hpl,_⟩:=HS.out n hn;have hgs:((b.ss[(n:Int).toNat]?).elim 0 List.length:Nat)=b.ss[n].length:=by rw [Int.toNat_natCast,List.getElem?_eq_getElem hn];rfl
 rw [hgs] at h;generalize b.ss[n]=s at h0 hpc hpl h;have ht:t=if inB 0 0 (s.length:Int) then 0 else 1:=by
  rw [<- h];simp only [inB] at hin;have hle:(n:Int)<=((b.ss.length:Nat):Int) - 1:=by omega
  simp [hin,inB,hle]
 clear h hgs;have HIN:=Hh hin;clear hin;cases hi2:inB 0 0 (s.length:Int)
 all_goals
  have HI2:=Hh hi2;rw [hi2] at ht;simp only [if_true,if_false,Bool.false_eq_true] at ht;subst ht;clear hi2
  go_enter Tryz.func54,Tryz.ntmps54
  go_wp2_with (first | (go_at_call 77;(with_reducible refine (there_at hsl HIN.out).mono ?_);rintro e w' ⟨rfl,rfl⟩) | (go_at_call 51;(with_reducible refine (rin_at HI2.out).mono ?_);rintro e w' ⟨rfl,rfl⟩));go_ret;exact ⟨rfl,bel⟩
theorem rRec_2 (hB:BookAt w b vr vg vm vs vc) (hG:∀ m∈b.ms,0<=m.groups/\m.groups<=1000) (a rb m:Int) {t:Int} (h:recAl b ⟨2,a,rb,m⟩=t) :
 Calls Tryz.prog 54 #[.agg #[vr,vg,vm,vs,vc],.agg #[.int .i64 2,.int .i64 a,.int .i64 rb,.int .i64 m]] w fun e w'=>e=.returned (.int .i64 t)/\Below w.heap.size w w':=by
 obtain ⟨rfl,rfl,⟨ma,mc,rfl,hM,hml⟩,⟨sa,sc,rfl,hS,hsl⟩,ra,rc,rfl,_,_⟩:=id hB;have HB:=Hh hB;have HG:=Hh hG;have HM:=Hh hM;have HS:=Hh hS;clear hB hG hM hS;unfold recAl at h;simp only [inB,usesB,usesMany,most] at h;by_cases hb:rb=0
 case neg =>
  have ht:t=1:=by rw [<- h];simp [hb]
  subst ht;clear h;have hb2:(rb != 0)=true:=by simpa using hb
  go_enter Tryz.func54,Tryz.ntmps54
  go_wp2;go_ret;exact ⟨rfl,bel⟩
 subst hb;cases hin:inB a 0 ((b.ss.length:Int) - 1)
 case false =>
  have ht:t=6:=by rw [<- h];simp only [inB] at hin;simp [hin]
  subst ht;have HIN:=Hh hin;clear h hin
  go_enter Tryz.func54,Tryz.ntmps54
  go_wp2_with (go_at_call 77;(with_reducible refine (there_at hsl HIN.out).mono ?_);rintro e w' ⟨rfl,rfl⟩);go_ret;exact ⟨rfl,bel⟩
 have ha:0<=a/\a.toNat < b.ss.length:=by unfold inB at hin;simp only [decide_eq_true_eq] at hin;omega
 obtain ⟨n,rfl⟩:∃ n:Nat,a=n:=⟨a.toNat,by omega⟩;have hn:n < b.ss.length:=by omega
 have hn0:(0:Int)<=n:=by omega
 obtain ⟨sb,so,rfl,hsb,pa,pc,h0,hpc,hpl,_⟩:=HS.out n hn;have hgs:((b.ss[(n:Int).toNat]?).elim 0 List.length:Nat)=b.ss[n].length:=by rw [Int.toNat_natCast,List.getElem?_eq_getElem hn];rfl
 rw [hgs] at h;generalize b.ss[n]=s at h0 hpc hpl h;have ht:t=if inB m 0 (s.length:Int) then 0 else 1:=by
  rw [<- h];simp only [inB] at hin;have hle:(n:Int)<=((b.ss.length:Nat):Int) - 1:=by omega
  simp [hin,inB,hle]
 clear h hgs;have HIN:=Hh hin;clear hin;cases hi2:inB m 0 (s.length:Int)
 all_goals
  have HI2:=Hh hi2;rw [hi2] at ht;simp only [if_true,if_false,Bool.false_eq_true] at ht;subst ht;clear hi2
  go_enter Tryz.func54,Tryz.ntmps54
  go_wp2_with (first | (go_at_call 77;(with_reducible refine (there_at hsl HIN.out).mono ?_);rintro e w' ⟨rfl,rfl⟩) | (go_at_call 51;(with_reducible refine (rin_at HI2.out).mono ?_);rintro e w' ⟨rfl,rfl⟩));go_ret;exact ⟨rfl,bel⟩
theorem rRec_3 (hB:BookAt w b vr vg vm vs vc) (hG:∀ m∈b.ms,0<=m.groups/\m.groups<=1000) (a rb m:Int) {t:Int} (h:recAl b ⟨3,a,rb,m⟩=t) :
 Calls Tryz.prog 54 #[.agg #[vr,vg,vm,vs,vc],.agg #[.int .i64 3,.int .i64 a,.int .i64 rb,.int .i64 m]] w fun e w'=>e=.returned (.int .i64 t)/\Below w.heap.size w w':=by
 obtain ⟨rfl,rfl,⟨ma,mc,rfl,hM,hml⟩,⟨sa,sc,rfl,hS,hsl⟩,ra,rc,rfl,_,_⟩:=id hB;have HB:=Hh hB;have HG:=Hh hG;have HM:=Hh hM;have HS:=Hh hS;clear hB hG hM hS;unfold recAl at h;simp only [inB,usesB,usesMany,most] at h;by_cases hb:rb=0
 case neg =>
  have ht:t=1:=by rw [<- h];simp [hb]
  subst ht;clear h;have hb2:(rb != 0)=true:=by simpa using hb
  go_enter Tryz.func54,Tryz.ntmps54
  go_wp2;go_ret;exact ⟨rfl,bel⟩
 subst hb;cases hin:inB a 0 ((b.ss.length:Int) - 1)
 case false =>
  have ht:t=6:=by rw [<- h];simp only [inB] at hin;simp [hin]
  subst ht;have HIN:=Hh hin;clear h hin
  go_enter Tryz.func54,Tryz.ntmps54
  go_wp2_with (go_at_call 77;(with_reducible refine (there_at hsl HIN.out).mono ?_);rintro e w' ⟨rfl,rfl⟩);go_ret;exact ⟨rfl,bel⟩
 have ha:0<=a/\a.toNat < b.ss.length:=by unfold inB at hin;simp only [decide_eq_true_eq] at hin;omega
 obtain ⟨n,rfl⟩:∃ n:Nat,a=n:=⟨a.toNat,by omega⟩;have hn:n < b.ss.length:=by omega
 have hn0:(0:Int)<=n:=by omega
 obtain ⟨sb,so,rfl,hsb,pa,pc,h0,hpc,hpl,_⟩:=HS.out n hn;have hgs:((b.ss[(n:Int).toNat]?).elim 0 List.length:Nat)=b.ss[n].length:=by rw [Int.toNat_natCast,List.getElem?_eq_getElem hn];rfl
 rw [hgs] at h;generalize b.ss[n]=s at h0 hpc hpl h;have ht:t=if inB m 0 (s.length:Int) then 0 else 1:=by
  rw [<- h];simp only [inB] at hin;have hle:(n:Int)<=((b.ss.length:Nat):Int) - 1:=by omega
  simp [hin,inB,hle]
 clear h hgs;have HIN:=Hh hin;clear hin;cases hi2:inB m 0 (s.length:Int)
 all_goals
  have HI2:=Hh hi2;rw [hi2] at ht;simp only [if_true,if_false,Bool.false_eq_true] at ht;subst ht;clear hi2
  go_enter Tryz.func54,Tryz.ntmps54
  go_wp2_with (first | (go_at_call 77;(with_reducible refine (there_at hsl HIN.out).mono ?_);rintro e w' ⟨rfl,rfl⟩) | (go_at_call 51;(with_reducible refine (rin_at HI2.out).mono ?_);rintro e w' ⟨rfl,rfl⟩));go_ret;exact ⟨rfl,bel⟩
theorem rRec_4 (hB:BookAt w b vr vg vm vs vc) (hG:∀ m∈b.ms,0<=m.groups/\m.groups<=1000) (a rb m:Int) {t:Int} (h:recAl b ⟨4,a,rb,m⟩=t) :
 Calls Tryz.prog 54 #[.agg #[vr,vg,vm,vs,vc],.agg #[.int .i64 4,.int .i64 a,.int .i64 rb,.int .i64 m]] w fun e w'=>e=.returned (.int .i64 t)/\Below w.heap.size w w':=by
 obtain ⟨rfl,rfl,⟨ma,mc,rfl,hM,hml⟩,⟨sa,sc,rfl,hS,hsl⟩,ra,rc,rfl,_,_⟩:=id hB;have HB:=Hh hB;have HG:=Hh hG;have HM:=Hh hM;have HS:=Hh hS;clear hB hG hM hS;unfold recAl at h;simp only [inB,usesB,usesMany,most] at h;cases hin:isPart b (a,rb)
 case false =>
  have ht:t=6:=by rw [<- h];simp [hin]
  subst ht;have HIN:=Hh hin;clear h hin
  go_enter Tryz.func54,Tryz.ntmps54
  go_wp2_with (go_at_call 42;(with_reducible refine (rIs_at (p:=(a,rb)) (HB.out.below (bel)) HG.out HIN.out).mono ?_);rintro e w1 ⟨rfl,hb1⟩);go_ret;exact ⟨rfl,bel⟩
 have ht:t=if inB m 0 (b.ss.length:Int) then 0 else 1:=by rw [<- h];simp [hin,inB]
 have HIN:=Hh hin;clear h hin;cases hi2:inB m 0 (b.ss.length:Int)
 all_goals
  have HI2:=Hh hi2;rw [hi2] at ht;simp only [if_true,if_false,Bool.false_eq_true] at ht;subst ht;clear hi2
  go_enter Tryz.func54,Tryz.ntmps54
  go_wp2_with (first | (go_at_call 42;(with_reducible refine (rIs_at (p:=(a,rb)) (HB.out.below (bel)) HG.out HIN.out).mono ?_);rintro e w1 ⟨rfl,hb1⟩;obtain ⟨hc1,hf1⟩:=bcell hb1;have hz1:=hb1.size;(try simp at hz1)) | (go_at_call 51;(with_reducible refine (rin_at HI2.out).mono ?_);rintro e w' ⟨rfl,rfl⟩));go_ret;exact ⟨rfl,bel⟩
theorem rRec_5 (hB:BookAt w b vr vg vm vs vc) (hG:∀ m∈b.ms,0<=m.groups/\m.groups<=1000) (a rb m:Int) {t:Int} (h:recAl b ⟨5,a,rb,m⟩=t) :
 Calls Tryz.prog 54 #[.agg #[vr,vg,vm,vs,vc],.agg #[.int .i64 5,.int .i64 a,.int .i64 rb,.int .i64 m]] w fun e w'=>e=.returned (.int .i64 t)/\Below w.heap.size w w':=by
 obtain ⟨rfl,rfl,⟨ma,mc,rfl,hM,hml⟩,⟨sa,sc,rfl,hS,hsl⟩,ra,rc,rfl,_,_⟩:=id hB;have HB:=Hh hB;have HG:=Hh hG;have HM:=Hh hM;have HS:=Hh hS;clear hB hG hM hS;unfold recAl at h;simp only [inB,usesB,usesMany,most] at h;by_cases hb:rb=0
 case neg =>
  have ht:t=1:=by rw [<- h];simp [hb]
  subst ht;clear h;have hb2:(rb != 0)=true:=by simpa using hb
  go_enter Tryz.func54,Tryz.ntmps54
  go_wp2;go_ret;exact ⟨rfl,bel⟩
 subst hb;cases hin:inB a 0 ((b.ms.length:Int) - 1)
 case false =>
  have ht:t=6:=by rw [<- h];simp only [inB] at hin;simp [hin]
  subst ht;have HIN:=Hh hin;clear h hin
  go_enter Tryz.func54,Tryz.ntmps54
  go_wp2_with (go_at_call 77;(with_reducible refine (there_at hml HIN.out).mono ?_);rintro e w' ⟨rfl,rfl⟩);go_ret;exact ⟨rfl,bel⟩
 have ha:0<=a/\a.toNat < b.ms.length:=by unfold inB at hin;simp only [decide_eq_true_eq] at hin;omega
 obtain ⟨n,rfl⟩:∃ n:Nat,a=n:=⟨a.toNat,by omega⟩;have hn:n < b.ms.length:=by omega
 have hn0:(0:Int)<=n:=by omega
 obtain ⟨mb,mo,rfl,hmb,_,h0,_⟩:=HM.out n hn;have hgs:((b.ms[(n:Int).toNat]?).elim 0 Msg.groups)=b.ms[n].groups:=by rw [Int.toNat_natCast,List.getElem?_eq_getElem hn];rfl
 rw [hgs] at h;generalize b.ms[n].groups=gr at h0 h;have ht:t=if inB m 0 gr then 0 else 1:=by
  rw [<- h];simp only [inB] at hin;have hle:(n:Int)<=((b.ms.length:Nat):Int) - 1:=by omega
  simp [hin,inB,hle]
 clear h hgs;have HIN:=Hh hin;clear hin;cases hi2:inB m 0 gr
 all_goals
  have HI2:=Hh hi2;rw [hi2] at ht;simp only [if_true,if_false,Bool.false_eq_true] at ht;subst ht;clear hi2
  go_enter Tryz.func54,Tryz.ntmps54
  go_wp2_with (first | (go_at_call 77;(with_reducible refine (there_at hml HIN.out).mono ?_);rintro e w' ⟨rfl,rfl⟩) | (go_at_call 51;(with_reducible refine (rin_at HI2.out).mono ?_);rintro e w' ⟨rfl,rfl⟩));go_ret;exact ⟨rfl,bel⟩
theorem rRec_at (hB:BookAt w b vr vg vm vs vc) (hG:∀ m∈b.ms,0<=m.groups/\m.groups<=1000) (r:Rec) {t:Int} (h:recAl b r=t) :
 Calls Tryz.prog 54 #[.agg #[vr,vg,vm,vs,vc],.agg #[.int .i64 r.k,.int .i64 r.a,.int .i64 r.b,.int .i64 r.m]] w fun e w'=>e=.returned (.int .i64 t)/\Below w.heap.size w w':=by
 obtain ⟨k,a,rb,m⟩:=r;by_cases hk:inB k 0 5=false
 ·have ht:t=1:=by rw [<- h];unfold recAl;simp [hk]
  subst ht;exact rRec_no _ _ _ _ _ _ _ _ _ _ hk
 ·have hk2:k=0\/k=1\/k=2\/k=3\/k=4\/k=5:=by unfold inB at hk;simp only [decide_eq_false_iff_not,Classical.not_not] at hk;omega
  rcases hk2 with rfl | rfl | rfl | rfl | rfl | rfl
  ·exact rRec_0 hB hG a rb m h
  ·exact rRec_1 hB hG a rb m h
  ·exact rRec_2 hB hG a rb m h
  ·exact rRec_3 hB hG a rb m h
  ·exact rRec_4 hB hG a rb m h
  ·exact rRec_5 hB hG a rb m h
end
section
variable {b:Bk} {vr vg vm vs vc:Value} {w:World}
theorem rCheckBook_at (hB:BookAt w b vr vg vm vs vc) (hN:∀ m∈b.ms,m.name.size<=1000000) {t:Int} (h:bookAl b=t) :
 Calls Tryz.prog 17 #[.agg #[vr,vg,vm,vs,vc]] w fun e w'=>e=.returned (.int .i64 t)/\Below w.heap.size w w':=by
 obtain ⟨rfl,rfl,⟨ma,mc,rfl,hM,hml⟩,⟨sa,sc,rfl,hS,hsl⟩,ra,rc,rfl,hR,hrl⟩:=id hB;have HB:=Hh hB;have HN:=Hh hN;have HR:=Hh hR;clear hB hM hS hN hR;unfold bookAl at h;by_cases hnm:numbersAl b=0
 case neg =>
  have h1:t=1:=by
   rw [if_pos hnm] at h;rw [<- h];unfold numbersAl at hnm ⊢;split at hnm
   ·exact absurd rfl hnm
   ·rename_i hh;rw [if_neg hh]
  subst h1;have hor:inB b.room 1 20=false\/(inB b.room 1 20=true/\inB b.gap 0 99=false):=by
   unfold numbersAl at hnm;cases h1:inB b.room 1 20
   ·exact .inl rfl
   ·cases h2:inB b.gap 0 99
    ·exact .inr ⟨rfl,rfl⟩
    ·rw [h1,h2] at hnm;simp at hnm
  clear h hnm;rcases hor with h1 | ⟨h1,h2⟩
  ·have H1:=Hh h1;clear h1
   go_enter Tryz.func17,Tryz.ntmps17
   go_wp2_with (go_at_call 51;(with_reducible refine (rin_at H1.out).mono ?_);rintro e w' ⟨rfl,rfl⟩);go_ret;exact ⟨rfl,bel⟩
  ·have H1:=Hh h1;have H2:=Hh h2;clear h1 h2
   go_enter Tryz.func17,Tryz.ntmps17
   go_wp2_with (first | (go_at_call 51;(with_reducible refine (rin_at H1.out).mono ?_);rintro e w' ⟨rfl,rfl⟩) | (go_at_call 51;(with_reducible refine (rin_at H2.out).mono ?_);rintro e w' ⟨rfl,rfl⟩));go_ret;exact ⟨rfl,bel⟩
 rw [if_neg (by simpa using hnm)] at h;have hnn:inB b.room 1 20=true/\inB b.gap 0 99=true:=by
  unfold numbersAl at hnm;cases h1:inB b.room 1 20
  ·rw [h1] at hnm;simp at hnm
  ·cases h2:inB b.gap 0 99
   ·rw [h1,h2] at hnm;simp at hnm
   ·exact ⟨rfl,rfl⟩
 have H1:=Hh hnn.1;have H2:=Hh hnn.2;clear hnm hnn;by_cases hms:msgsAl b=0
 case neg =>
  rw [if_pos hms] at h;have HMS:=Hh h;have hz3:(t != 0)=true:=by rw [<- h];simpa using hms
  clear h hms
  go_enter Tryz.func17,Tryz.ntmps17
  go_wp2_with (first
   | (go_at_call 51;(with_reducible refine (rin_at H1.out).mono ?_);rintro e w' ⟨rfl,rfl⟩)
   | (go_at_call 51;(with_reducible refine (rin_at H2.out).mono ?_);rintro e w' ⟨rfl,rfl⟩)
   | (go_at_call 52;(with_reducible refine (rMessages_at (HB.out.below (bel)) HN.out HMS.out).mono ?_);rintro e w1 ⟨rfl,hb1⟩))
  go_ret;exact ⟨rfl,bel⟩
 rw [if_neg (by simpa using hms)] at h;have HMS:=Hh hms;have HG:=Hh (msgsAl_ok hms);clear hms;by_cases hss:sessAl b=0
 case neg =>
  rw [if_pos hss] at h;have HSS:=Hh h;have hz3:(t != 0)=true:=by rw [<- h];simpa using hss
  clear h hss
  go_enter Tryz.func17,Tryz.ntmps17
  go_wp2_with (first
   | (go_at_call 51;(with_reducible refine (rin_at H1.out).mono ?_);rintro e w' ⟨rfl,rfl⟩)
   | (go_at_call 51;(with_reducible refine (rin_at H2.out).mono ?_);rintro e w' ⟨rfl,rfl⟩)
   | (go_at_call 52;(with_reducible refine (rMessages_at (HB.out.below (bel)) HN.out HMS.out).mono ?_);rintro e w1 ⟨rfl,hb1⟩;obtain ⟨hc1,hf1⟩:=bcell hb1;have hz1:w.heap.size < w1.heap.size:=(by have:=hb1.size;simp at this;omega))
   | (go_at_call 53;(with_reducible refine (rSessions_at (HB.out.below (bel)) HG.out HSS.out).mono ?_);rintro e w2 ⟨rfl,hb2⟩))
  go_ret;exact ⟨rfl,bel⟩
 rw [if_neg (by simpa using hss)] at h;have HSS:=Hh hss;clear hss;have HR2:=Hh h;clear h;have hz0:((0:Int) != 0)=false:=rfl;have key:∀ (v:Prop),v->v:=fun _ h=>h
 go_enter Tryz.func17,Tryz.ntmps17
 go_wp2_with (first
  | (go_at_call 51;(with_reducible refine (rin_at H1.out).mono ?_);rintro e w' ⟨rfl,rfl⟩)
  | (go_at_call 51;(with_reducible refine (rin_at H2.out).mono ?_);rintro e w' ⟨rfl,rfl⟩)
  | (go_at_call 52;(with_reducible refine (rMessages_at (HB.out.below (bel)) HN.out HMS.out).mono ?_);rintro e w1 ⟨rfl,hb1⟩;obtain ⟨hc1,hf1⟩:=bcell hb1;have hz1:w.heap.size < w1.heap.size:=(by have:=hb1.size;simp at this;omega))
  | (go_at_call 53;(with_reducible refine (rSessions_at (HB.out.below (bel)) HG.out HSS.out).mono ?_);rintro e w2 ⟨rfl,hb2⟩;obtain ⟨hc2,hf2⟩:=bcell hb2;have hz2:w.heap.size < w2.heap.size:=(by have:=hb2.size;omega)))
 ·have hr:=HR2.out;unfold recsAl at hr;rw [if_pos (by omega)] at hr;subst hr;go_ret;exact ⟨rfl,bel⟩
 ·have hbw:Below w.heap.size w w2:=bel;have nn:∀ k u,(#[.int .i64 b.room,.int .i64 b.gap,.slice ma b.ms.length mc,.slice sa b.ss.length sc,.slice ra b.rs.length rc]:Array Value)[k]? = some u->w2.cell? ⟨w.heap.size,k,none⟩=some u:=fun k u hk=>by
   rw [hc2 _ _ hz1,hc1 _ _ (by simp),World.cell?_alloc_at _ _ _ _ rfl];exact hk
  have n0:=nn 0 _ rfl;have n1:=nn 1 _ rfl;have n2:=nn 2 _ rfl;have n3:=nn 3 _ rfl;have n4:=nn 4 _ rfl;have hr:=HR2.out;unfold recsAl at hr;rw [if_neg (by omega)] at hr;have HR3:=Hh hr;clear nn hc1 hf1 hc2 hf2 hr hb1 hb2 hz1;go_loopw [5] (fun i wr=>∃ (k:Nat),k<=b.rs.length/\i=.int .i64 k/\Hid (goR b (b.rs.drop k)=t)/\Below w2.heap.size w2 wr) (fun i _=>b.rs.length - (intOf i).toNat)
  case atStart=>exact ⟨0,Nat.zero_le _,rfl,HR3.out,Below.refl _ _⟩
  case round =>
   obtain ⟨k,hk,rfl,hG0,hW⟩:=hrel;have hWs:=hW.size;have m0:=(hW.cell (p:=⟨w.heap.size,0,none⟩) hz2).trans n0;have m1:=(hW.cell (p:=⟨w.heap.size,1,none⟩) hz2).trans n1;have m2:=(hW.cell (p:=⟨w.heap.size,2,none⟩) hz2).trans n2;have m3:=(hW.cell (p:=⟨w.heap.size,3,none⟩) hz2).trans n3;have m4:=(hW.cell (p:=⟨w.heap.size,4,none⟩) hz2).trans n4;have hx2:w.heap.size < wr.heap.size:=by omega
   have hbr:=Below.next hbw hW;have hg0:=hG0.out;by_cases hlt:k < b.rs.length
   ·obtain ⟨rb,ro,rfl,hrb,e0,e1,e2,e3⟩:=HR.out k hlt;have e0:=(hbr.cell hrb).trans e0;have e1:=(hbr.cell hrb).trans e1;have e2:=(hbr.cell hrb).trans e2;have e3:=(hbr.cell hrb).trans e3;have hrb2:rb < wr.heap.size:=Nat.lt_of_lt_of_le hrb hbr.size;rw [List.drop_eq_getElem_cons hlt,goR] at hg0;generalize b.rs[k]=r at e0 e1 e2 e3 hg0;obtain ⟨rk,rA,rB,rm⟩:=r;simp only at e0 e1 e2 e3;have HBr:=Hh (HB.out.below hbr);have hg1:=fun (x:Int) (hx:recAl b ⟨rk,rA,rB,rm⟩=x)=>hx;by_cases hra:recAl b ⟨rk,rA,rB,rm⟩=0
    ·rw [if_neg (by simpa using hra)] at hg0;have HRA:=Hh hra;have HG0:=Hh hg0;clear hra hg0 hg1;go_wp2
     (refine wp_region_bel (by kernel_rfl) (by kernel_rfl) ?_;(repeat (go_big_quiet_step ((go_at_call 54;with_reducible exact Calls.bel_of (rRec_at (HBr.out.below (later_below _ _)) HG.out ⟨rk,rA,rB,rm⟩ HRA.out)))));refine wpQuiet_nil ?_;rintro _ ⟨xq,rfl⟩)
     go_wp2;go_roundw
     case rel=>exact ⟨k+1,by omega,by go_num,HG0.out,Below.next hW (later_below _ _)⟩
     case measure=>simp [intOf];omega
    ·rw [if_pos hra] at hg0;have HRA:=Hh hg0;have hz3:(t != 0)=true:=by rw [<- hg0];simpa using hra
     clear hra hg0 hg1;go_wp2
     (refine wp_region_bel (by kernel_rfl) (by kernel_rfl) ?_;(repeat (go_big_quiet_step ((go_at_call 54;with_reducible exact Calls.bel_of (rRec_at (HBr.out.below (later_below _ _)) HG.out ⟨rk,rA,rB,rm⟩ HRA.out)))));refine wpQuiet_nil ?_;rintro _ ⟨xq,rfl⟩)
     go_wp2;go_ret;exact ⟨rfl,Below.next hbr (later_below _ _)⟩
   ·rw [List.drop_eq_nil_of_le (by omega)] at hg0;simp only [goR] at hg0;subst hg0;go_wp2;go_ret;exact ⟨rfl,hbr⟩
end
section
variable {b:Bk} {vr vg vm vs vc:Value} {w:World}
end
section
variable {b:Bk} {vr vg vm vs vc:Value} {w:World} {la:Option Addr} {ln lc:Nat} {l:List Int}
end
namespace Sp
end Sp
section
variable {b:Bk} {vr vg vm vs vc:Value} {w:World} {la:Option Addr} {ln lc:Nat} {l:List Int}
end
section
variable {b:Bk} {vr vg vm vs vc:Value} {w:World}
end
section
variable {b:Bk} {vr vg vm vs vc:Value} {w:World}
end
section
variable {b:Bk} {vr vg vm vs vc:Value} {w:World}
end
section
variable {b:Bk} {vr vg vm vs vc:Value} {w:World}
end
attribute [local go_sem] Oper.semAt_some
section
variable {b:Bk} {vr vg vm vs vc:Value} {w:World}
end
end Go.Proofs.YtdjnkplgllakcaaGreatDoor
namespace Go.Proofs.YtdjnkplgllakcaaGreatDoor
open Go.RowKit Sp
end Go.Proofs.YtdjnkplgllakcaaGreatDoor
namespace Go.Proofs.YtdjnkplgllakcaaGreatDoor
open Go.RowKit Go.Maps Sp
def SesRaw (w:World) (a:Option Addr) (l:List (List Prt)):Prop:=∀ i (h:i < l.length),∃ b o,a=some ⟨b,o,none⟩/\b < w.heap.size /\
 ∃ pa pc,w.cell? ⟨b,o+i,none⟩=some (.slice pa l[i].length pc)/\l[i].length<=pc/\PartsAt w pa l[i]
structure RawAt (w:World) (b:Bk) (vr vg vm vs vc:Value):Prop where
 room:vr=.int .i64 b.room
 gap:vg=.int .i64 b.gap
 ms:∃ a c,vm=.slice a b.ms.length c/\MsgsAt w a b.ms
 ss:∃ a c,vs=.slice a b.ss.length c/\SesRaw w a b.ss
 rs:∃ a c,vc=.slice a b.rs.length c/\RecsAt w a b.rs
theorem SesRaw.below {w w':World} {a:Option Addr} {l:List (List Prt)} (h:SesRaw w a l) (hb:Below w.heap.size w w'):SesRaw w' a l:=fun i hi=>by
 obtain ⟨b,o,e,hlt,pa,pc,h1,h2,h4⟩:=h i hi;exact ⟨b,o,e,Nat.lt_of_lt_of_le hlt hb.size,pa,pc,(hb.cell hlt).trans h1,h2,h4.below hb⟩
def SmallB (b:Bk):Prop:=b.ms.length<=20/\b.ss.length<=20/\b.rs.length<=20/\(∀ m∈b.ms,m.name.size<=100)/\∀ s∈b.ss,s.length<=20
theorem RawAt.book {w:World} {b:Bk} {vr vg vm vs vc:Value} (h:RawAt w b vr vg vm vs vc) (hs:SmallB b):BookAt w b vr vg vm vs vc:=by
 obtain ⟨h1,h2,⟨a1,c1,e1,h3⟩,⟨a2,c2,e2,h4⟩,a3,c3,e3,h5⟩:=h;obtain ⟨s1,s2,s3,s4,s5⟩:=hs;refine ⟨h1,h2,⟨a1,c1,e1,h3,by omega⟩,⟨a2,c2,e2,fun i hi=>?_,by omega⟩,a3,c3,e3,h5,by omega⟩;obtain ⟨b',o,e,hlt,pa,pc,q1,q2,q4⟩:=h4 i hi;have:=s5 _ (List.getElem_mem hi);exact ⟨b',o,e,hlt,pa,pc,q1,q2,by omega,q4⟩
theorem great_at {b:Bk} {vr vg vm vs vc:Value} {w:World} (hB:RawAt w b vr vg vm vs vc) {g:Bool} (hg:g=true↔¬ SmallB b) :
 Calls Tryz.prog 16 #[.agg #[vr,vg,vm,vs,vc]] w fun e w'=>e=.returned (.bool g)/\Below w.heap.size w w':=by
 have HG:=Hh hg;clear hg;obtain ⟨rfl,rfl,⟨ma,mc,rfl,hM⟩,⟨sa,sc,rfl,hS⟩,ra,rc,rfl,_⟩:=hB;have HM:=Hh hM;clear hM;have HS:=Hh hS;clear hS;by_cases h1:20 < b.ms.length
 ·obtain rfl:g=true:=HG.out.2 fun h=>by have:=h.1;omega
  go_enter Tryz.func16,Tryz.ntmps16
  go_wp2;go_ret;exact ⟨rfl,bel⟩
 by_cases h2:20 < b.ss.length
 ·obtain rfl:g=true:=HG.out.2 fun h=>by have:=h.2.1;omega
  go_enter Tryz.func16,Tryz.ntmps16
  go_wp2;go_ret;exact ⟨rfl,bel⟩
 by_cases h3:20 < b.rs.length
 ·obtain rfl:g=true:=HG.out.2 fun h=>by have:=h.2.2.1;omega
  go_enter Tryz.func16,Tryz.ntmps16
  go_wp2;go_ret;exact ⟨rfl,bel⟩
 have hl1:b.ms.length<=20:=by omega
 have hl2:b.ss.length<=20:=by omega
 have hl3:b.rs.length<=20:=by omega
 go_enter Tryz.func16,Tryz.ntmps16
 go_wp2;obtain ⟨W0,hW0⟩:∃ W0,W0=w.alloc (.cells #[.int .i64 b.room,.int .i64 b.gap,.slice ma b.ms.length mc,.slice sa b.ss.length sc,.slice ra b.rs.length rc] 26):=⟨_,rfl⟩;rw [<- hW0];have five:=Five.new w (.int .i64 b.room) (.int .i64 b.gap) (.slice ma b.ms.length mc) (.slice sa b.ss.length sc) (.slice ra b.rs.length rc) 26;rw [<- hW0] at five;have hb0:Below w.heap.size w W0:=by rw [hW0];(exact bel)
 clear hW0;obtain ⟨n0,n1,n2,n3,n4,nl⟩:=five;go_loopw [3] (fun i wr=>∃ (k:Nat),k<=b.ms.length/\i=.int .i64 k/\Hid (∀ m∈b.ms.take k,m.name.size<=100)/\Below W0.heap.size W0 wr) (fun i _=>b.ms.length - (intOf i).toNat)
 case atStart=>exact ⟨0,Nat.zero_le _,rfl,by simp [Hid],Below.refl _ _⟩
 case round =>
  obtain ⟨k,hk,rfl,hG,hW⟩:=hrel;obtain ⟨wo,rfl⟩:∃ wo:World,wo=wr:=⟨_,rfl⟩;have hWs:=hW.size;have m2:=(hW.cell (p:=⟨w.heap.size,2,none⟩) nl).trans n2;have m3:=(hW.cell (p:=⟨w.heap.size,3,none⟩) nl).trans n3;have ml:w.heap.size < wo.heap.size:=by omega
  have hbw:=Below.next hb0 hW;clear n0 n1 n2 n3 n4;by_cases hlt:k < b.ms.length
  ·obtain ⟨mb,mo,rfl,hmb,h0,_,_⟩:=HM.out k hlt;have c0:=(hbw.cell hmb).trans h0;have hmb2:mb < wo.heap.size:=Nat.lt_of_lt_of_le hmb hbw.size;have htk:=List.take_succ_eq_append_getElem hlt;clear h0;have hgr:100 < b.ms[k].name.size->g=true:=fun h=>HG.out.2 fun hs=>by have:=hs.2.2.2.1 _ (List.getElem_mem hlt);omega
   generalize b.ms[k]=m at c0 htk hgr;have HT:=Hh htk;clear htk;obtain ⟨nm,gr,du⟩:=m;dsimp only at c0 hgr;by_cases h100:100 < nm.size
   ·obtain rfl:=hgr h100;clear hgr;go_wp2;go_ret;exact ⟨rfl,bel⟩
   ·clear hgr;have hle:nm.size<=100:=by omega
    go_wp2;go_roundw
    case rel =>
     refine ⟨k+1,by omega,by go_num,?_,bel⟩;intro m hm;rw [HT.out,List.mem_append,List.mem_singleton] at hm;rcases hm with hm | rfl
     ·exact hG.out m hm
     ·exact hle
    case measure=>simp [intOf];omega
  ·obtain rfl:k=b.ms.length:=by omega
   have hN:Hid (∀ m∈b.ms,m.name.size<=100):=by have:=hG.out;rwa [List.take_length] at this
   clear hG;go_wp2;go_loopw [4] (fun i wr=>∃ (k:Nat),k<=b.ss.length/\i=.int .i64 k/\Hid (∀ s∈b.ss.take k,s.length<=20)/\Below wo.heap.size wo wr) (fun i _=>b.ss.length - (intOf i).toNat)
   case atStart=>exact ⟨0,Nat.zero_le _,rfl,by simp [Hid],Below.refl _ _⟩
   case round =>
    obtain ⟨j,hj,rfl,hG,hX⟩:=hrel;have hXs:=hX.size;have l3:=(hX.cell (p:=⟨w.heap.size,3,none⟩) ml).trans m3;have ll:w.heap.size < wr.heap.size:=by omega
    have hbx:=Below.next hbw hX;clear m2 m3;by_cases hjt:j < b.ss.length
    ·obtain ⟨sb,so,rfl,hsb,pa,pc,h0,hpc,_⟩:=HS.out j hjt;have c0:=(hbx.cell hsb).trans h0;have hsb2:sb < wr.heap.size:=Nat.lt_of_lt_of_le hsb hbx.size;have htk:=List.take_succ_eq_append_getElem hjt;clear h0;have hgr:20 < b.ss[j].length->g=true:=fun h=>HG.out.2 fun hs=>by have:=hs.2.2.2.2 _ (List.getElem_mem hjt);omega
     generalize b.ss[j]=s at c0 htk hpc hgr;have HT:=Hh htk;clear htk;by_cases h20:20 < s.length
     ·obtain rfl:=hgr h20;clear hgr;go_wp2;go_ret;exact ⟨rfl,bel⟩
     ·clear hgr;have hle:s.length<=20:=by omega
      go_wp2;go_roundw
      case rel =>
       refine ⟨j+1,by omega,by go_num,?_,bel⟩;intro m hm;rw [HT.out,List.mem_append,List.mem_singleton] at hm;rcases hm with hm | rfl
       ·exact hG.out m hm
       ·exact hle
      case measure=>simp [intOf];omega
    ·obtain rfl:j=b.ss.length:=by omega
     have hQ:Hid (∀ s∈b.ss,s.length<=20):=by have:=hG.out;rwa [List.take_length] at this
     clear hG;obtain rfl:g=false:=by
      cases g with
      | false=>rfl
      | true=>exact absurd ⟨hl1,hl2,hl3,hN.out,hQ.out⟩ (HG.out.1 rfl)
     go_wp2;go_ret;exact ⟨rfl,bel⟩
attribute [local go_sem] Oper.semAt_some
section
variable {b:Bk} {vr vg vm vs vc:Value} {w:World}
end
end Go.Proofs.YtdjnkplgllakcaaGreatDoor
namespace Go.Proofs.YtdjnkplgllakcaaGreatDoor
open Go.RowKit Go.Maps Sp Mt Go.Conc
theorem Twin.raw {n:Nat} {w w1:World} (h:Twin n w w1) {b:Bk} {vr vg vm vs vc:Value} (k:RawAt w b vr vg vm vs vc):RawAt w1 b vr vg vm vs vc:=by
 obtain ⟨h1,h2,⟨a1,c1,e1,h3⟩,⟨a2,c2,e2,h4⟩,a3,c3,e3,h5⟩:=k;refine ⟨h1,h2,⟨a1,c1,e1,h.msgs h3⟩,⟨a2,c2,e2,fun i hi=>?_⟩,a3,c3,e3,h.recs h5⟩;obtain ⟨b,o,e,hlt,pa,pc,q1,q2,q4⟩:=h4 i hi;exact ⟨b,o,e,by rw [h.size];exact hlt,pa,pc,(h.cell _).trans q1,q2,h.parts q4⟩
theorem RawAt.below {w w1:World} (h:Below w.heap.size w w1) {b:Bk} {vr vg vm vs vc:Value} (k:RawAt w b vr vg vm vs vc):RawAt w1 b vr vg vm vs vc:=by
 obtain ⟨h1,h2,⟨a1,c1,e1,h3⟩,⟨a2,c2,e2,h4⟩,a3,c3,e3,h5⟩:=k;exact ⟨h1,h2,⟨a1,c1,e1,h3.below h⟩,⟨a2,c2,e2,h4.below h⟩,a3,c3,e3,h5.below h⟩
theorem Old.raw {w w1:World} (h:Old w w1) {b:Bk} {vr vg vm vs vc:Value} (k:RawAt w b vr vg vm vs vc):RawAt w1 b vr vg vm vs vc:=(on_twin w1 w.tape 0).raw (k.below h.below)
structure LawAt (w:World) (B:Nat) (b:Bk) (l:List Int) (vr vg vm vs vc:Value) (la:Option Addr):Prop where
 c0:w.cell? ⟨B,0,none⟩=some vr
 c1:w.cell? ⟨B,1,none⟩=some vg
 c2:w.cell? ⟨B,2,none⟩=some vm
 c3:w.cell? ⟨B,3,none⟩=some vs
 c4:w.cell? ⟨B,4,none⟩=some vc
 raw:RawAt w b vr vg vm vs vc
 kd:KindsAt w
 im:IntsAt w la l
section
variable {w w1:World} {B:Nat} {b:Bk} {l:List Int} {vr vg vm vs vc:Value} {la:Option Addr}
theorem LawAt.twin {n:Nat} (h:LawAt w B b l vr vg vm vs vc la) (t:Twin n w w1):LawAt w1 B b l vr vg vm vs vc la:=⟨(t.cell _).trans h.c0,(t.cell _).trans h.c1,(t.cell _).trans h.c2,(t.cell _).trans h.c3,(t.cell _).trans h.c4,t.raw h.raw,t.kinds h.kd,t.ints h.im⟩
theorem LawAt.old (h:LawAt w B b l vr vg vm vs vc la) (t:Old w w1):LawAt w1 B b l vr vg vm vs vc la:=⟨t.cell2 h.c0,t.cell2 h.c1,t.cell2 h.c2,t.cell2 h.c3,t.cell2 h.c4,t.raw h.raw,t.kinds h.kd,t.ints h.im⟩
theorem ints_nil {a:Option Addr}:IntsAt w a []:=fun i hi=>absurd hi (Nat.not_lt_zero _)
theorem SmallB.names {b:Bk} (h:SmallB b):∀ m∈b.ms,m.name.size<=1000000:=fun m hm=>Nat.le_trans (h.2.2.2.1 m hm) (by decide)
theorem SmallB.groups {b:Bk} (h:SmallB b):True:=trivial
end
end Go.Proofs.YtdjnkplgllakcaaGreatDoor
namespace Go.Proofs.YtdjnkplgllakcaaGreatDoor
open Go.RowKit Sp
theorem cellsStr:Tryz.prog.cellsOf 9=1:=by kernel_rfl
theorem cellsInt:Tryz.prog.cellsOf 3=1:=by kernel_rfl
theorem cellsKd:Tryz.prog.cellsOf 77=1:=by kernel_rfl
theorem cellsBook:Tryz.prog.cellsOf 26=5:=by kernel_rfl
theorem cellsMsg:Tryz.prog.cellsOf 111=3:=by kernel_rfl
theorem cellsSes:Tryz.prog.cellsOf 73=1:=by kernel_rfl
theorem cellsPart:Tryz.prog.cellsOf 85=2:=by kernel_rfl
theorem cellsRec:Tryz.prog.cellsOf 79=4:=by kernel_rfl
theorem cellsParts:Tryz.prog.cellsOf 31=1:=by kernel_rfl
theorem cellsMsgs:Tryz.prog.cellsOf 22=1:=by kernel_rfl
theorem cellsSess:Tryz.prog.cellsOf 23=1:=by kernel_rfl
theorem cellsRecs:Tryz.prog.cellsOf 24=1:=by kernel_rfl
theorem addr_plus (b o k:Nat):Addr.add ⟨b,o,none⟩ k=⟨b,o+k,none⟩:=by
 unfold Addr.add;split
 ·rename_i h;subst h;rfl
 ·rfl
theorem spot_of {w:World} {base:Nat} {a:Addr} {k q:Nat} {cs:List Value} (h:w.cells? base (a.add (0 * q)) k=some cs) (hk:0 < k):a.spot=none:=by
 obtain ⟨_,hl,hc⟩:=World.cells?_some h;have:=hc 0 hk;rw [List.getElem?_eq_getElem (by omega)] at this;simpa [Addr.add] using World.cell?_spot this
section
variable {H:Type} {enc:TypeId × Value->H} {w:World} {base:Nat} {sp:Nat->Bool} {held:Bool} {n:Nat} {cs:List Value} {y:DataW H × List MemPlace}
theorem open_msg (h:DataW.trod enc Tryz.prog w base sp held n 111 cs=some y):∃ m:Msg,cs=[.string m.name,.int .i64 m.groups,.int .i64 m.due]:=by
 obtain ⟨xs,k,_,_,hl,hx,hf⟩:=DataW.trod_struct Tryz.underlying111 h;rw [cellsMsg] at hl;have hx3:xs.length=3:=hx;have h0:=hf 0 _ rfl;have h1:=hf 1 _ rfl;have h2:=hf 2 _ rfl
 match cs,hl,xs,hx3 with
 | [a,b,c],_,[x0,x1,x2],_ =>
  simp [cellsStr,cellsInt] at h0 h1 h2;obtain ⟨s,e0,_⟩:=DataW.trod_string Tryz.underlying9 h0;obtain ⟨g,e1,_⟩:=DataW.trod_int Tryz.underlying3 h1;obtain ⟨d,e2,_⟩:=DataW.trod_int Tryz.underlying3 h2;cases e0;cases e1;cases e2;exact ⟨⟨s,g,d⟩,rfl⟩
theorem open_part (h:DataW.trod enc Tryz.prog w base sp held n 85 cs=some y):∃ m:Prt,cs=[.int .i64 m.1,.int .i64 m.2]:=by
 obtain ⟨xs,k,_,_,hl,hx,hf⟩:=DataW.trod_struct Tryz.underlying85 h;rw [cellsPart] at hl;have hx3:xs.length=2:=hx;have h0:=hf 0 _ rfl;have h1:=hf 1 _ rfl
 match cs,hl,xs,hx3 with
 | [a,b],_,[x0,x1],_ =>
  simp [cellsInt] at h0 h1;obtain ⟨g,e1,_⟩:=DataW.trod_int Tryz.underlying3 h0;obtain ⟨d,e2,_⟩:=DataW.trod_int Tryz.underlying3 h1;cases e1;cases e2;exact ⟨(g,d),rfl⟩
theorem open_rec (h:DataW.trod enc Tryz.prog w base sp held n 79 cs=some y):∃ m:Rec,cs=[.int .i64 m.k,.int .i64 m.a,.int .i64 m.b,.int .i64 m.m]:=by
 obtain ⟨xs,k,_,_,hl,hx,hf⟩:=DataW.trod_struct Tryz.underlying79 h;rw [cellsRec] at hl;have hx3:xs.length=4:=hx;have h0:=hf 0 _ rfl;have h1:=hf 1 _ rfl;have h2:=hf 2 _ rfl;have h3:=hf 3 _ rfl
 match cs,hl,xs,hx3 with
 | [a,b,c,d],_,[x0,x1,x2,x3],_ =>
  simp [cellsInt,cellsKd] at h0 h1 h2 h3;obtain ⟨q0,e0,_⟩:=DataW.trod_int Tryz.underlying77 h0;obtain ⟨q1,e1,_⟩:=DataW.trod_int Tryz.underlying3 h1;obtain ⟨q2,e2,_⟩:=DataW.trod_int Tryz.underlying3 h2;obtain ⟨q3,e3,_⟩:=DataW.trod_int Tryz.underlying3 h3;cases e0;cases e1;cases e2;cases e3;exact ⟨⟨q0,q1,q2,q3⟩,rfl⟩
instance : Inhabited Msg := ⟨⟨ByteArray.empty, 0, 0⟩⟩
instance : Inhabited Rec := ⟨⟨0, 0, 0, 0⟩⟩
theorem open_msgs (h:DataW.trod enc Tryz.prog w base (fun _=>true) held n 22 cs=some y):∃ a l c,cs=[.slice a (List.length l) c]/\MsgsAt w a l:=by
 rcases Deep.open_slice Tryz.underlying22 h with ⟨hcs,_⟩ | ⟨a,len,cap,m,k,D,Pl,hcs,hb,hl,hm,hmm,_,hx⟩
 ·exact ⟨none,[],0,hcs,fun i hi=>absurd hi (Nat.not_lt_zero _)⟩
 ·rw [cellsMsg] at hx;simp only [if_true] at hmm;obtain ⟨M,hM⟩:=Deep.choose_lt (α:=Msg) (p:=fun i m=>w.cells? base (a.add (i * 3)) 3=some [.string m.name,.int .i64 m.groups,.int .i64 m.due]) (fun i hi=>by
   obtain ⟨cs',h1,h2⟩:=hx i (show i < m from hi)
   obtain ⟨q,rfl⟩:=open_msg h2
   exact ⟨q,h1⟩)
  refine ⟨some a,(List.range len).map M,cap,by rw [hcs];simp,fun i hi=>?_⟩;have hi2:i < len:=by simpa using hi
  have hs:=spot_of (hM 0 (by omega)) (by decide);obtain ⟨b,o,spot⟩:=a;simp only at hs;subst hs;obtain ⟨_,_,hc⟩:=World.cells?_some (hM i (by omega));have c0:=hc 0 (by decide);have c1:=hc 1 (by decide);have c2:=hc 2 (by decide);simp only [addr_plus,Nat.add_zero,List.getElem?_cons_zero,List.getElem?_cons_succ] at c0 c1 c2;refine ⟨b,o,rfl,lt_of_cell c0,?_,?_,?_⟩ <;> simp only [List.getElem_map,List.getElem_range] <;> assumption
theorem open_parts (h:DataW.trod enc Tryz.prog w base (fun _=>true) held n 31 cs=some y):∃ a l c,cs=[.slice a (List.length l) c]/\List.length l<=c/\PartsAt w a l:=by
 rcases Deep.open_slice Tryz.underlying31 h with ⟨hcs,_⟩ | ⟨a,len,cap,m,k,D,Pl,hcs,hb,hl,hm,hmm,_,hx⟩
 ·exact ⟨none,[],0,hcs,Nat.le_refl _,fun i hi=>absurd hi (Nat.not_lt_zero _)⟩
 ·rw [cellsPart] at hx;simp only [if_true] at hmm;obtain ⟨M,hM⟩:=Deep.choose_lt (α:=Prt) (p:=fun i m=>w.cells? base (a.add (i * 2)) 2=some [.int .i64 m.1,.int .i64 m.2]) (fun i hi=>by
   obtain ⟨cs',h1,h2⟩:=hx i (show i < m from hi)
   obtain ⟨q,rfl⟩:=open_part h2
   exact ⟨q,h1⟩)
  refine ⟨some a,(List.range len).map M,cap,by rw [hcs];simp,by simpa using hl,fun i hi=>?_⟩;have hi2:i < len:=by simpa using hi
  have hs:=spot_of (hM 0 (by omega)) (by decide);obtain ⟨b,o,spot⟩:=a;simp only at hs;subst hs;obtain ⟨_,_,hc⟩:=World.cells?_some (hM i (by omega));have c0:=hc 0 (by decide);have c1:=hc 1 (by decide);simp only [addr_plus,Nat.add_zero,List.getElem?_cons_zero,List.getElem?_cons_succ] at c0 c1;refine ⟨b,o,rfl,lt_of_cell c0,?_,?_⟩ <;> simp only [List.getElem_map,List.getElem_range] <;> assumption
theorem open_recs (h:DataW.trod enc Tryz.prog w base (fun _=>true) held n 24 cs=some y):∃ a l c,cs=[.slice a (List.length l) c]/\RecsAt w a l:=by
 rcases Deep.open_slice Tryz.underlying24 h with ⟨hcs,_⟩ | ⟨a,len,cap,m,k,D,Pl,hcs,hb,hl,hm,hmm,_,hx⟩
 ·exact ⟨none,[],0,hcs,fun i hi=>absurd hi (Nat.not_lt_zero _)⟩
 ·rw [cellsRec] at hx;simp only [if_true] at hmm;obtain ⟨M,hM⟩:=Deep.choose_lt (α:=Rec) (p:=fun i m=>w.cells? base (a.add (i * 4)) 4=some [.int .i64 m.k,.int .i64 m.a,.int .i64 m.b,.int .i64 m.m]) (fun i hi=>by
   obtain ⟨cs',h1,h2⟩:=hx i (show i < m from hi)
   obtain ⟨q,rfl⟩:=open_rec h2
   exact ⟨q,h1⟩)
  refine ⟨some a,(List.range len).map M,cap,by rw [hcs];simp,fun i hi=>?_⟩;have hi2:i < len:=by simpa using hi
  have hs:=spot_of (hM 0 (by omega)) (by decide);obtain ⟨b,o,spot⟩:=a;simp only at hs;subst hs;obtain ⟨_,_,hc⟩:=World.cells?_some (hM i (by omega));have c0:=hc 0 (by decide);have c1:=hc 1 (by decide);have c2:=hc 2 (by decide);have c3:=hc 3 (by decide);simp only [addr_plus,Nat.add_zero,List.getElem?_cons_zero,List.getElem?_cons_succ] at c0 c1 c2 c3;refine ⟨b,o,rfl,lt_of_cell c0,?_,?_,?_,?_⟩ <;> simp only [List.getElem_map,List.getElem_range] <;> assumption
theorem open_sess (h:DataW.trod enc Tryz.prog w base (fun _=>true) held n 23 cs=some y):∃ a l c,cs=[.slice a (List.length l) c]/\SesRaw w a l:=by
 rcases Deep.open_slice Tryz.underlying23 h with ⟨hcs,_⟩ | ⟨a,len,cap,m,k,D,Pl,hcs,hb,hl,hm,hmm,_,hx⟩
 ·exact ⟨none,[],0,hcs,fun i hi=>absurd hi (Nat.not_lt_zero _)⟩
 ·rw [cellsSes] at hx;simp only [if_true] at hmm;obtain ⟨M,hM⟩:=Deep.choose_lt (α:=List Prt) (p:=fun i m=>∃ pa pc,w.cells? base (a.add (i * 1)) 1=some [.slice pa m.length pc]/\m.length<=pc/\PartsAt w pa m) (fun i hi=>by
   obtain ⟨cs',h1,h2⟩:=hx i (show i < m from hi)
   obtain ⟨xs,k',_,_,hl2,hx2,hf⟩:=DataW.trod_struct Tryz.underlying73 h2
   rw [cellsSes] at hl2
   have hx3:xs.length=1:=hx2
   have h0:=hf 0 _ rfl
   match cs',hl2,xs,hx3 with
   | [v],_,[x0],_ =>
    simp [cellsParts] at h0
    obtain ⟨pa,q,pc,e,hq,hp⟩:=open_parts h0
    cases e
    exact ⟨q,pa,pc,h1,hq,hp⟩)
  refine ⟨some a,(List.range len).map M,cap,by rw [hcs];simp,fun i hi=>?_⟩;have hi2:i < len:=by simpa using hi
  obtain ⟨_,_,hM0,_⟩:=hM 0 (by omega);have hs:=spot_of hM0 (by decide);obtain ⟨b,o,spot⟩:=a;simp only at hs;subst hs;obtain ⟨pa,pc,hMi,hq,hp⟩:=hM i (by omega);obtain ⟨_,_,hc⟩:=World.cells?_some hMi;have c0:=hc 0 (by decide);simp only [addr_plus,Nat.add_zero,Nat.mul_one,List.getElem?_cons_zero] at c0;refine ⟨b,o,rfl,lt_of_cell c0,pa,pc,?_,?_,?_⟩ <;> simp only [List.getElem_map,List.getElem_range] <;> assumption
theorem open_book {v:Value} (h:DataW.trod enc Tryz.prog w base (fun _=>true) held n 26 v.cells.toList=some y):∃ b vr vg vm vs vc,v=.agg #[vr,vg,vm,vs,vc]/\RawAt w b vr vg vm vs vc:=by
 obtain ⟨xs,k,_,_,hl,hx,hf⟩:=DataW.trod_struct Tryz.underlying26 h;rw [cellsBook] at hl;obtain ⟨c,rfl⟩:∃ c,v=.agg c:=by
  cases v <;> first | exact ⟨_,rfl⟩ | (simp [Value.cells] at hl)
 simp only [Value.cells] at hl hf;have hx3:xs.length=5:=hx;have h0:=hf 0 _ rfl;have h1:=hf 1 _ rfl;have h2:=hf 2 _ rfl;have h3:=hf 3 _ rfl;have h4:=hf 4 _ rfl;obtain ⟨c⟩:=c;simp only at hl h0 h1 h2 h3 h4
 match c,hl,xs,hx3 with
 | [a0,a1,a2,a3,a4],_,[x0,x1,x2,x3,x4],_ =>
  simp [cellsInt,cellsMsgs,cellsSess,cellsRecs] at h0 h1 h2 h3 h4;obtain ⟨q0,e0,_⟩:=DataW.trod_int Tryz.underlying3 h0;obtain ⟨q1,e1,_⟩:=DataW.trod_int Tryz.underlying3 h1;obtain ⟨ma,ml,mc,e2,hm⟩:=open_msgs h2;obtain ⟨sa,sl,sc,e3,hs⟩:=open_sess h3;obtain ⟨ra,rl,rc,e4,hr⟩:=open_recs h4;cases e0;cases e1;cases e2;cases e3;cases e4;exact ⟨⟨q0,q1,ml,sl,rl⟩,_,_,_,_,_,rfl,rfl,rfl,⟨_,_,rfl,hm⟩,⟨_,_,rfl,hs⟩,_,_,rfl,hr⟩
end
theorem trod_array {H:Type} {enc:TypeId × Value->H} {P:Program} {w:World} {base:Nat} {spare:Nat->Bool} {held:Bool} {fuel n:Nat} {t e:TypeId} {cs:List Value} {x:DataW H × List MemPlace} (ht:P.underlying t=some (.array n e)) (h:DataW.trod enc P w base spare held fuel t cs=some x) :
 ∃ (xs:List (DataW H × List MemPlace)) (m:Nat),x=(.agg (xs.map (·.1)),xs.flatMap (·.2))/\cs.length=P.cellsOf t/\xs.length=n /\
  ∀ (i:Nat),i < n->DataW.trod enc P w base spare held m e ((cs.drop (i * P.cellsOf e)).take (P.cellsOf e))=xs[i]? := by
 cases fuel with
 | zero=>simp [DataW.trod] at h
 | succ m =>
  unfold DataW.trod at h;rw [ht] at h;split at h <;> simp_all;obtain ⟨hl,xs,hp,hd⟩:=h;exact ⟨xs,hd.symm,by simpa using mapM_some_length hp,m,fun i hi=>mapM_some_get hp i i (List.getElem?_range hi)⟩
theorem cellsKindRow:Tryz.prog.cellsOf 181=5:=by kernel_rfl
theorem cellsW:Tryz.prog.cellsOf 9=1:=by kernel_rfl
theorem cellsB:Tryz.prog.cellsOf 4=1:=by kernel_rfl
theorem cellsF1:Tryz.prog.cellsOf 178=1:=by kernel_rfl
theorem cellsF2:Tryz.prog.cellsOf 179=1:=by kernel_rfl
theorem kind_row {w:World} {sp:Nat->Bool} {n:Nat} {cs:List Value} {wd:List UInt8} {ub um:Bool} {b1 b2:UInt8} {r1 r2:List UInt8} {f1 f2:FuncId} {q:List MemPlace}
 (h:DataW.trod (funcToken Tryz.prog) Tryz.prog w 0 sp true n 181 cs=some (.agg [.lit (.string wd),.lit (.bool ub),.lit (.bool um),.held (b1::r1),.held (b2::r2)],q))
 (h1:((List.range Tryz.prog.funcs.size).filter fun f=>(Tryz.prog.funcs[f]?).any (·.name.toUTF8.data.toList == b1::r1))=[f1])
 (h2:((List.range Tryz.prog.funcs.size).filter fun f=>(Tryz.prog.funcs[f]?).any (·.name.toUTF8.data.toList == b2::r2))=[f2]) :
 ∃ s:ByteArray,s.data.toList=wd/\cs=[.string s,.bool ub,.bool um,.func (.func f1) #[] #[],.func (.func f2) #[] #[]]:=by
 obtain ⟨xs,k,_,he,hl,hx,hf⟩:=DataW.trod_struct Tryz.underlying181 h;rw [cellsKindRow] at hl;have hx3:xs.length=5:=hx;have g0:=hf 0 _ rfl;have g1:=hf 1 _ rfl;have g2:=hf 2 _ rfl;have g3:=hf 3 _ rfl;have g4:=hf 4 _ rfl
 match cs,hl,xs,hx3 with
 | [a0,a1,a2,a3,a4],_,[⟨x0,p0⟩,⟨x1,p1⟩,⟨x2,p2⟩,⟨x3,p3⟩,⟨x4,p4⟩],_ =>
  simp only [List.map_cons,List.map_nil,Prod.mk.injEq,DataW.agg.injEq,List.cons.injEq,and_true] at he;obtain ⟨⟨e0,e1,e2,e3,e4⟩,_⟩:=he;subst e0 e1 e2 e3 e4;simp [cellsW,cellsB,cellsF1,cellsF2] at g0 g1 g2 g3 g4;obtain ⟨s,c0,d0,_⟩:=DataW.trod_string Tryz.underlying9 g0;obtain ⟨u,c1,d1⟩:=DataW.trod_bool Tryz.underlying4 g1;obtain ⟨v,c2,d2⟩:=DataW.trod_bool Tryz.underlying4 g2;have c3:=func_of_trod Tryz.underlying178 h1 g3;have c4:=func_of_trod Tryz.underlying179 h2 g4;cases c0;cases c1;cases c2;simp only [Prod.mk.injEq,DataW.lit.injEq,Lit.string.injEq,Lit.bool.injEq,and_true] at d0 d1 d2;obtain ⟨rfl,_⟩:=d1;obtain ⟨rfl,_⟩:=d2;subst c3;subst c4;exact ⟨s,d0.1.symm,rfl⟩
theorem five_at {l:List Value} {k:Nat} {a b c d e:Value} (h:(l.drop k).take 5=[a,b,c,d,e]):l[k]? = some a/\l[k+1]? = some b/\l[k+2]? = some c/\l[k+3]? = some d/\l[k+4]? = some e:=by
 have g:∀ j,j < 5->l[k+j]? = [a,b,c,d,e][j]? := fun j hj=>by
  rw [<- h,List.getElem?_take,if_pos hj,List.getElem?_drop]
 exact ⟨g 0 (by decide),g 1 (by decide),g 2 (by decide),g 3 (by decide),g 4 (by decide)⟩
theorem gKinds:Tryz.prog.globalNamed "baudot/store.kinds"=some 0:=by kernel_rfl
theorem tKinds:(Tryz.prog.globals[0]?).map (·.type)=some 182:=by kernel_rfl
theorem kinds_of_laid {W:World} (h:laidMetH Tryz.prog [("baudot/store.kinds",Rows.laid_baudot_store_kinds)] W):KindsAt W:=by
 obtain ⟨g,t,cs,fuel,p,hg,ht,hv,hd⟩:=h.funcs (List.mem_singleton.2 rfl);obtain rfl:=Option.some.inj (gKinds.symm.trans hg);obtain rfl:=Option.some.inj (tKinds.symm.trans ht);obtain ⟨xs,m,he,_,hx,hel⟩:=trod_array Tryz.underlying182 hd;have hcell:∀ i,W.cell? ⟨0,i,none⟩=cs.toList[i]? := fun i=>by
  rw [World.var?_cell hg hv i];simp
 rw [cellsKindRow] at hel;have e0:=hel 0 (by decide);have e1:=hel 1 (by decide);have e2:=hel 2 (by decide);have e3:=hel 3 (by decide);have e4:=hel 4 (by decide);have e5:=hel 5 (by decide)
 match xs,hx with
 | [⟨x0,p0⟩,⟨x1,p1⟩,⟨x2,p2⟩,⟨x3,p3⟩,⟨x4,p4⟩,⟨x5,p5⟩],_ =>
  have hes:[x0,x1,x2,x3,x4,x5]=_:=(DataW.agg.inj (congrArg Prod.fst he)).symm;simp only [List.getElem?_cons_zero,List.getElem?_cons_succ] at e0 e1 e2 e3 e4 e5;injection hes with h0 hes;injection hes with h1 hes;injection hes with h2 hes;injection hes with h3 hes;injection hes with h4 hes;injection hes with h5 hes;subst h0 h1 h2 h3 h4 h5;obtain ⟨s0,w0,c0⟩:=kind_row (f1:=kindMost 0) (f2:=kindRight 0) e0 (by kernel_rfl) (by kernel_rfl);obtain ⟨s1,w1,c1⟩:=kind_row (f1:=kindMost 1) (f2:=kindRight 1) e1 (by kernel_rfl) (by kernel_rfl);obtain ⟨s2,w2,c2⟩:=kind_row (f1:=kindMost 2) (f2:=kindRight 2) e2 (by kernel_rfl) (by kernel_rfl);obtain ⟨s3,w3,c3⟩:=kind_row (f1:=kindMost 3) (f2:=kindRight 3) e3 (by kernel_rfl) (by kernel_rfl);obtain ⟨s4,w4,c4⟩:=kind_row (f1:=kindMost 4) (f2:=kindRight 4) e4 (by kernel_rfl) (by kernel_rfl);obtain ⟨s5,w5,c5⟩:=kind_row (f1:=kindMost 5) (f2:=kindRight 5) e5 (by kernel_rfl) (by kernel_rfl);have z0:=five_at c0;have z1:=five_at c1;have z2:=five_at c2;have z3:=five_at c3;have z4:=five_at c4;have z5:=five_at c5;refine ⟨lt_of_cell ((hcell 0).trans z0.1),fun i hi=>?_⟩
  match i,hi with
  | 0,_=>exact ⟨⟨s0,w0,(hcell _).trans z0.1⟩,(hcell _).trans z0.2.1,(hcell _).trans z0.2.2.1,(hcell _).trans z0.2.2.2.1,(hcell _).trans z0.2.2.2.2⟩
  | 1,_=>exact ⟨⟨s1,w1,(hcell _).trans z1.1⟩,(hcell _).trans z1.2.1,(hcell _).trans z1.2.2.1,(hcell _).trans z1.2.2.2.1,(hcell _).trans z1.2.2.2.2⟩
  | 2,_=>exact ⟨⟨s2,w2,(hcell _).trans z2.1⟩,(hcell _).trans z2.2.1,(hcell _).trans z2.2.2.1,(hcell _).trans z2.2.2.2.1,(hcell _).trans z2.2.2.2.2⟩
  | 3,_=>exact ⟨⟨s3,w3,(hcell _).trans z3.1⟩,(hcell _).trans z3.2.1,(hcell _).trans z3.2.2.1,(hcell _).trans z3.2.2.2.1,(hcell _).trans z3.2.2.2.2⟩
  | 4,_=>exact ⟨⟨s4,w4,(hcell _).trans z4.1⟩,(hcell _).trans z4.2.1,(hcell _).trans z4.2.2.1,(hcell _).trans z4.2.2.2.1,(hcell _).trans z4.2.2.2.2⟩
  | 5,_=>exact ⟨⟨s5,w5,(hcell _).trans z5.1⟩,(hcell _).trans z5.2.1,(hcell _).trans z5.2.2.1,(hcell _).trans z5.2.2.2.1,(hcell _).trans z5.2.2.2.2⟩
  | i+6,h=>omega
end Go.Proofs.YtdjnkplgllakcaaGreatDoor
namespace Go.Proofs.YtdjnkplgllakcaaGreatDoor
open Go.ChangeShapes Go.WideShapes Go.ChangeAt Go.RowKit Go.Conc
theorem ownNone:ownKnob Tryz.prog.godebug=none:=by kernel_rfl
theorem laidOutAll:laidOutB Tryz.prog=true:=by kernel_rfl
theorem door_met (os:Os) (args:Array Value):laidMetH Tryz.prog [("baudot/store.kinds",Rows.laid_baudot_store_kinds)] ((World.doorLaid Tryz.prog 20 os).forCall (fun _ _=>0) ⟨#[],args,[]⟩).memory :=
 laidMetH_of_parts3 (fuel:=8) (laidMet_of_run' 8 (by kernel_rfl) (by kernel_rfl)) (by kernel_rfl) (by kernel_rfl)
theorem arg_stays {H:Type} {enc:TypeId × Value->H} {t:TypeId} (hr:Tryz.prog.readableRec t=true) (hrow:t < Tryz.prog.types.size) {W W':World} {v:Value} {d:DataW H} {ps:List MemPlace}
 (h:DataW.Trod enc Tryz.prog W 0 (fun _=>true) true t v d ps) (ho:Old W W') (hlt:∀ x∈ps,x.block < W.heap.size) :
 DataW.Trod enc Tryz.prog W' 0 (fun b=>decide (b < W.heap.size)) true t v d ps :=
 DataW.Trod.of_heap (w:=W'.on W.tape 0) (by rfl) (Below.trod laidOutAll hr hrow h ho.below hlt)
theorem kept_old {W W':World} (ho:Old W W') (may:MemPlace->Prop):W.keptBut W' may:=ho.below.frame may
end Go.Proofs.YtdjnkplgllakcaaGreatDoor
namespace Go.Proofs.YtdjnkplgllakcaaGreatDoor
open Go.RowKit Sp Mt Go.Conc
def wps (P:Program):List Code->(Act->World->Prop)->Act->World->Prop
 | [],Q,a,w=>Q a w
 | c::l,Q,a,w=>c.wp P (fun e a' w'=>e=.normal/\a'.defers=[]/\∀ t,wps P l Q a' (w'.on t 0)) a w
theorem wps_mono {P:Program} {Q Q':Act->World->Prop} (hq:∀ a w,Q a w->Q' a w):∀ (l:List Code) {a:Act} {w:World},wps P l Q a w->wps P l Q' a w
 | [],_,_,h=>hq _ _ h
 | c::l,_,_,h=>Code.wp_mono (fun e a' w' ⟨h1,h2,h3⟩=>⟨h1,h2,fun t=>wps_mono hq l (h3 t)⟩) h
def seqs:List Code->Code->Code
 | [],R=>R
 | c::l,R=>.seq c (seqs l R)
section
variable {P:Program} {b:Frame} {k:List Item} {cs:List Frame} {S:Mute} {R:Code}
theorem Like.unat {w w':World} {d:Nat} (h:Like P S w w'):Like P S (w.at d) w':=⟨⟨rfl,rfl,0,rfl,rfl⟩,h.os,h.output,h.size,h.block,h.mute,h.heapOk⟩
theorem wps_leads (hP:ProgOk P) (hb:b.kind=.normal) {Q:Act->World->Prop}:∀ (l:List Code) {a:Act} {w w':World},Like P S w w'->(∀ c∈l,codeOk P c=true)->a.defers=[]->(∀ t,wps P l Q a (w'.on t 0)) ->
 Leads P (fun fr' cs' w1=>∃ a' w1',fr'=b.at a' (.code R::k)/\cs'=cs/\Like P S w1 w1'/\∀ t,Q a' (w1'.on t 0)) (b.at a (.code (seqs l R)::k)) cs w
 | [],a,w,w',hl,_,_,h=>.done ⟨a,w',rfl,rfl,hl,h⟩
 | c::l,a,w,w',hl,hc,hd,h=>by
  refine leads_seq fun d=>?_;refine (wp_leads (Z:=fun a' W=>a'.defers=[]/\∀ t,wps P l Q a' (W.on t 0)) hP (Like.unat (d:=d) hl) (hc c (List.mem_cons_self ..)) hb (by rw [hd];exact fun x hx=>(by cases hx)) fun t=>?_).trans ?_
  ·refine Code.wp_mono ?_ (h t);rintro e a' w2 ⟨he,h1,h2⟩;exact ⟨he,w2.tape,w2.drawn,h1,h2⟩
  ·rintro fr' cs' w1 ⟨a',w1',e1,e2,hl1,t,d,h1,h2⟩;rw [e1,e2];exact wps_leads hP hb l hl1 (fun c hm=>hc c (List.mem_cons_of_mem _ hm)) h1 h2
end
theorem pieces_co {b:Frame} {a:Act} {w:World} {k:List Item} {cs:List Frame} {R:Code} (l:List Code) (hc:∀ c∈l,codeOk Tryz.prog c=true) (hb:b.kind=.normal) (hd:a.defers=[]) {Z:Act->World->Prop} (hZ:∀ a w1 w2,Twin w.heap.size w1 w2->Z a w1->Z a w2)
 (h:∀ W,Twin w.heap.size w W->wps Tryz.prog l (fun a' w2=>Z a' w2/\Old W w2) a W) {K:Frame->List Frame->World->Prop} (hk:∀ a' w',Z a' w'->Old w w'->Leads Tryz.prog K (b.at a' (.code R::k)) cs w') :
 Leads Tryz.prog K (b.at a (.code (seqs l R)::k)) cs w:=by
 have hl:=muted_like Tryz.prog w;refine (wps_leads (Q:=fun a' W2=>Z a' W2/\Old (muted w) W2) progOk hb l hl hc hd fun t=>?_).trans ?_
 ·refine wps_mono ?_ l (h _ (muted_twin w t));rintro a' w2 ⟨h1,h2⟩;exact ⟨h1,h2.os,h2.output,h2.size,h2.block⟩
 ·rintro fr' cs' w1 ⟨a',w1',e1,e2,h3,hq⟩;rw [e1,e2];obtain ⟨hz,ho⟩:=hq w1'.tape;exact hk a' w1 (hZ _ _ _ (like_twin hl h3 w1'.tape 0) hz) (like_old hl h3 (d2:=0) (t:=w1'.tape) (t2:=w1'.tape) ⟨ho.os,rfl,ho.output,ho.size,ho.block⟩)
end Go.Proofs.YtdjnkplgllakcaaGreatDoor
namespace Go.Proofs.YtdjnkplgllakcaaGreatDoor
open Go.RowKit Go.Maps Sp
section
variable {b:Bk} {vr vg vm vs vc:Value} {w:World}
theorem fit_at (hR:RawAt w b vr vg vm vs vc) {t:Bool} (ht:t=true↔SmallB b/\bookAl b=0) :
 Calls Tryz.prog 4 #[.agg #[vr,vg,vm,vs,vc]] w fun e w'=>e=.returned (.bool t)/\Below w.heap.size w w':=by
 obtain ⟨g,hg⟩:∃ g:Bool,(g=true↔¬ SmallB b):=by
  by_cases h:SmallB b
  ·exact ⟨false,by simp [h]⟩
  ·exact ⟨true,by simp [h]⟩
 have HG:=Hh hg;have HR:=Hh hR;have HT:=Hh ht
 cases g with
 | true =>
  have hns:¬ SmallB b:=hg.1 rfl;obtain rfl:t=false:=by
   cases t
   ·rfl
   ·exact absurd (ht.1 rfl).1 hns
  clear hg hR ht
  go_enter Tryz.func4,Tryz.ntmps4
  go_wp2_with (go_at_call 16;(with_reducible refine (great_at (HR.out.below (bel)) HG.out).mono ?_);rintro e w1 ⟨rfl,hb1⟩);go_ret;exact ⟨rfl,bel⟩
 | false =>
  have hs:SmallB b:=by
   by_cases h:SmallB b
   ·exact h
   ·have:=hg.2 h;cases this
  have HB:=Hh (hR.book hs);have HN:=Hh hs.names;have htt:t=decide (bookAl b=0):=by
   cases t
   ·symm;rw [decide_eq_false_iff_not];intro h;have:=ht.2 ⟨hs,h⟩;cases this
   ·symm;rw [decide_eq_true_iff];exact (ht.1 rfl).2
  subst htt;clear hg hR ht
  go_enter Tryz.func4,Tryz.ntmps4
  go_wp2_with (first
   | (go_at_call 16;(with_reducible refine (great_at (HR.out.below (bel)) HG.out).mono ?_);rintro e w1 ⟨rfl,hb1⟩;obtain ⟨hc1,hf1⟩:=bcell hb1;have hz1:=hb1.size;(try simp at hz1))
   | (go_at_call 17;(with_reducible refine (rCheckBook_at (HB.out.below (bel)) HN.out rfl).mono ?_);rintro e w2 ⟨rfl,hb2⟩))
  go_ret;exact ⟨by rw [Bool.beq_eq_decide_eq];rfl,bel⟩
def miss (b:Bk):List Prt:=if openAl b 0=0 then missI b else []
theorem missing2_at (hB:BookAt w b vr vg vm vs vc) (hN:∀ m∈b.ms,m.name.size<=1000000) (hK:KindsAt w) {q:List Prt} {u:Int} (hq:miss b=q) (hu:openAl b 0=u) :
 Calls Tryz.prog 6 #[.agg #[vr,vg,vm,vs,vc]] w fun e w'=>∃ a c,e=.returned (.tuple #[.slice a q.length c,.int .i64 u])/\PartsAt w' a q/\Below w.heap.size w w':=by
 by_cases h0:u=0
 ·subst h0;have:q=missI b:=by rw [<- hq];unfold miss;rw [if_pos hu]
  subst this;exact missingApi_ok hB hN hK hu
 ·have:q=[]:=by rw [<- hq];unfold miss;rw [if_neg (by rw [hu];exact h0)]
  subst this;refine (missingApi_no hB hN hK hu h0).mono ?_;rintro e w' ⟨rfl,hb⟩;exact ⟨none,0,rfl,fun i hi=>absurd hi (Nat.not_lt_zero _),hb⟩
end
end Go.Proofs.YtdjnkplgllakcaaGreatDoor
namespace Go.Proofs.YtdjnkplgllakcaaGreatDoor
open Go.RowKit Sp
end Go.Proofs.YtdjnkplgllakcaaGreatDoor
