/- StoreRecords -/
import Derived.Test.YtojkofjcblmnjaaGreatDoorRC25
set_option maxHeartbeats 2000000
set_option maxRecDepth 100000
set_option linter.all false
namespace Go.Proofs.YtojkofjcblmnjaaGreatDoor
open Go.RowKit Go.Maps Sp
section
variable {b:Bk} {vr vg vm vs vc:Value} {w:World}
theorem rRec_no (vr vg vm vs vc:Value) (k a rb m:Int) (w:World) (h:inB k 0 5=false) :
 Calls Tryz.prog 79 #[.agg #[vr,vg,vm,vs,vc],.agg #[.int .i64 k,.int .i64 a,.int .i64 rb,.int .i64 m]] w fun e w'=>e=.returned (.int .i64 1)/\Below w.heap.size w w':=by
 have hk:k < 0\/(0<=k/\5 < k):=by unfold inB at h;simp only [decide_eq_false_iff_not] at h;omega
 rcases hk with hk | ⟨hk0,hk5⟩
 all_goals
  go_enter Tryz.func79,Tryz.ntmps79
  go_wp2;go_ret;exact ⟨rfl,bel⟩
theorem rRec_0 (hB:BookAt w b vr vg vm vs vc) (hG:∀ m∈b.ms,0<=m.groups/\m.groups<=1000) (a rb m:Int) {t:Int} (h:recAl b ⟨0,a,rb,m⟩=t) :
 Calls Tryz.prog 79 #[.agg #[vr,vg,vm,vs,vc],.agg #[.int .i64 0,.int .i64 a,.int .i64 rb,.int .i64 m]] w fun e w'=>e=.returned (.int .i64 t)/\Below w.heap.size w w':=by
 obtain ⟨rfl,rfl,⟨ma,mc,rfl,hM,hml⟩,⟨sa,sc,rfl,hS,hsl⟩,ra,rc,rfl,_,_⟩:=id hB;have HB:=Hh hB;have HG:=Hh hG;have HM:=Hh hM;have HS:=Hh hS;clear hB hG hM hS;unfold recAl at h;simp only [inB,usesB,usesMany,most] at h;by_cases hb:rb=0
 case neg =>
  have ht:t=1:=by rw [<- h];simp [hb]
  subst ht;clear h;have hb2:(rb != 0)=true:=by simpa using hb
  go_enter Tryz.func79,Tryz.ntmps79
  go_wp2;go_ret;exact ⟨rfl,bel⟩
 subst hb;by_cases hm:m=0
 case neg =>
  have ht:t=1:=by rw [<- h];simp [hm]
  subst ht;clear h;have hm2:(m != 0)=true:=by simpa using hm
  go_enter Tryz.func79,Tryz.ntmps79
  go_wp2;go_ret;exact ⟨rfl,bel⟩
 subst hm;cases hin:inB a 0 ((b.ss.length:Int) - 1)
 case false =>
  have ht:t=6:=by rw [<- h];simp only [inB] at hin;simp [hin]
  subst ht;have HIN:=Hh hin;clear h hin
  go_enter Tryz.func79,Tryz.ntmps79
  go_wp2_with (go_at_call 103;(with_reducible refine (there_at hsl HIN.out).mono ?_);rintro e w' ⟨rfl,rfl⟩);go_ret;exact ⟨rfl,bel⟩
 have ha:0<=a/\a.toNat < b.ss.length:=by unfold inB at hin;simp only [decide_eq_true_eq] at hin;omega
 obtain ⟨n,rfl⟩:∃ n:Nat,a=n:=⟨a.toNat,by omega⟩;have hn:n < b.ss.length:=by omega
 have hn0:(0:Int)<=n:=by omega
 obtain ⟨sb,so,rfl,hsb,pa,pc,h0,hpc,hpl,_⟩:=HS.out n hn;have hgs:((b.ss[(n:Int).toNat]?).elim 0 List.length:Nat)=b.ss[n].length:=by rw [Int.toNat_natCast,List.getElem?_eq_getElem hn];rfl
 rw [hgs] at h;generalize b.ss[n]=s at h0 hpc hpl h;have ht:t=if inB 0 0 (s.length:Int) then 0 else 1:=by
  rw [<- h];simp only [inB] at hin;have hle:(n:Int)<=((b.ss.length:Nat):Int) - 1:=by omega
  simp [hin,inB,hle]
 clear h hgs;have HIN:=Hh hin;clear hin;cases hi2:inB 0 0 (s.length:Int)
 all_goals
  have HI2:=Hh hi2;rw [hi2] at ht;simp only [if_true,if_false,Bool.false_eq_true] at ht;subst ht;clear hi2
  go_enter Tryz.func79,Tryz.ntmps79
  go_wp2_with (first | (go_at_call 103;(with_reducible refine (there_at hsl HIN.out).mono ?_);rintro e w' ⟨rfl,rfl⟩) | (go_at_call 76;(with_reducible refine (rin_at HI2.out).mono ?_);rintro e w' ⟨rfl,rfl⟩));go_ret;exact ⟨rfl,bel⟩
theorem rRec_1 (hB:BookAt w b vr vg vm vs vc) (hG:∀ m∈b.ms,0<=m.groups/\m.groups<=1000) (a rb m:Int) {t:Int} (h:recAl b ⟨1,a,rb,m⟩=t) :
 Calls Tryz.prog 79 #[.agg #[vr,vg,vm,vs,vc],.agg #[.int .i64 1,.int .i64 a,.int .i64 rb,.int .i64 m]] w fun e w'=>e=.returned (.int .i64 t)/\Below w.heap.size w w':=by
 obtain ⟨rfl,rfl,⟨ma,mc,rfl,hM,hml⟩,⟨sa,sc,rfl,hS,hsl⟩,ra,rc,rfl,_,_⟩:=id hB;have HB:=Hh hB;have HG:=Hh hG;have HM:=Hh hM;have HS:=Hh hS;clear hB hG hM hS;unfold recAl at h;simp only [inB,usesB,usesMany,most] at h;by_cases hb:rb=0
 case neg =>
  have ht:t=1:=by rw [<- h];simp [hb]
  subst ht;clear h;have hb2:(rb != 0)=true:=by simpa using hb
  go_enter Tryz.func79,Tryz.ntmps79
  go_wp2;go_ret;exact ⟨rfl,bel⟩
 subst hb;by_cases hm:m=0
 case neg =>
  have ht:t=1:=by rw [<- h];simp [hm]
  subst ht;clear h;have hm2:(m != 0)=true:=by simpa using hm
  go_enter Tryz.func79,Tryz.ntmps79
  go_wp2;go_ret;exact ⟨rfl,bel⟩
 subst hm;cases hin:inB a 0 ((b.ss.length:Int) - 1)
 case false =>
  have ht:t=6:=by rw [<- h];simp only [inB] at hin;simp [hin]
  subst ht;have HIN:=Hh hin;clear h hin
  go_enter Tryz.func79,Tryz.ntmps79
  go_wp2_with (go_at_call 103;(with_reducible refine (there_at hsl HIN.out).mono ?_);rintro e w' ⟨rfl,rfl⟩);go_ret;exact ⟨rfl,bel⟩
 have ha:0<=a/\a.toNat < b.ss.length:=by unfold inB at hin;simp only [decide_eq_true_eq] at hin;omega
 obtain ⟨n,rfl⟩:∃ n:Nat,a=n:=⟨a.toNat,by omega⟩;have hn:n < b.ss.length:=by omega
 have hn0:(0:Int)<=n:=by omega
 obtain ⟨sb,so,rfl,hsb,pa,pc,h0,hpc,hpl,_⟩:=HS.out n hn;have hgs:((b.ss[(n:Int).toNat]?).elim 0 List.length:Nat)=b.ss[n].length:=by rw [Int.toNat_natCast,List.getElem?_eq_getElem hn];rfl
 rw [hgs] at h;generalize b.ss[n]=s at h0 hpc hpl h;have ht:t=if inB 0 0 (s.length:Int) then 0 else 1:=by
  rw [<- h];simp only [inB] at hin;have hle:(n:Int)<=((b.ss.length:Nat):Int) - 1:=by omega
  simp [hin,inB,hle]
 clear h hgs;have HIN:=Hh hin;clear hin;cases hi2:inB 0 0 (s.length:Int)
 all_goals
  have HI2:=Hh hi2;rw [hi2] at ht;simp only [if_true,if_false,Bool.false_eq_true] at ht;subst ht;clear hi2
  go_enter Tryz.func79,Tryz.ntmps79
  go_wp2_with (first | (go_at_call 103;(with_reducible refine (there_at hsl HIN.out).mono ?_);rintro e w' ⟨rfl,rfl⟩) | (go_at_call 76;(with_reducible refine (rin_at HI2.out).mono ?_);rintro e w' ⟨rfl,rfl⟩));go_ret;exact ⟨rfl,bel⟩
theorem rRec_2 (hB:BookAt w b vr vg vm vs vc) (hG:∀ m∈b.ms,0<=m.groups/\m.groups<=1000) (a rb m:Int) {t:Int} (h:recAl b ⟨2,a,rb,m⟩=t) :
 Calls Tryz.prog 79 #[.agg #[vr,vg,vm,vs,vc],.agg #[.int .i64 2,.int .i64 a,.int .i64 rb,.int .i64 m]] w fun e w'=>e=.returned (.int .i64 t)/\Below w.heap.size w w':=by
 obtain ⟨rfl,rfl,⟨ma,mc,rfl,hM,hml⟩,⟨sa,sc,rfl,hS,hsl⟩,ra,rc,rfl,_,_⟩:=id hB;have HB:=Hh hB;have HG:=Hh hG;have HM:=Hh hM;have HS:=Hh hS;clear hB hG hM hS;unfold recAl at h;simp only [inB,usesB,usesMany,most] at h;by_cases hb:rb=0
 case neg =>
  have ht:t=1:=by rw [<- h];simp [hb]
  subst ht;clear h;have hb2:(rb != 0)=true:=by simpa using hb
  go_enter Tryz.func79,Tryz.ntmps79
  go_wp2;go_ret;exact ⟨rfl,bel⟩
 subst hb;cases hin:inB a 0 ((b.ss.length:Int) - 1)
 case false =>
  have ht:t=6:=by rw [<- h];simp only [inB] at hin;simp [hin]
  subst ht;have HIN:=Hh hin;clear h hin
  go_enter Tryz.func79,Tryz.ntmps79
  go_wp2_with (go_at_call 103;(with_reducible refine (there_at hsl HIN.out).mono ?_);rintro e w' ⟨rfl,rfl⟩);go_ret;exact ⟨rfl,bel⟩
 have ha:0<=a/\a.toNat < b.ss.length:=by unfold inB at hin;simp only [decide_eq_true_eq] at hin;omega
 obtain ⟨n,rfl⟩:∃ n:Nat,a=n:=⟨a.toNat,by omega⟩;have hn:n < b.ss.length:=by omega
 have hn0:(0:Int)<=n:=by omega
 obtain ⟨sb,so,rfl,hsb,pa,pc,h0,hpc,hpl,_⟩:=HS.out n hn;have hgs:((b.ss[(n:Int).toNat]?).elim 0 List.length:Nat)=b.ss[n].length:=by rw [Int.toNat_natCast,List.getElem?_eq_getElem hn];rfl
 rw [hgs] at h;generalize b.ss[n]=s at h0 hpc hpl h;have ht:t=if inB m 0 (s.length:Int) then 0 else 1:=by
  rw [<- h];simp only [inB] at hin;have hle:(n:Int)<=((b.ss.length:Nat):Int) - 1:=by omega
  simp [hin,inB,hle]
 clear h hgs;have HIN:=Hh hin;clear hin;cases hi2:inB m 0 (s.length:Int)
 all_goals
  have HI2:=Hh hi2;rw [hi2] at ht;simp only [if_true,if_false,Bool.false_eq_true] at ht;subst ht;clear hi2
  go_enter Tryz.func79,Tryz.ntmps79
  go_wp2_with (first | (go_at_call 103;(with_reducible refine (there_at hsl HIN.out).mono ?_);rintro e w' ⟨rfl,rfl⟩) | (go_at_call 76;(with_reducible refine (rin_at HI2.out).mono ?_);rintro e w' ⟨rfl,rfl⟩));go_ret;exact ⟨rfl,bel⟩
theorem rRec_3 (hB:BookAt w b vr vg vm vs vc) (hG:∀ m∈b.ms,0<=m.groups/\m.groups<=1000) (a rb m:Int) {t:Int} (h:recAl b ⟨3,a,rb,m⟩=t) :
 Calls Tryz.prog 79 #[.agg #[vr,vg,vm,vs,vc],.agg #[.int .i64 3,.int .i64 a,.int .i64 rb,.int .i64 m]] w fun e w'=>e=.returned (.int .i64 t)/\Below w.heap.size w w':=by
 obtain ⟨rfl,rfl,⟨ma,mc,rfl,hM,hml⟩,⟨sa,sc,rfl,hS,hsl⟩,ra,rc,rfl,_,_⟩:=id hB;have HB:=Hh hB;have HG:=Hh hG;have HM:=Hh hM;have HS:=Hh hS;clear hB hG hM hS;unfold recAl at h;simp only [inB,usesB,usesMany,most] at h;by_cases hb:rb=0
 case neg =>
  have ht:t=1:=by rw [<- h];simp [hb]
  subst ht;clear h;have hb2:(rb != 0)=true:=by simpa using hb
  go_enter Tryz.func79,Tryz.ntmps79
  go_wp2;go_ret;exact ⟨rfl,bel⟩
 subst hb;cases hin:inB a 0 ((b.ss.length:Int) - 1)
 case false =>
  have ht:t=6:=by rw [<- h];simp only [inB] at hin;simp [hin]
  subst ht;have HIN:=Hh hin;clear h hin
  go_enter Tryz.func79,Tryz.ntmps79
  go_wp2_with (go_at_call 103;(with_reducible refine (there_at hsl HIN.out).mono ?_);rintro e w' ⟨rfl,rfl⟩);go_ret;exact ⟨rfl,bel⟩
 have ha:0<=a/\a.toNat < b.ss.length:=by unfold inB at hin;simp only [decide_eq_true_eq] at hin;omega
 obtain ⟨n,rfl⟩:∃ n:Nat,a=n:=⟨a.toNat,by omega⟩;have hn:n < b.ss.length:=by omega
 have hn0:(0:Int)<=n:=by omega
 obtain ⟨sb,so,rfl,hsb,pa,pc,h0,hpc,hpl,_⟩:=HS.out n hn;have hgs:((b.ss[(n:Int).toNat]?).elim 0 List.length:Nat)=b.ss[n].length:=by rw [Int.toNat_natCast,List.getElem?_eq_getElem hn];rfl
 rw [hgs] at h;generalize b.ss[n]=s at h0 hpc hpl h;have ht:t=if inB m 0 (s.length:Int) then 0 else 1:=by
  rw [<- h];simp only [inB] at hin;have hle:(n:Int)<=((b.ss.length:Nat):Int) - 1:=by omega
  simp [hin,inB,hle]
 clear h hgs;have HIN:=Hh hin;clear hin;cases hi2:inB m 0 (s.length:Int)
 all_goals
  have HI2:=Hh hi2;rw [hi2] at ht;simp only [if_true,if_false,Bool.false_eq_true] at ht;subst ht;clear hi2
  go_enter Tryz.func79,Tryz.ntmps79
  go_wp2_with (first | (go_at_call 103;(with_reducible refine (there_at hsl HIN.out).mono ?_);rintro e w' ⟨rfl,rfl⟩) | (go_at_call 76;(with_reducible refine (rin_at HI2.out).mono ?_);rintro e w' ⟨rfl,rfl⟩));go_ret;exact ⟨rfl,bel⟩
theorem rRec_4 (hB:BookAt w b vr vg vm vs vc) (hG:∀ m∈b.ms,0<=m.groups/\m.groups<=1000) (a rb m:Int) {t:Int} (h:recAl b ⟨4,a,rb,m⟩=t) :
 Calls Tryz.prog 79 #[.agg #[vr,vg,vm,vs,vc],.agg #[.int .i64 4,.int .i64 a,.int .i64 rb,.int .i64 m]] w fun e w'=>e=.returned (.int .i64 t)/\Below w.heap.size w w':=by
 obtain ⟨rfl,rfl,⟨ma,mc,rfl,hM,hml⟩,⟨sa,sc,rfl,hS,hsl⟩,ra,rc,rfl,_,_⟩:=id hB;have HB:=Hh hB;have HG:=Hh hG;have HM:=Hh hM;have HS:=Hh hS;clear hB hG hM hS;unfold recAl at h;simp only [inB,usesB,usesMany,most] at h;cases hin:isPart b (a,rb)
 case false =>
  have ht:t=6:=by rw [<- h];simp [hin]
  subst ht;have HIN:=Hh hin;clear h hin
  go_enter Tryz.func79,Tryz.ntmps79
  go_wp2_with (go_at_call 101;(with_reducible refine (rIs_at (p:=(a,rb)) (HB.out.below (bel)) HG.out HIN.out).mono ?_);rintro e w1 ⟨rfl,hb1⟩);go_ret;exact ⟨rfl,bel⟩
 have ht:t=if inB m 0 (b.ss.length:Int) then 0 else 1:=by rw [<- h];simp [hin,inB]
 have HIN:=Hh hin;clear h hin;cases hi2:inB m 0 (b.ss.length:Int)
 all_goals
  have HI2:=Hh hi2;rw [hi2] at ht;simp only [if_true,if_false,Bool.false_eq_true] at ht;subst ht;clear hi2
  go_enter Tryz.func79,Tryz.ntmps79
  go_wp2_with (first | (go_at_call 101;(with_reducible refine (rIs_at (p:=(a,rb)) (HB.out.below (bel)) HG.out HIN.out).mono ?_);rintro e w1 ⟨rfl,hb1⟩;obtain ⟨hc1,hf1⟩:=bcell hb1;have hz1:=hb1.size;(try simp at hz1)) | (go_at_call 76;(with_reducible refine (rin_at HI2.out).mono ?_);rintro e w' ⟨rfl,rfl⟩));go_ret;exact ⟨rfl,bel⟩
theorem rRec_5 (hB:BookAt w b vr vg vm vs vc) (hG:∀ m∈b.ms,0<=m.groups/\m.groups<=1000) (a rb m:Int) {t:Int} (h:recAl b ⟨5,a,rb,m⟩=t) :
 Calls Tryz.prog 79 #[.agg #[vr,vg,vm,vs,vc],.agg #[.int .i64 5,.int .i64 a,.int .i64 rb,.int .i64 m]] w fun e w'=>e=.returned (.int .i64 t)/\Below w.heap.size w w':=by
 obtain ⟨rfl,rfl,⟨ma,mc,rfl,hM,hml⟩,⟨sa,sc,rfl,hS,hsl⟩,ra,rc,rfl,_,_⟩:=id hB;have HB:=Hh hB;have HG:=Hh hG;have HM:=Hh hM;have HS:=Hh hS;clear hB hG hM hS;unfold recAl at h;simp only [inB,usesB,usesMany,most] at h;by_cases hb:rb=0
 case neg =>
  have ht:t=1:=by rw [<- h];simp [hb]
  subst ht;clear h;have hb2:(rb != 0)=true:=by simpa using hb
  go_enter Tryz.func79,Tryz.ntmps79
  go_wp2;go_ret;exact ⟨rfl,bel⟩
 subst hb;cases hin:inB a 0 ((b.ms.length:Int) - 1)
 case false =>
  have ht:t=6:=by rw [<- h];simp only [inB] at hin;simp [hin]
  subst ht;have HIN:=Hh hin;clear h hin
  go_enter Tryz.func79,Tryz.ntmps79
  go_wp2_with (go_at_call 103;(with_reducible refine (there_at hml HIN.out).mono ?_);rintro e w' ⟨rfl,rfl⟩);go_ret;exact ⟨rfl,bel⟩
 have ha:0<=a/\a.toNat < b.ms.length:=by unfold inB at hin;simp only [decide_eq_true_eq] at hin;omega
 obtain ⟨n,rfl⟩:∃ n:Nat,a=n:=⟨a.toNat,by omega⟩;have hn:n < b.ms.length:=by omega
 have hn0:(0:Int)<=n:=by omega
 obtain ⟨mb,mo,rfl,hmb,_,h0,_⟩:=HM.out n hn;have hgs:((b.ms[(n:Int).toNat]?).elim 0 Msg.groups)=b.ms[n].groups:=by rw [Int.toNat_natCast,List.getElem?_eq_getElem hn];rfl
 rw [hgs] at h;generalize b.ms[n].groups=gr at h0 h;have ht:t=if inB m 0 gr then 0 else 1:=by
  rw [<- h];simp only [inB] at hin;have hle:(n:Int)<=((b.ms.length:Nat):Int) - 1:=by omega
  simp [hin,inB,hle]
 clear h hgs;have HIN:=Hh hin;clear hin;cases hi2:inB m 0 gr
 all_goals
  have HI2:=Hh hi2;rw [hi2] at ht;simp only [if_true,if_false,Bool.false_eq_true] at ht;subst ht;clear hi2
  go_enter Tryz.func79,Tryz.ntmps79
  go_wp2_with (first | (go_at_call 103;(with_reducible refine (there_at hml HIN.out).mono ?_);rintro e w' ⟨rfl,rfl⟩) | (go_at_call 76;(with_reducible refine (rin_at HI2.out).mono ?_);rintro e w' ⟨rfl,rfl⟩));go_ret;exact ⟨rfl,bel⟩
theorem rRec_at (hB:BookAt w b vr vg vm vs vc) (hG:∀ m∈b.ms,0<=m.groups/\m.groups<=1000) (r:Rec) {t:Int} (h:recAl b r=t) :
 Calls Tryz.prog 79 #[.agg #[vr,vg,vm,vs,vc],.agg #[.int .i64 r.k,.int .i64 r.a,.int .i64 r.b,.int .i64 r.m]] w fun e w'=>e=.returned (.int .i64 t)/\Below w.heap.size w w':=by
 obtain ⟨k,a,rb,m⟩:=r;by_cases hk:inB k 0 5=false
 ·have ht:t=1:=by rw [<- h];unfold recAl;simp [hk]
  subst ht;exact rRec_no _ _ _ _ _ _ _ _ _ _ hk
 ·have hk2:k=0\/k=1\/k=2\/k=3\/k=4\/k=5:=by unfold inB at hk;simp only [decide_eq_false_iff_not,Classical.not_not] at hk;omega
  rcases hk2 with rfl | rfl | rfl | rfl | rfl | rfl
  ·exact rRec_0 hB hG a rb m h
  ·exact rRec_1 hB hG a rb m h
  ·exact rRec_2 hB hG a rb m h
  ·exact rRec_3 hB hG a rb m h
  ·exact rRec_4 hB hG a rb m h
  ·exact rRec_5 hB hG a rb m h
end
section
variable {b:Bk} {vr vg vm vs vc:Value} {w:World}
theorem rCheckBook_at (hB:BookAt w b vr vg vm vs vc) (hN:∀ m∈b.ms,m.name.size<=1000000) {t:Int} (h:bookAl b=t) :
 Calls Tryz.prog 34 #[.agg #[vr,vg,vm,vs,vc]] w fun e w'=>e=.returned (.int .i64 t)/\Below w.heap.size w w':=by
 obtain ⟨rfl,rfl,⟨ma,mc,rfl,hM,hml⟩,⟨sa,sc,rfl,hS,hsl⟩,ra,rc,rfl,hR,hrl⟩:=id hB;have HB:=Hh hB;have HN:=Hh hN;have HR:=Hh hR;clear hB hM hS hN hR;unfold bookAl at h;by_cases hnm:numbersAl b=0
 case neg =>
  have h1:t=1:=by
   rw [if_pos hnm] at h;rw [<- h];unfold numbersAl at hnm ⊢;split at hnm
   ·exact absurd rfl hnm
   ·rename_i hh;rw [if_neg hh]
  subst h1;have hor:inB b.room 1 20=false\/(inB b.room 1 20=true/\inB b.gap 0 99=false):=by
   unfold numbersAl at hnm;cases h1:inB b.room 1 20
   ·exact .inl rfl
   ·cases h2:inB b.gap 0 99
    ·exact .inr ⟨rfl,rfl⟩
    ·rw [h1,h2] at hnm;simp at hnm
  clear h hnm;rcases hor with h1 | ⟨h1,h2⟩
  ·have H1:=Hh h1;clear h1
   go_enter Tryz.func34,Tryz.ntmps34
   go_wp2_with (go_at_call 76;(with_reducible refine (rin_at H1.out).mono ?_);rintro e w' ⟨rfl,rfl⟩);go_ret;exact ⟨rfl,bel⟩
  ·have H1:=Hh h1;have H2:=Hh h2;clear h1 h2
   go_enter Tryz.func34,Tryz.ntmps34
   go_wp2_with (first | (go_at_call 76;(with_reducible refine (rin_at H1.out).mono ?_);rintro e w' ⟨rfl,rfl⟩) | (go_at_call 76;(with_reducible refine (rin_at H2.out).mono ?_);rintro e w' ⟨rfl,rfl⟩));go_ret;exact ⟨rfl,bel⟩
 rw [if_neg (by simpa using hnm)] at h;have hnn:inB b.room 1 20=true/\inB b.gap 0 99=true:=by
  unfold numbersAl at hnm;cases h1:inB b.room 1 20
  ·rw [h1] at hnm;simp at hnm
  ·cases h2:inB b.gap 0 99
   ·rw [h1,h2] at hnm;simp at hnm
   ·exact ⟨rfl,rfl⟩
 have H1:=Hh hnn.1;have H2:=Hh hnn.2;clear hnm hnn;by_cases hms:msgsAl b=0
 case neg =>
  rw [if_pos hms] at h;have HMS:=Hh h;have hz3:(t != 0)=true:=by rw [<- h];simpa using hms
  clear h hms
  go_enter Tryz.func34,Tryz.ntmps34
  go_wp2_with (first
   | (go_at_call 76;(with_reducible refine (rin_at H1.out).mono ?_);rintro e w' ⟨rfl,rfl⟩)
   | (go_at_call 76;(with_reducible refine (rin_at H2.out).mono ?_);rintro e w' ⟨rfl,rfl⟩)
   | (go_at_call 77;(with_reducible refine (rMessages_at (HB.out.below (bel)) HN.out HMS.out).mono ?_);rintro e w1 ⟨rfl,hb1⟩))
  go_ret;exact ⟨rfl,bel⟩
 rw [if_neg (by simpa using hms)] at h;have HMS:=Hh hms;have HG:=Hh (msgsAl_ok hms);clear hms;by_cases hss:sessAl b=0
 case neg =>
  rw [if_pos hss] at h;have HSS:=Hh h;have hz3:(t != 0)=true:=by rw [<- h];simpa using hss
  clear h hss
  go_enter Tryz.func34,Tryz.ntmps34
  go_wp2_with (first
   | (go_at_call 76;(with_reducible refine (rin_at H1.out).mono ?_);rintro e w' ⟨rfl,rfl⟩)
   | (go_at_call 76;(with_reducible refine (rin_at H2.out).mono ?_);rintro e w' ⟨rfl,rfl⟩)
   | (go_at_call 77;(with_reducible refine (rMessages_at (HB.out.below (bel)) HN.out HMS.out).mono ?_);rintro e w1 ⟨rfl,hb1⟩;obtain ⟨hc1,hf1⟩:=bcell hb1;have hz1:w.heap.size < w1.heap.size:=(by have:=hb1.size;simp at this;omega))
   | (go_at_call 78;(with_reducible refine (rSessions_at (HB.out.below (bel)) HG.out HSS.out).mono ?_);rintro e w2 ⟨rfl,hb2⟩))
  go_ret;exact ⟨rfl,bel⟩
 rw [if_neg (by simpa using hss)] at h;have HSS:=Hh hss;clear hss;have HR2:=Hh h;clear h;have hz0:((0:Int) != 0)=false:=rfl;have key:∀ (v:Prop),v->v:=fun _ h=>h
 go_enter Tryz.func34,Tryz.ntmps34
 go_wp2_with (first
  | (go_at_call 76;(with_reducible refine (rin_at H1.out).mono ?_);rintro e w' ⟨rfl,rfl⟩)
  | (go_at_call 76;(with_reducible refine (rin_at H2.out).mono ?_);rintro e w' ⟨rfl,rfl⟩)
  | (go_at_call 77;(with_reducible refine (rMessages_at (HB.out.below (bel)) HN.out HMS.out).mono ?_);rintro e w1 ⟨rfl,hb1⟩;obtain ⟨hc1,hf1⟩:=bcell hb1;have hz1:w.heap.size < w1.heap.size:=(by have:=hb1.size;simp at this;omega))
  | (go_at_call 78;(with_reducible refine (rSessions_at (HB.out.below (bel)) HG.out HSS.out).mono ?_);rintro e w2 ⟨rfl,hb2⟩;obtain ⟨hc2,hf2⟩:=bcell hb2;have hz2:w.heap.size < w2.heap.size:=(by have:=hb2.size;omega)))
 ·have hr:=HR2.out;unfold recsAl at hr;rw [if_pos (by omega)] at hr;subst hr;go_ret;exact ⟨rfl,bel⟩
 ·have hbw:Below w.heap.size w w2:=bel;have nn:∀ k u,(#[.int .i64 b.room,.int .i64 b.gap,.slice ma b.ms.length mc,.slice sa b.ss.length sc,.slice ra b.rs.length rc]:Array Value)[k]? = some u->w2.cell? ⟨w.heap.size,k,none⟩=some u:=fun k u hk=>by
   rw [hc2 _ _ hz1,hc1 _ _ (by simp),World.cell?_alloc_at _ _ _ _ rfl];exact hk
  have n0:=nn 0 _ rfl;have n1:=nn 1 _ rfl;have n2:=nn 2 _ rfl;have n3:=nn 3 _ rfl;have n4:=nn 4 _ rfl;have hr:=HR2.out;unfold recsAl at hr;rw [if_neg (by omega)] at hr;have HR3:=Hh hr;clear nn hc1 hf1 hc2 hf2 hr hb1 hb2 hz1;go_loopw [5] (fun i wr=>∃ (k:Nat),k<=b.rs.length/\i=.int .i64 k/\Hid (goR b (b.rs.drop k)=t)/\Below w2.heap.size w2 wr) (fun i _=>b.rs.length - (intOf i).toNat)
  case atStart=>exact ⟨0,Nat.zero_le _,rfl,HR3.out,Below.refl _ _⟩
  case round =>
   obtain ⟨k,hk,rfl,hG0,hW⟩:=hrel;have hWs:=hW.size;have m0:=(hW.cell (p:=⟨w.heap.size,0,none⟩) hz2).trans n0;have m1:=(hW.cell (p:=⟨w.heap.size,1,none⟩) hz2).trans n1;have m2:=(hW.cell (p:=⟨w.heap.size,2,none⟩) hz2).trans n2;have m3:=(hW.cell (p:=⟨w.heap.size,3,none⟩) hz2).trans n3;have m4:=(hW.cell (p:=⟨w.heap.size,4,none⟩) hz2).trans n4;have hx2:w.heap.size < wr.heap.size:=by omega
   have hbr:=Below.next hbw hW;have hg0:=hG0.out;by_cases hlt:k < b.rs.length
   ·obtain ⟨rb,ro,rfl,hrb,e0,e1,e2,e3⟩:=HR.out k hlt;have e0:=(hbr.cell hrb).trans e0;have e1:=(hbr.cell hrb).trans e1;have e2:=(hbr.cell hrb).trans e2;have e3:=(hbr.cell hrb).trans e3;have hrb2:rb < wr.heap.size:=Nat.lt_of_lt_of_le hrb hbr.size;rw [List.drop_eq_getElem_cons hlt,goR] at hg0;generalize b.rs[k]=r at e0 e1 e2 e3 hg0;obtain ⟨rk,rA,rB,rm⟩:=r;simp only at e0 e1 e2 e3;have HBr:=Hh (HB.out.below hbr);have hg1:=fun (x:Int) (hx:recAl b ⟨rk,rA,rB,rm⟩=x)=>hx;by_cases hra:recAl b ⟨rk,rA,rB,rm⟩=0
    ·rw [if_neg (by simpa using hra)] at hg0;have HRA:=Hh hra;have HG0:=Hh hg0;clear hra hg0 hg1;go_wp2
     (refine wp_region_bel (by kernel_rfl) (by kernel_rfl) ?_;(repeat (go_big_quiet_step ((go_at_call 79;with_reducible exact Calls.bel_of (rRec_at (HBr.out.below (later_below _ _)) HG.out ⟨rk,rA,rB,rm⟩ HRA.out)))));refine wpQuiet_nil ?_;rintro _ ⟨xq,rfl⟩)
     go_wp2;go_roundw
     case rel=>exact ⟨k+1,by omega,by go_num,HG0.out,Below.next hW (later_below _ _)⟩
     case measure=>simp [intOf];omega
    ·rw [if_pos hra] at hg0;have HRA:=Hh hg0;have hz3:(t != 0)=true:=by rw [<- hg0];simpa using hra
     clear hra hg0 hg1;go_wp2
     (refine wp_region_bel (by kernel_rfl) (by kernel_rfl) ?_;(repeat (go_big_quiet_step ((go_at_call 79;with_reducible exact Calls.bel_of (rRec_at (HBr.out.below (later_below _ _)) HG.out ⟨rk,rA,rB,rm⟩ HRA.out)))));refine wpQuiet_nil ?_;rintro _ ⟨xq,rfl⟩)
     go_wp2;go_ret;exact ⟨rfl,Below.next hbr (later_below _ _)⟩
   ·rw [List.drop_eq_nil_of_le (by omega)] at hg0;simp only [goR] at hg0;subst hg0;go_wp2;go_ret;exact ⟨rfl,hbr⟩
end
theorem getD_of_lt {l:List Int} {k:Nat} (h:k < l.length):l.getD k 0=l[k]:=by simp [List.getD,h]
theorem count_nodup {l:List Prt} (h:l.Nodup) (p:Prt):l.count p=if decide (p∈l)=true then 1 else 0:=by
 rw [h.count];simp only [decide_eq_true_eq]
theorem copiesK_le {b:Bk} (hO:BkOk b) {c:List Int} (hlc:c.length=b.ss.length) (p:Prt):∀ k,k<=b.ss.length->copiesK b c k p<=k
 | 0,_=>by simp [copiesK]
 | k+1,h=>by
  rw [copiesK_succ b c k p (by omega) (by omega),count_nodup ((List.take_sublist _ _).nodup (hO.nodup _ (List.getElem_mem (by omega))))];have:=copiesK_le hO hlc p k (by omega);split <;> omega
section
variable {b:Bk} {vr vg vm vs vc:Value} {w:World}
theorem rCopies_at (hB:BookAt w b vr vg vm vs vc) (hO:BkOk b) {la:Option Addr} {ln lc:Nat} {l:List Int} (hL:IntsAt w la l) (hln:ln=l.length) (hll:l.length=b.ss.length) (hC:Came b l) (p:Prt) {t:Int} (ht:copies b l p=t) :
 Calls Tryz.prog 130 #[.agg #[vr,vg,vm,vs,vc],.slice la ln lc,.agg #[.int .i64 p.1,.int .i64 p.2]] w fun e w'=>e=.returned (.int .i64 t)/\Below w.heap.size w w':=by
 obtain ⟨pm,pg⟩:=p;subst hln;obtain ⟨sa,sc,rfl,hS,hsl⟩:=hB.ss;have hs4:=hO.sl;have HS:=Hh hS;have HO:=Hh hO;have HL:=Hh hL;have HC:=Hh hC;have HT:=Hh ht;clear hB hO hL hC hS ht
 go_enter Tryz.func130,Tryz.ntmps130
 go_wp2;obtain ⟨W0,hW0⟩:∃ W0,W0=(w.alloc (.cells #[vr,vg,vm,.slice sa b.ss.length sc,vc] 26)).alloc (.cells #[.int .i64 pm,.int .i64 pg] 76):=⟨_,rfl⟩;rw [<- hW0];have hb0:Below w.heap.size w W0:=by rw [hW0];(exact bel)
 have n3:W0.cell? ⟨w.heap.size,3,none⟩=some (.slice sa b.ss.length sc):=by rw [hW0,World.cell?_alloc_past _ _ _ (by simp),World.cell?_alloc_at _ _ _ _ rfl];rfl
 have p0:W0.cell? ⟨w.heap.size+1,0,none⟩=some (.int .i64 pm):=by rw [hW0,World.cell?_alloc_at _ _ _ _ (by simp)];rfl
 have p1:W0.cell? ⟨w.heap.size+1,1,none⟩=some (.int .i64 pg):=by rw [hW0,World.cell?_alloc_at _ _ _ _ (by simp)];rfl
 have hs0:w.heap.size+1 < W0.heap.size:=by rw [hW0];simp
 clear hW0;go_loopw [7,8] (fun v i wr=>∃ (k:Nat),k<=l.length/\i=.int .i64 k/\v=.int .i64 (copiesK b l k (pm,pg):Nat)/\Below W0.heap.size W0 wr) (fun _ i _=>l.length - (intOf i).toNat)
 case atStart=>exact ⟨0,Nat.zero_le _,rfl,by simp [copiesK],Below.refl _ _⟩
 case round =>
  obtain ⟨k,hk,rfl,rfl,hW⟩:=hrel;have hWs:=hW.size;have m3:=(hW.cell (p:=⟨w.heap.size,3,none⟩) (by simp;omega)).trans n3;have q0:=(hW.cell (p:=⟨w.heap.size+1,0,none⟩) hs0).trans p0;have q1:=(hW.cell (p:=⟨w.heap.size+1,1,none⟩) hs0).trans p1;have hx1:w.heap.size < wr.heap.size:=by omega
  have hx2:w.heap.size+1 < wr.heap.size:=by omega
  have hbw:=Below.next hb0 hW;have hcle:=copiesK_le HO.out hll (pm,pg) k (by omega);by_cases hlt:k < l.length
  ·have hks:k < b.ss.length:=by omega
   obtain ⟨lb,lo,rfl,hlb,e0⟩:=HL.out k hlt;have e0:=(hbw.cell hlb).trans e0;have hlb2:lb < wr.heap.size:=Nat.lt_of_lt_of_le hlb hbw.size;obtain ⟨sb,so,rfl,hsb,pa,pc,h0,hpc,hpl,hP⟩:=HS.out k hks;have h0:=(hbw.cell hsb).trans h0;have hsb2:sb < wr.heap.size:=Nat.lt_of_lt_of_le hsb hbw.size;have hck:=HC.out k hks;rw [getD_of_lt hlt] at hck;have hcs:=copiesK_succ b l k (pm,pg) hks hlt;rw [getD_of_lt hlt,count_nodup ((List.take_sublist _ _).nodup (HO.out.nodup _ (List.getElem_mem hks)))] at hcs;generalize l[k]=n at e0 hck hcs;obtain ⟨n,rfl⟩:∃ m:Nat,n=m:=⟨n.toNat,by omega⟩;have HPT:=Hh ((hP.below hbw).take n);generalize b.ss[k]=s at h0 hpc hpl hck hcs HPT;have hn:n<=s.length:=by omega
   have hnpc:(n:Int)<=pc:=by omega
   have hn0:(0:Int)<=n:=by omega
   have hln:n=(s.take n).length:=by simp;omega
   have HLN:=Hh hln;have hll2:(s.take n).length<=1000000:=by simp;omega
   rw [Int.toNat_natCast] at hcs;have hb1:Below wr.heap.size wr wr:=Below.refl _ _;have hwr:IntKind.i64.wrap ((copiesK b l k (pm,pg):Nat)+1:Int)=((copiesK b l k (pm,pg)+1:Nat):Int):=by rw [IntWalk.i64_in _ (by omega)];omega
   generalize copiesK b l k (pm,pg)=ck at hcs hwr hcle;cases hd:decide ((pm,pg)∈s.take n)
   ·have HD:=Hh hd;rw [hd] at hcs;simp only [Bool.false_eq_true,if_false,Nat.add_zero] at hcs;have HCS:=Hh hcs;clear hd hcs hln hP hck;go_wp2
    (refine wp_region_bel (by kernel_rfl) (by kernel_rfl) ?_;(repeat (go_big_quiet_step ((go_at_call 102;with_reducible exact Calls.bel_of (has_at (p:=(pm,pg)) (HPT.out.below (later_below _ _)) HLN.out hll2 HD.out)))));refine wpQuiet_nil ?_;rintro _ ⟨xq,rfl⟩)
    go_wp2;go_roundw
    case rel=>exact ⟨k+1,by omega,by go_num,by first | (rw [HCS.out];done) | (rw [HCS.out];rfl) | (rw [HCS.out];simp),Below.next hW (later_below _ _)⟩
    case measure=>simp [intOf];omega
   ·have HD:=Hh hd;rw [hd] at hcs;simp only [if_true] at hcs;have HCS:=Hh hcs;clear hd hcs hln hP hck;go_wp2
    (refine wp_region_bel (by kernel_rfl) (by kernel_rfl) ?_;(repeat (go_big_quiet_step ((go_at_call 102;with_reducible exact Calls.bel_of (has_at (p:=(pm,pg)) (HPT.out.below (later_below _ _)) HLN.out hll2 HD.out)))));refine wpQuiet_nil ?_;rintro _ ⟨xq,rfl⟩)
    go_wp2;go_roundw
    case rel=>exact ⟨k+1,by omega,by go_num,by first | (rw [HCS.out];done) | (rw [HCS.out];rfl) | (rw [HCS.out];simp),Below.next hW (later_below _ _)⟩
    case measure=>simp [intOf];omega
  ·obtain rfl:k=l.length:=by omega
   have htt:((copiesK b l l.length (pm,pg):Nat):Int)=t:=by rw [hll,copiesK_all];exact HT.out
   have HTT:=Hh htt;clear htt;go_wp2;go_ret;exact ⟨by rw [<- HTT.out];rfl,hbw⟩
theorem haveOf_succ (b:Bk) (c:List Int) (m:Int) (k:Nat):((List.range (k+1)).filter fun (g:Nat)=>decide (0 < copies b c (m,(g:Int)))).length=((List.range k).filter fun (g:Nat)=>decide (0 < copies b c (m,(g:Int)))).length+if 0 < copies b c (m,(k:Int)) then 1 else 0:=by
 rw [List.range_succ,List.filter_append,List.length_append];congr 1;by_cases h:0 < copies b c (m,(k:Int)) <;> simp [h]
theorem have_le (b:Bk) (c:List Int) (m:Int) (k:Nat):((List.range k).filter fun (g:Nat)=>decide (0 < copies b c (m,(g:Int)))).length<=k:=Nat.le_trans (List.length_filter_le _ _) (by simp)
theorem rHave_at (hB:BookAt w b vr vg vm vs vc) (hO:BkOk b) {la:Option Addr} {ln lc:Nat} {l:List Int} (hL:IntsAt w la l) (hln:ln=l.length) (hll:l.length=b.ss.length) (hC:Came b l) {m:Int} (hm:0<=m/\m.toNat < b.ms.length) {t:Int} (ht:haveOf b l m=t) :
 Calls Tryz.prog 131 #[.agg #[vr,vg,vm,vs,vc],.slice la ln lc,.int .i64 m] w fun e w'=>e=.returned (.int .i64 t)/\Below w.heap.size w w':=by
 have hcop:=fun (p:Prt) (w':World) (hb:Below w.heap.size w w')=>rCopies_at (lc:=lc) (hB.below hb) hO (hL.below hb) hln hll hC p rfl;obtain ⟨ma,mc,rfl,hM,hml⟩:=hB.ms;obtain ⟨m,rfl⟩:∃ n:Nat,m=n:=⟨m.toNat,by omega⟩;have hml5:=hO.ml;have hmb:m < b.ms.length:=by omega
 have hmg:=hO.groups _ (List.getElem_mem hmb);have hgs:(b.ms[(m:Int).toNat]?).elim 0 Msg.groups=b.ms[m].groups:=by rw [Int.toNat_natCast,List.getElem?_eq_getElem hmb];rfl
 obtain ⟨mb,mo,rfl,hmlt,_,h1,_⟩:=hM m hmb;unfold haveOf at ht;rw [hgs] at ht;generalize b.ms[m].groups=gr at hmg h1 ht hgs;obtain ⟨gn,rfl⟩:∃ n:Nat,gr=n:=⟨gr.toNat,by omega⟩;rw [Int.toNat_natCast] at ht;have HCOP:=Hh hcop;have HT:=Hh ht;have hm0:(0:Int)<=m:=by omega
 have hmi:(m:Int) < b.ms.length:=by omega
 clear hB hO hL hC hM ht hcop hm hgs hln hll
 go_enter Tryz.func131,Tryz.ntmps131
 go_wp2;obtain ⟨W0,hW0⟩:∃ W0,W0=w.alloc (.cells #[vr,vg,.slice (some ⟨mb,mo,none⟩) b.ms.length mc,vs,vc] 26):=⟨_,rfl⟩;rw [<- hW0];have hb0:Below w.heap.size w W0:=by rw [hW0];(exact bel)
 have nn:∀ k u,(#[vr,vg,.slice (some ⟨mb,mo,none⟩) b.ms.length mc,vs,vc]:Array Value)[k]? = some u->W0.cell? ⟨w.heap.size,k,none⟩=some u:=fun k u hk=>by
  rw [hW0,World.cell?_alloc_at _ _ _ _ rfl];exact hk
 have n0:=nn 0 _ rfl;have n1:=nn 1 _ rfl;have n2:=nn 2 _ rfl;have n3:=nn 3 _ rfl;have n4:=nn 4 _ rfl;have hs0:w.heap.size < W0.heap.size:=by rw [hW0];simp
 clear hW0 nn;go_loopw [7,8] (fun v i wr=>∃ (k:Nat),k<=gn/\i=.int .i64 k/\v=.int .i64 (((List.range k).filter fun (g:Nat)=>decide (0 < copies b l ((m:Int),(g:Int)))).length:Nat)/\Below W0.heap.size W0 wr) (fun _ i _=>gn - (intOf i).toNat)
 case atStart=>exact ⟨0,Nat.zero_le _,rfl,by simp,Below.refl _ _⟩
 case round =>
  obtain ⟨k,hk,rfl,rfl,hW⟩:=hrel;have hWs:=hW.size;have m0:=(hW.cell (p:=⟨w.heap.size,0,none⟩) hs0).trans n0;have m1:=(hW.cell (p:=⟨w.heap.size,1,none⟩) hs0).trans n1;have m2:=(hW.cell (p:=⟨w.heap.size,2,none⟩) hs0).trans n2;have m3:=(hW.cell (p:=⟨w.heap.size,3,none⟩) hs0).trans n3;have m4:=(hW.cell (p:=⟨w.heap.size,4,none⟩) hs0).trans n4;have hx1:w.heap.size < wr.heap.size:=by omega
  have hbw:=Below.next hb0 hW;have g1:=(hbw.cell hmlt).trans h1;have hmlt2:mb < wr.heap.size:=Nat.lt_of_lt_of_le hmlt hbw.size;have hle:=have_le b l (m:Int) k;by_cases hlt:k < gn
  ·have hsu:=haveOf_succ b l (m:Int) k;have hcp:=fun (w':World) (hb:Below w.heap.size w w')=>HCOP.out ((m:Int),(k:Int)) w' hb;have HCP:=Hh hcp;generalize ((List.range k).filter fun (g:Nat)=>decide (0 < copies b l ((m:Int),(g:Int)))).length=hv at hsu hle;generalize copies b l ((m:Int),(k:Int))=cc at hsu HCP;clear hcp;have hwr:IntKind.i64.wrap ((hv:Int)+1)=((hv+1:Nat):Int):=by rw [IntWalk.i64_in _ (by omega)];omega
   have hki:(k:Int) < gn:=by omega
   by_cases hc0:0 < cc
   ·rw [if_pos hc0] at hsu;have HSU:=Hh hsu;clear hsu;go_wp2_with (go_at_call 130;(with_reducible refine (HCP.out _ hbw).mono ?_);rintro e w5 ⟨rfl,hb5⟩);go_roundw
    case rel=>exact ⟨k+1,by omega,by go_num,by first | (rw [HSU.out];done) | (rw [HSU.out];rfl) | (rw [HSU.out];simp),Below.next hW hb5⟩
    case measure=>simp [intOf];omega
   ·rw [if_neg hc0,Nat.add_zero] at hsu;have HSU:=Hh hsu;clear hsu;go_wp2_with (go_at_call 130;(with_reducible refine (HCP.out _ hbw).mono ?_);rintro e w5 ⟨rfl,hb5⟩);go_roundw
    case rel=>exact ⟨k+1,by omega,by go_num,by first | (rw [HSU.out];done) | (rw [HSU.out];rfl) | (rw [HSU.out];simp),Below.next hW hb5⟩
    case measure=>simp [intOf];omega
  ·obtain rfl:k=gn:=by omega
   have HTT:=HT;clear HT;go_wp2;go_ret;exact ⟨by rw [<- HTT.out];rfl,hbw⟩
end
section
variable {b:Bk} {vr vg vm vs vc:Value} {w:World} {la:Option Addr} {ln lc:Nat} {l:List Int}
theorem rRight_0 (hB:BookAt w b vr vg vm vs vc) (hO:BkOk b) (hL:IntsAt w la l) (hln:ln=l.length) (hll:l.length=b.ss.length) (hC:Came b l) (a rb m:Int) (hr:recAl b ⟨0,a,rb,m⟩=0) {t:Bool} (h:rightR b l ⟨0,a,rb,m⟩=t) :
 Calls Tryz.prog 122 #[.agg #[vr,vg,vm,vs,vc],.slice la ln lc,.agg #[.int .i64 0,.int .i64 a,.int .i64 rb,.int .i64 m]] w fun e w'=>e=.returned (.bool t)/\Below w.heap.size w w':=by
 have ha:=(recAl_facts hr).2.1 (by decide);have hb2:=inB_nat.1 ha;obtain ⟨n,rfl⟩:∃ n:Nat,a=n:=⟨a.toNat,by omega⟩;obtain ⟨sa,sc,rfl,hS,hsl⟩:=hB.ss;have hn:n < b.ss.length:=by omega
 have hnl:n < l.length:=by omega
 have hs4:=hO.sl;have hp5:=hO.pl _ (List.getElem_mem hn);obtain ⟨sb,so,rfl,hsb,pa,pc,h0,hpc,hpl,_⟩:=hS n hn;obtain ⟨lb,lo,rfl,hlb,e0⟩:=hL n hnl;have hd:l.getD (n:Int).toNat 0=l[n]:=by rw [Int.toNat_natCast];exact getD_of_lt hnl
 have hgs:((b.ss[(n:Int).toNat]?).elim 0 List.length:Nat)=b.ss[n].length:=by rw [Int.toNat_natCast,List.getElem?_eq_getElem hn];rfl
 simp [rightR] at h;simp at hd hgs
 try rw [hd] at h
 try rw [hgs] at h
 clear hd hgs;generalize l[n]=ck at e0 h;generalize b.ss[n]=s at h0 hpc hpl h hp5;have hln2:(n:Int) < ln:=by omega
 have hsn2:(n:Int) < b.ss.length:=by omega
 have hn0:(0:Int)<=n:=by omega
 have H:=Hh h;clear h hB hO hL hC hS ha hr hln hll hb2 hnl
 go_enter Tryz.func122,Tryz.ntmps122
 go_wp2;go_quiet (fail);go_wp2;go_ret;exact ⟨by rw [<- H.out];first | rfl | simp,bel⟩
theorem rRight_1 (hB:BookAt w b vr vg vm vs vc) (hO:BkOk b) (hL:IntsAt w la l) (hln:ln=l.length) (hll:l.length=b.ss.length) (hC:Came b l) (a rb m:Int) (hr:recAl b ⟨1,a,rb,m⟩=0) {t:Bool} (h:rightR b l ⟨1,a,rb,m⟩=t) :
 Calls Tryz.prog 122 #[.agg #[vr,vg,vm,vs,vc],.slice la ln lc,.agg #[.int .i64 1,.int .i64 a,.int .i64 rb,.int .i64 m]] w fun e w'=>e=.returned (.bool t)/\Below w.heap.size w w':=by
 have ha:=(recAl_facts hr).2.1 (by decide);have hb2:=inB_nat.1 ha;obtain ⟨n,rfl⟩:∃ n:Nat,a=n:=⟨a.toNat,by omega⟩;obtain ⟨sa,sc,rfl,hS,hsl⟩:=hB.ss;have hn:n < b.ss.length:=by omega
 have hnl:n < l.length:=by omega
 have hs4:=hO.sl;have hp5:=hO.pl _ (List.getElem_mem hn);obtain ⟨sb,so,rfl,hsb,pa,pc,h0,hpc,hpl,_⟩:=hS n hn;obtain ⟨lb,lo,rfl,hlb,e0⟩:=hL n hnl;have hd:l.getD (n:Int).toNat 0=l[n]:=by rw [Int.toNat_natCast];exact getD_of_lt hnl
 have hgs:((b.ss[(n:Int).toNat]?).elim 0 List.length:Nat)=b.ss[n].length:=by rw [Int.toNat_natCast,List.getElem?_eq_getElem hn];rfl
 simp [rightR] at h;simp at hd hgs
 try rw [hd] at h
 try rw [hgs] at h
 clear hd hgs;generalize l[n]=ck at e0 h;generalize b.ss[n]=s at h0 hpc hpl h hp5;have hln2:(n:Int) < ln:=by omega
 have hsn2:(n:Int) < b.ss.length:=by omega
 have hn0:(0:Int)<=n:=by omega
 have H:=Hh h;clear h hB hO hL hC hS ha hr hln hll hb2 hnl
 go_enter Tryz.func122,Tryz.ntmps122
 go_wp2;go_quiet (fail);go_wp2;go_ret;exact ⟨by rw [<- H.out];first | rfl | simp,bel⟩
theorem rRight_2 (hB:BookAt w b vr vg vm vs vc) (hO:BkOk b) (hL:IntsAt w la l) (hln:ln=l.length) (hll:l.length=b.ss.length) (hC:Came b l) (a rb m:Int) (hr:recAl b ⟨2,a,rb,m⟩=0) {t:Bool} (h:rightR b l ⟨2,a,rb,m⟩=t) :
 Calls Tryz.prog 122 #[.agg #[vr,vg,vm,vs,vc],.slice la ln lc,.agg #[.int .i64 2,.int .i64 a,.int .i64 rb,.int .i64 m]] w fun e w'=>e=.returned (.bool t)/\Below w.heap.size w w':=by
 have ha:=(recAl_facts hr).2.1 (by decide);have hb2:=inB_nat.1 ha;obtain ⟨n,rfl⟩:∃ n:Nat,a=n:=⟨a.toNat,by omega⟩;obtain ⟨sa,sc,rfl,hS,hsl⟩:=hB.ss;have hn:n < b.ss.length:=by omega
 have hnl:n < l.length:=by omega
 have hs4:=hO.sl;have hp5:=hO.pl _ (List.getElem_mem hn);obtain ⟨sb,so,rfl,hsb,pa,pc,h0,hpc,hpl,_⟩:=hS n hn;obtain ⟨lb,lo,rfl,hlb,e0⟩:=hL n hnl;have hd:l.getD (n:Int).toNat 0=l[n]:=by rw [Int.toNat_natCast];exact getD_of_lt hnl
 have hgs:((b.ss[(n:Int).toNat]?).elim 0 List.length:Nat)=b.ss[n].length:=by rw [Int.toNat_natCast,List.getElem?_eq_getElem hn];rfl
 simp [rightR] at h;simp at hd hgs
 try rw [hd] at h
 try rw [hgs] at h
 clear hd hgs;generalize l[n]=ck at e0 h;generalize b.ss[n]=s at h0 hpc hpl h hp5;have hln2:(n:Int) < ln:=by omega
 have hsn2:(n:Int) < b.ss.length:=by omega
 have hn0:(0:Int)<=n:=by omega
 have H:=Hh h;clear h hB hO hL hC hS ha hr hln hll hb2 hnl
 go_enter Tryz.func122,Tryz.ntmps122
 go_wp2;go_quiet (fail);go_wp2;go_ret;exact ⟨by rw [<- H.out];first | rfl | simp,bel⟩
theorem rRight_3 (hB:BookAt w b vr vg vm vs vc) (hO:BkOk b) (hL:IntsAt w la l) (hln:ln=l.length) (hll:l.length=b.ss.length) (hC:Came b l) (a rb m:Int) (hr:recAl b ⟨3,a,rb,m⟩=0) {t:Bool} (h:rightR b l ⟨3,a,rb,m⟩=t) :
 Calls Tryz.prog 122 #[.agg #[vr,vg,vm,vs,vc],.slice la ln lc,.agg #[.int .i64 3,.int .i64 a,.int .i64 rb,.int .i64 m]] w fun e w'=>e=.returned (.bool t)/\Below w.heap.size w w':=by
 have ha:=(recAl_facts hr).2.1 (by decide);have hb2:=inB_nat.1 ha;obtain ⟨n,rfl⟩:∃ n:Nat,a=n:=⟨a.toNat,by omega⟩;obtain ⟨sa,sc,rfl,hS,hsl⟩:=hB.ss;have hn:n < b.ss.length:=by omega
 have hnl:n < l.length:=by omega
 have hs4:=hO.sl;have hp5:=hO.pl _ (List.getElem_mem hn);obtain ⟨sb,so,rfl,hsb,pa,pc,h0,hpc,hpl,_⟩:=hS n hn;obtain ⟨lb,lo,rfl,hlb,e0⟩:=hL n hnl;have hd:l.getD (n:Int).toNat 0=l[n]:=by rw [Int.toNat_natCast];exact getD_of_lt hnl
 have hgs:((b.ss[(n:Int).toNat]?).elim 0 List.length:Nat)=b.ss[n].length:=by rw [Int.toNat_natCast,List.getElem?_eq_getElem hn];rfl
 simp [rightR] at h;simp at hd hgs
 try rw [hd] at h
 try rw [hgs] at h
 clear hd hgs;generalize l[n]=ck at e0 h;generalize b.ss[n]=s at h0 hpc hpl h hp5;have hln2:(n:Int) < ln:=by omega
 have hsn2:(n:Int) < b.ss.length:=by omega
 have hn0:(0:Int)<=n:=by omega
 have H:=Hh h;clear h hB hO hL hC hS ha hr hln hll hb2 hnl
 go_enter Tryz.func122,Tryz.ntmps122
 go_wp2;go_quiet (fail);go_wp2;go_ret;exact ⟨by rw [<- H.out];first | rfl | simp,bel⟩
theorem rRight_4 (hB:BookAt w b vr vg vm vs vc) (hO:BkOk b) (hL:IntsAt w la l) (hln:ln=l.length) (hll:l.length=b.ss.length) (hC:Came b l) (a rb m:Int) (hr:recAl b ⟨4,a,rb,m⟩=0) {t:Bool} (h:rightR b l ⟨4,a,rb,m⟩=t) :
 Calls Tryz.prog 122 #[.agg #[vr,vg,vm,vs,vc],.slice la ln lc,.agg #[.int .i64 4,.int .i64 a,.int .i64 rb,.int .i64 m]] w fun e w'=>e=.returned (.bool t)/\Below w.heap.size w w':=by
 have hcop:=fun (w':World) (hb:Below w.heap.size w w')=>rCopies_at (lc:=lc) (hB.below hb) hO (hL.below hb) hln hll hC (a,rb) rfl;simp [rightR] at h;generalize copies b l (a,rb)=cc at hcop h;have HCOP:=Hh hcop;have H:=Hh h;clear hcop h hB hO hL hC hr hln hll
 go_enter Tryz.func122,Tryz.ntmps122
 go_wp2
 (refine wp_region_bel (by kernel_rfl) (by kernel_rfl) ?_;(repeat (go_big_quiet_step ((go_at_call 130;with_reducible exact Calls.bel_of (HCOP.out _ (Below.next (Below.al (Below.al (Below.refl _ _) _) _) (later_below _ _)))))));refine wpQuiet_nil ?_;rintro _ ⟨xq,rfl⟩)
 go_wp2;go_ret;exact ⟨by rw [<- H.out];first | rfl | simp,Below.next (Below.al (Below.al (Below.refl _ _) _) _) (later_below _ _)⟩
theorem rRight_5 (hB:BookAt w b vr vg vm vs vc) (hO:BkOk b) (hL:IntsAt w la l) (hln:ln=l.length) (hll:l.length=b.ss.length) (hC:Came b l) (a rb m:Int) (hr:recAl b ⟨5,a,rb,m⟩=0) {t:Bool} (h:rightR b l ⟨5,a,rb,m⟩=t) :
 Calls Tryz.prog 122 #[.agg #[vr,vg,vm,vs,vc],.slice la ln lc,.agg #[.int .i64 5,.int .i64 a,.int .i64 rb,.int .i64 m]] w fun e w'=>e=.returned (.bool t)/\Below w.heap.size w w':=by
 have ha:=(recAl_facts hr).2.2.2 rfl;have hb2:=inB_nat.1 ha;have hcop:=fun (w':World) (hb:Below w.heap.size w w')=>rHave_at (lc:=lc) (hB.below hb) hO (hL.below hb) hln hll hC (m:=a) (by omega) rfl;simp [rightR] at h;generalize haveOf b l a=cc at hcop h;have HCOP:=Hh hcop;have H:=Hh h;clear hcop h hB hO hL hC hr hln hll ha hb2
 go_enter Tryz.func122,Tryz.ntmps122
 go_wp2
 (refine wp_region_bel (by kernel_rfl) (by kernel_rfl) ?_;(repeat (go_big_quiet_step ((go_at_call 131;with_reducible exact Calls.bel_of (HCOP.out _ (Below.next (Below.al (Below.al (Below.refl _ _) _) _) (later_below _ _)))))));refine wpQuiet_nil ?_;rintro _ ⟨xq,rfl⟩)
 go_wp2;go_ret;exact ⟨by rw [<- H.out];first | rfl | simp,Below.next (Below.al (Below.al (Below.refl _ _) _) _) (later_below _ _)⟩
theorem rRight_at (hB:BookAt w b vr vg vm vs vc) (hO:BkOk b) (hL:IntsAt w la l) (hln:ln=l.length) (hll:l.length=b.ss.length) (hC:Came b l) (r:Rec) (hr:recAl b r=0) {t:Bool} (h:rightR b l r=t) :
 Calls Tryz.prog 122 #[.agg #[vr,vg,vm,vs,vc],.slice la ln lc,.agg #[.int .i64 r.k,.int .i64 r.a,.int .i64 r.b,.int .i64 r.m]] w fun e w'=>e=.returned (.bool t)/\Below w.heap.size w w':=by
 obtain ⟨k,a,rb,m⟩:=r;have:=(recAl_facts hr).1;have:k=0\/k=1\/k=2\/k=3\/k=4\/k=5:=by omega
 rcases this with rfl | rfl | rfl | rfl | rfl | rfl
 ·exact rRight_0 hB hO hL hln hll hC a rb m hr h
 ·exact rRight_1 hB hO hL hln hll hC a rb m hr h
 ·exact rRight_2 hB hO hL hln hll hC a rb m hr h
 ·exact rRight_3 hB hO hL hln hll hC a rb m hr h
 ·exact rRight_4 hB hO hL hln hll hC a rb m hr h
 ·exact rRight_5 hB hO hL hln hll hC a rb m hr h
theorem rRightAll_at (hB:BookAt w b vr vg vm vs vc) (hO:BkOk b) (hL:IntsAt w la l) (hln:ln=l.length) (hll:l.length=b.ss.length) (hC:Came b l) (hr:∀ r∈b.rs,recAl b r=0) {t:Bool} (ht:right b l=t) :
 Calls Tryz.prog 104 #[.agg #[vr,vg,vm,vs,vc],.slice la ln lc] w fun e w'=>e=.returned (.bool t)/\Below w.heap.size w w':=by
 have hone:=fun (r:Rec) (hm:r∈b.rs) (w':World) (hb:Below w.heap.size w w') (t:Bool) (ht:rightR b l r=t)=>rRight_at (lc:=lc) (hB.below hb) hO (hL.below hb) hln hll hC r (hr r hm) ht;obtain ⟨ra,rc,rfl,hR,hrl⟩:=hB.rs;have HONE:=Hh hone;have HR:=Hh hR;have HT:=Hh ht;clear hone hB hO hL hln hll hC hr hR ht
 go_enter Tryz.func104,Tryz.ntmps104
 go_wp2;obtain ⟨W0,hW0⟩:∃ W0,W0=w.alloc (.cells #[vr,vg,vm,vs,.slice ra b.rs.length rc] 26):=⟨_,rfl⟩;rw [<- hW0];have hb0:Below w.heap.size w W0:=by rw [hW0];(exact bel)
 have nn:∀ k u,(#[vr,vg,vm,vs,.slice ra b.rs.length rc]:Array Value)[k]? = some u->W0.cell? ⟨w.heap.size,k,none⟩=some u:=fun k u hk=>by
  rw [hW0,World.cell?_alloc_at _ _ _ _ rfl];exact hk
 have n0:=nn 0 _ rfl;have n1:=nn 1 _ rfl;have n2:=nn 2 _ rfl;have n3:=nn 3 _ rfl;have n4:=nn 4 _ rfl;have hs0:w.heap.size < W0.heap.size:=by rw [hW0];simp
 clear hW0 nn;go_loopw [5] (fun i wr=>∃ (k:Nat),k<=b.rs.length/\i=.int .i64 k/\Hid ((b.rs.drop k).all (rightR b l)=t)/\Below W0.heap.size W0 wr) (fun i _=>b.rs.length - (intOf i).toNat)
 case atStart=>exact ⟨0,Nat.zero_le _,rfl,HT.out,Below.refl _ _⟩
 case round =>
  obtain ⟨k,hk,rfl,hG,hW⟩:=hrel;have hWs:=hW.size;have m0:=(hW.cell (p:=⟨w.heap.size,0,none⟩) hs0).trans n0;have m1:=(hW.cell (p:=⟨w.heap.size,1,none⟩) hs0).trans n1;have m2:=(hW.cell (p:=⟨w.heap.size,2,none⟩) hs0).trans n2;have m3:=(hW.cell (p:=⟨w.heap.size,3,none⟩) hs0).trans n3;have m4:=(hW.cell (p:=⟨w.heap.size,4,none⟩) hs0).trans n4;have hx1:w.heap.size < wr.heap.size:=by omega
  have hbw:=Below.next hb0 hW;have hg0:=hG.out;by_cases hlt:k < b.rs.length
  ·obtain ⟨rb,ro,rfl,hrb,e0,e1,e2,e3⟩:=HR.out k hlt;have e0:=(hbw.cell hrb).trans e0;have e1:=(hbw.cell hrb).trans e1;have e2:=(hbw.cell hrb).trans e2;have e3:=(hbw.cell hrb).trans e3;have hrb2:rb < wr.heap.size:=Nat.lt_of_lt_of_le hrb hbw.size;have hmem:=List.getElem_mem hlt;rw [List.drop_eq_getElem_cons hlt,List.all_cons] at hg0;generalize b.rs[k]=r at e0 e1 e2 e3 hg0 hmem;have hon:=fun (w':World) (hb:Below w.heap.size w w')=>HONE.out r hmem w' hb;obtain ⟨rk,rA,rB,rm⟩:=r;simp only at e0 e1 e2 e3;have HON:=Hh hon;clear hon hmem;cases hra:rightR b l ⟨rk,rA,rB,rm⟩
   ·rw [hra,Bool.false_and] at hg0;subst hg0;have HRA:=Hh hra;clear hra;go_wp2
    (refine wp_region_bel (by kernel_rfl) (by kernel_rfl) ?_;(repeat (go_big_quiet_step ((go_at_call 122;with_reducible exact Calls.bel_of (HON.out _ (Below.next hbw (later_below _ _)) _ HRA.out)))));refine wpQuiet_nil ?_;rintro _ ⟨xq,rfl⟩)
    go_wp2;go_ret;exact ⟨rfl,Below.next hbw (later_below _ _)⟩
   ·rw [hra,Bool.true_and] at hg0;have HG0:=Hh hg0;have HRA:=Hh hra;clear hra hg0;go_wp2
    (refine wp_region_bel (by kernel_rfl) (by kernel_rfl) ?_;(repeat (go_big_quiet_step ((go_at_call 122;with_reducible exact Calls.bel_of (HON.out _ (Below.next hbw (later_below _ _)) _ HRA.out)))));refine wpQuiet_nil ?_;rintro _ ⟨xq,rfl⟩)
    go_wp2;go_roundw
    case rel=>exact ⟨k+1,by omega,by go_num,HG0.out,Below.next hW (later_below _ _)⟩
    case measure=>simp [intOf];omega
  ·rw [List.drop_eq_nil_of_le (by omega),List.all_nil] at hg0;subst hg0;go_wp2;go_ret;exact ⟨rfl,hbw⟩
end
namespace Sp
end Sp
section
variable {b:Bk} {vr vg vm vs vc:Value} {w:World} {la:Option Addr} {ln lc:Nat} {l:List Int}
end
theorem listInfo:(Tryz.prog.info? 35).map (fun i=>(i.zero,i.size,i.bytes))=some (some (.slice none 0 0),1,24):=by kernel_rfl
def PastsOut (W:World) (ls:List (List Int)) (e:Ending) (W':World):Prop:=∃ a c vs,e=.returned (.slice a ls.length c)/\W'.ownsRow W.heap.size 35 1 (.slice a ls.length c) ls.length vs/\ListsV W' vs ls/\Below W.heap.size W W'
def PreIn (ss:List (List Prt)) (pre:List Int):Prop:=∀ i (h:i < pre.length),0<=pre[i]/\∃ h2:i < ss.length,pre[i]<=(ss[i].length:Int)
theorem came_pre {b:Bk} {pre:List Int} (h:PreIn b.ss pre) (hl:pre.length=b.ss.length):Came b pre:=fun i hi=>by
 obtain ⟨h1,h2,h3⟩:=h i (by omega);rw [getD_of_lt (by omega)];exact ⟨h1,h3⟩
theorem fuel_pasts {b:Bk} {n:Nat} {l:List (List Prt)} {pre:List Int} {s:List Prt} (hp:∀ s∈b.ss,s.length<=5) (hl:∀ x∈s::l,x.length<=5) (h4:(s::l).length<=4) (hn:n<=s.length+1):((List.range n).flatMap fun (n:Nat)=>pastsFrom b (pre ++ [(n:Int)]) l).length<=1296:=by
 rw [List.length_flatMap];have h1:∀ (ns:List Nat),(ns.map fun (n:Nat)=>(pastsFrom b (pre ++ [(n:Int)]) l).length).sum<=ns.length * 6 ^ l.length:=by
  intro ns
  induction ns with
  | nil=>simp
  | cons n ns ih =>
   have:=pastsFrom_le (b:=b) l (pre ++ [(n:Int)]) (fun s hs=>hl s (List.mem_cons_of_mem _ hs));simp only [List.map_cons,List.sum_cons,List.length_cons,Nat.succ_mul];omega
 have h2:=h1 (List.range n);rw [List.length_range] at h2;have h5:=hl s (List.mem_cons_self ..);have h6:n * 6 ^ l.length<=6 * 6 ^ 3:=Nat.mul_le_mul (by omega) (Nat.pow_le_pow_right (by omega) (by simp at h4;omega));omega
section
variable {b:Bk} {vr vg vm vs vc:Value} {w:World}
theorem rPasts_leaf (hB:BookAt w b vr vg vm vs vc) (hO:BkOk b) (hr:∀ r∈b.rs,recAl b r=0) {pre:List Int} (hl:pre.length=b.ss.length) (hp:PreIn b.ss pre) {la:Option Addr} {lc:Nat} (hL:IntsV w (.slice la pre.length lc) pre) :
 Calls Tryz.prog 80 #[.agg #[vr,vg,vm,vs,vc],.slice la pre.length lc] w (PastsOut w (if right b pre then [pre] else [])):=by
 have hC:=came_pre hp hl;obtain ⟨_,_,e,hI,_⟩:=hL.form;cases e;have HB:=Hh hB;have HO:=Hh hO;have HI:=Hh hI;have HC:=Hh hC;have HRR:=Hh hr;have HL:=Hh hL;have HLEN:=Hh hl;obtain ⟨sa,sc,rfl,_,hsl⟩:=hB.ss;have heq:((pre.length:Int) == (b.ss.length:Int))=true:=by simp;omega
 clear hB hO hI hC hr hL hp;generalize hn:pre.length=n at heq;have HN:=Hh hn;clear hn hl;cases ht:right b pre
 ·have HT:=Hh ht;clear ht
  go_enter Tryz.func80,Tryz.ntmps80
  go_wp2_with (go_at_call 104;(with_reducible refine (rRightAll_at (HB.out.below (bel)) HO.out (HI.out.below (bel)) HN.out.symm HLEN.out HC.out HRR.out HT.out).mono ?_);rintro e w1 ⟨rfl,hb1⟩);go_ret;exact ⟨none,0,[],rfl,World.ownsRow_nil _ _ _ _,ListsV.nil _,bel⟩
 ·have HT:=Hh ht;clear ht
  go_enter Tryz.func80,Tryz.ntmps80
  go_wp2_with (go_at_call 104;(with_reducible refine (rRightAll_at (HB.out.below (bel)) HO.out (HI.out.below (bel)) HN.out.symm HLEN.out HC.out HRR.out HT.out).mono ?_);rintro e w1 ⟨rfl,hb1⟩);go_ret;have hbw:Below w.heap.size w w1:=bel;refine ⟨some ⟨w1.heap.size,0,none⟩,1,[.slice la n lc],rfl,World.ownsRow_lit w1 #[.slice la n lc] 1 hbw.size (by decide) rfl,ListsV.single ?_,bel⟩;rw [<- HN.out];exact (HL.out.below hbw).below (bal _ _)
end
end Go.Proofs.YtojkofjcblmnjaaGreatDoor
