/- StoreLoaded -/
import Derived.Test.YtdjnkplgllakcaaGreatDoorSL00
import Derived.Laws.EntriesVeiled
import Derived.WideKeyEntry
set_option maxHeartbeats 2000000
set_option maxRecDepth 100000
set_option linter.all false
namespace Go.Proofs.YtdjnkplgllakcaaGreatDoor
section
open Go.RowKit Go.Maps Sp
def kindWord:Nat->List UInt8
 | 0=>[97,108,108]
 | 1=>[98,114,111,107,101]
 | 2=>[108,101,97,115,116]
 | 3=>[109,111,115,116]
 | 4=>[99,111,112,105,101,115]
 | _=>[104,97,118,101]
def kindMost:Nat->Nat
 | 4=>154
 | 5=>156
 | _=>149
def kindRight:Nat->Nat
 | 0=>150
 | 1=>151
 | 2=>152
 | 3=>153
 | 4=>155
 | _=>157
def KindsAt (w:World):Prop:=0 < w.heap.size/\∀ i,i < 6 ->
 (∃ s:ByteArray,s.data.toList=kindWord i/\w.cell? ⟨0,i * 5,none⟩=some (.string s)) /\
 w.cell? ⟨0,i * 5+1,none⟩=some (.bool (usesB i))/\w.cell? ⟨0,i * 5+2,none⟩=some (.bool (usesMany i)) /\
 w.cell? ⟨0,i * 5+3,none⟩=some (.func (.func (kindMost i)) #[] #[])/\w.cell? ⟨0,i * 5+4,none⟩=some (.func (.func (kindRight i)) #[] #[])
theorem KindsAt.below {w w':World} (h:KindsAt w) (hb:Below w.heap.size w w'):KindsAt w' :=
 ⟨Nat.lt_of_lt_of_le h.1 hb.size,fun i hi=>by
   obtain ⟨⟨s,e,h0⟩,h1,h2,h3,h4⟩:=h.2 i hi
   exact ⟨⟨s,e,(hb.cell h.1).trans h0⟩,(hb.cell h.1).trans h1,(hb.cell h.1).trans h2,(hb.cell h.1).trans h3,(hb.cell h.1).trans h4⟩⟩
def recV (r:Rec):Value:=.agg #[.int .i64 r.k,.int .i64 r.a,.int .i64 r.b,.int .i64 r.m]
section
variable {b:Bk} {vr vg vm vs vc:Value} {w:World}
def RecPost (w:World) (t:Int) (e:Ending) (w':World):Prop:=e=.returned (.int .i64 t)/\Below w.heap.size w w'
theorem record_out (r:Rec) (h:inB r.k 0 5=false) :
 Calls Tryz.prog 107 #[.agg #[vr,vg,vm,vs,vc],recV r] w (RecPost w 1):=by
 have H:=Hh h;clear h;unfold recV
 go_enter Tryz.func107,Tryz.ntmps107
 go_wp2_with (go_at_call 58;(with_reducible refine (inside_at H.out).mono ?_);rintro e w' ⟨rfl,rfl⟩);go_ret;exact ⟨rfl,bel⟩
theorem record_0 (hB:BookAt w b vr vg vm vs vc) (hG:∀ m∈b.ms,0<=m.groups/\m.groups<=1000) (hK:KindsAt w) (a rb m:Int) {t:Int} (h:recAl b ⟨0,a,rb,m⟩=t) :
 Calls Tryz.prog 107 #[.agg #[vr,vg,vm,vs,vc],.agg #[.int .i64 0,.int .i64 a,.int .i64 rb,.int .i64 m]] w (RecPost w t):=by
 obtain ⟨hlt,hK⟩:=hK;obtain ⟨⟨s,_,k0⟩,k1,k2,k3,k4⟩:=hK 0 (by omega);simp [usesB,usesMany,kindMost,kindRight] at k0 k1 k2 k3 k4;simp [recAl,usesB,usesMany,show inB 0 0 5=true from by decide] at h;have HK:=Hh (show inB 0 0 5=true from by decide);have HB:=Hh hB;have HG:=Hh hG;clear hB hG hK;by_cases hrb:rb=0
 rotate_left
 ·simp [hrb] at h;subst h
  go_enter Tryz.func107,Tryz.ntmps107
  go_wp2_with (first | (go_at_call 58;(with_reducible refine (inside_at HK.out).mono ?_);rintro e w' ⟨rfl,rfl⟩) | (go_at_call 58;(with_reducible refine (inside_at HM.out).mono ?_);rintro e w' ⟨rfl,rfl⟩));go_ret;exact ⟨rfl,bel⟩
 subst hrb;by_cases hm:m=0
 rotate_left
 ·simp [hm] at h;subst h
  go_enter Tryz.func107,Tryz.ntmps107
  go_wp2_with (first | (go_at_call 58;(with_reducible refine (inside_at HK.out).mono ?_);rintro e w' ⟨rfl,rfl⟩) | (go_at_call 58;(with_reducible refine (inside_at HM.out).mono ?_);rintro e w' ⟨rfl,rfl⟩));go_ret;exact ⟨rfl,bel⟩
 subst hm;cases hO:inB a 0 ((b.ss.length:Int) - 1)
 ·simp [most,hO] at h;subst h;have HO:=Hh hO;clear hO
  go_enter Tryz.func107,Tryz.ntmps107
  go_wp2_with (first | (go_at_call 58;(with_reducible refine (inside_at HK.out).mono ?_);rintro e w' ⟨rfl,rfl⟩) | (go_at_call 149;(with_reducible refine (kind0_no (HB.out.below (Below.al (Below.al (Below.al (Below.refl _ _) _) _) _)) _ _ _ _ HO.out).mono ?_);rintro e w1 ⟨rfl,hb1⟩;obtain ⟨hc1,hf1⟩:=bcell hb1;have hz1:=hb1.size) | (go_at_call 58;(with_reducible refine (inside_at HM.out).mono ?_);rintro e w' ⟨rfl,rfl⟩));go_ret;exact ⟨rfl,bel⟩
 ·have ht:(if inB 0 0 (((b.ss[a.toNat]?).elim 0 List.length:Nat):Int)=true then (0:Int) else 1)=t:=by simpa [most,hO] using h
  clear h;have HO:=Hh hO;clear hO;cases hM:inB 0 0 (((b.ss[a.toNat]?).elim 0 List.length:Nat):Int)
  all_goals
   rw [hM] at ht;have HM:=Hh hM;clear hM;simp at ht;subst ht
   go_enter Tryz.func107,Tryz.ntmps107
   go_wp2_with (first | (go_at_call 58;(with_reducible refine (inside_at HK.out).mono ?_);rintro e w' ⟨rfl,rfl⟩) | (go_at_call 149;(with_reducible refine (kind0_yes (HB.out.below (Below.al (Below.al (Below.al (Below.refl _ _) _) _) _)) _ _ _ _ HO.out).mono ?_);rintro e w1 ⟨rfl,hb1⟩;obtain ⟨hc1,hf1⟩:=bcell hb1;have hz1:=hb1.size) | (go_at_call 58;(with_reducible refine (inside_at HM.out).mono ?_);rintro e w' ⟨rfl,rfl⟩));go_ret;exact ⟨rfl,bel⟩
theorem record_1 (hB:BookAt w b vr vg vm vs vc) (hG:∀ m∈b.ms,0<=m.groups/\m.groups<=1000) (hK:KindsAt w) (a rb m:Int) {t:Int} (h:recAl b ⟨1,a,rb,m⟩=t) :
 Calls Tryz.prog 107 #[.agg #[vr,vg,vm,vs,vc],.agg #[.int .i64 1,.int .i64 a,.int .i64 rb,.int .i64 m]] w (RecPost w t):=by
 obtain ⟨hlt,hK⟩:=hK;obtain ⟨⟨s,_,k0⟩,k1,k2,k3,k4⟩:=hK 1 (by omega);simp [usesB,usesMany,kindMost,kindRight] at k0 k1 k2 k3 k4;simp [recAl,usesB,usesMany,show inB 1 0 5=true from by decide] at h;have HK:=Hh (show inB 1 0 5=true from by decide);have HB:=Hh hB;have HG:=Hh hG;clear hB hG hK;by_cases hrb:rb=0
 rotate_left
 ·simp [hrb] at h;subst h
  go_enter Tryz.func107,Tryz.ntmps107
  go_wp2_with (first | (go_at_call 58;(with_reducible refine (inside_at HK.out).mono ?_);rintro e w' ⟨rfl,rfl⟩) | (go_at_call 58;(with_reducible refine (inside_at HM.out).mono ?_);rintro e w' ⟨rfl,rfl⟩));go_ret;exact ⟨rfl,bel⟩
 subst hrb;by_cases hm:m=0
 rotate_left
 ·simp [hm] at h;subst h
  go_enter Tryz.func107,Tryz.ntmps107
  go_wp2_with (first | (go_at_call 58;(with_reducible refine (inside_at HK.out).mono ?_);rintro e w' ⟨rfl,rfl⟩) | (go_at_call 58;(with_reducible refine (inside_at HM.out).mono ?_);rintro e w' ⟨rfl,rfl⟩));go_ret;exact ⟨rfl,bel⟩
 subst hm;cases hO:inB a 0 ((b.ss.length:Int) - 1)
 ·simp [most,hO] at h;subst h;have HO:=Hh hO;clear hO
  go_enter Tryz.func107,Tryz.ntmps107
  go_wp2_with (first | (go_at_call 58;(with_reducible refine (inside_at HK.out).mono ?_);rintro e w' ⟨rfl,rfl⟩) | (go_at_call 149;(with_reducible refine (kind0_no (HB.out.below (Below.al (Below.al (Below.al (Below.refl _ _) _) _) _)) _ _ _ _ HO.out).mono ?_);rintro e w1 ⟨rfl,hb1⟩;obtain ⟨hc1,hf1⟩:=bcell hb1;have hz1:=hb1.size) | (go_at_call 58;(with_reducible refine (inside_at HM.out).mono ?_);rintro e w' ⟨rfl,rfl⟩));go_ret;exact ⟨rfl,bel⟩
 ·have ht:(if inB 0 0 (((b.ss[a.toNat]?).elim 0 List.length:Nat):Int)=true then (0:Int) else 1)=t:=by simpa [most,hO] using h
  clear h;have HO:=Hh hO;clear hO;cases hM:inB 0 0 (((b.ss[a.toNat]?).elim 0 List.length:Nat):Int)
  all_goals
   rw [hM] at ht;have HM:=Hh hM;clear hM;simp at ht;subst ht
   go_enter Tryz.func107,Tryz.ntmps107
   go_wp2_with (first | (go_at_call 58;(with_reducible refine (inside_at HK.out).mono ?_);rintro e w' ⟨rfl,rfl⟩) | (go_at_call 149;(with_reducible refine (kind0_yes (HB.out.below (Below.al (Below.al (Below.al (Below.refl _ _) _) _) _)) _ _ _ _ HO.out).mono ?_);rintro e w1 ⟨rfl,hb1⟩;obtain ⟨hc1,hf1⟩:=bcell hb1;have hz1:=hb1.size) | (go_at_call 58;(with_reducible refine (inside_at HM.out).mono ?_);rintro e w' ⟨rfl,rfl⟩));go_ret;exact ⟨rfl,bel⟩
theorem record_2 (hB:BookAt w b vr vg vm vs vc) (hG:∀ m∈b.ms,0<=m.groups/\m.groups<=1000) (hK:KindsAt w) (a rb m:Int) {t:Int} (h:recAl b ⟨2,a,rb,m⟩=t) :
 Calls Tryz.prog 107 #[.agg #[vr,vg,vm,vs,vc],.agg #[.int .i64 2,.int .i64 a,.int .i64 rb,.int .i64 m]] w (RecPost w t):=by
 obtain ⟨hlt,hK⟩:=hK;obtain ⟨⟨s,_,k0⟩,k1,k2,k3,k4⟩:=hK 2 (by omega);simp [usesB,usesMany,kindMost,kindRight] at k0 k1 k2 k3 k4;simp [recAl,usesB,usesMany,show inB 2 0 5=true from by decide] at h;have HK:=Hh (show inB 2 0 5=true from by decide);have HB:=Hh hB;have HG:=Hh hG;clear hB hG hK;by_cases hrb:rb=0
 rotate_left
 ·simp [hrb] at h;subst h
  go_enter Tryz.func107,Tryz.ntmps107
  go_wp2_with (first | (go_at_call 58;(with_reducible refine (inside_at HK.out).mono ?_);rintro e w' ⟨rfl,rfl⟩) | (go_at_call 58;(with_reducible refine (inside_at HM.out).mono ?_);rintro e w' ⟨rfl,rfl⟩));go_ret;exact ⟨rfl,bel⟩
 subst hrb;cases hO:inB a 0 ((b.ss.length:Int) - 1)
 ·simp [most,hO] at h;subst h;have HO:=Hh hO;clear hO
  go_enter Tryz.func107,Tryz.ntmps107
  go_wp2_with (first | (go_at_call 58;(with_reducible refine (inside_at HK.out).mono ?_);rintro e w' ⟨rfl,rfl⟩) | (go_at_call 149;(with_reducible refine (kind0_no (HB.out.below (Below.al (Below.al (Below.al (Below.refl _ _) _) _) _)) _ _ _ _ HO.out).mono ?_);rintro e w1 ⟨rfl,hb1⟩;obtain ⟨hc1,hf1⟩:=bcell hb1;have hz1:=hb1.size) | (go_at_call 58;(with_reducible refine (inside_at HM.out).mono ?_);rintro e w' ⟨rfl,rfl⟩));go_ret;exact ⟨rfl,bel⟩
 ·have ht:(if inB m 0 (((b.ss[a.toNat]?).elim 0 List.length:Nat):Int)=true then (0:Int) else 1)=t:=by simpa [most,hO] using h
  clear h;have HO:=Hh hO;clear hO;cases hM:inB m 0 (((b.ss[a.toNat]?).elim 0 List.length:Nat):Int)
  all_goals
   rw [hM] at ht;have HM:=Hh hM;clear hM;simp at ht;subst ht
   go_enter Tryz.func107,Tryz.ntmps107
   go_wp2_with (first | (go_at_call 58;(with_reducible refine (inside_at HK.out).mono ?_);rintro e w' ⟨rfl,rfl⟩) | (go_at_call 149;(with_reducible refine (kind0_yes (HB.out.below (Below.al (Below.al (Below.al (Below.refl _ _) _) _) _)) _ _ _ _ HO.out).mono ?_);rintro e w1 ⟨rfl,hb1⟩;obtain ⟨hc1,hf1⟩:=bcell hb1;have hz1:=hb1.size) | (go_at_call 58;(with_reducible refine (inside_at HM.out).mono ?_);rintro e w' ⟨rfl,rfl⟩));go_ret;exact ⟨rfl,bel⟩
theorem record_3 (hB:BookAt w b vr vg vm vs vc) (hG:∀ m∈b.ms,0<=m.groups/\m.groups<=1000) (hK:KindsAt w) (a rb m:Int) {t:Int} (h:recAl b ⟨3,a,rb,m⟩=t) :
 Calls Tryz.prog 107 #[.agg #[vr,vg,vm,vs,vc],.agg #[.int .i64 3,.int .i64 a,.int .i64 rb,.int .i64 m]] w (RecPost w t):=by
 obtain ⟨hlt,hK⟩:=hK;obtain ⟨⟨s,_,k0⟩,k1,k2,k3,k4⟩:=hK 3 (by omega);simp [usesB,usesMany,kindMost,kindRight] at k0 k1 k2 k3 k4;simp [recAl,usesB,usesMany,show inB 3 0 5=true from by decide] at h;have HK:=Hh (show inB 3 0 5=true from by decide);have HB:=Hh hB;have HG:=Hh hG;clear hB hG hK;by_cases hrb:rb=0
 rotate_left
 ·simp [hrb] at h;subst h
  go_enter Tryz.func107,Tryz.ntmps107
  go_wp2_with (first | (go_at_call 58;(with_reducible refine (inside_at HK.out).mono ?_);rintro e w' ⟨rfl,rfl⟩) | (go_at_call 58;(with_reducible refine (inside_at HM.out).mono ?_);rintro e w' ⟨rfl,rfl⟩));go_ret;exact ⟨rfl,bel⟩
 subst hrb;cases hO:inB a 0 ((b.ss.length:Int) - 1)
 ·simp [most,hO] at h;subst h;have HO:=Hh hO;clear hO
  go_enter Tryz.func107,Tryz.ntmps107
  go_wp2_with (first | (go_at_call 58;(with_reducible refine (inside_at HK.out).mono ?_);rintro e w' ⟨rfl,rfl⟩) | (go_at_call 149;(with_reducible refine (kind0_no (HB.out.below (Below.al (Below.al (Below.al (Below.refl _ _) _) _) _)) _ _ _ _ HO.out).mono ?_);rintro e w1 ⟨rfl,hb1⟩;obtain ⟨hc1,hf1⟩:=bcell hb1;have hz1:=hb1.size) | (go_at_call 58;(with_reducible refine (inside_at HM.out).mono ?_);rintro e w' ⟨rfl,rfl⟩));go_ret;exact ⟨rfl,bel⟩
 ·have ht:(if inB m 0 (((b.ss[a.toNat]?).elim 0 List.length:Nat):Int)=true then (0:Int) else 1)=t:=by simpa [most,hO] using h
  clear h;have HO:=Hh hO;clear hO;cases hM:inB m 0 (((b.ss[a.toNat]?).elim 0 List.length:Nat):Int)
  all_goals
   rw [hM] at ht;have HM:=Hh hM;clear hM;simp at ht;subst ht
   go_enter Tryz.func107,Tryz.ntmps107
   go_wp2_with (first | (go_at_call 58;(with_reducible refine (inside_at HK.out).mono ?_);rintro e w' ⟨rfl,rfl⟩) | (go_at_call 149;(with_reducible refine (kind0_yes (HB.out.below (Below.al (Below.al (Below.al (Below.refl _ _) _) _) _)) _ _ _ _ HO.out).mono ?_);rintro e w1 ⟨rfl,hb1⟩;obtain ⟨hc1,hf1⟩:=bcell hb1;have hz1:=hb1.size) | (go_at_call 58;(with_reducible refine (inside_at HM.out).mono ?_);rintro e w' ⟨rfl,rfl⟩));go_ret;exact ⟨rfl,bel⟩
theorem record_4 (hB:BookAt w b vr vg vm vs vc) (hG:∀ m∈b.ms,0<=m.groups/\m.groups<=1000) (hK:KindsAt w) (a rb m:Int) {t:Int} (h:recAl b ⟨4,a,rb,m⟩=t) :
 Calls Tryz.prog 107 #[.agg #[vr,vg,vm,vs,vc],.agg #[.int .i64 4,.int .i64 a,.int .i64 rb,.int .i64 m]] w (RecPost w t):=by
 obtain ⟨hlt,hK⟩:=hK;obtain ⟨⟨s,_,k0⟩,k1,k2,k3,k4⟩:=hK 4 (by omega);simp [usesB,usesMany,kindMost,kindRight] at k0 k1 k2 k3 k4;simp [recAl,usesB,usesMany,show inB 4 0 5=true from by decide] at h;have HK:=Hh (show inB 4 0 5=true from by decide);have HB:=Hh hB;have HG:=Hh hG;clear hB hG hK;cases hO:isPart b (a,rb)
 ·simp [most,hO] at h;subst h;have HO:=Hh hO;clear hO
  go_enter Tryz.func107,Tryz.ntmps107
  go_wp2_with (first | (go_at_call 58;(with_reducible refine (inside_at HK.out).mono ?_);rintro e w' ⟨rfl,rfl⟩) | (go_at_call 154;(with_reducible refine (kind4_at (HB.out.below (Below.al (Below.al (Below.al (Below.refl _ _) _) _) _)) HG.out _ (a,rb) _ HO.out).mono ?_);rintro e w1 ⟨rfl,hb1⟩;obtain ⟨hc1,hf1⟩:=bcell hb1;have hz1:=hb1.size) | (go_at_call 58;(with_reducible refine (inside_at HM.out).mono ?_);rintro e w' ⟨rfl,rfl⟩));go_ret;exact ⟨rfl,bel⟩
 ·have ht:(if inB m 0 (b.ss.length:Int)=true then (0:Int) else 1)=t:=by simpa [most,hO] using h
  clear h;have HO:=Hh hO;clear hO;cases hM:inB m 0 (b.ss.length:Int)
  all_goals
   rw [hM] at ht;have HM:=Hh hM;clear hM;simp at ht;subst ht
   go_enter Tryz.func107,Tryz.ntmps107
   go_wp2_with (first | (go_at_call 58;(with_reducible refine (inside_at HK.out).mono ?_);rintro e w' ⟨rfl,rfl⟩) | (go_at_call 154;(with_reducible refine (kind4_at (HB.out.below (Below.al (Below.al (Below.al (Below.refl _ _) _) _) _)) HG.out _ (a,rb) _ HO.out).mono ?_);rintro e w1 ⟨rfl,hb1⟩;obtain ⟨hc1,hf1⟩:=bcell hb1;have hz1:=hb1.size) | (go_at_call 58;(with_reducible refine (inside_at HM.out).mono ?_);rintro e w' ⟨rfl,rfl⟩));go_ret;exact ⟨rfl,bel⟩
theorem record_5 (hB:BookAt w b vr vg vm vs vc) (hG:∀ m∈b.ms,0<=m.groups/\m.groups<=1000) (hK:KindsAt w) (a rb m:Int) {t:Int} (h:recAl b ⟨5,a,rb,m⟩=t) :
 Calls Tryz.prog 107 #[.agg #[vr,vg,vm,vs,vc],.agg #[.int .i64 5,.int .i64 a,.int .i64 rb,.int .i64 m]] w (RecPost w t):=by
 obtain ⟨hlt,hK⟩:=hK;obtain ⟨⟨s,_,k0⟩,k1,k2,k3,k4⟩:=hK 5 (by omega);simp [usesB,usesMany,kindMost,kindRight] at k0 k1 k2 k3 k4;simp [recAl,usesB,usesMany,show inB 5 0 5=true from by decide] at h;have HK:=Hh (show inB 5 0 5=true from by decide);have HB:=Hh hB;have HG:=Hh hG;clear hB hG hK;by_cases hrb:rb=0
 rotate_left
 ·simp [hrb] at h;subst h
  go_enter Tryz.func107,Tryz.ntmps107
  go_wp2_with (first | (go_at_call 58;(with_reducible refine (inside_at HK.out).mono ?_);rintro e w' ⟨rfl,rfl⟩) | (go_at_call 58;(with_reducible refine (inside_at HM.out).mono ?_);rintro e w' ⟨rfl,rfl⟩));go_ret;exact ⟨rfl,bel⟩
 subst hrb;cases hO:inB a 0 ((b.ms.length:Int) - 1)
 ·simp [most,hO] at h;subst h;have HO:=Hh hO;clear hO
  go_enter Tryz.func107,Tryz.ntmps107
  go_wp2_with (first | (go_at_call 58;(with_reducible refine (inside_at HK.out).mono ?_);rintro e w' ⟨rfl,rfl⟩) | (go_at_call 156;(with_reducible refine (kind5_no (HB.out.below (Below.al (Below.al (Below.al (Below.refl _ _) _) _) _)) _ _ _ _ HO.out).mono ?_);rintro e w1 ⟨rfl,hb1⟩;obtain ⟨hc1,hf1⟩:=bcell hb1;have hz1:=hb1.size) | (go_at_call 58;(with_reducible refine (inside_at HM.out).mono ?_);rintro e w' ⟨rfl,rfl⟩));go_ret;exact ⟨rfl,bel⟩
 ·have ht:(if inB m 0 ((b.ms[a.toNat]?).elim 0 Msg.groups)=true then (0:Int) else 1)=t:=by simpa [most,hO] using h
  clear h;have HO:=Hh hO;clear hO;cases hM:inB m 0 ((b.ms[a.toNat]?).elim 0 Msg.groups)
  all_goals
   rw [hM] at ht;have HM:=Hh hM;clear hM;simp at ht;subst ht
   go_enter Tryz.func107,Tryz.ntmps107
   go_wp2_with (first | (go_at_call 58;(with_reducible refine (inside_at HK.out).mono ?_);rintro e w' ⟨rfl,rfl⟩) | (go_at_call 156;(with_reducible refine (kind5_yes (HB.out.below (Below.al (Below.al (Below.al (Below.refl _ _) _) _) _)) _ _ _ _ HO.out).mono ?_);rintro e w1 ⟨rfl,hb1⟩;obtain ⟨hc1,hf1⟩:=bcell hb1;have hz1:=hb1.size) | (go_at_call 58;(with_reducible refine (inside_at HM.out).mono ?_);rintro e w' ⟨rfl,rfl⟩));go_ret;exact ⟨rfl,bel⟩
theorem record_at (hB:BookAt w b vr vg vm vs vc) (hG:∀ m∈b.ms,0<=m.groups/\m.groups<=1000) (hK:KindsAt w) (r:Rec) {t:Int} (h:recAl b r=t) :
 Calls Tryz.prog 107 #[.agg #[vr,vg,vm,vs,vc],recV r] w (RecPost w t):=by
 cases hk:inB r.k 0 5
 ·simp [recAl,hk] at h;subst h;exact record_out r hk
 ·obtain ⟨k,a,rb,m⟩:=r;simp only [inB,decide_eq_true_eq] at hk;have:k=0\/k=1\/k=2\/k=3\/k=4\/k=5:=by omega
  rcases this with rfl | rfl | rfl | rfl | rfl | rfl
  ·exact record_0 hB hG hK a rb m h
  ·exact record_1 hB hG hK a rb m h
  ·exact record_2 hB hG hK a rb m h
  ·exact record_3 hB hG hK a rb m h
  ·exact record_4 hB hG hK a rb m h
  ·exact record_5 hB hG hK a rb m h
end
section
variable {b:Bk} {vr vg vm vs vc:Value} {w:World}
theorem record_at2 (hB:BookAt w b vr vg vm vs vc) (hG:∀ m∈b.ms,0<=m.groups/\m.groups<=1000) (hK:KindsAt w) (r:Rec) {t:Int} (h:recAl b r=t) :
 Calls Tryz.prog 107 #[.agg #[vr,vg,vm,vs,vc],.agg #[.int .i64 r.k,.int .i64 r.a,.int .i64 r.b,.int .i64 r.m]] w fun e w'=>e=.returned (.int .i64 t)/\Below w.heap.size w w':=record_at hB hG hK r h
theorem records_at (hB:BookAt w b vr vg vm vs vc) (hG:∀ m∈b.ms,0<=m.groups/\m.groups<=1000) (hK:KindsAt w) {t:Int} (h:recsAl b=t) :
 Calls Tryz.prog 90 #[.agg #[vr,vg,vm,vs,vc]] w fun e w'=>e=.returned (.int .i64 t)/\Below w.heap.size w w':=by
 obtain ⟨sa,sc,rfl,hM,hl⟩:=hB.rs;unfold recsAl at h;by_cases h4:5 < b.rs.length
 ·rw [if_pos h4] at h;subst h
  go_enter Tryz.func90,Tryz.ntmps90
  go_wp2;go_ret;exact ⟨rfl,bel⟩
 ·rw [if_neg h4] at h;have H:=Hh h;clear h;have HB:=Hh hB;clear hB;have HG:=Hh hG;clear hG;have HK:=Hh hK;clear hK;clear hM
  go_enter Tryz.func90,Tryz.ntmps90
  go_wp2;obtain ⟨W0,hW0⟩:∃ W0,W0=w.alloc (.cells #[vr,vg,vm,vs,.slice sa b.rs.length sc] 88):=⟨_,rfl⟩;rw [<- hW0];have five:=Five.new w vr vg vm vs (.slice sa b.rs.length sc) 88;rw [<- hW0] at five;have hb0:Below w.heap.size w W0:=by rw [hW0];(exact bel)
  have HB0:=Hh (HB.out.below hb0);have HK0:=Hh (HK.out.below hb0);have HS:Hid (RecsAt W0 sa b.rs):=by obtain ⟨_,_,e,h,_⟩:=HB0.out.rs;cases e;exact h
  clear hW0;go_loopw [15] (fun i wr=>∃ (k:Nat),k<=b.rs.length/\i=.int .i64 k/\Hid (goR b (b.rs.drop k)=t)/\Below W0.heap.size W0 wr) (fun i _=>b.rs.length - (intOf i).toNat)
  case atStart=>exact ⟨0,Nat.zero_le _,rfl,H.out,Below.refl _ _⟩
  case round =>
   obtain ⟨k,hk,rfl,hG0,hW⟩:=hrel;have hWs:=hW.size;by_cases hlt:k < b.rs.length
   ·obtain ⟨sb,so,rfl,hsb,e0,e1,e2,e3⟩:=HS.out k hlt;have c0:=(hW.cell hsb).trans e0;have c1:=(hW.cell hsb).trans e1;have c2:=(hW.cell hsb).trans e2;have c3:=(hW.cell hsb).trans e3;have hsb2:sb < wr.heap.size:=Nat.lt_of_lt_of_le hsb hW.size;have hG':=hG0.out;rw [List.drop_eq_getElem_cons hlt,goR] at hG';clear hG0 e0 e1 e2 e3;generalize hs:b.rs[k]=s at c0 c1 c2 c3 hG';obtain ⟨rk,ra,rb,rm⟩:=s;dsimp only at c0 c1 c2 c3;have HSS:=Hh hs;clear hs;obtain ⟨y0,y1,y2,y3,y4,ylt⟩:=five.below hW five.lt;have HBr:=Hh (HB0.out.below hW);have HKr:=Hh (HK0.out.below hW);by_cases hz:recAl b ⟨rk,ra,rb,rm⟩=0
    ·rw [if_neg (by simpa using hz)] at hG';have HZ:=Hh hz;have HG1:=Hh hG';clear hz hG';go_wp2_with (go_at_call 107;(with_reducible refine (record_at2 (HBr.out.below (bal _ _)) HG.out (HKr.out.below (bal _ _)) ⟨rk,ra,rb,rm⟩ HZ.out).mono ?_);rintro e w1 ⟨rfl,hb1⟩);go_roundw
     case rel=>exact ⟨k+1,by omega,by go_num,HG1.out,bel⟩
     case measure=>simp [intOf];omega
    ·rw [if_pos (by simpa using hz)] at hG';have HZ:=Hh hG';have hz2:(t == 0)=false:=by rw [<- hG'];simpa using hz
     have hz3:(t != 0)=true:=by rw [<- hG'];simpa using hz
     have hz4:¬ t=0:=by rw [<- hG'];exact hz
     clear hz hG';go_wp2_with (go_at_call 107;(with_reducible refine (record_at2 (HBr.out.below (bal _ _)) HG.out (HKr.out.below (bal _ _)) ⟨rk,ra,rb,rm⟩ HZ.out).mono ?_);rintro e w1 ⟨rfl,hb1⟩);go_ret;exact ⟨rfl,bel⟩
   ·have:goR b (b.rs.drop k)=t:=hG0.out;rw [List.drop_eq_nil_of_le (by omega)] at this;simp only [goR] at this;subst this;go_wp2;go_ret;exact ⟨rfl,bel⟩
end
section
variable {b:Bk} {vr vg vm vs vc:Value} {w:World}
theorem numbers_at {b:Bk} {vr vg vm vs vc:Value} {w:World} (hB:BookAt w b vr vg vm vs vc) {t:Int} (h:numbersAl b=t) :
 Calls Tryz.prog 87 #[.agg #[vr,vg,vm,vs,vc]] w fun e w'=>e=.returned (.int .i64 t)/\Below w.heap.size w w':=by
 obtain rfl:=hB.room;obtain rfl:=hB.gap;subst h;exact numbers_any b vm vs vc w
theorem msgsAl_ok {b:Bk} (h:msgsAl b=0):∀ m∈b.ms,0<=m.groups/\m.groups<=1000:=by
 unfold msgsAl at h;split at h
 ·cases h
 ·have:∀ (l:List Msg) (seen:List (List UInt8)),goM seen l=0->∀ m∈l,0<=m.groups/\m.groups<=1000:=by
   intro l
   induction l with
   | nil=>intro _ _ m hm;cases hm
   | cons x l ih =>
    intro seen hg m hm;unfold goM at hg;split at hg
    ·cases hg
    ·split at hg
     ·cases hg
     ·split at hg
      ·cases hg
      ·rename_i hx
       rcases List.mem_cons.1 hm with rfl | hm
       ·simp only [not_or,Bool.not_eq_false,inB,decide_eq_true_eq] at hx;omega
       ·exact ih _ hg m hm
  exact this _ _ h
theorem checkBook_at (hB:BookAt w b vr vg vm vs vc) (hN:∀ m∈b.ms,m.name.size<=1000000) (hK:KindsAt w) {t:Int} (h:bookAl b=t) :
 Calls Tryz.prog 55 #[.agg #[vr,vg,vm,vs,vc]] w fun e w'=>e=.returned (.int .i64 t)/\Below w.heap.size w w':=by
 have H:=Hh h;clear h;obtain ⟨rfl,rfl,⟨ma,mc,rfl,hM,hml⟩,⟨sa,sc,rfl,hS,hsl⟩,ra,rc,rfl,hR,hrl⟩:=id hB;have HB:=Hh hB;clear hB hM hS hR;have HN:=Hh hN;clear hN;have HK:=Hh hK;clear hK
 go_enter Tryz.func55,Tryz.ntmps55
 go_wp2;obtain ⟨W0,hW0⟩:∃ W0,W0=((w.alloc (.cells #[.int .i64 b.room,.int .i64 b.gap,.slice ma b.ms.length mc,.slice sa b.ss.length sc,.slice ra b.rs.length rc] 26)).alloc (.cells #[.int .i64 b.room,.int .i64 b.gap,.slice ma b.ms.length mc,.slice sa b.ss.length sc,.slice ra b.rs.length rc] 88)).alloc
  (.cells #[.func (.func 87) #[.agg #[.int .i64 b.room,.int .i64 b.gap,.slice ma b.ms.length mc,.slice sa b.ss.length sc,.slice ra b.rs.length rc]] #[],.func (.func 88) #[.agg #[.int .i64 b.room,.int .i64 b.gap,.slice ma b.ms.length mc,.slice sa b.ss.length sc,.slice ra b.rs.length rc]] #[],.func (.func 89) #[.agg #[.int .i64 b.room,.int .i64 b.gap,.slice ma b.ms.length mc,.slice sa b.ss.length sc,.slice ra b.rs.length rc]] #[],.func (.func 90) #[.agg #[.int .i64 b.room,.int .i64 b.gap,.slice ma b.ms.length mc,.slice sa b.ss.length sc,.slice ra b.rs.length rc]] #[]] 146):=⟨_,rfl⟩
 rw [<- hW0];have hb0:Below w.heap.size w W0:=by rw [hW0];(exact bel)
 have hsz:w.heap.size+1+1 < W0.heap.size:=by rw [hW0];simp
 have q0:W0.cell? ⟨w.heap.size+1+1,0,none⟩=some (.func (.func 87) #[.agg #[.int .i64 b.room,.int .i64 b.gap,.slice ma b.ms.length mc,.slice sa b.ss.length sc,.slice ra b.rs.length rc]] #[]):=by rw [hW0,World.cell?_alloc_at _ _ _ _ (by simp)];rfl
 have q1:W0.cell? ⟨w.heap.size+1+1,1,none⟩=some (.func (.func 88) #[.agg #[.int .i64 b.room,.int .i64 b.gap,.slice ma b.ms.length mc,.slice sa b.ss.length sc,.slice ra b.rs.length rc]] #[]):=by rw [hW0,World.cell?_alloc_at _ _ _ _ (by simp)];rfl
 have q2:W0.cell? ⟨w.heap.size+1+1,2,none⟩=some (.func (.func 89) #[.agg #[.int .i64 b.room,.int .i64 b.gap,.slice ma b.ms.length mc,.slice sa b.ss.length sc,.slice ra b.rs.length rc]] #[]):=by rw [hW0,World.cell?_alloc_at _ _ _ _ (by simp)];rfl
 have q3:W0.cell? ⟨w.heap.size+1+1,3,none⟩=some (.func (.func 90) #[.agg #[.int .i64 b.room,.int .i64 b.gap,.slice ma b.ms.length mc,.slice sa b.ss.length sc,.slice ra b.rs.length rc]] #[]):=by rw [hW0,World.cell?_alloc_at _ _ _ _ (by simp)];rfl
 have HB0:=Hh (HB.out.below hb0);have HK0:=Hh (HK.out.below hb0);clear hW0;go_loopw [19] (fun i wr=>∃ (k:Nat),k<=4/\i=.int .i64 k/\Hid ((1<=k->numbersAl b=0)/\(2<=k->msgsAl b=0)/\(3<=k->sessAl b=0)/\(4<=k->recsAl b=0))/\Below W0.heap.size W0 wr) (fun i _=>4 - (intOf i).toNat)
 case atStart=>exact ⟨0,by omega,rfl,by unfold Hid;omega,Below.refl _ _⟩
 case round =>
  obtain ⟨k,hk,rfl,hC,hW⟩:=hrel;have hWs:=hW.size;have HBr:=Hh (HB0.out.below hW);have HKr:=Hh (HK0.out.below hW);have z0:=(hW.cell hsz).trans q0;have z1:=(hW.cell hsz).trans q1;have z2:=(hW.cell hsz).trans q2;have z3:=(hW.cell hsz).trans q3;clear q0 q1 q2 q3;have:k=0\/k=1\/k=2\/k=3\/k=4:=by omega
  rcases this with rfl | rfl | rfl | rfl | rfl
  ·by_cases hz:numbersAl b=0
   ·have HZ:=Hh hz;clear hz;go_wp2_with (go_at_call 87;(with_reducible refine (numbers_at HBr.out HZ.out).mono ?_);rintro e w1 ⟨rfl,hb1⟩);go_roundw
    case rel=>exact ⟨1,by omega,by go_num,⟨fun _=>HZ.out,by omega,by omega,by omega⟩,bel⟩
    case measure=>simp [intOf]
   ·have HZ:=Hh (show numbersAl b=t by rw [<- H.out];simp [bookAl,hz]);have hz3:(t != 0)=true:=by rw [<- HZ.out];simpa using hz
    have hz4:¬ t=0:=by rw [<- HZ.out];exact hz
    clear hz;go_wp2_with (go_at_call 87;(with_reducible refine (numbers_at HBr.out HZ.out).mono ?_);rintro e w1 ⟨rfl,hb1⟩);go_ret;exact ⟨rfl,bel⟩
  ·have hp:=hC.out;have hq:bookAl b=if msgsAl b≠0 then msgsAl b else bookAl b:=by
    split
    ·simp [bookAl,hC.out.1 (by omega), *]
    ·rfl
   have HQ:=Hh hq;clear hp hq;by_cases hz:msgsAl b=0
   ·have HZ:=Hh hz;clear hz;go_wp2_with (go_at_call 88;(with_reducible refine (messages_at HBr.out HN.out HZ.out).mono ?_);rintro e w1 ⟨rfl,hb1⟩);go_roundw
    case rel=>exact ⟨2,by omega,by go_num,⟨fun _=>hC.out.1 (by omega),fun _=>HZ.out,by omega,by omega⟩,bel⟩
    case measure=>simp [intOf]
   ·have HZ:=Hh (show msgsAl b=t by rw [<- H.out,HQ.out,if_pos hz]);have hz3:(t != 0)=true:=by rw [<- HZ.out];simpa using hz
    have hz4:¬ t=0:=by rw [<- HZ.out];exact hz
    clear hz;go_wp2_with (go_at_call 88;(with_reducible refine (messages_at HBr.out HN.out HZ.out).mono ?_);rintro e w1 ⟨rfl,hb1⟩);go_ret;exact ⟨rfl,bel⟩
  ·have hp:=hC.out;have hq:bookAl b=if sessAl b≠0 then sessAl b else bookAl b:=by
    split
    ·simp [bookAl,hC.out.1 (by omega),hC.out.2.1 (by omega), *]
    ·rfl
   have HQ:=Hh hq;clear hp hq;have HG:=Hh (msgsAl_ok (hC.out.2.1 (by omega)));by_cases hz:sessAl b=0
   ·have HZ:=Hh hz;clear hz;go_wp2_with (go_at_call 89;(with_reducible refine (sessions_at HBr.out HG.out HZ.out).mono ?_);rintro e w1 ⟨rfl,hb1⟩);go_roundw
    case rel=>exact ⟨3,by omega,by go_num,⟨fun _=>hC.out.1 (by omega),fun _=>hC.out.2.1 (by omega),fun _=>HZ.out,by omega⟩,bel⟩
    case measure=>simp [intOf]
   ·have HZ:=Hh (show sessAl b=t by rw [<- H.out,HQ.out,if_pos hz]);have hz3:(t != 0)=true:=by rw [<- HZ.out];simpa using hz
    have hz4:¬ t=0:=by rw [<- HZ.out];exact hz
    clear hz;go_wp2_with (go_at_call 89;(with_reducible refine (sessions_at HBr.out HG.out HZ.out).mono ?_);rintro e w1 ⟨rfl,hb1⟩);go_ret;exact ⟨rfl,bel⟩
  ·have hp:=hC.out;have hq:bookAl b=if recsAl b≠0 then recsAl b else bookAl b:=by
    split
    ·simp [bookAl,hC.out.1 (by omega),hC.out.2.1 (by omega),hC.out.2.2.1 (by omega), *]
    ·rfl
   have HQ:=Hh hq;clear hp hq;have HG:=Hh (msgsAl_ok (hC.out.2.1 (by omega)));by_cases hz:recsAl b=0
   ·have HZ:=Hh hz;clear hz;go_wp2_with (go_at_call 90;(with_reducible refine (records_at HBr.out HG.out HKr.out HZ.out).mono ?_);rintro e w1 ⟨rfl,hb1⟩);go_roundw
    case rel=>exact ⟨4,by omega,by go_num,⟨fun _=>hC.out.1 (by omega),fun _=>hC.out.2.1 (by omega),fun _=>hC.out.2.2.1 (by omega),fun _=>HZ.out⟩,bel⟩
    case measure=>simp [intOf]
   ·have HZ:=Hh (show recsAl b=t by rw [<- H.out,HQ.out,if_pos hz]);have hz3:(t != 0)=true:=by rw [<- HZ.out];simpa using hz
    have hz4:¬ t=0:=by rw [<- HZ.out];exact hz
    clear hz;go_wp2_with (go_at_call 90;(with_reducible refine (records_at HBr.out HG.out HKr.out HZ.out).mono ?_);rintro e w1 ⟨rfl,hb1⟩);go_ret;exact ⟨rfl,bel⟩
  ·have ht:0=t:=by rw [<- H.out];simp [bookAl,hC.out.1 (by omega),hC.out.2.1 (by omega),hC.out.2.2.1 (by omega),hC.out.2.2.2 (by omega)]
   subst ht;clear z0 z1 z2 z3;go_wp2;go_ret;exact ⟨rfl,bel⟩
end
end
section
open Go Go.Maps Go.RowKit
open Go.WideMaps (KeyLaw)
open Go.WideElems (findIdx_born findIdx_arr modify_last set_self Fit)
open Go.ChangeMaps Go.MapKept
section
variable {H:Type} {P:Program} {w:World} {t k e:TypeId} {R:Value->Option (DataW H × List MemPlace)} {b n:Nat} {es:Array MapEntry} {clock:Nat}
theorem entry_all (K:KeyLaw P k) (ht:P.underlying t=some (.map k e)) {z:Value} (hz:∀ u:World,(zeroValue e).run P u=.ok z u) (hb:w.heap[b]? = some (.map es clock)) (F:Fit P k R es clock)
 {key:Value} {kl:Lit} (hkey:keyOf P k key=some kl) :
 ∃ (v0:Value) (st:Nat) (es1:Array MapEntry) (clock1:Nat),(Instr.lookup t (.map (some b)) key false).run P w=.ok v0 w /\
  (Instr.mapEntry t (.map (some b)) key).run P w=.ok (.tuple #[v0,goInt st]) (setBlock w b (.map es1 clock1)) /\
  (Instr.mapUpdate t (.map (some b)) key v0).run P w=.ok () (setBlock w b (.map es1 clock1)) /\
  ∀ (w2:World) (val:Value),w2.heap[b]? = some (.map es1 clock1)->∃ es' clock',(Instr.entryStore t (.map (some b)) (goInt st) val).run P w2=.ok () (setBlock w2 b (.map es' clock')) /\
   (Instr.mapUpdate t (.map (some b)) key val).run P w=.ok () (setBlock w b (.map es' clock')):=by
 obtain ⟨s1,s2,_⟩:=F.stamped;rcases K.find w hkey es.toList F.keys with ⟨h1,h2⟩ | ⟨j,e0,h1,h2,h3⟩
 ·refine ⟨z,clock,es.push ⟨key,z,clock⟩,clock+1,?_,?_,?_,fun w2 val hw2=>⟨es.push ⟨key,val,clock⟩,clock+1,?_,?_⟩⟩
  ·simp [Instr.lookup,run_underlying ht,MapKept.run_getObj_map hb,K.check w _ hkey,h1,hz,Result.andThen]
  ·simp [Instr.mapEntry,run_underlying ht,MapKept.run_getObj_map hb,K.check w false hkey,h1,hz,MapKept.run_setObj_map _ hb,Result.andThen,setBlock]
  ·simp [Instr.mapUpdate,run_underlying ht,MapKept.run_getObj_map hb,K.check w false hkey,h1,MapKept.run_setObj_map _ hb,Result.andThen,setBlock]
  ·have hidx:(es.push ⟨key,z,clock⟩).findIdx? (fun e=>((e.born:Nat):Int) == ((clock:Nat):Int))=some es.size:=by
    rw [findIdx_arr];exact findIdx_born (l:=(es.push ⟨key,z,clock⟩).toList) (j:=es.size) (e0:=⟨key,z,clock⟩) (by
     simp only [Array.toList_push,List.map_append,List.map_cons,List.map_nil]
     refine List.nodup_append.2 ⟨s2,by simp,fun a ha c hc e1=>?_⟩
     simp only [List.mem_singleton] at hc
     obtain ⟨x,hx,rfl⟩:=List.mem_map.1 ha
     have:=s1 x hx
     omega) (by simp)
   have hmod:(es.push ⟨key,z,clock⟩).modify es.size (fun e=>{ e with val:=val })=es.push ⟨key,val,clock⟩:=by
    apply Array.ext';rw [Array.toList_modify,Array.toList_push,Array.toList_push,<- Array.length_toList,modify_last]
   simp [Instr.entryStore,MapKept.run_getObj_map hw2,asInt,asIntOf,goInt,hidx,hmod,MapKept.run_setObj_map _ hw2,Result.andThen,setBlock]
  ·simp [Instr.mapUpdate,run_underlying ht,MapKept.run_getObj_map hb,K.check w false hkey,h1,MapKept.run_setObj_map _ hb,Result.andThen,setBlock]
 ·have hj:es[j]? = some e0:=by simpa using h2
  have hsame:es.modify j (fun e=>{ e with key:=key })=es:=by
   apply Array.ext';rw [Array.toList_modify,modify_eq_set _ _ _ _ h2];have:({ e0 with key:=key }:MapEntry)=e0:=by rw [<- h3]
   rw [this];exact set_self _ _ _ h2
  have hsame2:es.modify j (fun e=>{ e with key:=key,val:=e0.val })=es:=by
   apply Array.ext';rw [Array.toList_modify,modify_eq_set _ _ _ _ h2];have:({ e0 with key:=key,val:=e0.val }:MapEntry)=e0:=by rw [<- h3]
   rw [this];exact set_self _ _ _ h2
  refine ⟨e0.val,e0.born,es,clock,?_,?_,?_,fun w2 val hw2=>⟨es.modify j (fun e'=>{ e' with key:=key,val:=val }),clock,?_,?_⟩⟩
  ·simp [Instr.lookup,run_underlying ht,MapKept.run_getObj_map hb,K.check w _ hkey,h1,Result.andThen]
  ·simp [Instr.mapEntry,run_underlying ht,MapKept.run_getObj_map hb,K.check w false hkey,h1,hj,h3,K.stays w hkey,hsame,MapKept.run_setObj_map _ hb,Result.andThen,setBlock]
  ·simp [Instr.mapUpdate,run_underlying ht,MapKept.run_getObj_map hb,K.check w false hkey,h1,hj,h3,K.stays w hkey,hsame2,MapKept.run_setObj_map _ hb,Result.andThen,setBlock]
  ·have hidx:es.findIdx? (fun e=>((e.born:Nat):Int) == ((e0.born:Nat):Int))=some j:=by
    rw [findIdx_arr];exact findIdx_born s2 h2
   have hmod:es.modify j (fun e=>{ e with val:=val })=es.modify j (fun e'=>{ e' with key:=key,val:=val }):=by
    apply Array.ext';rw [Array.toList_modify,Array.toList_modify,modify_eq_set _ _ _ _ h2,modify_eq_set _ _ _ _ h2,<- h3]
   simp [Instr.entryStore,MapKept.run_getObj_map hw2,asInt,asIntOf,goInt,hidx,hmod,MapKept.run_setObj_map _ hw2,Result.andThen,setBlock]
  ·simp [Instr.mapUpdate,run_underlying ht,MapKept.run_getObj_map hb,K.check w false hkey,h1,hj,h3,K.stays w hkey,MapKept.run_setObj_map _ hb,Result.andThen,setBlock]
end
open Classical in
noncomputable def cntV (v:Value) (L:List Value):Nat:=(L.filter fun x=>decide (x=v)).length
theorem cntV_cons_same (v:Value) (L:List Value):cntV v (v::L)=cntV v L+1:=by simp [cntV]
theorem cntV_cons_ne {v x:Value} (h:x≠v) (L:List Value):cntV v (x::L)=cntV v L:=by simp [cntV,h]
theorem cntV_le (v:Value) (L:List Value):cntV v L<=L.length:=List.length_filter_le _ _
section
variable {P:Program} {w:World} {t k e:TypeId} {b n:Nat}
def CntAt (w:World) (P:Program) (k e:TypeId) (b n:Nat) (L:List Value):Prop :=
 ∃ D:DataW Unit,w.ownsMap P k (plainElem P e) b n D/\IsMap D/\∀ key kl,keyOf P k key=some kl->D.atKey kl (.lit (.int .i64 0))=.lit (.int .i64 (cntV key L:Nat))/\(has D kl=true↔key∈L)
theorem CntAt.same {L:List Value} {w':World} (h:CntAt w P k e b n L) (hb:w'.heap[b]? = w.heap[b]?):CntAt w' P k e b n L:=by
 obtain ⟨D,h1,h2⟩:=h;exact ⟨D,ownsMap_same h1 hb,h2⟩
theorem CntAt.lt {L:List Value} (h:CntAt w P k e b n L):b < w.heap.size:=by
 obtain ⟨D,h1,_⟩:=h;exact h1.lt
theorem CntAt.below {L:List Value} {w':World} (h:CntAt w P k e b n L) (hb:Below w.heap.size w w'):CntAt w' P k e b n L:=h.same (hb.block _ h.lt)
theorem CntAt.al {L:List Value} (h:CntAt w P k e b n L) (o:Obj):CntAt (w.alloc o) P k e b n L:=h.same (Below.heap_alloc w o b h.lt)
theorem CntAt.made (w:World) (P:Program) (k e:TypeId):CntAt (w.alloc (.map #[] 0)) P k e w.heap.size 0 [] :=
 ⟨.map [],World.ownsMap_made w P k _,isMap_empty,fun _ _ _=>⟨rfl,by simp [has]⟩⟩
theorem CntAt.look {L:List Value} (h:CntAt w P k e b n L) (K:Keyed P k) (ht:P.underlying t=some (.map k e)) (he:P.underlying e=some (.int .i64)) (hz:(zeroValue e).run P w=.ok (.int .i64 0) w)
 {key:Value} {kl:Lit} (hkey:keyOf P k key=some kl):(Instr.lookup t (.map (some b)) key false).run P w=.ok (.int .i64 (cntV key L:Nat)) w:=by
 obtain ⟨D,h1,h2,h3⟩:=h;obtain ⟨c,hrun,hat,_⟩:=h1.lookup_int K ht he hz hkey;rw [(h3 key kl hkey).1] at hat;simp at hat;rw [hrun,hat]
theorem CntAt.bump {L:List Value} (h:CntAt w P k e b n L) (K:KeyLaw P k) (ht:P.underlying t=some (.map k e)) (he:P.underlying e=some (.int .i64)) (hz:∀ u:World,(zeroValue e).run P u=.ok (.int .i64 0) u)
 {key:Value} {kl:Lit} (hkey:keyOf P k key=some kl) (hn:n < maxLen) (hL:L.length < maxLen) :
 ∃ (st:Nat) (w1 w2:World),(Instr.lookup t (.map (some b)) key false).run P w=.ok (.int .i64 (cntV key L:Nat)) w /\
  (Instr.mapEntry t (.map (some b)) key).run P w=.ok (.tuple #[.int .i64 (cntV key L:Nat),goInt st]) w1/\(Instr.lookup t (.map (some b)) key false).run P w1=.ok (.int .i64 (cntV key L:Nat)) w1 /\
  (Instr.entryStore t (.map (some b)) (goInt st) (.int .i64 ((cntV key L:Nat)+1))).run P w1=.ok () w2/\CntAt w2 P k e b (n+1) (key::L)/\w.grownBy w2 (some b)/\w.grownBy w1 (some b):=by
 have KK:Keyed P k:=Keyed.of_law K;have hlook:=h.look KK ht he (hz w) hkey;have hlt:=h.lt;obtain ⟨D,hown,h2,h3⟩:=h;obtain ⟨es,clock,hb,F,hs,hD⟩:=id hown;obtain ⟨v0,st,es1,clock1,g1,g2,g3,g4⟩:=entry_all K ht hz hb F hkey;rw [hlook] at g1;injection g1 with g1;subst g1;have hc:=cntV_le key L;have wf:∀ c:Nat,c<=L.length+1->(Lit.int .i64 (c:Int)).wf=true:=fun c hc=>by
  have e1:IntKind.i64.min=-9223372036854775808:=rfl;have e2:IntKind.i64.max=9223372036854775807:=rfl;unfold maxLen at hL;simp [Lit.wf,e1,e2];omega
 have hb1:(setBlock w b (.map es1 clock1)).heap[b]? = some (.map es1 clock1):=by simp [setBlock,hlt]
 obtain ⟨es2,clock2,g5,g6⟩:=g4 _ (.int .i64 ((cntV key L:Nat)+1)) hb1;have hset:setBlock (setBlock w b (.map es1 clock1)) b (.map es2 clock2)=setBlock w b (.map es2 clock2):=by simp [setBlock]
 obtain ⟨wa,ra,owna,ga⟩:=hown.update KK ht hn hkey (plainElem_int (H:=Unit) he (wf (cntV key L) (by omega)));rw [g3] at ra;injection ra with _ ra;subst ra;obtain ⟨wb,rb,ownb,gb⟩:=hown.update KK ht hn hkey (plainElem_int (H:=Unit) he (wf (cntV key L+1) (by omega)));rw [show ((cntV key L+1:Nat):Int)=(cntV key L:Nat)+1 by simp,g6] at rb;injection rb with _ rb;subst rb;refine ⟨st,_,_,hlook,g2,?_,g5,?_,?_,ga⟩
 ·obtain ⟨c,hrun,hat,_⟩:=owna.lookup_int KK ht he (hz _) hkey;rw [atKey_put_same h2 (KK.key hkey)] at hat;simp at hat;rw [hrun,hat]
 ·rw [hset];refine ⟨_,ownb,h2.put _ _,fun key' kl' hkey'=>?_⟩;by_cases e1:key'=key
  ·subst e1;rw [hkey] at hkey';cases hkey';refine ⟨?_,by simp [has_put_same h2 (KK.key hkey)]⟩;rw [atKey_put_same h2 (KK.key hkey),cntV_cons_same]
  ·have hne:kl'≠kl:=fun e2=>e1 (KK.inj (e2 ▸ hkey') hkey);obtain ⟨y1,y2⟩:=h3 key' kl' hkey';refine ⟨?_,?_⟩
   ·rw [atKey_put_other hne,cntV_cons_ne (Ne.symm e1),y1]
   ·rw [has_put_other hne,y2];simp [e1]
 ·rw [hset];exact gb
end
end
section
open Go.RowKit Go.Maps Sp
theorem partLaw:WideMaps.KeyLaw Tryz.prog 85:=deep_law_laid prog_laidOut (m:=2) (by omega) (of_decide_eq_true (by kernel_rfl)) (by kernel_rfl) partWide
theorem zeroInt (w:World):(zeroValue 3).run Tryz.prog w=.ok (.int .i64 0) w:=by kernel_rfl
def cameV (c:List Int):Value:=.agg #[.int .i64 (c.getD 0 0),.int .i64 (c.getD 1 0),.int .i64 (c.getD 2 0),.int .i64 (c.getD 3 0)]
def Came (b:Bk) (c:List Int):Prop:=∀ i (h:i < b.ss.length),0<=c.getD i 0/\c.getD i 0<=(b.ss[i].length:Int)
structure BkOk (b:Bk):Prop where
 groups:∀ m∈b.ms,0<=m.groups/\m.groups<=1000
 ml:b.ms.length<=5
 sl:b.ss.length<=4
 pl:∀ s∈b.ss,s.length<=5
 part:∀ s∈b.ss,∀ p∈s,isPart b p=true
 nodup:∀ s∈b.ss,s.Nodup
def copiesK (b:Bk) (c:List Int) (k:Nat) (p:Prt):Nat:=(((b.ss.take k).zip c).map fun x=>(x.1.take x.2.toNat).count p).sum
theorem copiesK_all (b:Bk) (c:List Int) (p:Prt):(copiesK b c b.ss.length p:Int)=copies b c p:=by unfold copiesK copies;rw [List.take_length]
theorem copiesK_succ (b:Bk) (c:List Int) (k:Nat) (p:Prt) (h:k < b.ss.length) (hc:k < c.length):copiesK b c (k+1) p=copiesK b c k p+(b.ss[k].take (c.getD k 0).toNat).count p:=by
 unfold copiesK;rw [List.take_succ_eq_append_getElem h];have hl:(b.ss.take k).length=k:=by simp;omega
 obtain ⟨c1,c2,rfl,hc1⟩:∃ c1 c2,c=c1 ++ c2/\c1.length=k:=⟨c.take k,c.drop k,by simp,by simp;omega⟩;have hx:(c1 ++ c2).getD k 0=c2.getD 0 0:=by
  simp only [List.getD];rw [List.getElem?_append_right (by omega),hc1,Nat.sub_self]
 cases c2 with
 | nil=>simp [hc1] at hc
 | cons y c2 =>
  rw [List.zip_append (by omega),hx];rw [show (b.ss.take k).zip (c1 ++ y::c2)=(b.ss.take k).zip c1 from ?_]
  ·simp
  ·rw [show (b.ss.take k).zip (c1 ++ y::c2)=(b.ss.take k ++ []).zip (c1 ++ y::c2) by simp,List.zip_append (by omega)];simp
theorem cntV_partV (l:List Prt) (p:Prt):cntV (partV p) (l.map partV)=l.count p:=by
 induction l with
 | nil=>rfl
 | cons x l ih =>
  rw [List.map_cons];by_cases h:x=p
  ·subst h;rw [cntV_cons_same,ih];simp
  ·rw [cntV_cons_ne (fun e=>h (partV_inj e)),ih,List.count_cons_of_ne h]
theorem four {c:List Int} (h:c.length=4):∃ c0 c1 c2 c3,c=[c0,c1,c2,c3]:=by
 match c,h with
 | [a,b,d,e],_=>exact ⟨a,b,d,e,rfl⟩
def CopiesOut (w:World) (b:Bk) (c:List Int) (e:Ending) (w':World):Prop :=
 ∃ B n l,e=.returned (.map (some B))/\w.heap.size<=B/\CntAt w' Tryz.prog 85 3 B n (List.map partV l)/\(∀ p,(List.count p l:Int)=copies b c p)/\(∀ p∈l,isPart b p=true)/\Below w.heap.size w w'
theorem copies_at {b:Bk} {vr vg vm vs vc:Value} {w:World} (hB:BookAt w b vr vg vm vs vc) (hO:BkOk b) {c:List Int} (hc:Came b c) (hc4:c.length=4) :
 Calls Tryz.prog 96 #[.agg #[vr,vg,vm,vs,vc],cameV c] w (CopiesOut w b c):=by
 obtain ⟨sa,sc,rfl,hM,hl⟩:=hB.ss;obtain ⟨c0,c1,c2,c3,rfl⟩:=four hc4;rw [show cameV [c0,c1,c2,c3]=.agg #[.int .i64 c0,.int .i64 c1,.int .i64 c2,.int .i64 c3] from rfl];have hsl:=hO.sl;have HB:=Hh hB;clear hB hM;have HO:=Hh hO;clear hO;have HC:=Hh hc;clear hc hc4;have hmm:=@run_makeMap Tryz.prog
 go_enter Tryz.func96,Tryz.ntmps96
 go_wp2;obtain ⟨W0,hW0⟩:∃ W0,W0=((w.alloc (.cells #[vr,vg,vm,.slice sa b.ss.length sc,vc] 88)).alloc (.cells #[.int .i64 c0,.int .i64 c1,.int .i64 c2,.int .i64 c3] 116)).alloc (.map #[] 0):=⟨_,rfl⟩;rw [<- hW0];have hb0:Below w.heap.size w W0:=by rw [hW0];(exact bel)
 have hsz:W0.heap.size=w.heap.size+1+1+1:=by rw [hW0];simp
 have hset:=CntAt.made ((w.alloc (.cells #[vr,vg,vm,.slice sa b.ss.length sc,vc] 88)).alloc (.cells #[.int .i64 c0,.int .i64 c1,.int .i64 c2,.int .i64 c3] 116)) Tryz.prog 85 3;rw [World.size_alloc,World.size_alloc,<- hW0] at hset;have hx:∀ k,k < 4->W0.cell? ⟨w.heap.size+1,k,none⟩=some (.int .i64 ([c0,c1,c2,c3].getD k 0)):=fun k hk=>by
  rw [hW0,World.cell?_alloc_past _ _ _ (by simp),World.cell?_alloc_at _ _ _ _ (by simp)];have:k=0\/k=1\/k=2\/k=3:=by omega
  rcases this with rfl | rfl | rfl | rfl <;> rfl
 have HX:=Hh hx;have HB0:=Hh (HB.out.below hb0);have HS:Hid (SessAt w sa b.ss):=by obtain ⟨_,_,e,h,_⟩:=HB.out.ss;cases e;exact h
 have HSZ:=Hh hsz;have hsz2:w.heap.size+1+1 < W0.heap.size:=by omega
 clear hW0 hx hsz;go_loopw [15] (fun i wr=>∃ (k:Nat) (l:List Prt),k<=b.ss.length/\i=.int .i64 k/\Hid ((∀ p,l.count p=copiesK b [c0,c1,c2,c3] k p)/\∀ p∈l,isPart b p=true)/\l.length<=k * 5/\CntAt wr Tryz.prog 85 3 (w.heap.size+1+1) l.length (l.map partV)/\Below (w.heap.size+1+1) W0 wr) (fun i _=>b.ss.length - (intOf i).toNat)
 case atStart=>exact ⟨0,[],Nat.zero_le _,rfl,⟨fun p=>by simp [copiesK],by simp⟩,by simp,hset,Below.refl _ _⟩
 case round =>
  obtain ⟨k,l,hk,rfl,hG,hll,hS,hW⟩:=hrel;obtain ⟨wo,rfl⟩:∃ wo:World,wo=wr:=⟨_,rfl⟩;have hWs:=hW.size;by_cases hlt:k < b.ss.length
  ·obtain ⟨sb,so,rfl,hsb,pa,pc,h0,hpc,hpl,hP⟩:=HS.out k hlt;have hwo:Below w.heap.size w wo:=hb0.trans (hW.mono (by omega));have d0:=(hwo.cell hsb).trans h0;have hsb2:sb < wo.heap.size:=Nat.lt_of_lt_of_le hsb hwo.size;have y0:=(hW.cell (p:=⟨w.heap.size+1,k,none⟩) (by simp)).trans (HX.out k (by omega));have hck:=HC.out k hlt;have hcs:=copiesK_succ b [c0,c1,c2,c3] k;have hpk:=HO.out.part _ (List.getElem_mem hlt);have hpl5:=HO.out.pl _ (List.getElem_mem hlt);generalize hs:b.ss[k]=s at d0 hck hpc hpl hP hpk hpl5;have hcs':=fun p=>hcs p hlt (by simp;omega);rw [hs] at hcs';generalize hkk:List.getD [c0,c1,c2,c3] k 0=ck at y0 hck hcs';obtain ⟨n,rfl⟩:∃ n:Nat,ck=n:=⟨ck.toNat,by omega⟩;have hn:n<=s.length:=by omega
   have hnpc:(n:Int)<=pc:=by omega
   have hn0:(0:Int)<=n:=by omega
   have hk4:(k:Int) < 4:=by omega
   have hk0:(0:Int)<=k:=by omega
   have hwx:w.heap.size+1 < wo.heap.size:=by omega
   have H1:=Hh hcs';have HP0:=Hh hP;have HPK:=Hh hpk;clear hcs hcs' hkk hs h0 hck hP hpk;go_wp2;go_quiet (fail);go_wp2;have HG2:=hG;clear hG;go_loopw [27] (fun i wr=>∃ (j:Nat) (l:List Prt),j<=n/\i=.int .i64 j/\Hid ((∀ p,l.count p=copiesK b [c0,c1,c2,c3] k p+(s.take j).count p)/\∀ p∈l,isPart b p=true)/\l.length<=k * 5+j/\CntAt wr Tryz.prog 85 3 (w.heap.size+1+1) l.length (l.map partV)/\Below (w.heap.size+1+1) W0 wr) (fun i _=>n - (intOf i).toNat)
   case atStart =>
    refine ⟨0,l,Nat.zero_le _,rfl,⟨fun p=>by simp [HG2.out.1 p],HG2.out.2⟩,by omega,(hS.al _).same rfl,bel⟩
   case round =>
    obtain ⟨j,l,hj,rfl,hQ,hll,hS,hWi⟩:=hrel;have hWis:=hWi.size;by_cases hltj:j < n
    ·have hwi:Below w.heap.size w wr:=hb0.trans (hWi.mono (by omega));obtain ⟨pb,po,rfl,hpb,p0,p1⟩:=HP0.out j (by omega);have e0:=(hwi.cell hpb).trans p0;have e1:=(hwi.cell hpb).trans p1;have hpb2:pb < wr.heap.size:=Nat.lt_of_lt_of_le hpb hwi.size;have hpp:=HPK.out _ (List.getElem_mem (show j < s.length by omega));have htk:=List.take_succ_eq_append_getElem (show j < s.length by omega);generalize hp:s[j]=p at e0 e1 hpp htk;obtain ⟨kl,hkey⟩:=partKey p (isPart_bounds HO.out.groups (by have:=HO.out.ml;omega) hpp).1 (isPart_bounds HO.out.groups (by have:=HO.out.ml;omega) hpp).2;obtain ⟨pm,pg⟩:=p;dsimp only at e0 e1;have HP2:=Hh hp;have HTK:=Hh htk;have HPP:=Hh hpp;clear hp htk p0 p1 hpp;have hS1:CntAt (wr.alloc (.cells #[.int .i64 pm,.int .i64 pg] 85)).drew Tryz.prog 85 3 (w.heap.size+1+1) l.length (l.map partV):=(hS.al _).same rfl;have hmx:l.length < maxLen:=by unfold maxLen;omega
     obtain ⟨st,w1,w2,q1,q2,q3,q4,hS2,g1,g2⟩:=hS1.bump partLaw Tryz.underlying153 Tryz.underlying3 zeroInt hkey hmx (by simpa using hmx);have hle:=cntV_le (partV (pm,pg)) (l.map partV);generalize hcc:cntV (partV (pm,pg)) (l.map partV)=cc at q1 q2 q3 q4 hle;rw [List.length_map] at hle;have e2:IntKind.i64.wrap ((cc:Int)+1)=(cc:Int)+1:=IntWalk.i64_in _ (by omega);have hS3:=Hh hS2;have HKEY:=Hh hkey;clear hcc hS2 hkey hS1;unfold partV at q1 q2 q3;unfold goInt at q2 q4;go_wp2
     go_region
     all_goals
      go_wp2;go_roundw
      case rel =>
       refine ⟨j+1,(pm,pg)::l,by omega,by go_num,⟨fun p=>?_,fun p hp=>?_⟩,by simp;omega,by simpa using hS3.out,?_⟩
       ·rw [HTK.out,List.count_cons,hQ.out.1 p,List.count_append,List.count_cons];simp;omega
       ·rcases List.mem_cons.1 hp with rfl | hp
        ·exact HPP.out
        ·exact hQ.out.2 p hp
       ·refine Below.grN (w:=W0) (a:=(wr.alloc (.cells #[.int .i64 pm,.int .i64 pg] 85)).drew) ?_ (by omega) g1 (Nat.le_refl _)
        (exact bel)
      case measure=>simp [intOf];omega
    ·obtain rfl:j=n:=by omega
     have HQ2:Hid ((∀ p,l.count p=copiesK b [c0,c1,c2,c3] (k+1) p)/\∀ p∈l,isPart b p=true):=⟨fun p=>by rw [H1.out p,hQ.out.1 p];simp,hQ.out.2⟩;clear hQ;go_wp2;go_roundw
     case rel=>exact ⟨k+1,l,by omega,by go_num,HQ2,by omega,hS,hWi⟩
     case measure=>simp [intOf];omega
  ·obtain rfl:k=b.ss.length:=by omega
   go_wp2;go_ret;refine ⟨_,_,l,rfl,by omega,hS,fun p=>?_,hG.out.2,hb0.trans (hW.mono (by omega))⟩;rw [hG.out.1 p,copiesK_all]
def klP (p:Prt):Lit:=.string (keyBytes [.int .i64 p.1,.int .i64 p.2])
theorem partKeyE (p:Prt) (h1:i64ok p.1) (h2:i64ok p.2):keyOf Tryz.prog 85 (partV p)=some (klP p):=by
 obtain ⟨m,hm⟩:=typesSize;unfold keyOf;simp only [Tryz.underlying85];rw [if_pos (by simp [partKeyType,Value.formed,Tryz.underlying85,partCells,partV]),hm];unfold Program.keyLits;simp only [Tryz.underlying85,Value.cells,partV];rw [if_pos (by rw [partCells];exact ⟨rfl,by simp⟩)];unfold i64ok at h1 h2;simp [Program.keyLits,intCells,Tryz.underlying3,h1,h2,klP]
theorem partKey_inv {v:Value} {kl:Lit} (h:keyOf Tryz.prog 85 v=some kl):∃ p,v=partV p:=by
 obtain ⟨m,hm⟩:=typesSize;unfold keyOf at h;simp only [Tryz.underlying85] at h;split at h
 ·rename_i hf
  simp [partKeyType,Value.formed,Tryz.underlying85,partCells] at hf;rw [hm] at h;unfold Program.keyLits at h;simp only [Tryz.underlying85] at h
  cases v with
  | agg cs =>
   obtain ⟨cs⟩:=cs
   match cs,hf with
   | [x,y],_ =>
    have one:∀ (z:Value) (r:List Lit),Tryz.prog.keyLits (m+2) 3 [z]=some r->∃ a,z=.int .i64 a:=fun z r hz=>by
     unfold Program.keyLits at hz;simp only [Tryz.underlying3] at hz;cases z <;> simp at hz;exact ⟨_,by rw [hz.1.1]⟩
    cases h1:Tryz.prog.keyLits (m+2) 3 [x] with
    | none=>simp [Value.cells,partCells,intCells,h1] at h
    | some r1 =>
     cases h2:Tryz.prog.keyLits (m+2) 3 [y] with
     | none=>simp [Value.cells,partCells,intCells,h1,h2] at h
     | some r2 =>
      obtain ⟨a,rfl⟩:=one _ _ h1;obtain ⟨b,rfl⟩:=one _ _ h2;exact ⟨(a,b),rfl⟩
  | _=>cases hf
 ·cases h
theorem filter_step {G g0:Nat} {A Q Q':Nat->Bool} (hp:A g0=true) (h0:Q g0=false) (h1:Q' g0=true) (hn:∀ g,g < G->g≠g0->Q' g=Q g) (hG:g0 < G) :
 ((List.range G).filter fun g=>A g && Q' g).length=((List.range G).filter fun g=>A g && Q g).length+1:=by
 induction G with
 | zero=>omega
 | succ G ih =>
  rw [List.range_succ,List.filter_append,List.filter_append,List.length_append,List.length_append];by_cases hg:G=g0
  ·subst hg;have:((List.range G).filter fun g=>A g && Q' g)=((List.range G).filter fun g=>A g && Q g):=by
    apply List.filter_congr;intro x hx;rw [hn x (by have:=List.mem_range.1 hx;omega) (by have:=List.mem_range.1 hx;omega)]
   rw [this];simp [hp,h0,h1]
  ·rw [ih (fun g h=>hn g (by omega)) (by omega)];have e:[G].filter (fun g=>A g && Q' g)=[G].filter (fun g=>A g && Q g):=by
    apply List.filter_congr;intro x hx;rw [List.mem_singleton.1 hx,hn G (by omega) hg]
   rw [e];omega
theorem sameKey_klP (p:Prt):(klP p).sameKey (klP p)=true:=by simp [klP,Lit.sameKey]
theorem klP_ne {p q:Prt} (hp:i64ok p.1/\i64ok p.2) (hq:i64ok q.1/\i64ok q.2) (h:p≠q):(klP p).sameKey (klP q)=false :=
 sameKey_ne fun e=>h (partV_inj (partKeyed.inj (partKeyE p hp.1 hp.2) (e ▸ partKeyE q hq.1 hq.2)))
end
end Go.Proofs.YtdjnkplgllakcaaGreatDoor
