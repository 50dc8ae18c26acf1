/- Leads to the Store laws of chapter 6: V6 V7 V8. -/
import Derived.Test.YtfggbepickdokaaGreatDoorT36
set_option maxHeartbeats 4000000
set_option maxRecDepth 100000
set_option linter.all false
namespace Go.Proofs.YtfggbepickdokaaGreatDoor
open Go.RowKit Go.Maps Sp Mt Go.Conc
theorem ints_lit (w:World) (l:List Int) {t:TypeId} {n:Nat} (hn:n=w.heap.size):IntsAt (w.alloc (.cells (l.map (Value.int .i64)).toArray t)) (some ⟨n,0,none⟩) l:=fun i hi=>by
 subst hn
 refine ⟨w.heap.size,0,rfl,by simp,?_⟩
 rw [World.cell?_alloc_at _ _ _ _ rfl]
 simp [hi]
theorem ints_lit2 (w:World) (x y:Int) {t:TypeId} {n:Nat} (hn:n=w.heap.size):IntsAt (w.alloc (.cells #[.int .i64 x,.int .i64 y] t)) (some ⟨n,0,none⟩) [x,y]:=ints_lit w [x,y] hn
theorem ints_lit3 (w:World) (x y z:Int) {t:TypeId} {n:Nat} (hn:n=w.heap.size):IntsAt (w.alloc (.cells #[.int .i64 x,.int .i64 y,.int .i64 z] t)) (some ⟨n,0,none⟩) [x,y,z]:=ints_lit w [x,y,z] hn
theorem parts_lit2 (w:World) (a b c d:Int) {t:TypeId} {n:Nat} (hn:n=w.heap.size):PartsAt (w.alloc (.cells #[.int .i64 a,.int .i64 b,.int .i64 c,.int .i64 d] t)) (some ⟨n,0,none⟩) [(a,b),(c,d)]:=fun i hi=>by
 subst hn
 refine ⟨w.heap.size,0,rfl,by simp,?_⟩
 have:i=0∨i=1:=by have:i < 2:=hi;omega
 rcases this with rfl | rfl <;> exact ⟨by rw [World.cell?_alloc_at _ _ _ _ rfl];rfl,by rw [World.cell?_alloc_at _ _ _ _ rfl];rfl⟩
theorem parts_lit3 (w:World) (a b c d e f:Int) {t:TypeId} {n:Nat} (hn:n=w.heap.size):PartsAt (w.alloc (.cells #[.int .i64 a,.int .i64 b,.int .i64 c,.int .i64 d,.int .i64 e,.int .i64 f] t)) (some ⟨n,0,none⟩) [(a,b),(c,d),(e,f)]:=fun i hi=>by
 subst hn
 refine ⟨w.heap.size,0,rfl,by simp,?_⟩
 have:i=0∨i=1∨i=2:=by have:i < 3:=hi;omega
 rcases this with rfl | rfl | rfl <;> exact ⟨by rw [World.cell?_alloc_at _ _ _ _ rfl];rfl,by rw [World.cell?_alloc_at _ _ _ _ rfl];rfl⟩
theorem ints_set {W:World} {a:Option Addr} {l:List Int} {p:Addr} {x:Option Addr} {n c:Nat} {v:Value} (h:IntsAt W a l) (hp:W.cell? p=some (.slice x n c)):IntsAt (W.setCell p v) a l:=fun i hi=>by
 obtain ⟨b,o,e,hlt,hc⟩:=h i hi
 refine ⟨b,o,e,by simpa [World.setCell] using hlt,?_⟩
 rw [World.cell?_setCell_other (h:=fun e'=>by subst e';rw [hp] at hc;cases hc)]
 exact hc
theorem parts_set {W:World} {a:Option Addr} {l:List Prt} {p:Addr} {x:Option Addr} {n c:Nat} {v:Value} (h:PartsAt W a l) (hp:W.cell? p=some (.slice x n c)):PartsAt (W.setCell p v) a l:=fun i hi=>by
 obtain ⟨b,o,e,hlt,hc,hc2⟩:=h i hi
 refine ⟨b,o,e,by simpa [World.setCell] using hlt,?_,?_⟩
 ·rw [World.cell?_setCell_other (h:=fun e'=>by subst e';rw [hp] at hc;cases hc)]
  exact hc
 ·rw [World.cell?_setCell_other (h:=fun e'=>by subst e';rw [hp] at hc2;cases hc2)]
  exact hc2
theorem none_recs {w:World} {ra:Option Addr} (h:RecsAt w ra exB.rs):ra=none→3=0∧3=0:=fun e=>by
 obtain ⟨b,o,e',_⟩:=h 0 (by decide)
 rw [e] at e'
 cases e'
theorem recs_src {w w1:World} {ra:Option Addr} (h:RecsAt w ra exB.rs) (hb:Below w.heap.size w w1):∀ b,ra=some b→∀ j u,(exB.rs.flatMap cellsR)[j]? = some u→w1.cell? (b.add j)=some u:=fun b e j u hj=>by
 obtain ⟨b0,o0,e0,hlt0,p0,p1,p2,p3⟩:=h 0 (by decide)
 obtain ⟨b1,o1,e1,hlt1,q0,q1,q2,q3⟩:=h 1 (by decide)
 obtain ⟨b2,o2,e2,hlt2,r0,r1,r2,r3⟩:=h 2 (by decide)
 rw [e] at e0 e1 e2
 cases e0;cases e1;cases e2
 rw [add_off,hb.cell (p:=⟨b0,o0+j,none⟩) hlt0]
 have hj12:j < 12:=by
  have:=(List.getElem?_eq_some_iff.1 hj).1
  exact this
 have hh:j=0∨j=1∨j=2∨j=3∨j=4∨j=5∨j=6∨j=7∨j=8∨j=9∨j=10∨j=11:=by omega
 rcases hh with rfl | rfl | rfl | rfl | rfl | rfl | rfl | rfl | rfl | rfl | rfl | rfl
 ·exact p0.trans hj
 ·exact p1.trans hj
 ·exact p2.trans hj
 ·exact p3.trans hj
 ·exact q0.trans hj
 ·exact q1.trans hj
 ·exact q2.trans hj
 ·exact q3.trans hj
 ·exact r0.trans hj
 ·exact r1.trans hj
 ·exact r2.trans hj
 ·exact r3.trans hj
theorem Below.of_grown {w w1:World} (h:w.grownBy w1 none):Below w.heap.size w w1:=⟨h.os,h.tape,h.output,h.size,fun k hk=>h.block k hk (fun e=>by cases e)⟩
section
variable {X:World} {a:Option Addr} {c n:Nat} {t:TypeId}
theorem exSame2 {x y:Int} (h:IntsAt (X.alloc (.cells #[.int .i64 x,.int .i64 y] t)) a [x,y]) (hn:n=X.heap.size) :
 Calls Tryz.prog 11 #[.slice a 2 c,.slice (some ⟨n,0,none⟩) 2 2] (X.alloc (.cells #[.int .i64 x,.int .i64 y] t)) fun e w'=>e=.returned (.bool true)∧Below (X.alloc (.cells #[.int .i64 x,.int .i64 y] t)).heap.size (X.alloc (.cells #[.int .i64 x,.int .i64 y] t)) w' :=
 sameNums_at h (ints_lit2 _ x y hn) rfl rfl (by simp) (by simp) (by simp)
theorem exSame3 {x y z:Int} (h:IntsAt (X.alloc (.cells #[.int .i64 x,.int .i64 y,.int .i64 z] t)) a [x,y,z]) (hn:n=X.heap.size) :
 Calls Tryz.prog 11 #[.slice a 3 c,.slice (some ⟨n,0,none⟩) 3 3] (X.alloc (.cells #[.int .i64 x,.int .i64 y,.int .i64 z] t)) fun e w'=>e=.returned (.bool true)∧Below (X.alloc (.cells #[.int .i64 x,.int .i64 y,.int .i64 z] t)).heap.size (X.alloc (.cells #[.int .i64 x,.int .i64 y,.int .i64 z] t)) w' :=
 sameNums_at h (ints_lit3 _ x y z hn) rfl rfl (by simp) (by simp) (by simp)
theorem exClaims {x y:Int} (h:IntsAt (X.alloc (.cells #[.int .i64 x,.int .i64 y] t)) a [x,y]) (hn:n=X.heap.size) :
 Calls Tryz.prog 44 #[.slice a 2 c,.slice (some ⟨n,0,none⟩) 2 2] (X.alloc (.cells #[.int .i64 x,.int .i64 y] t)) fun e w'=>e=.returned (.bool true)∧Below (X.alloc (.cells #[.int .i64 x,.int .i64 y] t)).heap.size (X.alloc (.cells #[.int .i64 x,.int .i64 y] t)) w' :=
 sameClaims_at h (ints_lit2 _ x y hn) rfl rfl (by simp) (by simp) (by simp)
theorem exParts2 {x y z u:Int} (h:PartsAt (X.alloc (.cells #[.int .i64 x,.int .i64 y,.int .i64 z,.int .i64 u] t)) a [(x,y),(z,u)]) (hn:n=X.heap.size) :
 Calls Tryz.prog 33 #[.slice a 2 c,.slice (some ⟨n,0,none⟩) 2 2] (X.alloc (.cells #[.int .i64 x,.int .i64 y,.int .i64 z,.int .i64 u] t)) fun e w'=>e=.returned (.bool true)∧Below (X.alloc (.cells #[.int .i64 x,.int .i64 y,.int .i64 z,.int .i64 u] t)).heap.size (X.alloc (.cells #[.int .i64 x,.int .i64 y,.int .i64 z,.int .i64 u] t)) w' :=
 sameParts_at h (parts_lit2 _ x y z u hn) rfl rfl (by simp) (by simp) (by simp)
theorem exParts3 {x y z u v q:Int} (h:PartsAt (X.alloc (.cells #[.int .i64 x,.int .i64 y,.int .i64 z,.int .i64 u,.int .i64 v,.int .i64 q] t)) a [(x,y),(z,u),(v,q)]) (hn:n=X.heap.size) :
 Calls Tryz.prog 33 #[.slice a 3 c,.slice (some ⟨n,0,none⟩) 3 3] (X.alloc (.cells #[.int .i64 x,.int .i64 y,.int .i64 z,.int .i64 u,.int .i64 v,.int .i64 q] t)) fun e w'=>e=.returned (.bool true)∧Below (X.alloc (.cells #[.int .i64 x,.int .i64 y,.int .i64 z,.int .i64 u,.int .i64 v,.int .i64 q] t)).heap.size (X.alloc (.cells #[.int .i64 x,.int .i64 y,.int .i64 z,.int .i64 u,.int .i64 v,.int .i64 q] t)) w' :=
 sameParts_at h (parts_lit3 _ x y z u v q hn) rfl rfl (by simp) (by simp) (by simp)
end
theorem neqBand (a b c d:Int) (w:World):(binOp .neq 81 (.agg #[.int .i64 a,.int .i64 b]) (.agg #[.int .i64 c,.int .i64 d])).run Tryz.prog w=.ok (.bool (!(a == c && b == d))) w:=by
 have u3:=Tryz.underlying3
 have hS:Tryz.prog.underlying 81=some (.struct (Tryz.prog.fieldsOf 81)):=by kernel_rfl
 have hp:Tryz.prog.stoodInHeld 81=false:=by kernel_rfl
 rw [run_neq_struct,show (10000:Nat)=9999+1 from rfl,run_equalIn_agg w 9999 81 _ _ hS hp]
 simp only [Program.fieldsOf,Tryz.underlying81]
 go_simp
 by_cases h1:a=c <;> by_cases h2:b=d <;> simp [h1,h2]
section
variable {X:World} {a:Option Addr} {c n:Nat} {t:TypeId}
theorem exClaimsD {x y:Int} (h:IntsAt (X.alloc (.cells #[.int .i64 x,.int .i64 y] t)).drew a [x,y]) (hn:n=X.heap.size) :
 Calls Tryz.prog 44 #[.slice a 2 c,.slice (some ⟨n,0,none⟩) 2 2] (X.alloc (.cells #[.int .i64 x,.int .i64 y] t)).drew fun e w'=>e=.returned (.bool true)∧Below (X.alloc (.cells #[.int .i64 x,.int .i64 y] t)).drew.heap.size (X.alloc (.cells #[.int .i64 x,.int .i64 y] t)).drew w' :=
 sameClaims_at h (show IntsAt (X.alloc (.cells #[.int .i64 x,.int .i64 y] t)).drew _ _ from ints_lit2 _ x y hn) rfl rfl (by simp) (by simp) (by simp)
theorem exParts2D {x y z u:Int} (h:PartsAt (X.alloc (.cells #[.int .i64 x,.int .i64 y,.int .i64 z,.int .i64 u] t)).drew a [(x,y),(z,u)]) (hn:n=X.heap.size) :
 Calls Tryz.prog 33 #[.slice a 2 c,.slice (some ⟨n,0,none⟩) 2 2] (X.alloc (.cells #[.int .i64 x,.int .i64 y,.int .i64 z,.int .i64 u] t)).drew fun e w'=>e=.returned (.bool true)∧Below (X.alloc (.cells #[.int .i64 x,.int .i64 y,.int .i64 z,.int .i64 u] t)).drew.heap.size (X.alloc (.cells #[.int .i64 x,.int .i64 y,.int .i64 z,.int .i64 u] t)).drew w' :=
 sameParts_at h (show PartsAt (X.alloc (.cells #[.int .i64 x,.int .i64 y,.int .i64 z,.int .i64 u] t)).drew _ _ from parts_lit2 _ x y z u hn) rfl rfl (by simp) (by simp) (by simp)
theorem exParts3D {x y z u v q:Int} (h:PartsAt (X.alloc (.cells #[.int .i64 x,.int .i64 y,.int .i64 z,.int .i64 u,.int .i64 v,.int .i64 q] t)).drew a [(x,y),(z,u),(v,q)]) (hn:n=X.heap.size) :
 Calls Tryz.prog 33 #[.slice a 3 c,.slice (some ⟨n,0,none⟩) 3 3] (X.alloc (.cells #[.int .i64 x,.int .i64 y,.int .i64 z,.int .i64 u,.int .i64 v,.int .i64 q] t)).drew fun e w'=>e=.returned (.bool true)∧Below (X.alloc (.cells #[.int .i64 x,.int .i64 y,.int .i64 z,.int .i64 u,.int .i64 v,.int .i64 q] t)).drew.heap.size (X.alloc (.cells #[.int .i64 x,.int .i64 y,.int .i64 z,.int .i64 u,.int .i64 v,.int .i64 q] t)).drew w' :=
 sameParts_at h (show PartsAt (X.alloc (.cells #[.int .i64 x,.int .i64 y,.int .i64 z,.int .i64 u,.int .i64 v,.int .i64 q] t)).drew _ _ from parts_lit3 _ x y z u v q hn) rfl rfl (by simp) (by simp) (by simp)
end
theorem st_end {r0 r1 r2 r3 r4 r5 r6 r7 r8 r9 r10 r11 r12 r13 r14 r15 r16 r17 r18 r19:Code} (hc:Tryz.f8.body=some (.seq r0 (.seq r1 (.seq r2 (.seq r3 (.seq r4 (.seq r5 (.seq r6 (.seq r7 (.seq r8 (.seq r9 (.seq r10 (.seq r11 (.seq r12 (.seq r13 (.seq r14 (.seq r15 (.seq r16 (.seq r17 (.seq r18 (r19))))))))))))))))))))) {w00 Wf:World} {n BU:Nat} {fa xa pa ta la ma ua:Option Addr} {fc xc pc tc lc mc uc:Nat} {u1 u2 u5 u6 u7 u8 u9 u10 u11 u13 u15 u16 u17 u18 u20 u21 u23 u24 u25 u26 u27 u28 u29 u31 u33 u34 u35 u36 u37 u38 u39 u40 u41 u42 u43 u44 u45 u46 u47 u48 u49 u50 u51 u52 u53 u54 u55 u56 u57 u58 u59 u60 u61 u62 u63 u64 u65 u66 u67 u68 u69 u70 u71 u72 u73 u74 u75 u76 u77 u78 u79 u80 u81 u82 u83 u84 u85 u86 u87 u88 u89 u90 u91 u92 u93 u94 u95 u96 u97 u98 u99 u100 u101 u102 u103 u104 u105 u106 u107 u108 u109 u110 u111 u112 u113 u114 u115 u116 u117 u118 u119 u120 u121 u122 u123 u124 u125 u126 u127 u128 u129 u130 u131 u132 u133 u134 u135 u136 u137 u138 u139 u140 u141 u142 u143 u144 u145 u146 u147 u148 u149 u150 u151 u152 u153 u154 u155 u156 u157 u158 u159 u160 u161 u162 u163 u164 u165 u166 u167 u168 u169 u170 u171 u172 u173 u174 u175 u176 u177 u178 u179 u180 u181 u182 u183 u184 u185 u186 u187 u188 u189 u190 u191 u192 u193 u194 u195 u196 u197 u198 u199 u200 u201 u202 u203 u204 u205 u206 u207 u208 u209 u210 u211 u212 u213 u214 u215 u216 u217 u218 u219 u220 u221 u222 u223 u224 u225 u226 u227 u228 u229 u230 u231 u232 u233 u234 u235 u236 u237 u238 u239 u240 u241 u242 u243 u244 u245 u246 u247 u248 u249 u250 u251 u252 u253:Value} (hbn:Below n w00 Wf) (hnn:n≤w00.heap.size) (hf:IntsAt Wf fa [0,3]) (hx:IntsAt Wf xa [0,1,2]) (hp:IntsAt Wf pa [1,0]) (ht:IntsAt Wf ta [19,26]) (hl:IntsAt Wf la [0,2]) (hm:PartsAt Wf ma [(0,0),(0,1),(1,2)]) (hu:PartsAt Wf ua [(0,0),(0,1)]) (u30f:Wf.cell? ⟨BU,0,none⟩=some (.slice ua 2 uc)) :
 r19.wp Tryz.prog (bodyPost Tryz.prog Tryz.f8 fun e w2=>∃ v,e=.returned v∧v=.bool true∧Below n w00 w2) { tmps:=#[.bool false,u1,u2,.int .i64 0,.slice xa 3 xc,u5,u6,u7,u8,u9,u10,u11,.slice la 2 lc,u13,.slice ma 3 mc,u15,u16,u17,u18,.slice pa 2 pc,u20,u21,.slice ta 2 tc,u23,u24,u25,u26,u27,u28,u29,.pointer (some ⟨BU,0,none⟩),u31,.slice fa 2 fc,u33,u34,u35,u36,u37,u38,u39,u40,u41,u42,u43,u44,u45,u46,u47,u48,u49,u50,u51,u52,u53,u54,u55,u56,u57,u58,u59,u60,u61,u62,u63,u64,u65,u66,u67,u68,u69,u70,u71,u72,u73,u74,u75,u76,u77,u78,u79,u80,u81,u82,u83,u84,u85,u86,u87,u88,u89,u90,u91,u92,u93,u94,u95,u96,u97,u98,u99,u100,u101,u102,u103,u104,u105,u106,u107,u108,u109,u110,u111,u112,u113,u114,u115,u116,u117,u118,u119,u120,u121,u122,u123,u124,u125,u126,u127,u128,u129,u130,u131,u132,u133,u134,u135,u136,u137,u138,u139,u140,u141,u142,u143,u144,u145,u146,u147,u148,u149,u150,u151,u152,u153,u154,u155,u156,u157,u158,u159,u160,u161,u162,u163,u164,u165,u166,u167,u168,u169,u170,u171,u172,u173,u174,u175,u176,u177,u178,u179,u180,u181,u182,u183,u184,u185,u186,u187,u188,u189,u190,u191,u192,u193,u194,u195,u196,u197,u198,u199,u200,u201,u202,u203,u204,u205,u206,u207,u208,u209,u210,u211,u212,u213,u214,u215,u216,u217,u218,u219,u220,u221,u222,u223,u224,u225,u226,u227,u228,u229,u230,u231,u232,u233,u234,u235,u236,u237,u238,u239,u240,u241,u242,u243,u244,u245,u246,u247,u248,u249,u250,u251,u252,u253],defers:=[] } Wf:=by
 simp only [Tryz.f8,Option.some.injEq,Code.seq.injEq] at hc
 obtain ⟨rfl,rfl,rfl,rfl,rfl,rfl,rfl,rfl,rfl,rfl,rfl,rfl,rfl,rfl,rfl,rfl,rfl,rfl,rfl,rfl⟩:=hc
 have HFI:=Hh hf
 have HXf:=Hh hx
 have HPf:=Hh hp
 have HTf:=Hh ht
 have HLf:=Hh hl
 have HMf:=Hh hm
 have HUf:=Hh hu
 have HBN:=Hh hbn
 have hu3f:=lt_of_cell u30f
 simp only at hu3f
 clear hf hx hp ht hl hm hu hbn
 go_wp2_with (first
  | (go_at_call 11;(with_reducible refine (exSame2 (x:=0) (y:=3) (HFI.out.below (bel)) (by simp)).mono ?_);rintro e s1 ⟨rfl,hs1⟩;obtain ⟨hc1,hf1⟩:=bcell hs1;have hq1:BU < s1.heap.size:=(by have:=hs1.size;(try simp at this);omega))
  | (go_at_call 11;(with_reducible refine (exSame3 (x:=0) (y:=1) (z:=2) (HXf.out.below (bel)) (by simp)).mono ?_);rintro e s2 ⟨rfl,hs2⟩;obtain ⟨hc2,hf2⟩:=bcell hs2;have hq2:BU < s2.heap.size:=(by have:=hs2.size;(try simp at this);omega))
  | (go_at_call 11;(with_reducible refine (exSame2 (x:=1) (y:=0) (HPf.out.below (bel)) (by simp)).mono ?_);rintro e s3 ⟨rfl,hs3⟩;obtain ⟨hc3,hf3⟩:=bcell hs3;have hq3:BU < s3.heap.size:=(by have:=hs3.size;(try simp at this);omega))
  | (go_at_call 11;(with_reducible refine (exSame2 (x:=19) (y:=26) (HTf.out.below (bel)) (by simp)).mono ?_);rintro e s4 ⟨rfl,hs4⟩;obtain ⟨hc4,hf4⟩:=bcell hs4;have hq4:BU < s4.heap.size:=(by have:=hs4.size;(try simp at this);omega)))
 have hbs4:Below Wf.heap.size Wf s4:=bel
 have w30:=(hbs4.cell (p:=⟨BU,0,none⟩) hu3f).trans u30f
 have HL4:=Hh (HLf.out.below hbs4)
 have HM4:=Hh (HMf.out.below hbs4)
 have HU4:=Hh (HUf.out.below hbs4)
 have HALL:=Hh (fun (w':World) (h:Below s4.heap.size s4 w')=>(⟨h,(h.cell (p:=⟨BU,0,none⟩) hq4).trans w30⟩:Below s4.heap.size s4 w'∧w'.cell? ⟨BU,0,none⟩=some (.slice ua 2 uc)))
 have HBS4:=Hh hbs4
 clear hs1 hs2 hs3 hs4 hc1 hc2 hc3 hc4 hf1 hf2 hf3 hf4 hbs4 u30f
 go_region_held3 (fun w'=>Below s4.heap.size s4 w'∧w'.cell? ⟨BU,0,none⟩=some (.slice ua 2 uc))
  ((go_split_ands;exact HALL.out _ (bel)))
  (first
    | (go_at_call 45;go_split_ands;(with_reducible refine (part_at _ _ _).mono ?_);rintro e q2 ⟨rfl,hq2⟩)
    | (go_at_call 33;go_split_ands;(first | (with_reducible refine (exParts3 (x:=0) (y:=0) (z:=0) (u:=1) (v:=1) (q:=2) (HM4.out.below (bel)) (by first | rfl | simp)).mono ?_) | (with_reducible refine (exParts3D (x:=0) (y:=0) (z:=0) (u:=1) (v:=1) (q:=2) (HM4.out.below (bel)) (by first | rfl | simp)).mono ?_));rintro e q3 ⟨rfl,hq3⟩)
    | (go_at_call 33;go_split_ands;(first | (with_reducible refine (exParts2 (x:=0) (y:=0) (z:=0) (u:=1) (HU4.out.below (bel)) (by first | rfl | simp)).mono ?_) | (with_reducible refine (exParts2D (x:=0) (y:=0) (z:=0) (u:=1) (HU4.out.below (bel)) (by first | rfl | simp)).mono ?_));rintro e q4 ⟨rfl,hq4⟩)
    | (go_at_call 44;go_split_ands;(first | (with_reducible refine (exClaims (x:=0) (y:=2) (HL4.out.below (bel)) (by first | rfl | simp)).mono ?_) | (with_reducible refine (exClaimsD (x:=0) (y:=2) (HL4.out.below (bel)) (by first | rfl | simp)).mono ?_));rintro e q1 ⟨rfl,hq1⟩)
    | fail "no arm")
 all_goals
  have hbz:Below s4.heap.size s4 q4:=bel
  go_wp2
  refine bodyPost_ret (v:=.bool true) (by simp [results,Tryz.results8,go_sem]) rfl ⟨_,rfl,rfl,HBN.out.trans ((Below.next HBS4.out hbz).mono ?_)⟩
  have:=HBN.out.size
  omega
section
variable {w w1:World} {B Bd:Nat} {vm vs:Value} {ra xa la ma:Option Addr} {xc lc mc:Nat}
theorem st_tail {r0 r1 r2 r3 r4 r5 r6 r7 r8 r9 r10 r11 r12 r13 r14 r15 r16 r17 r18 r19:Code} (hc:Tryz.f8.body=some (.seq r0 (.seq r1 (.seq r2 (.seq r3 (.seq r4 (.seq r5 (.seq r6 (.seq r7 (.seq r8 (.seq r9 (.seq r10 (.seq r11 (.seq r12 (.seq r13 (.seq r14 (.seq r15 (.seq r16 (.seq r17 (.seq r18 (r19))))))))))))))))))))) {n:Nat} (hn:n≤B) (hE:ExAt w B vm vs ra) (hx:IntsAt w xa [0,1,2]) (hd0:w.cell? ⟨Bd,0,none⟩=some (.int .i64 1)) (hd1:w.cell? ⟨Bd,1,none⟩=some (.int .i64 1)) (hl:IntsAt w la [0,2]) (hm:PartsAt w ma [(0,0),(0,1),(1,2)]) :
 (.seq r10 (.seq r11 (.seq r12 (.seq r13 (.seq r14 (.seq r15 (.seq r16 (.seq r17 (.seq r18 (r19))))))))):Code).wp Tryz.prog (bodyPost Tryz.prog Tryz.f8 fun e w2=>∃ v,e=.returned v∧v=.bool true∧Below n w w2) { tmps:=#[.bool false,.pointer (some ⟨B,0,none⟩),.int .i64 3,.int .i64 0,.slice xa 3 xc,.int .i64 0,.int .i64 0,.int .i64 0,.int .i64 1,.int .i64 0,.pointer (some ⟨Bd,0,none⟩),.int .i64 0,.slice la 2 lc,.int .i64 0,.slice ma 3 mc,.int .i64 0,.int .i64 0,.int .i64 1,.int .i64 0,U,U,U,U,U,U,U,U,U,U,U,U,U,U,.agg #[.int .i64 3,.int .i64 5,vm,vs,.slice ra 3 3],.tuple #[.int .i64 3,.int .i64 0],.agg #[.int .i64 3,.int .i64 5,vm,vs,.slice ra 3 3],.tuple #[.int .i64 3,.int .i64 0],.int .i64 3,.int .i64 0,.tuple #[.slice xa 3 xc,.int .i64 0],.agg #[.int .i64 3,.int .i64 5,vm,vs,.slice ra 3 3],.tuple #[.slice xa 3 xc,.int .i64 0],.slice xa 3 xc,.int .i64 0,.tuple #[.int .i64 0,.int .i64 0],.agg #[.int .i64 3,.int .i64 5,vm,vs,.slice ra 3 3],.tuple #[.int .i64 0,.int .i64 0],.int .i64 0,.int .i64 0,.tuple #[.int .i64 1,.int .i64 0],.agg #[.int .i64 3,.int .i64 5,vm,vs,.slice ra 3 3],.tuple #[.int .i64 1,.int .i64 0],.int .i64 1,.int .i64 0,.tuple #[.agg #[.int .i64 1,.int .i64 1],.int .i64 0],.agg #[.int .i64 3,.int .i64 5,vm,vs,.slice ra 3 3],.tuple #[.agg #[.int .i64 1,.int .i64 1],.int .i64 0],.agg #[.int .i64 1,.int .i64 1],.int .i64 0,.tuple #[.slice la 2 lc,.int .i64 0],.agg #[.int .i64 3,.int .i64 5,vm,vs,.slice ra 3 3],.tuple #[.slice la 2 lc,.int .i64 0],.slice la 2 lc,.int .i64 0,.tuple #[.slice ma 3 mc,.int .i64 0],.agg #[.int .i64 3,.int .i64 5,vm,vs,.slice ra 3 3],.tuple #[.slice ma 3 mc,.int .i64 0],.slice ma 3 mc,.int .i64 0,.tuple #[.int .i64 0,.int .i64 1,.int .i64 0],.agg #[.int .i64 3,.int .i64 5,vm,vs,.slice ra 3 3],.tuple #[.int .i64 0,.int .i64 1,.int .i64 0],.int .i64 0,.int .i64 1,.int .i64 0,U,U,U,U,U,U,U,U,U,U,U,U,U,U,U,U,U,U,U,U,U,U,U,U,U,U,U,U,U,U,U,U,U,U,U,U,U,U,U,U,U,U,U,U,U,U,U,U,U,U,U,U,U,U,U,U,U,U,U,U,U,U,U,U,U,U,U,U,U,U,U,U,U,U,U,U,U,U,U,U,U,U,U,U,U,U,U,U,U,U,U,U,U,U,U,U,U,U,U,U,U,U,U,U,U,U,U,U,U,U,U,U,U,U,U,U,U,U,U,U,U,U,U,U,U,U,U,U,U,U,U,U,U,U,U,U,U,U,U,U,U,U,U,U,U,U,U,U,U,U,U,U,U,U,U,U,U,U,U,U,U,U,U,U,U,U,U,U,U,U,U,U,U,U,U,U,U,U,U],defers:=[] } w:=by
 have hc':=hc
 simp only [Tryz.f8,Option.some.injEq,Code.seq.injEq] at hc
 obtain ⟨rfl,rfl,rfl,rfl,rfl,rfl,rfl,rfl,rfl,rfl,rfl,rfl,rfl,rfl,rfl,rfl,rfl,rfl,rfl,hr19⟩:=hc
 clear hr19
 have hbk:=hE.bk
 have hkd:=hE.kd
 obtain ⟨x0,x1,x2,x3,x4,x5,w0,hw0,hbk0,hkd0,hsee⟩:=hE
 have HW0:=Hh (⟨hw0,hbk0,hkd0,hsee⟩:_∧_∧_∧_)
 have HBK:=Hh hbk
 have HKD:=Hh hkd
 have HX:=Hh hx
 have HL:=Hh hl
 have HM:=Hh hm
 have hB0:=lt_of_cell x0
 have hD0:=lt_of_cell hd0
 simp only at hB0 hD0
 obtain ⟨_,_,⟨va,vc1,rfl,_,_⟩,⟨sa,sc,rfl,_,_⟩,_⟩:=id hbk
 have hra:=hbk.rs
 obtain ⟨_,_,e,hra,_⟩:=hra
 cases e
 have HRA:=Hh hra
 have HD:=Hh (⟨hd0,hd1⟩:_∧_)
 have HXX:=Hh (⟨x0,x1,x2,x3,x4,x5⟩:_∧_∧_∧_∧_∧_)
 clear hbk hkd hx hl hm hra hw0 hbk0 hkd0 hsee
 go_wp2_with (first
  | (go_at_call 9;(with_reducible refine (exPack13 (HBK.out.below (bel)) (HKD.out.below (bel))).mono ?_);rintro e p1 ⟨pa,pc,rfl,hi1,hb1⟩;have HI1:=Hh hi1;clear hi1;obtain ⟨hc1,hf1⟩:=bcell hb1;have hB1:B < p1.heap.size:=(by have:=hb1.size;(try simp at this);omega);have hD1:Bd < p1.heap.size:=(by have:=hb1.size;(try simp at this);omega))
  | (go_at_call 12;(with_reducible refine (exTimes (HBK.out.below (bel)) (HKD.out.below (bel)) (ints_lit2 _ 1 0 (by simp))).mono ?_);rintro e p2 ⟨ta,tc,rfl,hi2,hb2⟩;have HI2:=Hh hi2;clear hi2;obtain ⟨hc2,hf2⟩:=bcell hb2;have hB2:B < p2.heap.size:=(by have:=hb2.size;(try simp at this);omega);have hD2:Bd < p2.heap.size:=(by have:=hb2.size;(try simp at this);omega))
  | (go_at_call 9;(with_reducible refine (exPack15 (HBK.out.below (bel)) (HKD.out.below (bel))).mono ?_);rintro e p3 ⟨qa,qc,rfl,hb3⟩;obtain ⟨hc3,hf3⟩:=bcell hb3;have hB3:B < p3.heap.size:=(by have:=hb3.size;(try simp at this);omega);have hD3:Bd < p3.heap.size:=(by have:=hb3.size;(try simp at this);omega))
  | (go_at_call 19;(with_reducible refine (exLatest (HBK.out.below (bel)) (HKD.out.below (bel))).mono ?_);rintro e p4 ⟨rfl,hb4⟩;obtain ⟨hc4,hf4⟩:=bcell hb4;have hB4:B < p4.heap.size:=(by have:=hb4.size;(try simp at this);omega);have hD4:Bd < p4.heap.size:=(by have:=hb4.size;(try simp at this);omega))
  | (go_at_call 16;(with_reducible refine (exPunch (HBK.out.below (bel)) (HKD.out.below (bel)) (ints_lit2 _ 1 0 (by simp))).mono ?_);rintro e p5 ⟨ua,uc,rfl,hi5,hb5⟩;have HI5:=Hh hi5;clear hi5;obtain ⟨hc5,hf5⟩:=bcell hb5;have hB5:B < p5.heap.size:=(by have:=hb5.size;(try simp at this);omega);have hD5:Bd < p5.heap.size:=(by have:=hb5.size;(try simp at this);omega)))
 obtain ⟨W17,hW17⟩:∃ W17,W17=p5.alloc (.cells #[.slice ua 2 uc] 40):=⟨_,rfl⟩
 rw [← hW17]
 have hb17:Below w.heap.size w W17:=by rw [hW17];(exact bel)
 have hp17:Below p5.heap.size p5 W17:=by rw [hW17];(exact bel)
 have hb35:Below p2.heap.size p2 p5:=bel
 have hb25:Below p1.heap.size p1 p5:=bel
 have hb5w:Below w.heap.size w p5:=bel
 have u30:W17.cell? ⟨p5.heap.size,0,none⟩=some (.slice ua 2 uc):=by rw [hW17];exact alloc1_cell rfl
 have hu30:p5.heap.size < W17.heap.size:=by rw [hW17];simp
 have hP17:=Hh (HI1.out.below (Below.next hb25 hp17))
 have hT17:=Hh (HI2.out.below (Below.next hb35 hp17))
 have hU17:=Hh (HI5.out.below hp17)
 have hB17:B < W17.heap.size:=by have:=hb17.size;omega
 have hD17:Bd < W17.heap.size:=by have:=hb17.size;omega
 have d0:=(hb17.cell (p:=⟨Bd,0,none⟩) hD0).trans HD.out.1
 have d1:=(hb17.cell (p:=⟨Bd,1,none⟩) hD0).trans HD.out.2
 clear hb1 hb2 hb3 hb4 hb5 hc1 hc2 hc3 hc4 hc5 hf1 hf2 hf3 hf4 hf5 hW17 hB1 hB2 hB3 hB4 hB5 hD1 hD2 hD3 hD4 hD5 x0 x1 x2 x3 x4 x5 hd0 hd1
 have heq:=fun w=>(neqBand 1 1 1 1 w).trans (by simp:_=Result.ok (Value.bool false) w)
 (refine wp_region_bel (by kernel_rfl) (by kernel_rfl) ?_;(repeat (go_big_quiet_step ((go_at_call 43;with_reducible exact Calls.bel_of (to_at 1 1 _)))));refine wpQuiet_nil ?_;rintro _ ⟨xq,rfl⟩)
 have hx18:Below W17.heap.size W17 (later W17 xq):=later_below _ _
 generalize later W17 xq=W18 at hx18 ⊢
 have hb18:=Below.next hb17 hx18
 have hB18:B < W18.heap.size:=by have:=hx18.size;omega
 have y0:=(hb18.cell (p:=⟨B,0,none⟩) hB0).trans HXX.out.1
 have y1:=(hb18.cell (p:=⟨B,1,none⟩) hB0).trans HXX.out.2.1
 have y2:=(hb18.cell (p:=⟨B,2,none⟩) hB0).trans HXX.out.2.2.1
 have y3:=(hb18.cell (p:=⟨B,3,none⟩) hB0).trans HXX.out.2.2.2.1
 have y4:=(hb18.cell (p:=⟨B,4,none⟩) hB0).trans HXX.out.2.2.2.2.1
 have y5:=(hb18.frozen (p:=⟨B,4,none⟩) hB0).trans HXX.out.2.2.2.2.2
 have HRA18:=Hh (HRA.out.below hb18)
 obtain ⟨i0,hi0,hi1,hi2,hi3⟩:=info_parts recInfo
 clear d0 d1 heq
 go_wp2_with (at_builtin;go_loud (refine wpList_append_grows _ rfl _ _ 24 rfl 49 i0 (.agg #[.int .i64 0,.int .i64 0,.int .i64 0,.int .i64 0]) 4 32 Tryz.underlying24 hi0 hi1 hi2 hi3 rfl (by decide) ra 3 3 (exB.rs.flatMap cellsR) rfl (none_recs HRA18.out) rfl (recs_src HRA18.out (bal _ _)) ⟨W18.heap.size,0,none⟩ 1 1 [.int .i64 0,.int .i64 0,.int .i64 0,.int .i64 0] rfl rfl (cells_new _ _ _) (by simp [Value.oneCell']) (by decide) (by unfold maxLen;omega) (by omega) ?_;intro v9 w9 hown9 hg9;obtain ⟨a9,c9,rfl⟩:=ownsRow_slice hown9;have hb9:Below W18.heap.size W18 w9:=Below.next (bal _ _) (Below.of_grown hg9);have z0:=(hb9.cell (p:=⟨B,0,none⟩) hB18).trans y0;have z1:=(hb9.cell (p:=⟨B,1,none⟩) hB18).trans y1;have z2:=(hb9.cell (p:=⟨B,2,none⟩) hB18).trans y2;have z3:=(hb9.cell (p:=⟨B,3,none⟩) hB18).trans y3;have z4:=(hb9.cell (p:=⟨B,4,none⟩) hB18).trans y4;have z5:=(hb9.frozen (p:=⟨B,4,none⟩) hB18).trans y5;have hB9:B < w9.heap.size:=Nat.lt_of_lt_of_le hB18 hb9.size))
 obtain ⟨Wf,hWf⟩:∃ Wf,Wf=w9.setCell ⟨B,4,none⟩ (.slice a9 4 c9):=⟨_,rfl⟩
 rw [← hWf]
 have hb99:Below w.heap.size w w9:=Below.next hb18 hb9
 have hWs:Wf.heap.size=w9.heap.size:=by rw [hWf];simp [World.setCell]
 obtain ⟨hw0,hbk0,hkd0,hsee⟩:=HW0.out
 have hsf:Sees w0 Wf:=by
  refine ⟨by have:=hb99.size;omega,fun a ha=>?_⟩
  rw [hWf,World.cell?_setCell_other (h:=fun e=>by rw [← e] at ha;simp at ha;omega)]
  exact (World.cell?_of_block (hb99.block _ (by omega))).trans (hsee.2 a ha)
 have hrow:=ownsRow_setCell_below hown9 (a:=⟨B,4,none⟩) (by simp;omega) (.slice a9 4 c9)
 rw [← hWf] at hrow
 have hrecs:RecsAt Wf a9 exC.rs:=recs_of_row (l:=exC.rs) (by exact hrow)
 have hbf0:=hsf.book hbk0
 have hBf:BookAt Wf exC (.int .i64 3) (.int .i64 5) (.slice va exB.ms.length vc1) (.slice sa exB.ss.length sc) (.slice a9 4 c9):=⟨hbf0.room,hbf0.gap,hbf0.ms,hbf0.ss,a9,c9,rfl,hrecs,by decide⟩
 have hKf:=hsf.kinds hkd0
 have hxf:=ints_set (p:=⟨B,4,none⟩) (v:=.slice a9 4 c9) (HX.out.below hb99) z4
 have hpf:=ints_set (p:=⟨B,4,none⟩) (v:=.slice a9 4 c9) (hP17.out.below (Below.next hx18 hb9)) z4
 have htf:=ints_set (p:=⟨B,4,none⟩) (v:=.slice a9 4 c9) (hT17.out.below (Below.next hx18 hb9)) z4
 have hlf:=ints_set (p:=⟨B,4,none⟩) (v:=.slice a9 4 c9) (HL.out.below hb99) z4
 have hmf:=parts_set (p:=⟨B,4,none⟩) (v:=.slice a9 4 c9) (HM.out.below hb99) z4
 have huf:=parts_set (p:=⟨B,4,none⟩) (v:=.slice a9 4 c9) (hU17.out.below (Below.next hx18 hb9)) z4
 have hpB:p5.heap.size≠B:=by have:=hb5w.size;omega
 have u30f:Wf.cell? ⟨p5.heap.size,0,none⟩=some (.slice ua 2 uc):=by
  rw [hWf,World.cell?_setCell_other (h:=fun e=>by injection e with e _ _;exact hpB e.symm),(Below.next hx18 hb9).cell (p:=⟨p5.heap.size,0,none⟩) hu30];exact u30
 have hu3f:p5.heap.size < Wf.heap.size:=by have:=(Below.next hx18 hb9).size;omega
 have hbn:Below n w Wf:=by rw [hWf];exact Below.wr (hb99.mono (by omega)) hn _
 rw [← hWf] at hxf hpf htf hlf hmf huf
 have HXf:=Hh hxf
 have HPf:=Hh hpf
 have HTf:=Hh htf
 have HLf:=Hh hlf
 have HMf:=Hh hmf
 have HUf:=Hh huf
 have HBN:=Hh hbn
 clear hxf hpf htf hlf hmf huf hWf hsf hrow hrecs hbf0 hown9 hg9 z0 z1 z2 z3 z4 z5 y0 y1 y2 y3 y4 y5 hbn hb99 hsee hbk0 hkd0 hw0
 refine (exClash hBf hKf).mono ?_
 rintro e w10 ⟨fa,fc,rfl,hfi,hb10⟩
 have HFI:=Hh hfi
 clear hfi hBf hKf
 have hb10n:Below n w w10:=HBN.out.trans (hb10.mono (by have:=HBN.out.size;omega))
 have v30:=(hb10.cell (p:=⟨p5.heap.size,0,none⟩) hu3f).trans u30f
 have GX:=Hh (HXf.out.below hb10)
 have GP:=Hh (HPf.out.below hb10)
 have GT:=Hh (HTf.out.below hb10)
 have GL:=Hh (HLf.out.below hb10)
 have GM:=Hh (HMf.out.below hb10)
 have GU:=Hh (HUf.out.below hb10)
 have GN:=Hh hb10n
 have GV:=Hh v30
 clear hb10n v30 hb10 u30f u30
 go_wp2
 exact st_end hc' GN.out (by omega) HFI.out GX.out GP.out GT.out GL.out GM.out GU.out GV.out
end
end Go.Proofs.YtfggbepickdokaaGreatDoor
