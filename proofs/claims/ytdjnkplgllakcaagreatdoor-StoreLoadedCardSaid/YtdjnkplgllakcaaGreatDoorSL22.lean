/- StoreLoaded -/
import Derived.Test.YtdjnkplgllakcaaGreatDoorSL21
import Derived.Test.YtdjnkplgllakcaaGreatDoorSL11
set_option maxHeartbeats 1000000
set_option maxRecDepth 100000
set_option linter.all false
namespace Go.Proofs.YtdjnkplgllakcaaGreatDoor
open Go.RowKit Go.Maps Sp Mt
namespace Sp
def askK (l:List (List Int)) (k:Nat):Int × Int:=((List.range k).map fun i=>(i,mostI l i)).foldl askStep (-1,(l.length:Int))
theorem askK_zero (l:List (List Int)):askK l 0=(-1,(l.length:Int)):=rfl
theorem askK_succ (l:List (List Int)) (k:Nat):askK l (k+1)=askStep (askK l k) (k,mostI l k):=by
 unfold askK;rw [List.range_succ,List.map_append,List.foldl_append];rfl
theorem askK_bd (l:List (List Int)):∀ k,-1<=(askK l k).1/\(askK l k).1 < k/\0<=(askK l k).2/\(askK l k).2<=l.length
 | 0=>by rw [askK_zero];simp
 | k+1=>by
  have ih:=askK_bd l k;have hm:=mostI_bd l k;rw [askK_succ];unfold askStep;split
  ·simp only;omega
  ·omega
end Sp
noncomputable def q20:Code:=match qA20 with | .seq c _=>c | _=>.skip
noncomputable def q21:Code:=match qA20 with | .seq _ (.seq c _)=>c | _=>.skip
noncomputable def q27:Code:=match qA20 with | .seq _ (.seq _ (.seq c _))=>c | _=>.skip
theorem qA20_eq:qA20=.seq q20 (.seq q21 (.seq q27 .ret)):=rfl
section
variable {w W:World} {l:List (List Int)} {B5 Bl Bo Bd r n lc:Nat} {la:Option Addr}
def Y0 (n:Nat) (l:List (List Int)) (B5 Bl Bo Bd r:Nat) (a:Act) (w2:World):Prop:=∃ (u0 u1 u4 u9 ja jb jc jd je jf jg jh ji jj jk jl jm jn jo jp jq jr js jt ju jv jw jx jy jz jA jB jC jD jE jF jG jH jI jJ jK jL jM jN jO jP jQ jR jS jT jU jV jW jX jY jZ j0 j1 j2 j3 j4 j5 j6 j7 j8 j9 qa qb qc qd qe:Value),a={ tmps:=#[u0,u1,.int .i64 (-1),.int .i64 l.length,u4,.pointer (some ⟨B5,0,none⟩),.pointer (some ⟨Bl,0,none⟩),.pointer (some ⟨Bo,0,none⟩),.pointer (some ⟨Bd,0,none⟩),u9,.slice (some ⟨r,0,none⟩) n n,ja,jb,jc,jd,je,jf,jg,jh,ji,jj,jk,jl,jm,jn,jo,jp,jq,jr,js,jt,ju,jv,jw,jx,jy,jz,jA,jB,jC,jD,jE,jF,jG,jH,jI,jJ,jK,jL,jM,jN,jO,jP,jQ,jR,jS,jT,jU,jV,jW,jX,jY,jZ,j0,j1,j2,j3,j4,j5,j6,j7,j8,j9,qa,qb,qc,qd,qe],defers:=[] }
theorem as_q20 {a:Act} (ha:∃ (u0 u1 u2 u3 u4 u9 ja jb jc jd je jf jg jh ji jj jk jl jm jn jo jp jq jr js jt ju jv jw jx jy jz jA jB jC jD jE jF jG jH jI jJ jK jL jM jN jO jP jQ jR jS jT jU jV jW jX jY jZ j0 j1 j2 j3 j4 j5 j6 j7 j8 j9 qa qb qc qd qe:Value),a={ tmps:=#[u0,u1,u2,u3,u4,.pointer (some ⟨B5,0,none⟩),.pointer (some ⟨Bl,0,none⟩),.pointer (some ⟨Bo,0,none⟩),.pointer (some ⟨Bd,0,none⟩),u9,.slice (some ⟨r,0,none⟩) n n,ja,jb,jc,jd,je,jf,jg,jh,ji,jj,jk,jl,jm,jn,jo,jp,jq,jr,js,jt,ju,jv,jw,jx,jy,jz,jA,jB,jC,jD,jE,jF,jG,jH,jI,jJ,jK,jL,jM,jN,jO,jP,jQ,jR,jS,jT,jU,jV,jW,jX,jY,jZ,j0,j1,j2,j3,j4,j5,j6,j7,j8,j9,qa,qb,qc,qd,qe],defers:=[] }) (hl:l.length<=2000) (h0:W.cell? ⟨Bl,0,none⟩=some (.slice la l.length lc)):q20.wp Tryz.prog (PZ W (Y0 n l B5 Bl Bo Bd r)) a W:=by
 obtain ⟨u0,u1,u2,u3,u4,u9,ja,jb,jc,jd,je,jf,jg,jh,ji,jj,jk,jl,jm,jn,jo,jp,jq,jr,js,jt,ju,jv,jw,jx,jy,jz,jA,jB,jC,jD,jE,jF,jG,jH,jI,jJ,jK,jL,jM,jN,jO,jP,jQ,jR,jS,jT,jU,jV,jW,jX,jY,jZ,j0,j1,j2,j3,j4,j5,j6,j7,j8,j9,qa,qb,qc,qd,qe,rfl⟩:=ha;have hlt:=lt_of_cell h0;simp only at hlt;simp only [q20,qA20,qA11,qBody,Tryz.f24,Option.getD_some]
 go_region
 go_wp2;exact ⟨rfl,⟨_,_,_,_,_,_,_,_,_,_,_,_,_,_,_,_,_,_,_,_,_,_,_,_,_,_,_,_,_,_,_,_,_,_,_,_,_,_,_,_,_,_,_,_,_,_,_,_,_,_,_,_,_,_,_,_,_,_,_,_,_,_,_,_,_,_,_,_,_,_,_,rfl⟩,bel⟩
def Y1 (n:Nat) (l:List (List Int)) (B5 Bl Bo Bd r:Nat) (a:Act) (w2:World):Prop:=∃ (u0 u1 u4 u9 ja jb jc jd je jf jg jh ji jj jk jl jm jn jo jp jq jr js jt ju jv jw jx jy jz jA jB jC jD jE jF jG jH jI jJ jK jL jM jN jO jP jQ jR jS jT jU jV jW jX jY jZ j0 j1 j2 j3 j4 j5 j6 j7 j8 j9 qa qb qc qd qe:Value),a={ tmps:=#[u0,u1,.int .i64 (askI l n).1,.int .i64 (askI l n).2,u4,.pointer (some ⟨B5,0,none⟩),.pointer (some ⟨Bl,0,none⟩),.pointer (some ⟨Bo,0,none⟩),.pointer (some ⟨Bd,0,none⟩),u9,.slice (some ⟨r,0,none⟩) n n,ja,jb,jc,jd,je,jf,jg,jh,ji,jj,jk,jl,jm,jn,jo,jp,jq,jr,js,jt,ju,jv,jw,jx,jy,jz,jA,jB,jC,jD,jE,jF,jG,jH,jI,jJ,jK,jL,jM,jN,jO,jP,jQ,jR,jS,jT,jU,jV,jW,jX,jY,jZ,j0,j1,j2,j3,j4,j5,j6,j7,j8,j9,qa,qb,qc,qd,qe],defers:=[] }
theorem as_q21 {a:Act} (ha:∃ (u0 u1 u4 u9 ja jb jc jd je jf jg jh ji jj jk jl jm jn jo jp jq jr js jt ju jv jw jx jy jz jA jB jC jD jE jF jG jH jI jJ jK jL jM jN jO jP jQ jR jS jT jU jV jW jX jY jZ j0 j1 j2 j3 j4 j5 j6 j7 j8 j9 qa qb qc qd qe:Value),a={ tmps:=#[u0,u1,.int .i64 (-1),.int .i64 l.length,u4,.pointer (some ⟨B5,0,none⟩),.pointer (some ⟨Bl,0,none⟩),.pointer (some ⟨Bo,0,none⟩),.pointer (some ⟨Bd,0,none⟩),u9,.slice (some ⟨r,0,none⟩) n n,ja,jb,jc,jd,je,jf,jg,jh,ji,jj,jk,jl,jm,jn,jo,jp,jq,jr,js,jt,ju,jv,jw,jx,jy,jz,jA,jB,jC,jD,jE,jF,jG,jH,jI,jJ,jK,jL,jM,jN,jO,jP,jQ,jR,jS,jT,jU,jV,jW,jX,jY,jZ,j0,j1,j2,j3,j4,j5,j6,j7,j8,j9,qa,qb,qc,qd,qe],defers:=[] }) (hl:l.length<=2000) (hn:n<=4) (hcell:∀ k,k < n->W.cell? ⟨r,k,none⟩=some (.int .i64 (mostI l k))) (hlt:r < W.heap.size):q21.wp Tryz.prog (PZ W (Y1 n l B5 Bl Bo Bd r)) a W:=by
 obtain ⟨u0,u1,u4,u9,ja,jb,jc,jd,je,jf,jg,jh,ji,jj,jk,jl,jm,jn,jo,jp,jq,jr,js,jt,ju,jv,jw,jx,jy,jz,jA,jB,jC,jD,jE,jF,jG,jH,jI,jJ,jK,jL,jM,jN,jO,jP,jQ,jR,jS,jT,jU,jV,jW,jX,jY,jZ,j0,j1,j2,j3,j4,j5,j6,j7,j8,j9,qa,qb,qc,qd,qe,rfl⟩:=ha;have HC:=Hh hcell;have HB:=Hh (askK_bd l);have hs:=askK_succ l;have HS:=Hh hs;have hz:(askK l 0).1=-1/\(askK l 0).2=(l.length:Int):=⟨rfl,rfl⟩;have HZ:=Hh hz;have HM:=Hh (mostI_bd l);clear hcell hs hz;simp only [q21,qA20,qA11,qBody,Tryz.f24,Option.getD_some];go_wp2;go_loop [2,3,65] (fun t2 t3 i=>∃ k:Nat,k<=n/\i=.int .i64 k/\t2=.int .i64 (askK l k).1/\t3=.int .i64 (askK l k).2) (fun _ _ i=>n - (intOf i).toNat)
 case atStart=>exact ⟨0,Nat.zero_le _,rfl,by rw [HZ.out.1],by rw [HZ.out.2]⟩
 case round =>
  obtain ⟨k,hk,rfl,rfl,rfl⟩:=hrel;by_cases hlt2:k < n
  ·have h0:=HC.out k hlt2;obtain ⟨b1,b2,b3,b4⟩:=HB.out k;obtain ⟨m1,m2⟩:=HM.out k;have hst:=HS.out k;unfold askStep at hst;generalize mostI l k=m at h0 m1 m2 hst;generalize askK l k=s at b1 b2 b3 b4 hst ⊢;obtain ⟨s1,s2⟩:=s;simp only at b1 b2 b3 b4 hst ⊢;by_cases hlt3:m < s2
   ·rw [if_pos hlt3] at hst;have HST:=Hh hst;clear hst;go_wp2;go_round
    case rel=>exact ⟨k+1,by omega,by go_num,by rw [HST.out],by rw [HST.out]⟩
    case measure=>simp [intOf];omega
   ·rw [if_neg hlt3] at hst;have HST:=Hh hst;clear hst;go_wp2;go_round
    case rel=>exact ⟨k+1,by omega,by go_num,by rw [HST.out],by rw [HST.out]⟩
    case measure=>simp [intOf];omega
  ·obtain rfl:k=n:=by omega
   go_wp2;exact ⟨rfl,⟨_,_,_,_,_,_,_,_,_,_,_,_,_,_,_,_,_,_,_,_,_,_,_,_,_,_,_,_,_,_,_,_,_,_,_,_,_,_,_,_,_,_,_,_,_,_,_,_,_,_,_,_,_,_,_,_,_,_,_,_,_,_,_,_,_,_,_,_,_,_,_,rfl⟩,bel⟩
def Y2 (n:Nat) (l:List (List Int)) (B5 Bl Bo Bd r:Nat) (a:Act) (w2:World):Prop:=∃ (u0 u1 u9 ja jb jc jd je jf jg jh ji jj jk jl jm jn jo jp jq jr js jt ju jv jw jx jy jz jA jB jC jD jE jF jG jH jI jJ jK jL jM jN jO jP jQ jR jS jT jU jV jW jX jY jZ j0 j1 j2 j3 j4 j5 j6 j7 j8 j9 qa qb qc qd qe:Value),a={ tmps:=#[u0,u1,.int .i64 (askI l n).1,.int .i64 (askI l n).2,.int .i64 0,.pointer (some ⟨B5,0,none⟩),.pointer (some ⟨Bl,0,none⟩),.pointer (some ⟨Bo,0,none⟩),.pointer (some ⟨Bd,0,none⟩),u9,.slice (some ⟨r,0,none⟩) n n,ja,jb,jc,jd,je,jf,jg,jh,ji,jj,jk,jl,jm,jn,jo,jp,jq,jr,js,jt,ju,jv,jw,jx,jy,jz,jA,jB,jC,jD,jE,jF,jG,jH,jI,jJ,jK,jL,jM,jN,jO,jP,jQ,jR,jS,jT,jU,jV,jW,jX,jY,jZ,j0,j1,j2,j3,j4,j5,j6,j7,j8,j9,qa,qb,qc,qd,qe],defers:=[] }
theorem as_q27 {a:Act} (ha:∃ (u0 u1 u4 u9 ja jb jc jd je jf jg jh ji jj jk jl jm jn jo jp jq jr js jt ju jv jw jx jy jz jA jB jC jD jE jF jG jH jI jJ jK jL jM jN jO jP jQ jR jS jT jU jV jW jX jY jZ j0 j1 j2 j3 j4 j5 j6 j7 j8 j9 qa qb qc qd qe:Value),a={ tmps:=#[u0,u1,.int .i64 (askI l n).1,.int .i64 (askI l n).2,u4,.pointer (some ⟨B5,0,none⟩),.pointer (some ⟨Bl,0,none⟩),.pointer (some ⟨Bo,0,none⟩),.pointer (some ⟨Bd,0,none⟩),u9,.slice (some ⟨r,0,none⟩) n n,ja,jb,jc,jd,je,jf,jg,jh,ji,jj,jk,jl,jm,jn,jo,jp,jq,jr,js,jt,ju,jv,jw,jx,jy,jz,jA,jB,jC,jD,jE,jF,jG,jH,jI,jJ,jK,jL,jM,jN,jO,jP,jQ,jR,jS,jT,jU,jV,jW,jX,jY,jZ,j0,j1,j2,j3,j4,j5,j6,j7,j8,j9,qa,qb,qc,qd,qe],defers:=[] }):q27.wp Tryz.prog (PZ W (Y2 n l B5 Bl Bo Bd r)) a W:=by
 obtain ⟨u0,u1,u4,u9,ja,jb,jc,jd,je,jf,jg,jh,ji,jj,jk,jl,jm,jn,jo,jp,jq,jr,js,jt,ju,jv,jw,jx,jy,jz,jA,jB,jC,jD,jE,jF,jG,jH,jI,jJ,jK,jL,jM,jN,jO,jP,jQ,jR,jS,jT,jU,jV,jW,jX,jY,jZ,j0,j1,j2,j3,j4,j5,j6,j7,j8,j9,qa,qb,qc,qd,qe,rfl⟩:=ha;simp only [q27,qA20,qA11,qBody,Tryz.f24,Option.getD_some];go_wp2;exact ⟨rfl,⟨_,_,_,_,_,_,_,_,_,_,_,_,_,_,_,_,_,_,_,_,_,_,_,_,_,_,_,_,_,_,_,_,_,_,_,_,_,_,_,_,_,_,_,_,_,_,_,_,_,_,_,_,_,_,_,_,_,_,_,_,_,_,_,_,_,_,_,_,_,_,rfl⟩,bel⟩
end
section
variable {b:Bk} {vr vg vm vs vc:Value} {w:World}
theorem ask_co {w:World} (hB:BookAt w b vr vg vm vs vc) (hN:∀ m∈b.ms,m.name.size<=1000000) (hK:KindsAt w) (ht:openAl b 0=0) (hn:0 < b.ss.length) (c:Frame) (cs:List Frame) :
 Leads Tryz.prog (fun fr' cs' w1=>fr'=c.finish (.tuple #[.int .i64 (askI (pasts b) b.ss.length).1,.int .i64 (askI (pasts b) b.ss.length).2,.int .i64 0])/\cs'=cs/\Old w w1) (Frame.enter Tryz.prog 24 #[.agg #[vr,vg,vm,vs,vc]] .normal) (c::cs) w:=by
 obtain ⟨hk,_,hps⟩:=openAl_ok ht;have hbo:=(bookAl_ok hk).1;obtain ⟨r0,r1,g,r4,r5,hc⟩:=qBody_eq;have hok:=progOk.code _ _ Tryz.func24 _ hc;rw [qA11_eq,qA20_eq] at hok;simp only [codeOk,Bool.and_eq_true] at hok;obtain ⟨_,_,_,_,_,_,_,_,k20,k21,k27,_⟩:=hok;have nb:(Go.Conc.base 24).kind=.normal:=rfl;have nd:MarksOnly []:=fun d hd=>by cases hd
 have few:=pasts_le hbo;have hsl:=hbo.sl;refine (ask_farm hB hN hK ht hn (c::cs)).trans ?_;rintro fr' cs1 w1 ⟨hcs,o1,B5,Bl,Bo,Bd,r,lc,la,u0,u1,u2,u3,u4,u9,ja,jb,jc,jd,je,jf,jg,jh,ji,jj,jk,jl,jm,jn,jo,jp,jq,jr,js,jt,ju,jv,jw,jx,jy,jz,jA,jB,jC,jD,jE,jF,jG,jH,jI,jJ,jK,jL,jM,jN,jO,jP,jQ,jR,jS,jT,jU,jV,jW,jX,jY,jZ,j0,j1,j2,j3,j4,j5,j6,j7,j8,j9,qa,qb,qc,qd,qe,rfl,hbl,hr⟩;rw [hcs];clear hcs cs1;have hrl:=(Array.getElem?_eq_some_iff.1 hr).1;rw [qA20_eq];refine leads_seq fun d=>?_;refine (piece_co (w:=w1.at d) (c:=q20) k20 nb nd (Z:=Y0 b.ss.length (pasts b) B5 Bl Bo Bd r) (fun a w1 w2 ht h=>h) (fun W hW=>as_q20 ⟨_,_,_,_,_,_,_,_,_,_,_,_,_,_,_,_,_,_,_,_,_,_,_,_,_,_,_,_,_,_,_,_,_,_,_,_,_,_,_,_,_,_,_,_,_,_,_,_,_,_,_,_,_,_,_,_,_,_,_,_,_,_,_,_,_,_,_,_,_,_,_,_,_,rfl⟩ (by omega) ((hW.unat.cell _).trans hbl))).trans ?_;rintro fr' cs1 w2 ⟨a2,rfl,hcs,hy2,ho2⟩;rw [hcs];clear hcs cs1;have o2':Old w1 w2:=⟨ho2.os,ho2.output,ho2.size,ho2.block⟩;have hr2:=(o2'.block r hrl).trans hr;have o2:=o1.trans o2';refine leads_seq fun d=>?_;refine (piece_co (w:=w2.at d) (c:=q21) k21 nb (by obtain ⟨u0,u1,u4,u9,ja,jb,jc,jd,je,jf,jg,jh,ji,jj,jk,jl,jm,jn,jo,jp,jq,jr,js,jt,ju,jv,jw,jx,jy,jz,jA,jB,jC,jD,jE,jF,jG,jH,jI,jJ,jK,jL,jM,jN,jO,jP,jQ,jR,jS,jT,jU,jV,jW,jX,jY,jZ,j0,j1,j2,j3,j4,j5,j6,j7,j8,j9,qa,qb,qc,qd,qe,rfl⟩:=hy2;exact nd) (Z:=Y1 b.ss.length (pasts b) B5 Bl Bo Bd r) (fun a w1 w2 ht h=>h) (fun W hW=>as_q21 hy2 (by omega) hsl (fun k hk=>?cell) ?lt)).trans ?_
 case cell =>
  rw [hW.unat.cell];unfold World.cell?;rw [hr2];show (outCells (pasts b) b.ss.length fun _=>true)[k]? = _;simp [outCells,hk]
 case lt=>rw [hW.unat.size];exact (Array.getElem?_eq_some_iff.1 hr2).1
 rintro fr' cs1 w3 ⟨a3,rfl,hcs,hy3,ho3⟩;rw [hcs];clear hcs cs1;have o3:=o2.trans (⟨ho3.os,ho3.output,ho3.size,ho3.block⟩:Old w2 w3);refine leads_seq fun d=>?_;refine (piece_co (w:=w3.at d) (c:=q27) k27 nb (by obtain ⟨u0,u1,u4,u9,ja,jb,jc,jd,je,jf,jg,jh,ji,jj,jk,jl,jm,jn,jo,jp,jq,jr,js,jt,ju,jv,jw,jx,jy,jz,jA,jB,jC,jD,jE,jF,jG,jH,jI,jJ,jK,jL,jM,jN,jO,jP,jQ,jR,jS,jT,jU,jV,jW,jX,jY,jZ,j0,j1,j2,j3,j4,j5,j6,j7,j8,j9,qa,qb,qc,qd,qe,rfl⟩:=hy3;exact nd) (Z:=Y2 b.ss.length (pasts b) B5 Bl Bo Bd r) (fun a w1 w2 ht h=>h) (fun W hW=>as_q27 hy3)).trans ?_;rintro fr' cs1 w4 ⟨a4,rfl,hcs,⟨u0,u1,u9,ja,jb,jc,jd,je,jf,jg,jh,ji,jj,jk,jl,jm,jn,jo,jp,jq,jr,js,jt,ju,jv,jw,jx,jy,jz,jA,jB,jC,jD,jE,jF,jG,jH,jI,jJ,jK,jL,jM,jN,jO,jP,jQ,jR,jS,jT,jU,jV,jW,jX,jY,jZ,j0,j1,j2,j3,j4,j5,j6,j7,j8,j9,qa,qb,qc,qd,qe,rfl⟩,ho4⟩;rw [hcs];clear hcs cs1;have o4:=o3.trans (⟨ho4.os,ho4.output,ho4.size,ho4.block⟩:Old w3 w4);refine leads_ret fun d1=>?_;refine leads_leave (fn:=Tryz.f24) (v:=.tuple #[.int .i64 (askI (pasts b) b.ss.length).1,.int .i64 (askI (pasts b) b.ss.length).2,.int .i64 0]) nb rfl Tryz.func24 (fun W=>by simp [results,Tryz.results24]) (fun W=>by simp [results,Tryz.results24]) fun d2=>?_;exact .done ⟨rfl,rfl,⟨o4.os,o4.output,o4.size,o4.block⟩⟩
end
end Go.Proofs.YtdjnkplgllakcaaGreatDoor
namespace Go.Proofs.YtdjnkplgllakcaaGreatDoor
open Go.RowKit Go.Maps Sp
theorem ex_al:bookAl exB=0:=by decide +kernel
theorem ex_names:∀ m∈exB.ms,m.name.size<=1000000:=by decide +kernel
theorem ex_pasts:pasts exB=[[0,2],[1,2],[2,2]]:=by decide +kernel
theorem ex_open:openAl exB 0=0:=by unfold openAl;rw [ex_al,ex_pasts];decide
theorem ex_through:throughI exB 0=[0,1,2]:=by
 unfold throughI sortI;rw [ex_pasts];rw [List.mergeSort_of_pairwise (by decide)]
 decide +kernel
theorem ex_throughAl:throughAl exB 0=0:=by unfold throughAl;rw [show throughAsk exB 0=0 by decide +kernel];exact ex_open
theorem ex_came00:sayI (countI (oftenI exB (pasts exB) (0,0)) 1) (pasts exB).length=0:=by rw [ex_pasts];decide +kernel
theorem ex_came11:sayI (countI (oftenI exB (pasts exB) (1,1)) 1) (pasts exB).length=1:=by rw [ex_pasts];decide +kernel
theorem ex_group00:groupAl exB (0,0)=0:=by unfold groupAl;rw [show isPart exB (0,0)=true by decide +kernel];exact ex_open
theorem ex_group11:groupAl exB (1,1)=0:=by unfold groupAl;rw [show isPart exB (1,1)=true by decide +kernel];exact ex_open
theorem ex_group10:groupAl exB (1,0)=0:=by unfold groupAl;rw [show isPart exB (1,0)=true by decide +kernel];exact ex_open
theorem ex_lo:loI exB (1,0)=1:=by unfold loI;rw [ex_pasts];decide +kernel
theorem ex_hi:hiI exB (1,0)=1:=by unfold hiI;rw [ex_pasts];decide +kernel
theorem ex_deliv:deliveredI exB=[0,2]:=by unfold deliveredI deliveredTo;rw [ex_pasts];decide +kernel
theorem ex_miss:missI exB=[(0,0),(0,1),(1,2)]:=by unfold missI;rw [ex_pasts];decide +kernel
theorem ex_loads:loadsI exB=[2,1]:=by unfold loadsI;rw [ex_miss];decide +kernel
theorem ex_ask:askI (pasts exB) exB.ss.length=(0,1):=by rw [ex_pasts];decide +kernel
theorem ex_pack13:packI exB (loadsI exB) 13=some ([1,0],[1,2]):=by rw [ex_loads];decide +kernel
theorem ex_pack15:packI exB (loadsI exB) 15=none:=by rw [ex_loads];decide +kernel
theorem ex_latest:latestI exB (loadsI exB)=some 14:=by rw [ex_loads];decide +kernel
theorem ex_plan:planOk (loadsI exB) [1,0]=some [1,2]:=by rw [ex_loads];decide +kernel
theorem ex_ends:endsI exB.gap 13 [1,2]=[19,26]:=by decide +kernel
theorem ex_punch:punchI [1,0] 1 (missI exB)=[(0,0),(0,1)]:=by rw [ex_miss];decide +kernel
def Sp.exC:Bk:={ exB with rs:=exB.rs ++ [⟨0,0,0,0⟩] }
theorem ec_al:bookAl Sp.exC=0:=by decide +kernel
theorem ec_names:∀ m∈Sp.exC.ms,m.name.size<=1000000:=by decide +kernel
theorem ec_pasts:pasts Sp.exC=[]:=by decide +kernel
theorem ec_clash:clashI Sp.exC=[0,3]:=by decide +kernel
end Go.Proofs.YtdjnkplgllakcaaGreatDoor
namespace Go.Proofs.YtdjnkplgllakcaaGreatDoor
open Go.RowKit Sp Mt Go.Conc
section
variable {P:Program} {b:Frame} {a:Act} {w:World} {k:List Item} {cs:List Frame} {K:Frame->List Frame->World->Prop}
theorem leads_region {id:Nat} {ops:Array Oper} (h:∀ d,Leads P K (b.at a (.inRegion ops (List.range ops.size)::k)) cs (w.at d)):Leads P K (b.at a (.code (.region id ops false)::k)) cs w:=leads_go (fun d=>rfl) h
theorem leads_inRegion {ops:Array Oper} (h:∀ d,Leads P K (b.at a k) cs (w.at d)):Leads P K (b.at a (.inRegion ops []::k)) cs w:=leads_go (fun d=>rfl) h
theorem leads_op {ops:Array Oper} {i:Nat} {rest:List Nat} (v:Value) (hb:b.kind=.normal) {o:Oper} (ho:ops[i]? = some o) (hw:Region.wanted o (yielded ops a.tmps)=true)
 (hr:∀ d,(execOp a.eval o).run P (w.at d)=.ok (.value v) (w.at d)) (he:∀ d,∀ e∈(execOp a.eval o).events P (w.at d) #[],EvOk w.heap.size e)
 (h:∀ d,Leads P K (b.at (a.put o.dst v) (.inRegion ops rest::k)) cs (w.at d)):Leads P K (b.at a (.inRegion ops (i::rest)::k)) cs w :=
 .step fun d=>⟨_,cs,w.at d,_,stepG_value ho hw (by rw [hb];decide) (hr d),fun e hm=>he d e (seen_mem hm),Nat.le_refl _,h d⟩
theorem leads_call {ops:Array Oper} {i:Nat} {rest:List Nat} {f:FuncId} {args:Array Value} (hb:b.kind=.normal) {o:Oper} (ho:ops[i]? = some o) (hw:Region.wanted o (yielded ops a.tmps)=true)
 (hr:∀ d,(execOp a.eval o).run P (w.at d)=.ok (.enter f args) (w.at d)) (he:∀ d,(execOp a.eval o).events P (w.at d) #[]=#[]) {Z:Value->World->Prop}
 (hc:∀ d,Leads P (fun fr' cs' w1=>∃ v,fr'=(b.at a (.inRegion ops (i::rest)::k)).finish v/\cs'=cs/\Z v w1) (Frame.enter P f args .normal) (b.at a (.inRegion ops (i::rest)::k)::cs) (w.at d))
 (h:∀ v w1,Z v w1->Leads P K (b.at (a.put o.dst v) (.inRegion ops rest::k)) cs w1):Leads P K (b.at a (.inRegion ops (i::rest)::k)) cs w:=by
 refine .step fun d=>⟨_,_,w.at d,_,stepG_enter ho hw (by rw [hb];decide) (hr d),fun e hm=>?_,Nat.le_refl _,(hc d).trans ?_⟩
 ·have:=seen_mem hm;rw [he d] at this;simp at this
 ·rintro fr' cs' w1 ⟨v,rfl,rfl,hz⟩;have hfin:(b.at a (.inRegion ops (i::rest)::k)).finish v=b.at (a.put o.dst v) (.inRegion ops rest::k):=by rw [Frame.finish_at,ho];rfl
  rw [hfin];exact h v w1 hz
theorem ev_call {f:FuncId} {fn:Func} {args:Array Value} {w:World} (hf:P.funcs[f]? = some fn) (hb:fn.body.isNone=false) (hn:(fn.name == "runtime.NumGoroutine")=false):(callFunc f args).events P w #[]=#[]:=by
 have hb2:fn.body≠none:=fun e=>by rw [e] at hb;simp at hb
 simp [callFunc,hf,hn,go_sem];intro _ h;exact absurd h hb2
theorem frame_leads (hP:ProgOk P) {S:Mute} {w':World} {fr c:Frame} (hst:StackOk P fr []) (hl:Like P S w w') {Z:Value->World->Prop}
 (h:∀ t,∃ v w2 fr2 n,runN P n (lone fr ([] ++ [bottom]) (w'.on t 0))=.next (lone fr2 [bottom] w2)/\fr2.kind=.normal/\fr2.mode=.returning/\fr2.defers=[]/\(∃ fn,P.funcs[fr2.fn]? = some fn/\(results fn fr2.tmps).run P w2=.ok v w2)/\∃ t d,Z v (w2.on t d)) :
 Leads P (fun fr' cs' w1=>∃ v w1',fr'=c.finish v/\cs'=cs/\Like P S w1 w1'/\∃ t d,Z v (w1'.on t d)) fr (c::cs) w:=by
 have hbar:=bar_of_reach (seg:=false) (kb:=[]) (cs:=c::cs) (Z:=fun fr w1=>∃ v w1',Like P S w1 w1'/\fr.kind=.normal/\fr.mode=.returning/\fr.defers=[]/\(∃ fn t d,P.funcs[fr.fn]? = some fn/\(results fn fr.tmps).run P (w1'.on t d)=.ok v (w1'.on t d))/\∃ t d,Z v (w1'.on t d))
  (Z0:=fun fr w2=>∃ v,fr.kind=.normal/\fr.mode=.returning/\fr.defers=[]/\(∃ fn,P.funcs[fr.fn]? = some fn/\∃ t d,(results fn fr.tmps).run P (w2.on t d)=.ok v (w2.on t d))/\∃ t d,Z v (w2.on t d)) hP (fun _=>rfl)
  (fun fr w1 w1' hl1 ⟨t,d,v,h1,h2,h3,⟨fn,h4,t4,d4,h5⟩,t2,d2,hz⟩=>⟨v,w1',hl1,h1,h2,h3,⟨fn,t4,d4,h4,h5⟩,t2,d2,hz⟩) hst hl fun t=>by
    obtain ⟨v,w2,fr2,n,hn,h1,h2,h3,⟨fn,h4,h5⟩,hz⟩:=h t;exact ⟨n,fr2,w2,hn,(show fr2.mode≠.run/\fr2.defers=[] from ⟨by rw [h2];simp,h3⟩),v,h1,h2,h3,⟨fn,h4,w2.tape,w2.drawn,h5⟩,hz⟩
 have hL:=hbar.leads;simp only [kOf,ups,upF_nil,List.nil_append] at hL;refine hL.trans fun fr' cs' w1 ⟨fr2,e1,e2,_,v,w1',hl1,hk,hm,hdf,⟨fn,t,d,hf,hr⟩,hz⟩=>?_;subst e1 e2;refine .step fun d1=>?_;rcases sem_mirror (φ:=fun _=>True) tm_results (hl1.sim ⟨d,w1.tape,t,d1,d,fun j q hj=>by omega⟩) (by rw [Sem.runT_fst,hr];exact Nat.le_refl _) with ⟨v',w2,w2',evs,q1,q2,hev,hsim,hle,_⟩ | ⟨v',w2,w2',evs,q1,_⟩ | ⟨x,w2',q1,_⟩
 ·rw [Sem.runT_fst,hr] at q1;cases q1;refine ⟨c.finish v,cs,w2,seen P fr'.fn evs ++ #[],?_,fun e he=>hev e (seen_mem (by simpa using he)),hle,.done ⟨v,w1',rfl,rfl,?_,hz⟩⟩
  ·obtain ⟨fn0,tmps,td,dfs,md,kd,ro⟩:=fr';simp only at hk hm hdf hf;subst hk hm hdf;show unwind P true ⟨fn0,tmps,td,[],.returning,.normal,ro⟩ (c::cs) none (w1.at d1)=_;unfold unwind;simp only [hf];rw [show (results fn tmps).runT P (w1.at d1) #[]=(.ok v w2,evs) from q2];rfl
  ·have:=hsim.like;exact ⟨⟨rfl,rfl,0,rfl,rfl⟩,this.os,this.output,this.size,this.block,this.mute,this.heapOk⟩
 ·rw [Sem.runT_fst,hr] at q1;cases q1
 ·rw [Sem.runT_fst,hr] at q1;cases q1
end
structure OldN (n:Nat) (w w1:World):Prop where
 os:w1.os=w.os
 output:w1.output=w.output
 size:w.heap.size<=w1.heap.size
 block:∀ k,k < n->w1.heap[k]? = w.heap[k]?
theorem like_oldN {P:Program} {S:Mute} {w w1 w2 W:World} {n:Nat} {t t2:Tape} {d2:Nat} (hn:n<=w.heap.size) (hw:Like P S w W) (h:Like P S w1 w2) (hb:Below n (W.on t 0) (w2.on t2 d2)):OldN n w w1:=by
 refine ⟨h.os.symm.trans (hb.os.trans hw.os),h.output.symm.trans (hb.output.trans hw.output),by rw [<- hw.size,<- h.size];exact hb.size,fun k hk=>?_⟩;by_cases hs:S k
 ·obtain ⟨⟨o,h1,_,h2⟩,_⟩:=hw.mute k hs;obtain ⟨⟨o2,h3,_,h4⟩,_⟩:=h.mute k hs;rw [h1,h3,<- h2,<- h4]
 ·rw [<- h.block k hs,<- hw.block k hs];exact hb.block k hk
theorem tail_coN {n:Nat} {a:Act} {w:World} {cs:List Frame} (hn:n<=w.heap.size) {f:FuncId} {fn:Func} (hf:Tryz.prog.funcs[f]? = some fn) {rest:Code} (hc:codeOk Tryz.prog rest=true) (hd:MarksOnly a.defers) {c:Frame} {Z:Value->World->Prop} (hZ:∀ v w1 w2,Twin w.heap.size w1 w2->Z v w1->Z v w2)
 (h:∀ W,Twin w.heap.size w W->rest.wp Tryz.prog (bodyPost Tryz.prog fn fun e w2=>∃ v,e=.returned v/\Z v w2/\Below n W w2) a W) :
 Leads Tryz.prog (fun fr' cs' w1=>∃ v,fr'=c.finish v/\cs'=cs/\Z v w1/\OldN n w w1) ((Go.Conc.base f).at a [.code rest]) (c::cs) w:=by
 have hl:=muted_like Tryz.prog w;have hst:StackOk Tryz.prog ((Go.Conc.base f).at a [.code rest]) []:=⟨⟨fun it hit=>by
  simp only [Frame.at,List.mem_singleton] at hit
  subst hit
  exact hc,rfl,hd⟩,fun _ x=>(by cases x),fun _ x=>(by cases x),rfl⟩
 refine (frame_leads (Z:=fun v W2=>Z v W2/\∃ t,Below n ((muted w).on t 0) W2) progOk hst hl fun t=>?_).mono ?_
 ·obtain ⟨e,a',w2,hq,harr⟩:=h _ (muted_twin w t) (Go.Conc.base f) [] [bottom]
  cases e with
  | normal =>
   obtain ⟨hdf,v,hr,v',he,hz,hbl⟩:=hq;cases he;obtain ⟨n,hn⟩:=harr.trans (.one step_end);exact ⟨v,w2,_,n,hn,rfl,rfl,hdf,⟨fn,hf,hr⟩,w2.tape,w2.drawn,hz,t,hbl⟩
  | ret =>
   obtain ⟨hdf,v,hr,v',he,hz,hbl⟩:=hq;cases he;obtain ⟨todo,n,hn⟩:=harr;exact ⟨v,w2,_,n,hn,rfl,rfl,hdf,⟨fn,hf,hr⟩,w2.tape,w2.drawn,hz,t,hbl⟩
  | panic ch=>obtain ⟨_,v,he,_⟩:=hq;cases he
  | outgrown=>obtain ⟨v,he,_⟩:=hq;cases he
  | exit id=>exact hq.elim
  | goto t=>exact hq.elim
 ·rintro fr' cs' w1 ⟨v,w1',h1,h2,h3,t,d,hz,t0,hbl⟩;exact ⟨v,h1,h2,hZ _ _ _ (like_twin hl h3 t d) hz,like_oldN hn hl h3 hbl⟩
end Go.Proofs.YtdjnkplgllakcaaGreatDoor
