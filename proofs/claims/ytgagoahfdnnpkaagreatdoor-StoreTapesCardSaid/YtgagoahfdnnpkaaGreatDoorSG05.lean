/- StoreTapes -/
import Derived.Test.YtgagoahfdnnpkaaGreatDoorSG04
import Derived.Shelf.Small.Bits
import Derived.Shelf.Small.Wraps
import Derived.Shelf.Sort.Plain
import Derived.Shelf.Slices.Turned
import Derived.Shelf.Slices.Clone
import Derived.Shelf.Slices.SearchI
import Derived.Shelf.Slices.Cells
import Derived.Shelf.Slices.In.SortNone
import Derived.Shelf.SlicesE.Clone
import Derived.Sort.OwnSortedInts
set_option maxHeartbeats 16000000
set_option maxRecDepth 100000
set_option linter.all false
namespace Go.Proofs.YtgagoahfdnnpkaaGreatDoor
open Go.RowKit Go.Maps Sp
section
variable {b:Bk} {vr vg vm vs vc:Value} {w:World}
def GroupOut (w:World) (p:Prt) (e:Ending) (w':World):Prop:=∃ B,e=.returned (.func (.func 94) #[] #[.pointer (some ⟨B,0,none⟩)])/\B < w'.heap.size/\w'.cell? ⟨B,0,none⟩=some (.int .i64 p.1)/\w'.cell? ⟨B,1,none⟩=some (.int .i64 p.2)/\Below w.heap.size w w'
theorem group_at (p:Prt) (w:World):Calls Tryz.prog 63 #[.agg #[.int .i64 p.1,.int .i64 p.2]] w (GroupOut w p):=by
 go_enter Tryz.func63,Tryz.ntmps63
 go_wp2;go_ret;refine ⟨w.heap.size,rfl,by simp,?_,?_,bel⟩
 ·rw [World.cell?_alloc_at _ _ _ _ rfl];rfl
 ·rw [World.cell?_alloc_at _ _ _ _ rfl];rfl
theorem group1_at (hB:BookAt w b vr vg vm vs vc) (hG:∀ m∈b.ms,0<=m.groups/\m.groups<=1000) {B:Nat} {p:Prt} (h0:w.cell? ⟨B,0,none⟩=some (.int .i64 p.1)) (h1:w.cell? ⟨B,1,none⟩=some (.int .i64 p.2)) (hlt:B < w.heap.size) :
 Calls Tryz.prog 94 #[.agg #[vr,vg,vm,vs,vc],.pointer (some ⟨B,0,none⟩)] w fun e w'=>e=.returned (.int .i64 (if isPart b p then 0 else 6))/\Below w.heap.size w w':=by
 have HB:=Hh hB;have HG:=Hh hG;cases hp:isPart b p
 all_goals
  have HP:=Hh hp;clear hp hB hG
  go_enter Tryz.func94,Tryz.ntmps94
  go_wp2_with (go_at_call 95;(with_reducible refine (isPart_at (HB.out.below (bal _ _)) HG.out HP.out).mono ?_);rintro e w1 ⟨rfl,hb1⟩);go_ret;exact ⟨rfl,bel⟩
def groupAl (b:Bk) (p:Prt):Int:=openAl b (if isPart b p then 0 else 6)
theorem row_named {A:World} {base e size n:Nat} {v:Value} {xs:List Value} (h:A.ownsRow base e size v n xs):∃ B,B=base/\A.ownsRow B e size v n xs:=⟨_,rfl,h⟩
theorem came_ok (hB:BookAt w b vr vg vm vs vc) (hN:∀ m∈b.ms,m.name.size<=1000000) (hK:KindsAt w) (m g:Int) (ht:groupAl b (m,g)=0) :
 Calls Tryz.prog 21 #[.agg #[vr,vg,vm,vs,vc],.int .i64 m,.int .i64 g] w fun e w'=>e=.returned (.tuple #[.int .i64 (sayI (countI (oftenI b (pasts b) (m,g)) 1) (pasts b).length),.int .i64 0])/\Below w.heap.size w w':=by
 have HB:=Hh hB;have HN:=Hh hN;have HK:=Hh hK;obtain ⟨hk,hpt,hps⟩:=openAl_ok ht;have hpart:isPart b (m,g)=true:=by
  cases h:isPart b (m,g)
  ·rw [h] at hpt;simp at hpt
  ·rfl
 have hbo:=(bookAl_ok hk).1;have HO:=Hh hbo;have HBA:=Hh hk;have HPA:=Hh hpart;have HPS:=Hh hps;have hpl:=pasts_le hbo;have HPC:=Hh (fun x (hx:x∈pasts b)=>pasts_came hbo hx);have HPT:=Hh hpt;clear hk hpt hps hpart hbo;obtain ⟨rfl,rfl,⟨ma,mc,rfl,_,_⟩,⟨sa,sc,rfl,_,_⟩,ra,rc,rfl,_,_⟩:=id hB;clear hB hN hK ht
 go_enter Tryz.func21,Tryz.ntmps21
 go_wp2;obtain ⟨W1,hW1⟩:∃ W1,W1=(w.alloc (.cells #[.int .i64 b.room,.int .i64 b.gap,.slice ma b.ms.length mc,.slice sa b.ss.length sc,.slice ra b.rs.length rc] 26)).alloc (.cells #[.int .i64 m,.int .i64 g] 75):=⟨_,rfl⟩;rw [<- hW1];have five:=(Five.new w (.int .i64 b.room) (.int .i64 b.gap) (.slice ma b.ms.length mc) (.slice sa b.ss.length sc) (.slice ra b.rs.length rc) 26).below (bal _ (.cells #[.int .i64 m,.int .i64 g] 75)) (by simp);rw [<- hW1] at five;have hb0:Below w.heap.size w W1:=by rw [hW1];(exact bel)
 have hsz:W1.heap.size=w.heap.size+1+1:=by rw [hW1];simp
 have p0:W1.cell? ⟨w.heap.size+1,0,none⟩=some (.int .i64 m):=by rw [hW1,World.cell?_alloc_at _ _ _ _ (by simp)];rfl
 have p1:W1.cell? ⟨w.heap.size+1,1,none⟩=some (.int .i64 g):=by rw [hW1,World.cell?_alloc_at _ _ _ _ (by simp)];rfl
 have hall:∀ w':World,Below W1.heap.size W1 w'->(Below W1.heap.size W1 w'/\w'.cell? ⟨w.heap.size,0,none⟩=some (.int .i64 b.room)/\w'.cell? ⟨w.heap.size,1,none⟩=some (.int .i64 b.gap)/\w'.cell? ⟨w.heap.size,2,none⟩=some (.slice ma b.ms.length mc)/\w'.cell? ⟨w.heap.size,3,none⟩=some (.slice sa b.ss.length sc)/\w'.cell? ⟨w.heap.size,4,none⟩=some (.slice ra b.rs.length rc)/\w'.cell? ⟨w.heap.size+1,0,none⟩=some (.int .i64 m)/\w'.cell? ⟨w.heap.size+1,1,none⟩=some (.int .i64 g)):=fun w' h=>by
  exact ⟨h,(h.cell (by simp;omega)).trans five.c0,(h.cell (by simp;omega)).trans five.c1,(h.cell (by simp;omega)).trans five.c2,(h.cell (by simp;omega)).trans five.c3,(h.cell (by simp;omega)).trans five.c4,(h.cell (by simp;omega)).trans p0,(h.cell (by simp;omega)).trans p1⟩
 have HALL:=Hh hall;clear hW1 hall p0 p1 five;have hgr:=fun (w':World)=>group_at (m,g) w';have HGR:=Hh hgr;clear hgr;go_region_held3 (fun w'=>Below W1.heap.size W1 w'/\w'.cell? ⟨w.heap.size,0,none⟩=some (.int .i64 b.room)/\w'.cell? ⟨w.heap.size,1,none⟩=some (.int .i64 b.gap)/\w'.cell? ⟨w.heap.size,2,none⟩=some (.slice ma b.ms.length mc)/\w'.cell? ⟨w.heap.size,3,none⟩=some (.slice sa b.ss.length sc)/\w'.cell? ⟨w.heap.size,4,none⟩=some (.slice ra b.rs.length rc)/\w'.cell? ⟨w.heap.size+1,0,none⟩=some (.int .i64 m)/\w'.cell? ⟨w.heap.size+1,1,none⟩=some (.int .i64 g))
  ((go_split_ands;exact HALL.out _ (bel)))
  (first
    | (go_at_call 63;(with_reducible refine (HGR.out _).mono ?_);rintro e w2 ⟨B,rfl,hB1,q0,q1,hb2⟩;have hq:∀ W,Below w2.heap.size w2 W->W.cell? ⟨B,0,none⟩=some (.int .i64 m)/\W.cell? ⟨B,1,none⟩=some (.int .i64 g)/\B < W.heap.size:=(fun W h=>⟨(h.cell hB1).trans q0,(h.cell hB1).trans q1,Nat.lt_of_lt_of_le hB1 h.size⟩);have HQ:=Hh hq;clear hq q0 q1;obtain ⟨hc2,hf2⟩:=bcell hb2;have hz2:=hb2.size;(try simp at hz2);(try (have hy2:w.heap.size+1+1 < w2.heap.size:=by omega)))
    | (go_at_call 31;go_split_ands;have hX:=Below.next hb0 ‹Below W1.heap.size W1 _›;(with_reducible refine (open_group_ok (HB.out.below hX) HN.out (HK.out.below hX) _ (al:=if isPart b (m,g) then 0 else 6) (fun hk W hW=>group1_at (p:=(m,g)) (HB.out.below (Below.next hX hW)) (bookAl_ok hk).1.groups (HQ.out W (Below.next (by first | exact Below.refl _ _ | exact bal _ _) hW)).1 (HQ.out W (Below.next (by first | exact Below.refl _ _ | exact bal _ _) hW)).2.1 (HQ.out W (Below.next (by first | exact Below.refl _ _ | exact bal _ _) hW)).2.2) HBA.out HPT.out HPS.out).mono ?_);rintro e w3 ⟨la,rfl,hrow,hb3⟩;obtain ⟨la,lc,rfl⟩:=ownsRow_slice hrow;obtain ⟨Bs,hBs,hrow⟩:=row_named hrow;(try simp at hBs);have HROW:=Hh hrow;clear hrow;obtain ⟨hc3,hf3⟩:=bcell hb3;have hz3:=hb3.size;(try simp at hz3);(try (have hy3:w.heap.size+1+1 < w3.heap.size:=by omega))))
 all_goals
  have hrw:∀ W9,Below w3.heap.size w3 W9->W9.ownsRow Bs 113 4 (.slice la (pasts b).length lc) (pasts b).length ((pasts b).flatMap cellsP):=fun W9 h=>ownsRow_below HROW.out h;have HRW:=Hh hrw;clear hrw;go_wp2_with (first
   | (go_at_call 66;(with_reducible refine (often_at (p:=(m,g)) (HB.out.below (bel)) HO.out (la:=la) (l:=pasts b) (cames_of_row (base:=Bs) (n:=(pasts b).length) (c:=lc) (by repeat (first | (with_reducible refine ownsRow_setCell_below ?_ (by simp;omega) _) | exact HROW.out | exact HRW.out _ (bel)))) HPC.out (by omega) HPA.out).mono ?_);rintro e w4 ⟨ia,ic,rfl,hir,hb4⟩;have HIR:=Hh hir;clear hir)
   | (go_at_call 65;(with_reducible refine (count_at 1 (ints_of_row HIR.out) (by simp [oftenI];omega) rfl).mono ?_);rintro e w5 ⟨rfl,rfl⟩)
   | (go_at_call 64;(with_reducible refine (say_any _ _ _).mono ?_);rintro e w5 ⟨rfl,rfl⟩))
  exact bodyPost_ret (v:=.tuple #[.int .i64 (sayI (countI (oftenI b (pasts b) (m,g)) 1) (pasts b).length),.int .i64 0]) (by simp [results,Tryz.results21,go_sem, *]) rfl ⟨rfl,bel⟩
end
theorem alloc1_cell {w:World} {v:Value} {t:TypeId} {n:Nat} (hn:n=w.heap.size):(w.alloc (.cells #[v] t)).cell? ⟨n,0,none⟩=some v:=by
 rw [World.cell?_alloc_at _ _ _ _ hn];rfl
theorem below_own {base:Nat} {A B:World} {e size n:Nat} {v:Value} {xs:List Value} (h:A.ownsRow base e size v n xs) (hg:A.grownBy B v.ownBlock) (hb:base<=A.heap.size):Below base A B:=by
 have hk:=grow_ks h hg;exact ⟨hk.os,hk.tape,hk.output,hk.size,fun k hkk=>hk.block k (Nat.lt_of_lt_of_le hkk hb) hkk⟩
theorem wpl_append1 {P:Program} {w:World} {ops:Array Oper} {rest:List Oper} {o:Oper} {a:Act} {Q:Exit->Act->World->Prop} (hgd:o.guard=none) (s x:Operand) (t:TypeId)
 (ho:o.op=.call { callee:=.builtin .append,args:=#[s,x],argTypes:=#[t,t] })
 (base:Nat) (e:TypeId) {z:Value} {bytes:Nat} (ht:P.underlying t=some (.slice e)) (hi:(P.info? e).map (fun i=>(i.zero,i.size,i.bytes))=some (some z,1,bytes)) (hzs:z.cells.size=1) (hby:bytes<=100)
 (v:Value) (k:Nat) (xs:List Value) (hs:a.eval s=v) (hown:w.ownsRow base e 1 v k xs) (hbase:base<=w.heap.size) (hk:k<=1000000) (u:Value)
 {n:Nat} (hn:n=w.heap.size) (hx:a.eval x=.slice (some ⟨n,0,none⟩) 1 1) (h1:u.oneCell'=true)
 (h:∀ g cap w',w'.ownsRow base e 1 (.slice (some ⟨g,0,none⟩) (k+1) cap) (k+1) (xs ++ [u])->Below base w w'->wpList P ops Q rest (a.put o.dst (.slice (some ⟨g,0,none⟩) (k+1) cap)) w') :
 wpList P ops Q (o::rest) a (w.alloc (.cells #[u] e)):=by
 subst hn;obtain ⟨i,hi,hz,hsz,hb⟩:=info_parts hi;have hal:(w.alloc (.cells #[u] e)).ownsRow base e 1 v k xs:=hown.alloc _;have hle:base<=(w.alloc (.cells #[u] e)).heap.size:=by simp;omega
 refine wpList_append_own (w.alloc (.cells #[u] e)) hgd s x t ho base e i z 1 bytes ht hi hz hsz hb hzs (by decide) v k xs hs hal ⟨w.heap.size,0,none⟩ 1 1 [u] hx rfl (cells_new w [u] e) (by simpa using h1) (by unfold maxLen;omega) (by have:=Nat.mul_le_mul (show k+1<=1000001 by omega) hby;omega) hle ?_;intro v' w' hown' hg _;obtain ⟨g,cap,rfl⟩:=ownsRow_succ hown';exact h g cap w' hown' (((Below.refl base w).alloc hbase _).trans (below_own hal hg hle))
end Go.Proofs.YtgagoahfdnnpkaaGreatDoor
namespace Go.Proofs
open Go.Shelf
def Tryz.lays215_ren:Go.Shelf.Ren:=⟨fun | 215=>121 | n=>n,fun | 3=>3 | 4=>4 | n=>n,fun | n=>n⟩
def Tryz.lays122_ren:Go.Shelf.Ren:=⟨fun | 122=>97 | 215=>121 | n=>n,fun | 3=>3 | 4=>4 | n=>n,fun | n=>n⟩
theorem Tryz.lays122:Go.Proofs.Lays.n122 Tryz.prog Tryz.lays122_ren:={
 mixed:=by kernel_rfl
 f122:=Tryz.func97.trans (congrArg some (by kernel_rfl))
 f215:=Tryz.func121.trans (congrArg some (by kernel_rfl))
 t3:=Tryz.underlying3
 a3:=Tryz.isAgg3
 z3:=Tryz.sizeOf3
 v3:=Tryz.zeroValue3
 t4:=Tryz.underlying4
 a4:=Tryz.isAgg4
 z4:=Tryz.sizeOf4
 v4:=Tryz.zeroValue4 }
open Go.RowKit in
theorem Tryz.cmp_Compare_int (x y:Int) (w:World) :
 Calls Tryz.prog 97 #[.int .i64 x,.int .i64 y] w fun e w'=>e=.returned (.int .i64 (Lib.compareInt x y))/\w'=w:=Any.cmp_Compare_int Tryz.lays122 x y w
def Tryz.lays189_ren:Go.Shelf.Ren:=⟨fun | 189=>61 | 125=>93 | 257=>92 | 128=>119 | 129=>120 | 294=>110 | 295=>111 | 296=>112 | 297=>113 | 298=>114 | 299=>115 | 216=>116 | 300=>117 | 301=>118 | 328=>128 | 329=>129 | 330=>130 | 331=>131 | 332=>132 | 215=>121 | 343=>135 | n=>n,fun | 28=>27 | 3=>3 | 46=>141 | 0=>0 | 51=>165 | 53=>167 | 4=>4 | 183=>159 | 182=>158 | 131=>107 | 5=>5 | 9=>9 | 218=>178 | 222=>182 | 228=>186 | 229=>187 | n=>n,fun | n=>n⟩
theorem Tryz.lays189:Go.Proofs.Lays.n189 Tryz.prog Tryz.lays189_ren:={
 mixed:=by kernel_rfl
 f125:=Tryz.func93.trans (congrArg some (by kernel_rfl))
 f128:=Tryz.func119.trans (congrArg some (by kernel_rfl))
 f129:=Tryz.func120.trans (congrArg some (by kernel_rfl))
 f189:=Tryz.func61.trans (congrArg some (by kernel_rfl))
 f215:=Tryz.func121.trans (congrArg some (by kernel_rfl))
 f216:=Tryz.func116.trans (congrArg some (by kernel_rfl))
 f257:=Tryz.func92.trans (congrArg some (by kernel_rfl))
 f294:=Tryz.func110.trans (congrArg some (by kernel_rfl))
 f295:=Tryz.func111.trans (congrArg some (by kernel_rfl))
 f296:=Tryz.func112.trans (congrArg some (by kernel_rfl))
 f297:=Tryz.func113.trans (congrArg some (by kernel_rfl))
 f298:=Tryz.func114.trans (congrArg some (by kernel_rfl))
 f299:=Tryz.func115.trans (congrArg some (by kernel_rfl))
 f300:=Tryz.func117.trans (congrArg some (by kernel_rfl))
 f301:=Tryz.func118.trans (congrArg some (by kernel_rfl))
 f328:=Tryz.func128.trans (congrArg some (by kernel_rfl))
 f329:=Tryz.func129.trans (congrArg some (by kernel_rfl))
 f330:=Tryz.func130.trans (congrArg some (by kernel_rfl))
 f331:=Tryz.func131.trans (congrArg some (by kernel_rfl))
 f332:=Tryz.func132.trans (congrArg some (by kernel_rfl))
 f343:=Tryz.func135.trans (congrArg some (by kernel_rfl))
 t0:=Tryz.underlying0
 a0:=Tryz.isAgg0
 z0:=Tryz.sizeOf0
 v0:=Tryz.zeroValue0
 t3:=Tryz.underlying3
 a3:=Tryz.isAgg3
 z3:=Tryz.sizeOf3
 v3:=Tryz.zeroValue3
 t4:=Tryz.underlying4
 a4:=Tryz.isAgg4
 z4:=Tryz.sizeOf4
 v4:=Tryz.zeroValue4
 t5:=Tryz.underlying5
 a5:=Tryz.isAgg5
 z5:=Tryz.sizeOf5
 v5:=Tryz.zeroValue5
 t9:=Tryz.underlying9
 a9:=Tryz.isAgg9
 z9:=Tryz.sizeOf9
 v9:=Tryz.zeroValue9
 t28:=Tryz.underlying27
 a28:=Tryz.isAgg27
 z28:=Tryz.sizeOf27
 v28:=Tryz.zeroValue27
 t46:=Tryz.underlying141
 a46:=Tryz.isAgg141
 z46:=Tryz.sizeOf141
 v46:=Tryz.zeroValue141
 t51:=Tryz.underlying165
 a51:=Tryz.isAgg165
 z51:=Tryz.sizeOf165
 v51:=Tryz.zeroValue165
 t53:=Tryz.underlying167
 a53:=Tryz.isAgg167
 z53:=Tryz.sizeOf167
 v53:=Tryz.zeroValue167
 t131:=Tryz.underlying107
 a131:=Tryz.isAgg107
 z131:=Tryz.sizeOf107
 v131:=Tryz.zeroValue107
 t182:=Tryz.underlying158
 a182:=Tryz.isAgg158
 z182:=Tryz.sizeOf158
 v182:=Tryz.zeroValue158
 t183:=Tryz.underlying159
 a183:=Tryz.isAgg159
 z183:=Tryz.sizeOf159
 v183:=Tryz.zeroValue159
 t218:=Tryz.underlying178
 a218:=Tryz.isAgg178
 z218:=Tryz.sizeOf178
 v218:=Tryz.zeroValue178
 t222:=Tryz.underlying182
 a222:=Tryz.isAgg182
 z222:=Tryz.sizeOf182
 v222:=Tryz.zeroValue182
 t228:=Tryz.underlying186
 a228:=Tryz.isAgg186
 z228:=Tryz.sizeOf186
 v228:=Tryz.zeroValue186
 t229:=Tryz.underlying187
 a229:=Tryz.isAgg187
 z229:=Tryz.sizeOf187
 v229:=Tryz.zeroValue187 }
open Go.Sort Go.RowKit in
theorem Tryz.slices_Sort_int (blk off cap:Nat) (zs:List Int) (w:World) (hH:Holds (Value.int .i64) w blk off zs.toArray) (hblk:blk < w.heap.size) (hsz:zs.length < 4611686018427387904) :
 Calls Tryz.prog 61 #[.slice (some ⟨blk,off,none⟩) zs.length cap] w fun e w' =>
  e=.returned (.tuple #[])/\∃ n os,w'=grow (putRow (Value.int .i64) (Sort.ahead w n) blk off (zs.mergeSort fun x y=>decide (x<=y)).toArray) os:=Any.slices_Sort_int Tryz.lays189 blk off cap zs w hH hblk hsz
def Tryz.lays107_ren:Go.Shelf.Ren:=⟨fun | 107=>98 | 108=>122 | n=>n,fun | 28=>27 | 3=>3 | 4=>4 | 0=>0 | n=>n,fun | n=>n⟩
theorem Tryz.lays107:Go.Proofs.Lays.n107 Tryz.prog Tryz.lays107_ren:={
 mixed:=by kernel_rfl
 f107:=Tryz.func98.trans (congrArg some (by kernel_rfl))
 f108:=Tryz.func122.trans (congrArg some (by kernel_rfl))
 t0:=Tryz.underlying0
 a0:=Tryz.isAgg0
 z0:=Tryz.sizeOf0
 v0:=Tryz.zeroValue0
 t3:=Tryz.underlying3
 a3:=Tryz.isAgg3
 z3:=Tryz.sizeOf3
 v3:=Tryz.zeroValue3
 t4:=Tryz.underlying4
 a4:=Tryz.isAgg4
 z4:=Tryz.sizeOf4
 v4:=Tryz.zeroValue4
 t28:=Tryz.underlying27
 a28:=Tryz.isAgg27
 z28:=Tryz.sizeOf27
 v28:=Tryz.zeroValue27 }
open Go.Lib in
theorem Tryz.slices_Contains_int (b off n c:Nat) (zs:List Int) (x:Int) (w:World) (hz:n<=zs.length) (hbig:n<=9223372036854775807) (hc:∀ j,j < zs.length->w.cell? ⟨b,off+j,none⟩=some (.int .i64 (zs.getD j 0))) :
 Calls Tryz.prog 98 #[.slice (some ⟨b,off,none⟩) n c,.int .i64 x] w fun e w'=>e=.returned (.bool ((zs.take n).contains x))/\w'=w:=Any.slices_Contains_int Tryz.lays107 b off n c zs x w hz hbig hc
open Go.Lib in
theorem Tryz.slices_Contains_int_empty (a:Option Addr) (c:Nat) (x:Int) (w:World) :
 Calls Tryz.prog 98 #[.slice a 0 c,.int .i64 x] w fun e w'=>e=.returned (.bool false)/\w'=w:=Any.slices_Contains_int_empty Tryz.lays107 a c x w
def Tryz.laysNm215_ren:Go.Shelf.Ren:=⟨fun | 15=>36 | n=>n,fun | 22=>27 | 3=>3 | 4=>4 | n=>n,fun | n=>n⟩
theorem Tryz.laysNm215:Go.Proofs.Lays2.n15 Tryz.prog Tryz.laysNm215_ren:={
 mixed:=by kernel_rfl
 f15:=Tryz.func36.trans (congrArg some (by kernel_rfl))
 t3:=Tryz.underlying3
 a3:=Tryz.isAgg3
 z3:=Tryz.sizeOf3
 v3:=Tryz.zeroValue3
 t4:=Tryz.underlying4
 a4:=Tryz.isAgg4
 z4:=Tryz.sizeOf4
 v4:=Tryz.zeroValue4
 t22:=Tryz.underlying27
 a22:=Tryz.isAgg27
 z22:=Tryz.sizeOf27
 v22:=Tryz.zeroValue27
 i3:=by kernel_rfl }
open Go.RowKit Go.Lib in
theorem Tryz.slices_Clone_int (b off n c:Nat) (zs:List Int) (w:World) (hz:n<=zs.length) (hbig:n * 8<=140737488355328) (hc:∀ j,j < zs.length->w.cell? ⟨b,off+j,none⟩=some (.int .i64 (zs.getD j 0))) :
 Calls Tryz.prog 36 #[.slice (some ⟨b,off,none⟩) n c] w fun e w'=>∃ v',e=.returned v'/\w'.ownsRow w.heap.size 3 1 v' n ((zs.take n).map (Value.int .i64))/\v'≠.slice none 0 0/\Below w.heap.size w w':=Any.slices_Clone_int Tryz.laysNm215 b off n c zs w hz hbig hc
open Go.RowKit Go.Lib in
theorem Tryz.slices_Clone_int_nil (n c:Nat) (w:World) :
 Calls Tryz.prog 36 #[.slice none n c] w fun e w'=>e=.returned (.slice none 0 0)/\w'=w:=Any.slices_Clone_int_nil Tryz.laysNm215 n c w
open Go.RowKit Go.Lib in
theorem Tryz.slices_Clone_int_zero (a:Addr) (c:Nat) (w:World) :
 Calls Tryz.prog 36 #[.slice (some a) 0 c] w fun e w'=>∃ v',e=.returned v'/\w'.ownsRow w.heap.size 3 1 v' 0 []/\v'≠.slice none 0 0/\Below w.heap.size w w':=Any.slices_Clone_int_zero Tryz.laysNm215 a c w
def Tryz.laysNm220_ren:Go.Shelf.Ren:=⟨fun | 20=>62 | n=>n,fun | 22=>27 | 3=>3 | 4=>4 | 0=>0 | n=>n,fun | n=>n⟩
theorem Tryz.laysNm220:Go.Proofs.Lays2.n20 Tryz.prog Tryz.laysNm220_ren:={
 mixed:=by kernel_rfl
 f20:=Tryz.func62.trans (congrArg some (by kernel_rfl))
 t0:=Tryz.underlying0
 a0:=Tryz.isAgg0
 z0:=Tryz.sizeOf0
 v0:=Tryz.zeroValue0
 t3:=Tryz.underlying3
 a3:=Tryz.isAgg3
 z3:=Tryz.sizeOf3
 v3:=Tryz.zeroValue3
 t4:=Tryz.underlying4
 a4:=Tryz.isAgg4
 z4:=Tryz.sizeOf4
 v4:=Tryz.zeroValue4
 t22:=Tryz.underlying27
 a22:=Tryz.isAgg27
 z22:=Tryz.sizeOf27
 v22:=Tryz.zeroValue27
 i3:=by kernel_rfl }
open Go.RowKit Go.Lib Go.Sort in
theorem Tryz.slices_Compact_int (blk off cap:Nat) (zs:List Int) (w:World) (hH:Holds (Value.int .i64) w blk off zs.toArray) (hsz:zs.length<=9223372036854775807) (hcap:zs.length<=cap) :
 Calls Tryz.prog 62 #[.slice (some ⟨blk,off,none⟩) zs.length cap] w fun e w'=>e=.returned (.slice (some ⟨blk,off,none⟩) (Lib.compact zs).length cap)/\∃ q,w'=putRow (Value.int .i64) (Sort.ahead w q) blk off (Lib.compact zs ++ List.replicate (zs.length - (Lib.compact zs).length) 0).toArray:=Any.slices_Compact_int Tryz.laysNm220 blk off cap zs w hH hsz hcap
open Go.RowKit Go.Lib Go.Sort in
theorem Tryz.slices_Compact_int_empty (a:Option Addr) (cap:Nat) (w:World) :
 Calls Tryz.prog 62 #[.slice a 0 cap] w fun e w'=>e=.returned (.slice a 0 cap)/\w'=w:=Any.slices_Compact_int_empty Tryz.laysNm220 a cap w
open Go.RowKit Go.Sort in
theorem Tryz.slices_Sort_int_none (p:Option Addr) (cap:Nat) (w:World) :
 Calls Tryz.prog 61 #[.slice p 0 cap] w fun e w'=>e=.returned (.tuple #[])/\w'=w:=Any.slices_Sort_int_none Tryz.lays189 p cap w
end Go.Proofs
namespace Go.Proofs.YtgagoahfdnnpkaaGreatDoor
open Go.RowKit Go.Maps Go.Sort Sp
section
variable {w:World} {base g n c:Nat} {e:TypeId} {xs:List Value}
theorem ownsRow_put (h:w.ownsRow base e 1 (.slice (some ⟨g,0,none⟩) n c) n xs) {k:Nat} (v:Value):(w.setCell ⟨g,k,none⟩ v).ownsRow base e 1 (.slice (some ⟨g,0,none⟩) n c) n (xs.set k v):=by
 obtain ⟨h1,⟨h2,_⟩ | ⟨g',cap,cur,hv,hg,hb,hn,hcap,hsz,ht⟩⟩:=h
 ·cases h2
 ·cases hv;have hlt:=Go.lt_of_block hb;have h':w.heap[g]=.cells cur e (0,0):=by simpa [Array.getElem?_eq_getElem hlt] using hb
  refine ⟨by simpa using h1,.inr ⟨g,c,cur.setIfInBounds k v,rfl,hg,?_,hn,hcap,by simpa using hsz,?_⟩⟩
  ·show (w.heap.modify g _)[g]? = _;rw [Array.getElem?_eq_getElem (by simpa using hlt),Array.getElem_modify_self,h'];rfl
  ·rw [<- ht,Array.toList_setIfInBounds,List.take_set]
theorem row_free (h:w.ownsRow base e 1 (.slice (some ⟨g,0,none⟩) n c) n xs) (k:Nat):w.frozen? ⟨g,k,none⟩=false:=by
 obtain ⟨h1,⟨h2,_⟩ | ⟨g',cap,cur,hv,hg,hb,hn,hcap,hsz,ht⟩⟩:=h
 ·cases h2
 ·cases hv;simp [World.frozen?,hb]
end
section
variable {w:World} {a:Option Addr} {base c:Nat} {l:List Int}
theorem IntsAt.cells {b o:Nat} (h:IntsAt w (some ⟨b,o,none⟩) l):∀ j,j < l.length->w.cell? ⟨b,o+j,none⟩=some (.int .i64 (l.getD j 0)):=fun j hj=>by
 obtain ⟨b',o',e,_,h1⟩:=h j hj;cases e;rw [h1];simp [List.getD,List.getElem?_eq_getElem hj]
theorem clone_at (h:IntsAt w a l) (hl:l.length<=1000000):Calls Tryz.prog 36 #[.slice a l.length c] w (IntsOut w l):=by
 rcases a with _ | ⟨b,o,s⟩
 ·cases l with
  | nil=>exact (Tryz.slices_Clone_int_nil 0 c w).mono fun e w' ⟨he,hw⟩=>by subst hw;exact ⟨none,0,he,World.ownsRow_nil _ _ _ _,Below.refl _ _⟩
  | cons x l=>obtain ⟨b,o,e,_⟩:=h 0 (by simp);cases e
 ·cases l with
  | nil =>
   exact (Tryz.slices_Clone_int_zero ⟨b,o,s⟩ c w).mono fun e w' ⟨v',he,hr,_,hb⟩=>by
    obtain ⟨a',c',rfl⟩:=ownsRow_slice hr;exact ⟨a',c',he,hr,hb⟩
  | cons x l =>
   obtain ⟨b',o',e,_⟩:=h 0 (by simp);cases e;exact (Tryz.slices_Clone_int b o (x::l).length c (x::l) w (Nat.le_refl _) (by omega) h.cells).mono fun e w' ⟨v',he,hr,_,hb⟩=>by
    rw [List.take_length] at hr;obtain ⟨a',c',rfl⟩:=ownsRow_slice hr;exact ⟨a',c',he,hr,hb⟩
def sortI (l:List Int):List Int:=l.mergeSort fun x y=>decide (x<=y)
theorem sortI_length (l:List Int):(sortI l).length=l.length:=by unfold sortI;simp
theorem sort_at {n:Nat} (hnl:n=l.length) (hbase:base<=w.heap.size) (h:w.ownsRow base 3 1 (.slice a n c) n (l.map (Value.int .i64))) (hl:l.length<=1000000) :
 Calls Tryz.prog 61 #[.slice a n c] w fun e w'=>e=.returned (.tuple #[])/\w'.ownsRow base 3 1 (.slice a n c) n ((sortI l).map (Value.int .i64))/\Below base w w':=by
 subst hnl;obtain ⟨h1,⟨hv,hn⟩ | ⟨g,cap,cur,hv,hg,hb,hn,hcap,hsz,ht⟩⟩:=h
 ·have hl0:l=[]:=List.length_eq_zero_iff.1 hn;subst hl0;cases hv;exact (Tryz.slices_Sort_int_none none 0 w).mono fun e w' ⟨he,hw⟩=>by subst hw;exact ⟨he,by simpa [sortI] using World.ownsRow_nil _ _ _ _,Below.refl _ _⟩
 ·cases hv;exact (Tryz.slices_Sort_int g 0 c l w (holds_of_blockI hb (by simpa using ht)) (Go.lt_of_block hb) (by omega)).mono fun e w' ⟨he,k,os,hw⟩=>by
   subst hw;exact ⟨he,ownsRow_sortedI (ss:=l) (ts:=sortI l) (sortI_length l) hg hb hn hcap hsz,(Below.refl _ _).grown (grownBy_sortedI _) hbase fun k e=>by cases e;exact hg⟩
theorem compact_at {n:Nat} (hnl:n=l.length) (hbase:base<=w.heap.size) (h:w.ownsRow base 3 1 (.slice a n c) n (l.map (Value.int .i64))) (hl:l.length<=1000000) :
 Calls Tryz.prog 62 #[.slice a n c] w fun e w'=>e=.returned (.slice a (Lib.compact l).length c)/\IntsAt w' a (Lib.compact l)/\Below base w w':=by
 subst hnl;obtain ⟨h1,⟨hv,hn⟩ | ⟨g,cap,cur,hv,hg,hb,hn,hcap,hsz,ht⟩⟩:=h
 ·have hl0:l=[]:=List.length_eq_zero_iff.1 hn;subst hl0;cases hv;exact (Tryz.slices_Compact_int_empty none 0 w).mono fun e w' ⟨he,hw⟩=>by subst hw;exact ⟨he,fun i hi=>by simp [Lib.compact,Lib.compactUpTo] at hi,Below.refl _ _⟩
 ·cases hv;have hH:=holds_of_blockI (ss:=l) hb (by simpa using ht);have hle:(Lib.compact l).length<=l.length:=by
   unfold Lib.compact Lib.compactUpTo;rw [List.length_map];exact Nat.le_trans (List.length_filter_le _ _) (by simp)
  exact (Tryz.slices_Compact_int g 0 c l w hH (by omega) hn).mono fun e w' ⟨he,q,hw⟩=>by
   subst hw;refine ⟨he,fun i hi=>⟨g,0,rfl,?_,?_⟩,?_⟩
   ·simpa [putRow,mapBlock,Sort.ahead] using Go.lt_of_block hb
   ·rw [cell?_putRow (Value.int .i64) (Sort.ahead w q) g 0 l.toArray _ (fun j hj=>hH j hj) (by simp;omega) i (by simp;omega)];simp [List.getElem?_append_left hi,hi]
   ·have:=(Below.refl base w).grown (grownBy_sortedI (w:=w) (g:=g) (n:=q) (os:=#[]) (Lib.compact l ++ List.replicate (l.length - (Lib.compact l).length) 0).toArray) hbase fun k e=>by cases e;exact hg
    rwa [grow_empty] at this
end
theorem wrapI {n:Int} (h0:-9223372036854775808<=n) (h1:n<=9223372036854775807):IntKind.i64.wrap n=n:=by rw [IntKind.wrap_i64];omega
def leastI (x:Int) (l:List Int):Int:=l.foldl min x
theorem leastI_succ (x:Int) (l:List Int) (k:Nat) (h:k < l.length):leastI x (l.take (k+1))=min (leastI x (l.take k)) l[k]:=by
 rw [List.take_succ_eq_append_getElem h];unfold leastI;rw [List.foldl_append];rfl
section
variable {w:World} {a:Option Addr} {c:Nat} {l:List Int}
theorem least_at (x:Int) (h:IntsAt w a l) (hl:l.length<=1000000) {t:Int} (ht:leastI x l=t) :
 Calls Tryz.prog 67 #[.int .i64 x,.slice a l.length c] w fun e w'=>e=.returned (.int .i64 t)/\w'=w:=by
 have HT:=Hh ht;have HI:=Hh h;clear ht h
 go_enter Tryz.func67,Tryz.ntmps67
 go_wp2;go_loop [0,9] (fun v i=>∃ (k:Nat),k<=l.length/\i=.int .i64 k/\v=.int .i64 (leastI x (l.take k))) (fun _ i=>l.length - (intOf i).toNat)
 case atStart=>exact ⟨0,Nat.zero_le _,rfl,by simp [leastI]⟩
 case round =>
  obtain ⟨k,hk,rfl,rfl⟩:=hrel;by_cases hlt:k < l.length
  ·obtain ⟨lb,lo,rfl,hlb,e0⟩:=HI.out k hlt;have HM:=Hh (leastI_succ x l k hlt);go_wp2;go_round
   case rel=>exact ⟨k+1,by omega,by go_num,by rw [HM.out]⟩
   case measure=>simp [intOf];omega
  ·obtain rfl:k=l.length:=by omega
   go_wp2;go_ret;refine ⟨?_,rfl⟩;rw [<- HT.out];rfl
def negI (l:List Int):List Int:=l.map fun x=>- x
def negTo (k:Nat) (l:List Int):List Int:=negI (l.take k) ++ l.drop k
theorem negTo_set (l:List Int) (k:Nat) (h:k < l.length):((negTo k l).map (Value.int .i64)).set k (.int .i64 (-l[k]))=(negTo (k+1) l).map (Value.int .i64):=by
 rw [<- List.map_set];congr 1;unfold negTo negI;rw [List.take_succ_eq_append_getElem h,List.map_append,List.set_append_right _ _ (by simp;omega)];simp only [List.length_map,List.length_take,Nat.min_eq_left (Nat.le_of_lt h),Nat.sub_self,List.append_assoc,List.map_cons,List.map_nil,List.singleton_append];rw [List.drop_eq_getElem_cons h];rfl
theorem negTo_length (k:Nat) (l:List Int):(negTo k l).length=l.length:=by unfold negTo negI;simp;omega
theorem negTo_at (l:List Int) (k:Nat) (h:k < l.length):((negTo k l).map (Value.int .i64))[k]? = some (.int .i64 l[k]):=by
 unfold negTo negI;rw [List.map_append,List.getElem?_append_right (by simp;omega)];simp [List.length_take,Nat.min_eq_left (Nat.le_of_lt h),h]
theorem negated_at (h:IntsAt w a l) (hl:l.length<=1000000) (hs:∀ x∈l,0<=x/\x<=1000000) :
 Calls Tryz.prog 68 #[.slice a l.length c] w (IntsOut w (negI l)):=by
 have HI:=Hh h;have HS:=Hh hs;clear h hs
 go_enter Tryz.func68,Tryz.ntmps68
 go_wp2_with (go_at_call 36;(with_reducible refine (clone_at HI.out hl).mono ?_);rintro e w1 ⟨ca,cc,rfl,hrow,hb1⟩);have HROW:=Hh hrow;clear hrow;go_loopw [9] (fun i wr=>∃ (k:Nat),k<=l.length/\i=.int .i64 k/\wr.ownsRow w.heap.size 3 1 (.slice ca l.length cc) l.length ((negTo k l).map (Value.int .i64))/\Below w.heap.size w wr) (fun i _=>l.length - (intOf i).toNat)
 case atStart=>exact ⟨0,Nat.zero_le _,rfl,by simpa [negTo,negI] using HROW.out,hb1⟩
 case round =>
  obtain ⟨k,hk,rfl,hrow,hW⟩:=hrel;by_cases hlt:k < l.length
  ·obtain ⟨g,rfl,hg,hgl,hc0⟩:=row_cell hrow k (by rw [List.length_map,negTo_length];exact hlt);rw [negTo_at l k hlt] at hc0;have hfr:=row_free hrow k;have hset:=ownsRow_put hrow (k:=k) (.int .i64 (-l[k]));rw [negTo_set l k hlt] at hset;have HSET:=Hh hset;have hbd:=HS.out _ (List.getElem_mem hlt);generalize hx:l[k]=x at hc0 hbd HSET;have hneg:IntKind.i64.wrap (-x)=-x:=wrapI (by omega) (by omega);clear hset hrow hx;go_wp2;go_round
   case rel=>exact ⟨k+1,by omega,by go_num,HSET.out,by refine Below.setCell hW ?_ _;exact hg⟩
   case measure=>simp [intOf];omega
  ·have hkl:k=l.length:=by omega
   subst hkl;have hnt:negTo l.length l=negI l:=by simp [negTo]
   rw [hnt] at hrow;have HR:=Hh hrow;clear hrow hnt;go_wp2;go_ret;have hnl:(negI l).length=l.length:=by simp [negI]
   refine ⟨ca,cc,by rw [hnl];rfl,?_,hW⟩;rw [hnl];exact HR.out
end
end Go.Proofs.YtgagoahfdnnpkaaGreatDoor
namespace Go.Proofs.YtgagoahfdnnpkaaGreatDoor
open Go.RowKit Go.Maps Sp
theorem sum_map_le {α:Type} (f:α->Nat) (m:Nat):∀ (l:List α) (_:∀ x∈l,f x<=m),(l.map f).sum<=m * l.length
 | [],_=>by simp
 | x::l,h=>by
  have h1:=h x (by simp);have h2:=sum_map_le f m l fun y hy=>h y (by simp [hy]);simp only [List.map_cons,List.sum_cons,List.length_cons,Nat.mul_add];omega
theorem copies_bd {b:Bk} (hO:BkOk b) (c:List Int) (p:Prt):0<=copies b c p/\copies b c p<=20:=by
 unfold copies;refine ⟨by omega,?_⟩;have h:=sum_map_le (fun x:List Prt × Int=>(x.1.take x.2.toNat).count p) 5 (b.ss.zip c) fun x hx=>by
  have h1:=hO.pl x.1 (List.of_mem_zip hx).1;exact Nat.le_trans List.count_le_length (Nat.le_trans (List.length_take_le' _ _) h1)
 have h2:(b.ss.zip c).length<=4:=by rw [List.length_zip];have:=hO.sl;omega
 omega
theorem oftenI_bd {b:Bk} (hO:BkOk b) (l:List (List Int)) (p:Prt):∀ x∈oftenI b l p,0<=x/\x<=20:=fun x hx=>by
 obtain ⟨c,_,rfl⟩:=List.mem_map.1 hx;exact copies_bd hO c p
section
variable {b:Bk} {vr vg vm vs vc:Value} {w:World}
def IntsOut2 (w:World) (x:Int) (l:List Int) (e:Ending) (w':World):Prop:=∃ B c n,e=.returned (.slice (some ⟨B,0,none⟩) n c)/\n=l.length+1/\l.length+1<=c/\w'.cell? ⟨B,0,none⟩=some (.int .i64 x)/\IntsAt w' (some ⟨B,1,none⟩) l/\w.heap.size<=B/\B < w'.heap.size/\Below w.heap.size w w'
theorem ints_two {x:Int} {l:List Int} {e:Ending} {w':World} (h:IntsOut w (x::l) e w'):IntsOut2 w x l e w':=by
 obtain ⟨a,c,rfl,hr,hb⟩:=h;obtain ⟨h1,⟨h2,h3⟩ | ⟨g,cap,cur,hv,hg,hh,hn,hcap,hsz,ht⟩⟩:=id hr
 ·simp at h3
 ·cases hv;have hI:=ints_of_row hr;refine ⟨g,c,_,rfl,by simp,by simpa using hn,?_,fun i hi=>⟨g,1,rfl,Go.lt_of_block hh,?_⟩,hg,Go.lt_of_block hh,hb⟩
  ·obtain ⟨b',o',e',_,h5⟩:=hI 0 (by simp);cases e';simpa using h5
  ·obtain ⟨b',o',e',_,h5⟩:=hI (i+1) (by simpa using hi);cases e';rw [show 1+i=0+(i+1) by omega];simpa using h5
def loI (b:Bk) (p:Prt):Int:=leastI ((oftenI b (pasts b) p).headD 0) (oftenI b (pasts b) p).tail
def hiI (b:Bk) (p:Prt):Int:=- leastI (- (oftenI b (pasts b) p).headD 0) (negI (oftenI b (pasts b) p).tail)
theorem leastI_bd {m n:Int}:∀ (l:List Int) (x:Int) (_:m<=x/\x<=n) (_:∀ y∈l,m<=y/\y<=n),m<=leastI x l/\leastI x l<=n
 | [],x,h,_=>h
 | y::l,x,h,hl=>by
  have:=leastI_bd (m:=m) (n:=n) l (min x y) (by have:=hl y (by simp);omega) fun z hz=>hl z (by simp [hz]);exact this
end
section
variable {b:Bk} {vr vg vm vs vc:Value} {w:World}
def valAt (w:World) (a:Addr):Value:=(w.cell? a).getD undef
theorem valAt_some {w:World} {a:Addr} (h:(w.cell? a).isSome=true):w.cell? a=some (valAt w a):=by
 unfold valAt
 cases hc:w.cell? a with
 | none=>rw [hc] at h;cases h
 | some v=>rfl
def S7 (w:World) (ib o1:Nat) (x0:Int) (tl:List Int) (w':World):Prop:=Below w.heap.size w w'/\w.heap.size+1 < w'.heap.size/\w'.cell? ⟨ib,0,none⟩=some (.int .i64 x0)/\ib < w'.heap.size/\IntsAt w' (some ⟨ib,o1,none⟩) tl/\w'.cell? ⟨w.heap.size+1,0,none⟩=some (valAt w' ⟨w.heap.size+1,0,none⟩)/\w'.cell? ⟨w.heap.size+1,1,none⟩=some (valAt w' ⟨w.heap.size+1,1,none⟩)/\w'.frozen? ⟨w.heap.size+1,0,none⟩=false/\w'.frozen? ⟨w.heap.size+1,1,none⟩=false
theorem s7_drew {ib o1:Nat} {x0:Int} {tl:List Int} {W:World} (h:S7 w ib o1 x0 tl W):S7 w ib o1 x0 tl W.drew:=by
 obtain ⟨h1,h2,h3,h4,h5,h6,h7,h8,h9⟩:=h;exact ⟨h1.drew,h2,h3,h4,h5,h6,h7,h8,h9⟩
theorem s7_below {ib o1:Nat} {x0:Int} {tl:List Int} {W W':World} (h:S7 w ib o1 x0 tl W) (hb:Below W.heap.size W W'):S7 w ib o1 x0 tl W':=by
 obtain ⟨h1,h2,h3,h4,h5,h6,h7,h8,h9⟩:=h;refine ⟨Below.next h1 hb,Nat.lt_of_lt_of_le h2 hb.size,(hb.cell h4).trans h3,Nat.lt_of_lt_of_le h4 hb.size,h5.below hb,valAt_some ?_,valAt_some ?_,(hb.frozen h2).trans h8,(hb.frozen h2).trans h9⟩
 ·rw [hb.cell h2,h6];rfl
 ·rw [hb.cell h2,h7];rfl
theorem s7_store {ib o1:Nat} {x0:Int} {tl:List Int} {W:World} (h:S7 w ib o1 x0 tl W) (hne:ib≠w.heap.size+1) (u0 u1:Value):S7 w ib o1 x0 tl ((W.setCell ⟨w.heap.size+1,0,none⟩ u0).setCell ⟨w.heap.size+1,1,none⟩ u1):=by
 obtain ⟨h1,h2,h3,h4,h5,h6,h7,h8,h9⟩:=h;have hc:∀ k,((W.setCell ⟨w.heap.size+1,0,none⟩ u0).setCell ⟨w.heap.size+1,1,none⟩ u1).cell? ⟨ib,k,none⟩=W.cell? ⟨ib,k,none⟩:=fun k=>by
  rw [World.cell?_setCell_other _ _ _ _ (by simp [Ne.symm hne]),World.cell?_setCell_other _ _ _ _ (by simp [Ne.symm hne])]
 refine ⟨(h1.setCell (by simp) _).setCell (by simp) _,by simpa using h2,by rw [hc,h3],by simpa using h4,fun i hi=>?_,valAt_some ?_,valAt_some ?_,by simpa using h8,by simpa using h9⟩
 ·obtain ⟨b',o',e,h10,h11⟩:=h5 i hi;cases e;exact ⟨_,_,rfl,by simpa using h4,by rw [hc,h11]⟩
 ·simp [go_sem,h6,h7]
 ·simp [go_sem,h6,h7]
theorem valAt_two {w:World} {B:Nat} {x y v0 v1:Value} (h0:w.cell? ⟨B,0,none⟩=some x) (h1:w.cell? ⟨B,1,none⟩=some y) :
 valAt ((w.setCell ⟨B,0,none⟩ v0).setCell ⟨B,1,none⟩ v1) ⟨B,0,none⟩=v0/\valAt ((w.setCell ⟨B,0,none⟩ v0).setCell ⟨B,1,none⟩ v1) ⟨B,1,none⟩=v1:=by
 unfold valAt;constructor <;> simp [go_sem,h0,h1]
theorem least2 {w:World} {a:Option Addr} {c:Nat} {tl:List Int} (x:Int) (h:IntsAt w a (negI tl)) (hl:tl.length<=1000000) :
 Calls Tryz.prog 67 #[.int .i64 x,.slice a tl.length c] w fun e w'=>e=.returned (.int .i64 (leastI x (negI tl)))/\w'=w:=by
 have hn:(negI tl).length=tl.length:=by simp [negI]
 have:=least_at (c:=c) x h (by rw [hn];exact hl) rfl
 rwa [hn] at this
theorem least0 {w:World} {a:Option Addr} {c:Nat} (x:Int) :
 Calls Tryz.prog 67 #[.int .i64 x,.slice a 0 c] w fun e w'=>e=.returned (.int .i64 (leastI x []))/\w'=w :=
 least_at (l:=[]) x (fun i hi=>absurd hi (Nat.not_lt_zero _)) (by simp) rfl
theorem negated0 {w:World} {a:Option Addr} {c:Nat} :
 Calls Tryz.prog 68 #[.slice a 0 c] w fun e w'=>∃ na nc,e=.returned (.slice na 0 nc)/\Below w.heap.size w w' :=
 (negated_at (l:=[]) (fun i hi=>absurd hi (Nat.not_lt_zero _)) (by simp) (by simp)).mono fun e w' ⟨na,nc,h1,_,h2⟩=>⟨na,nc,h1,h2⟩
theorem cp_one {r0 r1 r2 r3 r5 r6:Code} (hc:Tryz.f22.body=some (.seq r0 (.seq r1 (.seq r2 (.seq r3 (.seq r5 (.seq r6 .ret)))))))
 {w W:World} {ib:Nat} {x0:Int} {u0 u1 u2 u3 u4 u5 u8 u9 u10 u11 u13 u14 u15 u16 u17 u18 u19 u20 u21 u22 u23 u24 u25 u26 u27 u28 u29 u30 u31:Value} {Q:Exit->Act->World->Prop}
 (q1:Below w.heap.size w W) (q2:w.heap.size+1 < W.heap.size) (q3:W.cell? ⟨ib,0,none⟩=some (.int .i64 x0)) (q4:ib < W.heap.size) (q5:IntsAt W (some ⟨ib,0,none⟩) [])
 (q6:W.cell? ⟨w.heap.size+1,0,none⟩=some (valAt W ⟨w.heap.size+1,0,none⟩)) (q7:W.cell? ⟨w.heap.size+1,1,none⟩=some (valAt W ⟨w.heap.size+1,1,none⟩)) (q8:W.frozen? ⟨w.heap.size+1,0,none⟩=false) (q9:W.frozen? ⟨w.heap.size+1,1,none⟩=false)
 (hne7:ib≠w.heap.size+1) (hw0:IntKind.i64.wrap (- x0)=- x0) (hw1:IntKind.i64.wrap (- leastI (- x0) [])=- leastI (- x0) [])
 (hQ:∀ (x32 x33 x34 x35 x36 x37 x38 x39 x40 x41 x42 x43 x44 x45 x46 x47:Value) (w9:World),Below w.heap.size w w9->w9.cell? ⟨w.heap.size+1,0,none⟩=some (.int .i64 (leastI x0 []))->w9.cell? ⟨w.heap.size+1,1,none⟩=some (.int .i64 (- leastI (- x0) []))->Q .normal { tmps:=#[u0,u1,u2,u3,u4,u5,.pointer (some ⟨w.heap.size+1,0,none⟩),.int .i64 0,u8,u9,u10,u11,.slice (some ⟨ib,0,none⟩) 1 1,u13,u14,u15,u16,u17,u18,u19,u20,u21,u22,u23,u24,u25,u26,u27,u28,u29,u30,u31,x32,x33,x34,x35,x36,x37,x38,x39,x40,x41,x42,x43,x44,x45,x46,x47],defers:=[] } w9) :
 r6.wp Tryz.prog Q { tmps:=#[u0,u1,u2,u3,u4,u5,.pointer (some ⟨w.heap.size+1,0,none⟩),.int .i64 0,u8,u9,u10,u11,.slice (some ⟨ib,0,none⟩) 1 1,u13,u14,u15,u16,u17,u18,u19,u20,u21,u22,u23,u24,u25,u26,u27,u28,u29,u30,u31,U,U,U,U,U,U,U,U,U,U,U,U,U,U,U,U],defers:=[] } W:=by
 simp only [Tryz.f22,Option.some.injEq,Code.seq.injEq] at hc;obtain ⟨-,-,-,-,-,h6,-⟩:=hc;rw [<- h6];clear h6;have HQ9:=Hh hQ;clear hQ;have hk0:=hne7;go_region_held3 (fun w'=>Below w.heap.size w w'/\w.heap.size+1 < w'.heap.size/\w'.cell? ⟨ib,0,none⟩=some (.int .i64 x0)/\ib < w'.heap.size/\IntsAt w' (some ⟨ib,0,none⟩) []/\w'.cell? ⟨w.heap.size+1,0,none⟩=some (valAt w' ⟨w.heap.size+1,0,none⟩)/\w'.cell? ⟨w.heap.size+1,1,none⟩=some (valAt w' ⟨w.heap.size+1,1,none⟩)/\w'.frozen? ⟨w.heap.size+1,0,none⟩=false/\w'.frozen? ⟨w.heap.size+1,1,none⟩=false)
  ((first | exact ⟨by assumption,by assumption,by assumption,by assumption,by assumption,by assumption,by assumption,by assumption,by assumption⟩ | exact s7_below ⟨by assumption,by assumption,by assumption,by assumption,by assumption,by assumption,by assumption,by assumption,by assumption⟩ (by assumption) | exact s7_store ⟨by assumption,by assumption,by assumption,by assumption,by assumption,by assumption,by assumption,by assumption,by assumption⟩ hne7 _ _ | exact s7_drew ⟨by assumption,by assumption,by assumption,by assumption,by assumption,by assumption,by assumption,by assumption,by assumption⟩))
  (first
    | (go_at_call 67;go_split_ands;(with_reducible refine (least0 x0).mono ?_);rintro e w5 ⟨rfl,rfl⟩)
    | (go_at_call 68;go_split_ands;(with_reducible refine negated0.mono ?_);rintro e w5 ⟨na,nc,rfl,hb5⟩;obtain ⟨hc5,hf5⟩:=bcell hb5)
    | (go_at_call 67;go_split_ands;(with_reducible refine (least0 (- x0)).mono ?_);rintro e w5 ⟨rfl,rfl⟩)
    | fail "no arm")
 all_goals
  go_split_ands
  refine HQ9.out _ _ _ _ _ _ _ _ _ _ _ _ _ _ _ _ _ (by assumption) ?_ ?_
  ·simp [go_sem, *];exact (valAt_two (by assumption) (by assumption)).1
  ·simp [go_sem, *];exact (valAt_two (by assumption) (by assumption)).2
theorem cp_more {r0 r1 r2 r3 r5 r6:Code} (hc:Tryz.f22.body=some (.seq r0 (.seq r1 (.seq r2 (.seq r3 (.seq r5 (.seq r6 .ret)))))))
 {w W:World} {ib nn ic:Nat} {tl:List Int} {x0:Int} {u0 u1 u2 u3 u4 u5 u8 u9 u10 u11 u13 u14 u15 u16 u17 u18 u19 u20 u21 u22 u23 u24 u25 u26 u27 u28 u29 u30 u31:Value} {Q:Exit->Act->World->Prop}
 (q1:Below w.heap.size w W) (q2:w.heap.size+1 < W.heap.size) (q3:W.cell? ⟨ib,0,none⟩=some (.int .i64 x0)) (q4:ib < W.heap.size) (q5:IntsAt W (some ⟨ib,1,none⟩) tl)
 (q6:W.cell? ⟨w.heap.size+1,0,none⟩=some (valAt W ⟨w.heap.size+1,0,none⟩)) (q7:W.cell? ⟨w.heap.size+1,1,none⟩=some (valAt W ⟨w.heap.size+1,1,none⟩)) (q8:W.frozen? ⟨w.heap.size+1,0,none⟩=false) (q9:W.frozen? ⟨w.heap.size+1,1,none⟩=false)
 (hne7:ib≠w.heap.size+1) (hw0:IntKind.i64.wrap (- x0)=- x0) (hw1:IntKind.i64.wrap (- leastI (- x0) (negI tl))=- leastI (- x0) (negI tl)) (hnn:nn - 1=tl.length) (hnl:(negI tl).length=tl.length) (htl2:tl.length<=1000000) (HTB:Hid (∀ y∈tl,0<=y/\y<=1000000)) (hz4:0 < nn) (hz6:nn<=ic) (hc1:¬ ic=1)
 (hQ:∀ (x32 x33 x34 x35 x36 x37 x38 x39 x40 x41 x42 x43 x44 x45 x46 x47:Value) (w9:World),Below w.heap.size w w9->w9.cell? ⟨w.heap.size+1,0,none⟩=some (.int .i64 (leastI x0 tl))->w9.cell? ⟨w.heap.size+1,1,none⟩=some (.int .i64 (- leastI (- x0) (negI tl)))->Q .normal { tmps:=#[u0,u1,u2,u3,u4,u5,.pointer (some ⟨w.heap.size+1,0,none⟩),.int .i64 0,u8,u9,u10,u11,.slice (some ⟨ib,0,none⟩) nn ic,u13,u14,u15,u16,u17,u18,u19,u20,u21,u22,u23,u24,u25,u26,u27,u28,u29,u30,u31,x32,x33,x34,x35,x36,x37,x38,x39,x40,x41,x42,x43,x44,x45,x46,x47],defers:=[] } w9) :
 r6.wp Tryz.prog Q { tmps:=#[u0,u1,u2,u3,u4,u5,.pointer (some ⟨w.heap.size+1,0,none⟩),.int .i64 0,u8,u9,u10,u11,.slice (some ⟨ib,0,none⟩) nn ic,u13,u14,u15,u16,u17,u18,u19,u20,u21,u22,u23,u24,u25,u26,u27,u28,u29,u30,u31,U,U,U,U,U,U,U,U,U,U,U,U,U,U,U,U],defers:=[] } W:=by
 simp only [Tryz.f22,Option.some.injEq,Code.seq.injEq] at hc;obtain ⟨-,-,-,-,-,h6,-⟩:=hc;rw [<- h6];clear h6;have HQ9:=Hh hQ;clear hQ;have HNM:=Hh hnn;clear hnn;have hz1:(0:Int) < ↑nn:=by omega
 have hz2:(1:Int)<=↑nn:=by omega
 have hz3:(↑nn:Int)<=↑ic:=by omega
 have hz5:1<=nn:=by omega
 have hk0:=hne7;go_region_held3 (fun w'=>Below w.heap.size w w'/\w.heap.size+1 < w'.heap.size/\w'.cell? ⟨ib,0,none⟩=some (.int .i64 x0)/\ib < w'.heap.size/\IntsAt w' (some ⟨ib,1,none⟩) tl/\w'.cell? ⟨w.heap.size+1,0,none⟩=some (valAt w' ⟨w.heap.size+1,0,none⟩)/\w'.cell? ⟨w.heap.size+1,1,none⟩=some (valAt w' ⟨w.heap.size+1,1,none⟩)/\w'.frozen? ⟨w.heap.size+1,0,none⟩=false/\w'.frozen? ⟨w.heap.size+1,1,none⟩=false)
  ((first | exact ⟨by assumption,by assumption,by assumption,by assumption,by assumption,by assumption,by assumption,by assumption,by assumption⟩ | exact s7_below ⟨by assumption,by assumption,by assumption,by assumption,by assumption,by assumption,by assumption,by assumption,by assumption⟩ (by assumption) | exact s7_store ⟨by assumption,by assumption,by assumption,by assumption,by assumption,by assumption,by assumption,by assumption,by assumption⟩ hne7 _ _ | exact s7_drew ⟨by assumption,by assumption,by assumption,by assumption,by assumption,by assumption,by assumption,by assumption,by assumption⟩))
  (first
    | (go_at_call 67;go_split_ands;(try rw [HNM.out]);(with_reducible refine (least_at (l:=tl) x0 (by assumption) htl2 rfl).mono ?_);rintro e w5 ⟨rfl,rfl⟩)
    | (go_at_call 68;go_split_ands;(try rw [HNM.out]);(with_reducible refine (negated_at (l:=tl) (by assumption) htl2 HTB.out).mono ?_);rintro e w5 ⟨na,nc,rfl,hnr,hb5⟩;have HNR:=Hh (ints_of_row hnr);obtain ⟨hc5,hf5⟩:=bcell hb5;clear hnr)
    | (go_at_call 67;go_split_ands;(with_reducible refine (least2 (- x0) HNR.out htl2).mono ?_);rintro e w5 ⟨rfl,rfl⟩)
    | fail "no arm")
 all_goals
  go_split_ands
  refine HQ9.out _ _ _ _ _ _ _ _ _ _ _ _ _ _ _ _ _ (by assumption) ?_ ?_
  ·simp [go_sem, *];exact (valAt_two (by assumption) (by assumption)).1
  ·simp [go_sem, *];exact (valAt_two (by assumption) (by assumption)).2
end
section
variable {b:Bk} {vr vg vm vs vc:Value} {w:World}
theorem copies_api_ok (hB:BookAt w b vr vg vm vs vc) (hN:∀ m∈b.ms,m.name.size<=1000000) (hK:KindsAt w) (m g:Int) (ht:groupAl b (m,g)=0) :
 Calls Tryz.prog 22 #[.agg #[vr,vg,vm,vs,vc],.int .i64 m,.int .i64 g] w fun e w'=>e=.returned (.tuple #[.agg #[.int .i64 (loI b (m,g)),.int .i64 (hiI b (m,g))],.int .i64 0])/\Below w.heap.size w w':=by
 have HB:=Hh hB;have HN:=Hh hN;have HK:=Hh hK;obtain ⟨hk,hpt,hps⟩:=openAl_ok ht;have hpart:isPart b (m,g)=true:=by
  cases h:isPart b (m,g)
  ·rw [h] at hpt;simp at hpt
  ·rfl
 have hbo:=(bookAl_ok hk).1;have HO:=Hh hbo;have HBA:=Hh hk;have HPA:=Hh hpart;have HPS:=Hh hps;have hpl:=pasts_le hbo;have hbdO:=oftenI_bd hbo (pasts b) (m,g);obtain ⟨x0,tl,hxt⟩:∃ x0 tl,oftenI b (pasts b) (m,g)=x0::tl:=by
  cases h:oftenI b (pasts b) (m,g) with
  | nil=>simp only [oftenI,List.map_eq_nil_iff] at h;exact absurd h hps
  | cons x l=>exact ⟨x,l,rfl⟩
 have hlo:loI b (m,g)=leastI x0 tl:=by unfold loI;rw [hxt];rfl
 have hhi:hiI b (m,g)=- leastI (- x0) (negI tl):=by unfold hiI;rw [hxt];rfl
 have htl:tl.length+1=(pasts b).length:=by have:=congrArg List.length hxt;simpa [oftenI] using this.symm
 rw [hxt] at hbdO;have hx0:=hbdO x0 (by simp);have htb:∀ y∈tl,0<=y/\y<=20:=fun y hy=>hbdO y (by simp [hy]);have HTB:=Hh (fun (y:Int) (hy:y∈tl)=>(⟨(htb y hy).1,by have:=(htb y hy).2;omega⟩:0<=y/\y<=1000000));have hnb:=leastI_bd (m:=-20) (n:=0) (negI tl) (- x0) (by omega) fun y hy=>by
  obtain ⟨z,hz,rfl⟩:=List.mem_map.1 hy;have:=htb z hz;omega
 have hw0:IntKind.i64.wrap (- x0)=- x0:=wrapI (by omega) (by omega);have hw1:IntKind.i64.wrap (- leastI (- x0) (negI tl))=- leastI (- x0) (negI tl):=wrapI (by omega) (by omega);have hnl:(negI tl).length=tl.length:=by simp [negI]
 have HTL:=Hh htl;have HXT:=Hh hxt;have HLO:=Hh hlo;have HHI:=Hh hhi;clear htl hbdO htb hxt hlo hhi;have HPC:=Hh (fun x (hx:x∈pasts b)=>pasts_came hbo hx);have HPT:=Hh hpt;clear hk hpt hps hpart hbo;obtain ⟨rfl,rfl,⟨ma,mc,rfl,_,_⟩,⟨sa,sc,rfl,_,_⟩,ra,rc,rfl,_,_⟩:=id hB;clear hB hN hK ht
 go_enter Tryz.func22,Tryz.ntmps22
 go_wp2;obtain ⟨W1,hW1⟩:∃ W1,W1=((w.alloc (.cells #[.int .i64 b.room,.int .i64 b.gap,.slice ma b.ms.length mc,.slice sa b.ss.length sc,.slice ra b.rs.length rc] 26)).alloc (.cells #[.int .i64 0,.int .i64 0] 57)).alloc (.cells #[.int .i64 m,.int .i64 g] 75):=⟨_,rfl⟩;rw [<- hW1];have five:=(Five.new w (.int .i64 b.room) (.int .i64 b.gap) (.slice ma b.ms.length mc) (.slice sa b.ss.length sc) (.slice ra b.rs.length rc) 26).below ((bal _ (.cells #[.int .i64 0,.int .i64 0] 57)).alloc (by simp) (.cells #[.int .i64 m,.int .i64 g] 75)) (by simp);rw [<- hW1] at five;have hb0:Below w.heap.size w W1:=by rw [hW1];(exact bel)
 have hsz:W1.heap.size=w.heap.size+1+1+1:=by rw [hW1];simp
 have p0:W1.cell? ⟨w.heap.size+1+1,0,none⟩=some (.int .i64 m):=by rw [hW1,World.cell?_alloc_at _ _ _ _ (by simp)];rfl
 have p1:W1.cell? ⟨w.heap.size+1+1,1,none⟩=some (.int .i64 g):=by rw [hW1,World.cell?_alloc_at _ _ _ _ (by simp)];rfl
 have q0:W1.cell? ⟨w.heap.size+1,0,none⟩=some (.int .i64 0):=by rw [hW1,World.cell?_alloc_past _ _ _ (by simp),World.cell?_alloc_at _ _ _ _ (by simp)];rfl
 have q1:W1.cell? ⟨w.heap.size+1,1,none⟩=some (.int .i64 0):=by rw [hW1,World.cell?_alloc_past _ _ _ (by simp),World.cell?_alloc_at _ _ _ _ (by simp)];rfl
 have r0:W1.frozen? ⟨w.heap.size+1,0,none⟩=false:=by rw [hW1];simp [go_sem]
 have r1:W1.frozen? ⟨w.heap.size+1,1,none⟩=false:=by rw [hW1];simp [go_sem]
 have hall:∀ w':World,Below W1.heap.size W1 w'->(Below W1.heap.size W1 w'/\w'.cell? ⟨w.heap.size,0,none⟩=some (.int .i64 b.room)/\w'.cell? ⟨w.heap.size,1,none⟩=some (.int .i64 b.gap)/\w'.cell? ⟨w.heap.size,2,none⟩=some (.slice ma b.ms.length mc)/\w'.cell? ⟨w.heap.size,3,none⟩=some (.slice sa b.ss.length sc)/\w'.cell? ⟨w.heap.size,4,none⟩=some (.slice ra b.rs.length rc)/\w'.cell? ⟨w.heap.size+1+1,0,none⟩=some (.int .i64 m)/\w'.cell? ⟨w.heap.size+1+1,1,none⟩=some (.int .i64 g)/\w'.cell? ⟨w.heap.size+1,0,none⟩=some (.int .i64 0)/\w'.cell? ⟨w.heap.size+1,1,none⟩=some (.int .i64 0)/\w'.frozen? ⟨w.heap.size+1,0,none⟩=false/\w'.frozen? ⟨w.heap.size+1,1,none⟩=false):=fun w' h=>by
  exact ⟨h,(h.cell (by simp;omega)).trans five.c0,(h.cell (by simp;omega)).trans five.c1,(h.cell (by simp;omega)).trans five.c2,(h.cell (by simp;omega)).trans five.c3,(h.cell (by simp;omega)).trans five.c4,(h.cell (by simp;omega)).trans p0,(h.cell (by simp;omega)).trans p1,(h.cell (by simp;omega)).trans q0,(h.cell (by simp;omega)).trans q1,(h.frozen (by simp;omega)).trans r0,(h.frozen (by simp;omega)).trans r1⟩
 have HALL:=Hh hall;clear hW1 hall p0 p1 q0 q1 r0 r1 five;have hgr:=fun (w':World)=>group_at (m,g) w';have HGR:=Hh hgr;clear hgr;go_region_held3 (fun w'=>Below W1.heap.size W1 w'/\w'.cell? ⟨w.heap.size,0,none⟩=some (.int .i64 b.room)/\w'.cell? ⟨w.heap.size,1,none⟩=some (.int .i64 b.gap)/\w'.cell? ⟨w.heap.size,2,none⟩=some (.slice ma b.ms.length mc)/\w'.cell? ⟨w.heap.size,3,none⟩=some (.slice sa b.ss.length sc)/\w'.cell? ⟨w.heap.size,4,none⟩=some (.slice ra b.rs.length rc)/\w'.cell? ⟨w.heap.size+1+1,0,none⟩=some (.int .i64 m)/\w'.cell? ⟨w.heap.size+1+1,1,none⟩=some (.int .i64 g)/\w'.cell? ⟨w.heap.size+1,0,none⟩=some (.int .i64 0)/\w'.cell? ⟨w.heap.size+1,1,none⟩=some (.int .i64 0)/\w'.frozen? ⟨w.heap.size+1,0,none⟩=false/\w'.frozen? ⟨w.heap.size+1,1,none⟩=false)
  ((go_split_ands;exact HALL.out _ (bel)))
  (first
    | (go_at_call 63;(with_reducible refine (HGR.out _).mono ?_);rintro e w2 ⟨B,rfl,hB1,q0,q1,hb2⟩;have hq:∀ W,Below w2.heap.size w2 W->W.cell? ⟨B,0,none⟩=some (.int .i64 m)/\W.cell? ⟨B,1,none⟩=some (.int .i64 g)/\B < W.heap.size:=(fun W h=>⟨(h.cell hB1).trans q0,(h.cell hB1).trans q1,Nat.lt_of_lt_of_le hB1 h.size⟩);have HQ:=Hh hq;clear hq q0 q1;obtain ⟨hc2,hf2⟩:=bcell hb2;have hz2:=hb2.size;(try simp at hz2);(try (have hy2:w.heap.size+1+1+1 < w2.heap.size:=by omega)))
    | (go_at_call 31;go_split_ands;have hX:=Below.next hb0 ‹Below W1.heap.size W1 _›;(with_reducible refine (open_group_ok (HB.out.below hX) HN.out (HK.out.below hX) _ (al:=if isPart b (m,g) then 0 else 6) (fun hk W hW=>group1_at (p:=(m,g)) (HB.out.below (Below.next hX hW)) (bookAl_ok hk).1.groups (HQ.out W (Below.next (by first | exact Below.refl _ _ | exact bal _ _) hW)).1 (HQ.out W (Below.next (by first | exact Below.refl _ _ | exact bal _ _) hW)).2.1 (HQ.out W (Below.next (by first | exact Below.refl _ _ | exact bal _ _) hW)).2.2) HBA.out HPT.out HPS.out).mono ?_);rintro e w3 ⟨la,rfl,hrow,hb3⟩;obtain ⟨la,lc,rfl⟩:=ownsRow_slice hrow;obtain ⟨Bs,hBs,hrow⟩:=row_named hrow;(try simp at hBs);have HROW:=Hh hrow;clear hrow;obtain ⟨hc3,hf3⟩:=bcell hb3;have hz3:=hb3.size;(try simp at hz3);(try (have hy3:w.heap.size+1+1+1 < w3.heap.size:=by omega))))
 all_goals
  have hrw:∀ W9,Below w3.heap.size w3 W9->W9.ownsRow Bs 113 4 (.slice la (pasts b).length lc) (pasts b).length ((pasts b).flatMap cellsP):=fun W9 h=>ownsRow_below HROW.out h;have HRW:=Hh hrw;clear hrw;go_wp2_with (first
   | (go_at_call 66;(with_reducible refine (often_at (p:=(m,g)) (HB.out.below (bel)) HO.out (la:=la) (l:=pasts b) (cames_of_row (base:=Bs) (n:=(pasts b).length) (c:=lc) (by repeat (first | (with_reducible refine ownsRow_setCell_below ?_ (by simp;omega) _) | exact HROW.out | exact HRW.out _ (bel)))) HPC.out (by omega) HPA.out).mono ?_);rintro e w4 hout;rw [HXT.out] at hout;obtain ⟨ib,ic,nn,rfl,hnn,hic,hi0,hir,hib1,hib2,hb4⟩:=ints_two hout;have HIR:=Hh hir;obtain ⟨hc4,hf4⟩:=bcell hb4;have HNN:=Hh hnn;have HIC:=Hh hic;clear hir hout hnn hic))
  have hb9:Below w.heap.size w w4:=bel;have k0:w4.cell? ⟨w.heap.size+1,0,none⟩=some (.int .i64 0):=by rw [hc4 _ _ (by simp;omega)];simp [go_sem, *]
  have k1:w4.cell? ⟨w.heap.size+1,1,none⟩=some (.int .i64 0):=by rw [hc4 _ _ (by simp;omega)];simp [go_sem, *]
  have k2:w4.frozen? ⟨w.heap.size+1,0,none⟩=false:=by rw [hf4 _ _ (by simp;omega)];simp [go_sem, *]
  have k3:w4.frozen? ⟨w.heap.size+1,1,none⟩=false:=by rw [hf4 _ _ (by simp;omega)];simp [go_sem, *]
  have hsz4:w.heap.size+1 < w4.heap.size:=by have:=hb4.size;simp at this;omega
  clear hc4 hf4 hb4;have v0:=valAt_some (w:=w4) (a:=⟨w.heap.size+1,0,none⟩) (by rw [k0];rfl);have v1:=valAt_some (w:=w4) (a:=⟨w.heap.size+1,1,none⟩) (by rw [k1];rfl);have hne7:ib≠w.heap.size+1:=by have:w.heap.size+1 < _:=Nat.lt_of_lt_of_le (by simp;omega) hib1;omega
  have hnn:=HNN.out;have hic:=HIC.out;have hz1:(0:Int) < ↑nn:=by omega
  have hz2:(1:Int)<=↑nn:=by omega
  have hz3:(↑nn:Int)<=↑ic:=by omega
  have hz4:0 < nn:=by omega
  have hz5:1<=nn:=by omega
  have hz6:nn<=ic:=by omega
  have HNM:=Hh (show nn - 1=tl.length by omega);clear hnn hic;have htl2:tl.length<=1000000:=by have:=HTL.out;omega
  clear k0 k1;have hir:=HIR.out;obtain ⟨o1,hcap,hir⟩:∃ o1,((ic=1/\o1=0)\/(¬ ic=1/\o1=1))/\IntsAt w4 (some ⟨ib,o1,none⟩) tl:=by
   by_cases h1:ic=1
   ·exact ⟨0,.inl ⟨h1,rfl⟩,fun i hi=>by have:=HNM.out;omega⟩
   ·exact ⟨1,.inr ⟨h1,rfl⟩,hir⟩
  rcases hcap with ⟨rfl,rfl⟩ | ⟨hc1,rfl⟩
  ·obtain rfl:tl=[]:=List.eq_nil_of_length_eq_zero (by have:=HNM.out;omega);obtain rfl:nn=1:=by omega
   refine cp_one rfl hb9 hsz4 hi0 hib2 hir v0 v1 k2 k3 hne7 hw0 hw1 ?_
   intros
   go_wp2;exact bodyPost_ret (v:=.tuple #[.agg #[.int .i64 (leastI x0 []),.int .i64 (- leastI (- x0) [])],.int .i64 0]) (by simp [results,Tryz.results22,go_sem, *]) rfl ⟨by rw [HLO.out,HHI.out];rfl,by assumption⟩
  ·refine cp_more rfl hb9 hsz4 hi0 hib2 hir v0 v1 k2 k3 hne7 hw0 hw1 HNM.out hnl htl2 HTB hz4 hz6 hc1 ?_
   intros
   go_wp2;exact bodyPost_ret (v:=.tuple #[.agg #[.int .i64 (leastI x0 tl),.int .i64 (- leastI (- x0) (negI tl))],.int .i64 0]) (by simp [results,Tryz.results22,go_sem, *]) rfl ⟨by rw [HLO.out,HHI.out],by assumption⟩
end
end Go.Proofs.YtgagoahfdnnpkaaGreatDoor
