/- Leads to StoreAnyOrder of chapter 6: AO6 AO7. -/
import Derived.Test.YtgemjjdkjmpmlaaGreatDoorAO01
set_option maxHeartbeats 4000000
set_option maxRecDepth 100000
set_option linter.all false
namespace Go.Proofs.YtgemjjdkjmpmlaaGreatDoor
open Go.RowKit Go.Maps Sp Mt Go.Conc
theorem ao_leaves {a : Act} {w w0 : World} {k : List Item} (g4 : a.tmps[4]? = some (.bool true)) (df : a.defers = []) (h : Old w0 w) :
 Leaving0 Tryz.prog (fun v w' => v = .bool true ∧ Old w0 w') { (Go.Conc.base 7).at a k with mode := .returning } [] w := by
 refine ⟨rfl, rfl, rfl, df, by kernel_rfl, .bool true, _, Tryz.func7, fun d => ⟨⟨rfl, h.at d⟩, #[], ?_, by simp⟩⟩
 rw [Sem.runT_eq]
 refine Prod.ext ?_ ?_ <;> simp [results, Tryz.results7, go_sem, Frame.at, Go.Conc.base, g4]
theorem aoFrame {c : Code} {x0 x1 : Value} (hc : Tryz.f7.body = some c) : Frame.enter Tryz.prog 7 #[x0, x1] .normal = (Go.Conc.base 7).at { tmps := #[x0, x1, U, U, U, U, U, U, U, U, U, U, U, U, U, U, U, U, U, U, U, U, U, U, U, U, U, U, U, U, U, U, U, U, U, U, U, U, U, U, U, U, U, U, U, U, U, U, U, U, U, U, U, U, U, U, U, U, U, U, U, U, U, U, U, U, U, U, U, U, U, U, U, U, U, U, U, U, U, U, U, U, U, U, U, U, U, U, U, U, U, U, U, U, U, U, U, U, U, U, U, U, U, U, U, U, U, U, U, U, U, U, U, U, U, U, U, U, U, U, U, U, U, U, U, U, U, U, U, U, U, U, U, U, U, U, U, U, U, U, U, U, U, U, U, U, U, U, U, U, U, U, U, U, U, U, U, U, U, U, U], defers := [] } [.code c] := by
 rw [Go.Conc.enter_at #[x0, x1] Tryz.func7 hc]
 simp only [Tryz.ntmps7, List.size_toArray, List.length_cons, List.length_nil, Nat.reduceAdd, Nat.reduceSub, Array.replicate_succ, Array.replicate_zero, List.push_toArray, List.append_toArray, List.nil_append, List.cons_append]
theorem stored_leads {w w' : World} (hK : KindsAt w) (t : Twin 0 w w') (c : Frame) (cs : List Frame) : Leads Tryz.prog (fun fr' cs' w1 => ∃ v, fr' = c.finish v ∧ cs' = cs ∧ v = .bool true ∧ Old w w1) (Frame.enter Tryz.prog 14 #[] .normal) (c :: cs) w' := by
 refine (stored_co (t.kinds hK) c cs).mono ?_
 rintro fr' cs' w2 ⟨h1, h2, ho⟩
 exact ⟨_, h1, h2, rfl, t.old0 ho⟩
theorem ao_tail {r0 rg rs r3 r4 r5 L1 r9 L2 r16 r17 r18 r19 r20 r21 r22 r23 : Code} (hc : Tryz.f7.body = some (.seq r0 (.seq (.seq rg (.cond (.tmp 31) (.seq rs .ret) .skip)) (.seq r3 (.seq r4 (.seq (.seq r5 L1) (.seq (.seq r9 L2) (.seq r16 (.seq r17 (.seq r18 (.seq r19 (.seq r20 (.seq r21 (.seq r22 (.seq r23 .ret))))))))))))))) {i k u t : Int} {q : List Int} {l : List Prt} {xa ya pa ra : Option Addr} {xc yc pc rc : Nat} {w w0 : World} (hold : Old w0 w) (hx : IntsAt w xa q) (hy : IntsAt w ya q) (hp : PartsAt w pa l) (hr : PartsAt w ra l) (hK : KindsAt w) (hql : q.length ≤ 1000000) (hll : l.length ≤ 1000000)
 {a : Act} (sz : a.tmps.size = 161) (df : a.defers = []) (g11 : a.tmps[11]? = some (.int .i64 k)) (g12 : a.tmps[12]? = some (.int .i64 0)) (g13 : a.tmps[13]? = some (.int .i64 k)) (g14 : a.tmps[14]? = some (.int .i64 0)) (g15 : a.tmps[15]? = some (.slice xa q.length xc)) (g16 : a.tmps[16]? = some (.int .i64 u)) (g17 : a.tmps[17]? = some (.slice ya q.length yc)) (g18 : a.tmps[18]? = some (.int .i64 u)) (g19 : a.tmps[19]? = some (.slice pa l.length pc)) (g20 : a.tmps[20]? = some (.int .i64 t)) (g21 : a.tmps[21]? = some (.slice ra l.length rc)) (g22 : a.tmps[22]? = some (.int .i64 t)) :
 LeadsA Tryz.prog (Leaving0 Tryz.prog fun v w' => v = .bool true ∧ Old w0 w') ((Go.Conc.base 7).at a [.code (.seq r23 .ret)]) [] w := by
 have nb : (Go.Conc.base 7).kind = .normal := rfl
 simp only [Tryz.f7, Option.some.injEq, Code.seq.injEq] at hc
 obtain ⟨-, -, -, -, -, -, -, -, -, -, -, -, -, h23, -⟩ := hc
 rw [← h23]
 clear h23
 refine all_seq ?_
 refine all_region ?_
 simp only [List.size_toArray, List.length_cons, List.length_nil, Nat.reduceAdd, Nat.zero_add, List.range, List.range.loop]
 refine all_step (.int .i64 0) nb rfl rfl rfl (fun w' => by simp [go_sem, g12]) (fun w' => by simp [go_sem, g12]) sz df (by decide) fun a1 sz df n1 p1 => ?_
 replace g11 := (p1 11 (by decide)).trans g11
 replace g13 := (p1 13 (by decide)).trans g13
 replace g14 := (p1 14 (by decide)).trans g14
 replace g15 := (p1 15 (by decide)).trans g15
 replace g16 := (p1 16 (by decide)).trans g16
 replace g17 := (p1 17 (by decide)).trans g17
 replace g18 := (p1 18 (by decide)).trans g18
 replace g19 := (p1 19 (by decide)).trans g19
 replace g20 := (p1 20 (by decide)).trans g20
 replace g21 := (p1 21 (by decide)).trans g21
 replace g22 := (p1 22 (by decide)).trans g22
 clear g12
 have g127 := n1
 clear n1 p1
 refine all_step (.bool true) nb rfl rfl rfl (fun w' => by simp [go_sem, g127]) (fun w' => by simp [go_sem, g127]) sz df (by decide) fun a1 sz df n1 p1 => ?_
 replace g11 := (p1 11 (by decide)).trans g11
 replace g13 := (p1 13 (by decide)).trans g13
 replace g14 := (p1 14 (by decide)).trans g14
 replace g15 := (p1 15 (by decide)).trans g15
 replace g16 := (p1 16 (by decide)).trans g16
 replace g17 := (p1 17 (by decide)).trans g17
 replace g18 := (p1 18 (by decide)).trans g18
 replace g19 := (p1 19 (by decide)).trans g19
 replace g20 := (p1 20 (by decide)).trans g20
 replace g21 := (p1 21 (by decide)).trans g21
 replace g22 := (p1 22 (by decide)).trans g22
 clear g127
 have g128 := n1
 clear n1 p1
 refine all_step (.bool true) nb rfl rfl rfl (fun w' => by simp [go_sem, g128]) (fun w' => by simp [go_sem, g128]) sz df (by decide) fun a1 sz df n1 p1 => ?_
 replace g11 := (p1 11 (by decide)).trans g11
 replace g13 := (p1 13 (by decide)).trans g13
 replace g14 := (p1 14 (by decide)).trans g14
 replace g15 := (p1 15 (by decide)).trans g15
 replace g16 := (p1 16 (by decide)).trans g16
 replace g17 := (p1 17 (by decide)).trans g17
 replace g18 := (p1 18 (by decide)).trans g18
 replace g19 := (p1 19 (by decide)).trans g19
 replace g20 := (p1 20 (by decide)).trans g20
 replace g21 := (p1 21 (by decide)).trans g21
 replace g22 := (p1 22 (by decide)).trans g22
 clear g128
 have g129 := n1
 clear n1 p1
 refine all_step (.int .i64 0) nb rfl rfl (wanted_g rfl rfl rfl g129) (fun w' => by simp [go_sem, g14]) (fun w' => by simp [go_sem, g14]) sz df (by decide) fun a1 sz df n1 p1 => ?_
 replace g11 := (p1 11 (by decide)).trans g11
 replace g13 := (p1 13 (by decide)).trans g13
 replace g15 := (p1 15 (by decide)).trans g15
 replace g16 := (p1 16 (by decide)).trans g16
 replace g17 := (p1 17 (by decide)).trans g17
 replace g18 := (p1 18 (by decide)).trans g18
 replace g19 := (p1 19 (by decide)).trans g19
 replace g20 := (p1 20 (by decide)).trans g20
 replace g21 := (p1 21 (by decide)).trans g21
 replace g22 := (p1 22 (by decide)).trans g22
 replace g129 := (p1 129 (by decide)).trans g129
 clear g14
 have g130 := n1
 clear n1 p1
 refine all_step (.bool true) nb rfl rfl (wanted_g rfl rfl rfl g129) (fun w' => by simp [go_sem, g130]) (fun w' => by simp [go_sem, g130]) sz df (by decide) fun a1 sz df n1 p1 => ?_
 replace g11 := (p1 11 (by decide)).trans g11
 replace g13 := (p1 13 (by decide)).trans g13
 replace g15 := (p1 15 (by decide)).trans g15
 replace g16 := (p1 16 (by decide)).trans g16
 replace g17 := (p1 17 (by decide)).trans g17
 replace g18 := (p1 18 (by decide)).trans g18
 replace g19 := (p1 19 (by decide)).trans g19
 replace g20 := (p1 20 (by decide)).trans g20
 replace g21 := (p1 21 (by decide)).trans g21
 replace g22 := (p1 22 (by decide)).trans g22
 replace g129 := (p1 129 (by decide)).trans g129
 clear g130
 have g131 := n1
 clear n1 p1
 refine all_step (.bool true) nb rfl rfl rfl (fun w' => by simp [go_sem, g129, g131]) (fun w' => by simp [go_sem, g129, g131]) sz df (by decide) fun a1 sz df n1 p1 => ?_
 replace g11 := (p1 11 (by decide)).trans g11
 replace g13 := (p1 13 (by decide)).trans g13
 replace g15 := (p1 15 (by decide)).trans g15
 replace g16 := (p1 16 (by decide)).trans g16
 replace g17 := (p1 17 (by decide)).trans g17
 replace g18 := (p1 18 (by decide)).trans g18
 replace g19 := (p1 19 (by decide)).trans g19
 replace g20 := (p1 20 (by decide)).trans g20
 replace g21 := (p1 21 (by decide)).trans g21
 replace g22 := (p1 22 (by decide)).trans g22
 clear g129 g131
 have g132 := n1
 clear n1 p1
 refine all_step (.bool true) nb rfl rfl rfl (fun w' => by simp [go_sem, g132]) (fun w' => by simp [go_sem, g132]) sz df (by decide) fun a1 sz df n1 p1 => ?_
 replace g11 := (p1 11 (by decide)).trans g11
 replace g13 := (p1 13 (by decide)).trans g13
 replace g15 := (p1 15 (by decide)).trans g15
 replace g16 := (p1 16 (by decide)).trans g16
 replace g17 := (p1 17 (by decide)).trans g17
 replace g18 := (p1 18 (by decide)).trans g18
 replace g19 := (p1 19 (by decide)).trans g19
 replace g20 := (p1 20 (by decide)).trans g20
 replace g21 := (p1 21 (by decide)).trans g21
 replace g22 := (p1 22 (by decide)).trans g22
 clear g132
 have g133 := n1
 clear n1 p1
 refine all_step (.int .i64 k) nb rfl rfl (wanted_g rfl rfl rfl g133) (fun w' => by simp [go_sem, g11]) (fun w' => by simp [go_sem, g11]) sz df (by decide) fun a1 sz df n1 p1 => ?_
 replace g13 := (p1 13 (by decide)).trans g13
 replace g15 := (p1 15 (by decide)).trans g15
 replace g16 := (p1 16 (by decide)).trans g16
 replace g17 := (p1 17 (by decide)).trans g17
 replace g18 := (p1 18 (by decide)).trans g18
 replace g19 := (p1 19 (by decide)).trans g19
 replace g20 := (p1 20 (by decide)).trans g20
 replace g21 := (p1 21 (by decide)).trans g21
 replace g22 := (p1 22 (by decide)).trans g22
 replace g133 := (p1 133 (by decide)).trans g133
 clear g11
 have g134 := n1
 clear n1 p1
 refine all_step (.int .i64 k) nb rfl rfl (wanted_g rfl rfl rfl g133) (fun w' => by simp [go_sem, g13]) (fun w' => by simp [go_sem, g13]) sz df (by decide) fun a1 sz df n1 p1 => ?_
 replace g15 := (p1 15 (by decide)).trans g15
 replace g16 := (p1 16 (by decide)).trans g16
 replace g17 := (p1 17 (by decide)).trans g17
 replace g18 := (p1 18 (by decide)).trans g18
 replace g19 := (p1 19 (by decide)).trans g19
 replace g20 := (p1 20 (by decide)).trans g20
 replace g21 := (p1 21 (by decide)).trans g21
 replace g22 := (p1 22 (by decide)).trans g22
 replace g133 := (p1 133 (by decide)).trans g133
 replace g134 := (p1 134 (by decide)).trans g134
 clear g13
 have g135 := n1
 clear n1 p1
 refine all_step (.bool true) nb rfl rfl (wanted_g rfl rfl rfl g133) (fun w' => by simp [go_sem, g134, g135]) (fun w' => by simp [go_sem, g134, g135]) sz df (by decide) fun a1 sz df n1 p1 => ?_
 replace g15 := (p1 15 (by decide)).trans g15
 replace g16 := (p1 16 (by decide)).trans g16
 replace g17 := (p1 17 (by decide)).trans g17
 replace g18 := (p1 18 (by decide)).trans g18
 replace g19 := (p1 19 (by decide)).trans g19
 replace g20 := (p1 20 (by decide)).trans g20
 replace g21 := (p1 21 (by decide)).trans g21
 replace g22 := (p1 22 (by decide)).trans g22
 replace g133 := (p1 133 (by decide)).trans g133
 clear g134 g135
 have g136 := n1
 clear n1 p1
 refine all_step (.bool true) nb rfl rfl rfl (fun w' => by simp [go_sem, g133, g136]) (fun w' => by simp [go_sem, g133, g136]) sz df (by decide) fun a1 sz df n1 p1 => ?_
 replace g15 := (p1 15 (by decide)).trans g15
 replace g16 := (p1 16 (by decide)).trans g16
 replace g17 := (p1 17 (by decide)).trans g17
 replace g18 := (p1 18 (by decide)).trans g18
 replace g19 := (p1 19 (by decide)).trans g19
 replace g20 := (p1 20 (by decide)).trans g20
 replace g21 := (p1 21 (by decide)).trans g21
 replace g22 := (p1 22 (by decide)).trans g22
 clear g133 g136
 have g137 := n1
 clear n1 p1
 refine all_step (.bool true) nb rfl rfl rfl (fun w' => by simp [go_sem, g137]) (fun w' => by simp [go_sem, g137]) sz df (by decide) fun a1 sz df n1 p1 => ?_
 replace g15 := (p1 15 (by decide)).trans g15
 replace g16 := (p1 16 (by decide)).trans g16
 replace g17 := (p1 17 (by decide)).trans g17
 replace g18 := (p1 18 (by decide)).trans g18
 replace g19 := (p1 19 (by decide)).trans g19
 replace g20 := (p1 20 (by decide)).trans g20
 replace g21 := (p1 21 (by decide)).trans g21
 replace g22 := (p1 22 (by decide)).trans g22
 clear g137
 have g138 := n1
 clear n1 p1
 refine all_step (.int .i64 u) nb rfl rfl (wanted_g rfl rfl rfl g138) (fun w' => by simp [go_sem, g16]) (fun w' => by simp [go_sem, g16]) sz df (by decide) fun a1 sz df n1 p1 => ?_
 replace g15 := (p1 15 (by decide)).trans g15
 replace g17 := (p1 17 (by decide)).trans g17
 replace g18 := (p1 18 (by decide)).trans g18
 replace g19 := (p1 19 (by decide)).trans g19
 replace g20 := (p1 20 (by decide)).trans g20
 replace g21 := (p1 21 (by decide)).trans g21
 replace g22 := (p1 22 (by decide)).trans g22
 replace g138 := (p1 138 (by decide)).trans g138
 clear g16
 have g139 := n1
 clear n1 p1
 refine all_step (.int .i64 u) nb rfl rfl (wanted_g rfl rfl rfl g138) (fun w' => by simp [go_sem, g18]) (fun w' => by simp [go_sem, g18]) sz df (by decide) fun a1 sz df n1 p1 => ?_
 replace g15 := (p1 15 (by decide)).trans g15
 replace g17 := (p1 17 (by decide)).trans g17
 replace g19 := (p1 19 (by decide)).trans g19
 replace g20 := (p1 20 (by decide)).trans g20
 replace g21 := (p1 21 (by decide)).trans g21
 replace g22 := (p1 22 (by decide)).trans g22
 replace g138 := (p1 138 (by decide)).trans g138
 replace g139 := (p1 139 (by decide)).trans g139
 clear g18
 have g140 := n1
 clear n1 p1
 refine all_step (.bool true) nb rfl rfl (wanted_g rfl rfl rfl g138) (fun w' => by simp [go_sem, g139, g140]) (fun w' => by simp [go_sem, g139, g140]) sz df (by decide) fun a1 sz df n1 p1 => ?_
 replace g15 := (p1 15 (by decide)).trans g15
 replace g17 := (p1 17 (by decide)).trans g17
 replace g19 := (p1 19 (by decide)).trans g19
 replace g20 := (p1 20 (by decide)).trans g20
 replace g21 := (p1 21 (by decide)).trans g21
 replace g22 := (p1 22 (by decide)).trans g22
 replace g138 := (p1 138 (by decide)).trans g138
 clear g139 g140
 have g141 := n1
 clear n1 p1
 refine all_step (.bool true) nb rfl rfl rfl (fun w' => by simp [go_sem, g138, g141]) (fun w' => by simp [go_sem, g138, g141]) sz df (by decide) fun a1 sz df n1 p1 => ?_
 replace g15 := (p1 15 (by decide)).trans g15
 replace g17 := (p1 17 (by decide)).trans g17
 replace g19 := (p1 19 (by decide)).trans g19
 replace g20 := (p1 20 (by decide)).trans g20
 replace g21 := (p1 21 (by decide)).trans g21
 replace g22 := (p1 22 (by decide)).trans g22
 clear g138 g141
 have g142 := n1
 clear n1 p1
 refine all_step (.bool true) nb rfl rfl rfl (fun w' => by simp [go_sem, g142]) (fun w' => by simp [go_sem, g142]) sz df (by decide) fun a1 sz df n1 p1 => ?_
 replace g15 := (p1 15 (by decide)).trans g15
 replace g17 := (p1 17 (by decide)).trans g17
 replace g19 := (p1 19 (by decide)).trans g19
 replace g20 := (p1 20 (by decide)).trans g20
 replace g21 := (p1 21 (by decide)).trans g21
 replace g22 := (p1 22 (by decide)).trans g22
 clear g142
 have g143 := n1
 clear n1 p1
 refine all_step (.slice xa q.length xc) nb rfl rfl (wanted_g rfl rfl rfl g143) (fun w' => by simp [go_sem, g15]) (fun w' => by simp [go_sem, g15]) sz df (by decide) fun a1 sz df n1 p1 => ?_
 replace g17 := (p1 17 (by decide)).trans g17
 replace g19 := (p1 19 (by decide)).trans g19
 replace g20 := (p1 20 (by decide)).trans g20
 replace g21 := (p1 21 (by decide)).trans g21
 replace g22 := (p1 22 (by decide)).trans g22
 replace g143 := (p1 143 (by decide)).trans g143
 clear g15
 have g144 := n1
 clear n1 p1
 refine all_step (.slice ya q.length yc) nb rfl rfl (wanted_g rfl rfl rfl g143) (fun w' => by simp [go_sem, g17]) (fun w' => by simp [go_sem, g17]) sz df (by decide) fun a1 sz df n1 p1 => ?_
 replace g19 := (p1 19 (by decide)).trans g19
 replace g20 := (p1 20 (by decide)).trans g20
 replace g21 := (p1 21 (by decide)).trans g21
 replace g22 := (p1 22 (by decide)).trans g22
 replace g143 := (p1 143 (by decide)).trans g143
 replace g144 := (p1 144 (by decide)).trans g144
 clear g17
 have g145 := n1
 clear n1 p1
 refine all_stepc 41 #[.slice xa q.length xc, .slice ya q.length yc] nb rfl rfl (wanted_g rfl rfl rfl g143) (fun w' => by simp [go_sem, g144, g145]) (fun w' => by simp [go_sem, g144, g145]; exact ev_call Tryz.func41 (by kernel_rfl) (by kernel_rfl)) sz df (by decide) (v := .bool true) (fun c w' t => lone_call (v := .bool true) t fun W hW => (sameNums_at (hW.ints hx) (hW.ints hy) rfl rfl hql hql (t := true) (by simp)).mono (by rintro e w2 ⟨rfl, hb⟩; exact ⟨rfl, hb⟩)) fun a1 wn ho sz df n1 p1 => ?_
 replace hx := ho.ints hx
 replace hy := ho.ints hy
 replace hp := ho.parts hp
 replace hr := ho.parts hr
 replace hK := ho.kinds hK
 replace hold := hold.trans ho
 clear ho
 replace g19 := (p1 19 (by decide)).trans g19
 replace g20 := (p1 20 (by decide)).trans g20
 replace g21 := (p1 21 (by decide)).trans g21
 replace g22 := (p1 22 (by decide)).trans g22
 replace g143 := (p1 143 (by decide)).trans g143
 clear g144 g145
 have g146 := n1
 clear n1 p1
 refine all_step (.bool true) nb rfl rfl rfl (fun w' => by simp [go_sem, g143, g146]) (fun w' => by simp [go_sem, g143, g146]) sz df (by decide) fun a1 sz df n1 p1 => ?_
 replace g19 := (p1 19 (by decide)).trans g19
 replace g20 := (p1 20 (by decide)).trans g20
 replace g21 := (p1 21 (by decide)).trans g21
 replace g22 := (p1 22 (by decide)).trans g22
 clear g143 g146
 have g147 := n1
 clear n1 p1
 refine all_step (.bool true) nb rfl rfl rfl (fun w' => by simp [go_sem, g147]) (fun w' => by simp [go_sem, g147]) sz df (by decide) fun a1 sz df n1 p1 => ?_
 replace g19 := (p1 19 (by decide)).trans g19
 replace g20 := (p1 20 (by decide)).trans g20
 replace g21 := (p1 21 (by decide)).trans g21
 replace g22 := (p1 22 (by decide)).trans g22
 clear g147
 have g148 := n1
 clear n1 p1
 refine all_step (.int .i64 t) nb rfl rfl (wanted_g rfl rfl rfl g148) (fun w' => by simp [go_sem, g20]) (fun w' => by simp [go_sem, g20]) sz df (by decide) fun a1 sz df n1 p1 => ?_
 replace g19 := (p1 19 (by decide)).trans g19
 replace g21 := (p1 21 (by decide)).trans g21
 replace g22 := (p1 22 (by decide)).trans g22
 replace g148 := (p1 148 (by decide)).trans g148
 clear g20
 have g149 := n1
 clear n1 p1
 refine all_step (.int .i64 t) nb rfl rfl (wanted_g rfl rfl rfl g148) (fun w' => by simp [go_sem, g22]) (fun w' => by simp [go_sem, g22]) sz df (by decide) fun a1 sz df n1 p1 => ?_
 replace g19 := (p1 19 (by decide)).trans g19
 replace g21 := (p1 21 (by decide)).trans g21
 replace g148 := (p1 148 (by decide)).trans g148
 replace g149 := (p1 149 (by decide)).trans g149
 clear g22
 have g150 := n1
 clear n1 p1
 refine all_step (.bool true) nb rfl rfl (wanted_g rfl rfl rfl g148) (fun w' => by simp [go_sem, g149, g150]) (fun w' => by simp [go_sem, g149, g150]) sz df (by decide) fun a1 sz df n1 p1 => ?_
 replace g19 := (p1 19 (by decide)).trans g19
 replace g21 := (p1 21 (by decide)).trans g21
 replace g148 := (p1 148 (by decide)).trans g148
 clear g149 g150
 have g151 := n1
 clear n1 p1
 refine all_step (.bool true) nb rfl rfl rfl (fun w' => by simp [go_sem, g148, g151]) (fun w' => by simp [go_sem, g148, g151]) sz df (by decide) fun a1 sz df n1 p1 => ?_
 replace g19 := (p1 19 (by decide)).trans g19
 replace g21 := (p1 21 (by decide)).trans g21
 clear g148 g151
 have g152 := n1
 clear n1 p1
 refine all_step (.bool true) nb rfl rfl rfl (fun w' => by simp [go_sem, g152]) (fun w' => by simp [go_sem, g152]) sz df (by decide) fun a1 sz df n1 p1 => ?_
 replace g19 := (p1 19 (by decide)).trans g19
 replace g21 := (p1 21 (by decide)).trans g21
 clear g152
 have g153 := n1
 clear n1 p1
 refine all_step (.slice pa l.length pc) nb rfl rfl (wanted_g rfl rfl rfl g153) (fun w' => by simp [go_sem, g19]) (fun w' => by simp [go_sem, g19]) sz df (by decide) fun a1 sz df n1 p1 => ?_
 replace g21 := (p1 21 (by decide)).trans g21
 replace g153 := (p1 153 (by decide)).trans g153
 clear g19
 have g154 := n1
 clear n1 p1
 refine all_step (.slice ra l.length rc) nb rfl rfl (wanted_g rfl rfl rfl g153) (fun w' => by simp [go_sem, g21]) (fun w' => by simp [go_sem, g21]) sz df (by decide) fun a1 sz df n1 p1 => ?_
 replace g153 := (p1 153 (by decide)).trans g153
 replace g154 := (p1 154 (by decide)).trans g154
 clear g21
 have g155 := n1
 clear n1 p1
 refine all_stepc 42 #[.slice pa l.length pc, .slice ra l.length rc] nb rfl rfl (wanted_g rfl rfl rfl g153) (fun w' => by simp [go_sem, g154, g155]) (fun w' => by simp [go_sem, g154, g155]; exact ev_call Tryz.func42 (by kernel_rfl) (by kernel_rfl)) sz df (by decide) (v := .bool true) (fun c w' t => lone_call (v := .bool true) t fun W hW => (sameParts_at (hW.parts hp) (hW.parts hr) rfl rfl hll hll (t := true) (by simp)).mono (by rintro e w2 ⟨rfl, hb⟩; exact ⟨rfl, hb⟩)) fun a1 wn ho sz df n1 p1 => ?_
 replace hx := ho.ints hx
 replace hy := ho.ints hy
 replace hp := ho.parts hp
 replace hr := ho.parts hr
 replace hK := ho.kinds hK
 replace hold := hold.trans ho
 clear ho
 replace g153 := (p1 153 (by decide)).trans g153
 clear g154 g155
 have g156 := n1
 clear n1 p1
 refine all_step (.bool true) nb rfl rfl rfl (fun w' => by simp [go_sem, g153, g156]) (fun w' => by simp [go_sem, g153, g156]) sz df (by decide) fun a1 sz df n1 p1 => ?_
 clear g153 g156
 have g157 := n1
 clear n1 p1
 refine all_step (.bool true) nb rfl rfl rfl (fun w' => by simp [go_sem, g157]) (fun w' => by simp [go_sem, g157]) sz df (by decide) fun a1 sz df n1 p1 => ?_
 clear g157
 have g158 := n1
 clear n1 p1
 refine all_stepc 14 #[] nb rfl rfl (wanted_g rfl rfl rfl g158) (fun w' => by simp [go_sem]) (fun w' => by simp [go_sem]; exact ev_call Tryz.func14 (by kernel_rfl) (by kernel_rfl)) sz df (by decide) (v := .bool true) (fun c w' t => stored_leads hK t _ _) fun a1 wn ho sz df n1 p1 => ?_
 replace hx := ho.ints hx
 replace hy := ho.ints hy
 replace hp := ho.parts hp
 replace hr := ho.parts hr
 replace hK := ho.kinds hK
 replace hold := hold.trans ho
 clear ho
 replace g158 := (p1 158 (by decide)).trans g158
 have g159 := n1
 clear n1 p1
 refine all_step (.bool true) nb rfl rfl rfl (fun w' => by simp [go_sem, g158, g159]) (fun w' => by simp [go_sem, g158, g159]) sz df (by decide) fun a1 sz df n1 p1 => ?_
 clear g158 g159
 have g160 := n1
 clear n1 p1
 refine all_step (.bool true) nb rfl rfl rfl (fun w' => by simp [go_sem, g160]) (fun w' => by simp [go_sem, g160]) sz df (by decide) fun a1 sz df n1 p1 => ?_
 clear g160
 have g4 := n1
 clear n1 p1
 refine all_end ?_
 refine all_ret ?_
 intro w' t
 exact .done (ao_leaves g4 df (hold.twin0 t))
theorem ao_early {r0 rg rs r3 r4 r5 L1 r9 L2 r16 r17 r18 r19 r20 r21 r22 r23 : Code} (hc : Tryz.f7.body = some (.seq r0 (.seq (.seq rg (.cond (.tmp 31) (.seq rs .ret) .skip)) (.seq r3 (.seq r4 (.seq (.seq r5 L1) (.seq (.seq r9 L2) (.seq r16 (.seq r17 (.seq r18 (.seq r19 (.seq r20 (.seq r21 (.seq r22 (.seq r23 .ret))))))))))))))) {w w0 : World} (hold : Old w0 w) (hK : KindsAt w) {a : Act} (sz : a.tmps.size = 161) (df : a.defers = []) {kk : List Item} :
 LeadsA Tryz.prog (Leaving0 Tryz.prog fun v w' => v = .bool true ∧ Old w0 w') ((Go.Conc.base 7).at a (.code (.seq rs .ret) :: kk)) [] w := by
 have nb : (Go.Conc.base 7).kind = .normal := rfl
 simp only [Tryz.f7, Option.some.injEq, Code.seq.injEq, Code.cond.injEq] at hc
 obtain ⟨-, ⟨-, -, ⟨h9, -⟩, -⟩, -⟩ := hc
 rw [← h9]
 clear h9
 refine all_seq ?_
 refine all_region ?_
 simp only [List.size_toArray, List.length_cons, List.length_nil, Nat.reduceAdd, Nat.zero_add, List.range, List.range.loop]
 refine all_stepc 14 #[] nb rfl rfl rfl (fun w' => by simp [go_sem]) (fun w' => by simp [go_sem]; exact ev_call Tryz.func14 (by kernel_rfl) (by kernel_rfl)) sz df (by decide) (v := .bool true) (fun c w' t => stored_leads hK t _ _) fun a1 wn ho sz df n1 p1 => ?_
 replace hK := ho.kinds hK
 replace hold := hold.trans ho
 clear ho
 have g32 := n1
 clear n1 p1
 refine all_step (.bool true) nb rfl rfl rfl (fun w' => by simp [go_sem, g32]) (fun w' => by simp [go_sem, g32]) sz df (by decide) fun a1 sz df n1 p1 => ?_
 clear g32
 have g4 := n1
 clear n1 p1
 refine all_end ?_
 refine all_ret ?_
 intro w' t
 exact .done (ao_leaves g4 df (hold.twin0 t))
theorem ao_co {w : World} {b : Bk} {s : Int} {vr vg vm vs vc : Value} (hR : RawAt w b vr vg vm vs vc) (hK : KindsAt w) (hs0 : 0 ≤ s) (hs1 : s ≤ 255) :
 Leads Tryz.prog (Leaving0 Tryz.prog fun v w' => v = .bool true ∧ Old w w') (Frame.enter Tryz.prog 7 #[.agg #[vr, vg, vm, vs, vc], .int .u8 s] .normal) [] w := by
 obtain ⟨r0, rg, rs, r3, r4, r5, L1, r9, L2, r16, r17, r18, r19, r20, r21, r22, r23, hc⟩ := aoBody_eq
 have hok := progOk.code _ _ Tryz.func7 _ hc
 simp only [codeOk, Bool.and_eq_true] at hok
 obtain ⟨k0, ⟨kg, _⟩, k3, k4, ⟨k5, kL1⟩, ⟨k9, kL2⟩, k16, k17, k18, k19, k20, k21, k22, _⟩ := hok
 rw [aoFrame hc]
 have nb : (Go.Conc.base 7).kind = .normal := rfl
 have nd : MarksOnly [] := fun d hd => by cases hd
 refine piece_step k0 nb nd (Z := AZ0 b s vr vg vm vs vc) (fun a w1 w2 ht h => by obtain ⟨B, h1, h2⟩ := h; exact ⟨B, h1, h2.twin ht⟩) (fun W hW => ao_0 hc (hW.raw hR) (hW.kinds hK)) fun a0 w0 hz ho0 => ?_
 obtain ⟨B, rfl, hE⟩ := hz
 obtain ⟨x, hx⟩ : ∃ x : Bool, (x = true ↔ ¬ ((SmallB b ∧ bookAl b = 0) ∧ b.ss ≠ [])) := by
  by_cases h : (SmallB b ∧ bookAl b = 0) ∧ b.ss ≠ []
  ·exact ⟨false, by simp only [Bool.false_eq_true, false_iff]; exact fun h2 => h2 h⟩
  ·exact ⟨true, by simp only [true_iff]; exact h⟩
 refine leads_seq fun d => ?_
 have hE := hE.twin (on_at w0 d)
 have ho0 := ho0.at d
 refine piece_step kg nb nd (Z := AZ1 B s vr vg vm vs vc x) (fun a w1 w2 ht h => h) (fun W hW => ao_1 hc (hE.twin hW) hx) fun a1 w1 hz ho => ?_
 obtain ⟨d23, d24, d25, d26, d27, d28, d29, d30, rfl⟩ := hz
 have hE := hE.old ho
 have ho1 := ho0.trans ho
 clear ho
 cases x with
 | true =>
  refine leads_cond (t := true) (by simp [go_sem]) fun da => ?_
  simp only [if_true]
  exact (ao_early hc (ho1.at da) ((on_at w1 da).kinds hE.kd) rfl rfl).here
 | false =>
  have hS : (SmallB b ∧ bookAl b = 0) ∧ b.ss ≠ [] := Classical.byContradiction fun h => by have := hx.2 h; cases this
  have hn : 0 < b.ss.length := List.length_pos_iff.2 hS.2
  refine leads_cond (t := false) (by simp [go_sem]) fun dd => ?_
  simp only [Bool.false_eq_true, if_false]
  refine leads_skip fun dd2 => ?_
  have hE := (hE.twin (on_at w1 dd)).twin (on_at (w1.at dd) dd2)
  have ho1 := (ho1.at dd).at dd2
  generalize (w1.at dd).at dd2 = w2 at hE ho1
  have ho2 := ho1
  clear ho1
  refine pieces_co [r3, r4, .seq r5 L1, .seq r9 L2] (by simp [k3, k4, k5, kL1, k9, kL2, codeOk]) nb rfl (Z := AZ3 B b s vr vg vm vs vc) (fun a w1 w2 ht h => by obtain ⟨O, sa, sc, ra, rc, h1, h2, h3, h4⟩ := h; exact ⟨O, sa, sc, ra, rc, h1, h2.twin ht, ht.five h3, ht.book h4⟩) (fun W hW => ao_A hc (hE.twin hW) hS.1.1 hS.1.2) fun a3 w3 hz ho => ?_
  obtain ⟨O, sa, sc, ra, rc, ⟨d7, d8, d9, d23, d24, d25, d26, d27, d28, d29, d30, d33, d34, d35, d36, d37, d38, d39, d40, d41, d42, d43, d44, d45, d46, d47, d48, d49, d50, d51, d52, d53, d54, d55, d56, d57, d58, d59, d60, d61, d62, d63, d64, d65, d66, d67, d68, d69, d70, d71, d72, d73, d74, d75, d76, d77, d78, d79, d80, d81, d82, d83, d84, d85, d86, d87, rfl⟩, g1, g2, g3⟩ := hz
  have ho3 := ho2.trans ho
  clear ho hE
  have hE3 : ASt w3 B O b vr vg vm vs vc (.slice sa b.ss.length sc) (.slice ra b.rs.length rc) := ⟨g1, g2, g3⟩
  refine pieces_co [r16, r17, r18, r19, r20, r21, r22] (by simp [k16, k17, k18, k19, k20, k21, k22]) nb rfl (Z := AZ4 (histN b) (throughAl b (s % (b.ss.length : Int))) (openAl b 0) (thr b (s % (b.ss.length : Int))) (miss b)) (fun a w1 w2 ht h => by obtain ⟨xa, xc, ya, yc, pa, pc, ra, rc, h1, h2, h3, h4, h5, h6⟩ := h; exact ⟨xa, xc, ya, yc, pa, pc, ra, rc, h1, ht.ints h2, ht.ints h3, ht.parts h4, ht.parts h5, ht.kinds h6⟩) (fun W hW => ao_B hc ⟨hE3.law.twin hW, hW.five hE3.five, hW.book hE3.tb⟩ hS.1.1 hS.1.2 hn hs0 hs1 rfl rfl rfl rfl rfl rfl) fun a4 w4 hz ho => ?_
  obtain ⟨xa, xc, ya, yc, pa, pc, ra, rc, ⟨sz, df, q11, q12, q13, q14, q15, q16, q17, q18, q19, q20, q21, q22⟩, h2, h3, h4, h5, h6⟩ := hz
  exact (ao_tail (i := 0) hc (ho3.trans ho) h2 h3 h4 h5 h6 (thr_len hS.1.1.2.2.2.2) (miss_len (bookAl_ok hS.1.2).1) sz df q11 q12 q13 q14 q15 q16 q17 q18 q19 q20 q21 q22).here
end Go.Proofs.YtgemjjdkjmpmlaaGreatDoor
