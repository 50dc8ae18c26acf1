/- Leads to StoreClashes of chapter 6: CL5 CL6. -/
import Derived.Test.YtgemjjdkjmpmlaaGreatDoorCL01
set_option maxHeartbeats 8000000
set_option maxRecDepth 100000
set_option linter.all false
namespace Go.Proofs.YtgemjjdkjmpmlaaGreatDoor
open Go.RowKit Go.Maps Sp Mt Go.Conc
theorem cl_leaves {a : Act} {w w0 : World} {k : List Item} (g4 : a.tmps[4]? = some (.bool true)) (df : a.defers = []) (h : Old w0 w) :
 Leaving0 Tryz.prog (fun v w' => v = .bool true ∧ Old w0 w') { (Go.Conc.base 4).at a k with mode := .returning } [] w := by
 refine ⟨rfl, rfl, rfl, df, by kernel_rfl, .bool true, _, Tryz.func4, fun d => ⟨⟨rfl, h.at d⟩, #[], ?_, by simp⟩⟩
 rw [Sem.runT_eq]
 refine Prod.ext ?_ ?_ <;> simp [results, Tryz.results4, go_sem, Frame.at, Go.Conc.base, g4]
theorem clFrame {c : Code} {x0 x1 : Value} (hc : Tryz.f4.body = some c) : Frame.enter Tryz.prog 4 #[x0, x1] .normal = (Go.Conc.base 4).at { tmps := #[x0, x1, U, U, U, U, U, U, U, U, U, U, U, U, U, U, U, U, U, U, U, U, U, U, U, U, U, U, U, U, U, U, U, U, U, U, U, U, U, U, U, U, U, U, U, U, U, U, U, U, U, U, U, U, U, U, U, U, U, U, U, U, U, U, U, U, U, U, U, U, U, U, U, U, U, U, U, U, U, U, U, U, U, U, U, U, U, U, U, U, U, U, U, U, U, U, U, U, U, U, U, U, U, U, U, U, U, U, U, U, U, U, U, U, U, U, U, U, U, U, U, U, U, U, U, U, U, U], defers := [] } [.code c] := by
 rw [Go.Conc.enter_at #[x0, x1] Tryz.func4 hc]
 simp only [Tryz.ntmps4, List.size_toArray, List.length_cons, List.length_nil, Nat.reduceAdd, Nat.reduceSub, Array.replicate_succ, Array.replicate_zero, List.push_toArray, List.append_toArray, List.nil_append, List.cons_append]
theorem stored_leads {w w' : World} (hK : KindsAt w) (t : Twin 0 w w') (c : Frame) (cs : List Frame) : Leads Tryz.prog (fun fr' cs' w1 => ∃ v, fr' = c.finish v ∧ cs' = cs ∧ v = .bool true ∧ Old w w1) (Frame.enter Tryz.prog 14 #[] .normal) (c :: cs) w' := by
 refine (stored_co (t.kinds hK) c cs).mono ?_
 rintro fr' cs' w2 ⟨h1, h2, ho⟩
 exact ⟨_, h1, h2, rfl, t.old0 ho⟩
theorem cl_tailA {r0 rg rs r3 r4 r5 f6 r7 s8 r9 r10 f11 r12 B0 r18 r19 B2 r24 r25 : Code} (hc : Tryz.f4.body = some (.seq r0 (.seq (.seq rg (.cond (.tmp 19) (.seq rs .ret) .skip)) (.seq r3 (.seq r4 (.seq (.seq r5 (.cond (.tmp 52) (.seq f6 .ret) .skip)) (.seq (.seq r7 (.cond (.tmp 54) (.seq s8 .ret) .skip)) (.seq (.seq r9 (.seq r10 (.cond (.tmp 68) (.seq f11 .ret) .skip))) (.seq (.seq r12 B0) (.seq r18 (.seq (.seq r19 B2) (.seq r24 (.seq r25 .ret))))))))))))) {k2 : Int} {q m : List Int} {xa ya : Option Addr} {xc yc : Nat} {w w0 : World} (hold : Old w0 w) (hx : IntsAt w xa m) (hy : IntsAt w ya q) (hK : KindsAt w) (hql : q.length ≤ 1000000) (hml : m.length ≤ 1000000) (hz : decide ((0 : Int) < k2) = true) 
 {a : Act} (sz : a.tmps.size = 128) (df : a.defers = []) (g7 : a.tmps[7]? = some (.int .i64 k2)) (g16 : a.tmps[16]? = some (.int .i64 0)) :
 LeadsA Tryz.prog (Leaving0 Tryz.prog fun v w' => v = .bool true ∧ Old w0 w') ((Go.Conc.base 4).at a [.code (.seq r25 .ret)]) [] w := by
 have nb : (Go.Conc.base 4).kind = .normal := rfl
 simp only [Tryz.f4, Option.some.injEq, Code.seq.injEq, Code.cond.injEq] at hc
 obtain ⟨-, -, -, -, -, -, -, -, -, -, -, h23, -⟩ := hc
 rw [← h23]
 clear h23
 refine all_seq ?_
 refine all_region ?_
 simp only [List.size_toArray, List.length_cons, List.length_nil, Nat.reduceAdd, Nat.zero_add, List.range, List.range.loop]
 refine all_step (.int .i64 0) nb rfl rfl rfl (fun w' => by simp [go_sem, g16]) (fun w' => by simp [go_sem, g16]) sz df (by decide) fun a1 sz df n1 p1 => ?_
 replace g7 := (p1 7 (by decide)).trans g7
 clear g16
 have g113 := n1
 clear n1 p1
 refine all_step (.bool true) nb rfl rfl rfl (fun w' => by simp [go_sem, g113]) (fun w' => by simp [go_sem, g113]) sz df (by decide) fun a1 sz df n1 p1 => ?_
 replace g7 := (p1 7 (by decide)).trans g7
 clear g113
 have g114 := n1
 clear n1 p1
 refine all_step (.bool true) nb rfl rfl rfl (fun w' => by simp [go_sem, g114]) (fun w' => by simp [go_sem, g114]) sz df (by decide) fun a1 sz df n1 p1 => ?_
 replace g7 := (p1 7 (by decide)).trans g7
 clear g114
 have g115 := n1
 clear n1 p1
 refine all_step (.int .i64 k2) nb rfl rfl (wanted_g rfl rfl rfl g115) (fun w' => by simp [go_sem, g7]) (fun w' => by simp [go_sem, g7]) sz df (by decide) fun a1 sz df n1 p1 => ?_
 replace g115 := (p1 115 (by decide)).trans g115
 clear g7
 have g116 := n1
 clear n1 p1
 refine all_step (.bool true) nb rfl rfl (wanted_g rfl rfl rfl g115) (fun w' => by simp [go_sem, g116, hz]) (fun w' => by simp [go_sem, g116, hz]) sz df (by decide) fun a1 sz df n1 p1 => ?_
 replace g115 := (p1 115 (by decide)).trans g115
 clear g116
 have g117 := n1
 clear n1 p1
 refine all_step (.bool true) nb rfl rfl (wanted_g rfl rfl rfl g115) (fun w' => by simp [go_sem, g117]) (fun w' => by simp [go_sem, g117]) sz df (by decide) fun a1 sz df n1 p1 => ?_
 replace g115 := (p1 115 (by decide)).trans g115
 clear g117
 have g118 := n1
 clear n1 p1
 refine all_skip rfl rfl (unwanted_g rfl rfl rfl g118) sz df (by decide) fun a1 sz df n1 p1 => ?_
 replace g115 := (p1 115 (by decide)).trans g115
 replace g118 := (p1 118 (by decide)).trans g118
 clear n1 p1
 refine all_skip rfl rfl (unwanted_g rfl rfl rfl g118) sz df (by decide) fun a1 sz df n1 p1 => ?_
 replace g115 := (p1 115 (by decide)).trans g115
 replace g118 := (p1 118 (by decide)).trans g118
 clear n1 p1
 refine all_skip rfl rfl (unwanted_g rfl rfl rfl g118) sz df (by decide) fun a1 sz df n1 p1 => ?_
 replace g115 := (p1 115 (by decide)).trans g115
 replace g118 := (p1 118 (by decide)).trans g118
 clear n1 p1
 refine all_skip rfl rfl (unwanted_g rfl rfl rfl g118) sz df (by decide) fun a1 sz df n1 p1 => ?_
 replace g115 := (p1 115 (by decide)).trans g115
 replace g118 := (p1 118 (by decide)).trans g118
 have g122 := n1
 clear n1 p1
 refine all_step (.bool true) nb rfl rfl (wanted_g rfl rfl rfl g115) (fun w' => by simp [go_sem, g118, g122]) (fun w' => by simp [go_sem, g118, g122]) sz df (by decide) fun a1 sz df n1 p1 => ?_
 replace g115 := (p1 115 (by decide)).trans g115
 clear g118 g122
 have g123 := n1
 clear n1 p1
 refine all_step (.bool true) nb rfl rfl rfl (fun w' => by simp [go_sem, g115, g123]) (fun w' => by simp [go_sem, g115, g123]) sz df (by decide) fun a1 sz df n1 p1 => ?_
 clear g115 g123
 have g124 := n1
 clear n1 p1
 refine all_step (.bool true) nb rfl rfl rfl (fun w' => by simp [go_sem, g124]) (fun w' => by simp [go_sem, g124]) sz df (by decide) fun a1 sz df n1 p1 => ?_
 clear g124
 have g125 := n1
 clear n1 p1
 refine all_stepc 14 #[] nb rfl rfl (wanted_g rfl rfl rfl g125) (fun w' => by simp [go_sem]) (fun w' => by simp [go_sem]; exact ev_call Tryz.func14 (by kernel_rfl) (by kernel_rfl)) sz df (by decide) (v := .bool true) (fun c w' t => stored_leads hK t _ _) fun a1 wn ho sz df n1 p1 => ?_
 replace hx := ho.ints hx
 replace hy := ho.ints hy
 replace hK := ho.kinds hK
 replace hold := hold.trans ho
 clear ho
 replace g125 := (p1 125 (by decide)).trans g125
 have g126 := n1
 clear n1 p1
 refine all_step (.bool true) nb rfl rfl rfl (fun w' => by simp [go_sem, g125, g126]) (fun w' => by simp [go_sem, g125, g126]) sz df (by decide) fun a1 sz df n1 p1 => ?_
 clear g125 g126
 have g127 := n1
 clear n1 p1
 refine all_step (.bool true) nb rfl rfl rfl (fun w' => by simp [go_sem, g127]) (fun w' => by simp [go_sem, g127]) sz df (by decide) fun a1 sz df n1 p1 => ?_
 clear g127
 have g4 := n1
 clear n1 p1
 refine all_end ?_
 refine all_ret ?_
 intro w' t
 exact .done (cl_leaves g4 df (hold.twin0 t))
theorem cl_tailB {r0 rg rs r3 r4 r5 f6 r7 s8 r9 r10 f11 r12 B0 r18 r19 B2 r24 r25 : Code} (hc : Tryz.f4.body = some (.seq r0 (.seq (.seq rg (.cond (.tmp 19) (.seq rs .ret) .skip)) (.seq r3 (.seq r4 (.seq (.seq r5 (.cond (.tmp 52) (.seq f6 .ret) .skip)) (.seq (.seq r7 (.cond (.tmp 54) (.seq s8 .ret) .skip)) (.seq (.seq r9 (.seq r10 (.cond (.tmp 68) (.seq f11 .ret) .skip))) (.seq (.seq r12 B0) (.seq r18 (.seq (.seq r19 B2) (.seq r24 (.seq r25 .ret))))))))))))) {k2 : Int} {q m : List Int} {xa ya : Option Addr} {xc yc : Nat} {w w0 : World} (hold : Old w0 w) (hx : IntsAt w xa m) (hy : IntsAt w ya q) (hK : KindsAt w) (hql : q.length ≤ 1000000) (hml : m.length ≤ 1000000) (hz : decide ((0 : Int) < k2) = false) (hf : fewerI m q = false)
 {a : Act} (sz : a.tmps.size = 128) (df : a.defers = []) (g5 : a.tmps[5]? = some (.slice ya q.length yc)) (g7 : a.tmps[7]? = some (.int .i64 k2)) (g14 : a.tmps[14]? = some (.slice xa m.length xc)) (g16 : a.tmps[16]? = some (.int .i64 0)) :
 LeadsA Tryz.prog (Leaving0 Tryz.prog fun v w' => v = .bool true ∧ Old w0 w') ((Go.Conc.base 4).at a [.code (.seq r25 .ret)]) [] w := by
 have nb : (Go.Conc.base 4).kind = .normal := rfl
 simp only [Tryz.f4, Option.some.injEq, Code.seq.injEq, Code.cond.injEq] at hc
 obtain ⟨-, -, -, -, -, -, -, -, -, -, -, h23, -⟩ := hc
 rw [← h23]
 clear h23
 refine all_seq ?_
 refine all_region ?_
 simp only [List.size_toArray, List.length_cons, List.length_nil, Nat.reduceAdd, Nat.zero_add, List.range, List.range.loop]
 refine all_step (.int .i64 0) nb rfl rfl rfl (fun w' => by simp [go_sem, g16]) (fun w' => by simp [go_sem, g16]) sz df (by decide) fun a1 sz df n1 p1 => ?_
 replace g5 := (p1 5 (by decide)).trans g5
 replace g7 := (p1 7 (by decide)).trans g7
 replace g14 := (p1 14 (by decide)).trans g14
 clear g16
 have g113 := n1
 clear n1 p1
 refine all_step (.bool true) nb rfl rfl rfl (fun w' => by simp [go_sem, g113]) (fun w' => by simp [go_sem, g113]) sz df (by decide) fun a1 sz df n1 p1 => ?_
 replace g5 := (p1 5 (by decide)).trans g5
 replace g7 := (p1 7 (by decide)).trans g7
 replace g14 := (p1 14 (by decide)).trans g14
 clear g113
 have g114 := n1
 clear n1 p1
 refine all_step (.bool true) nb rfl rfl rfl (fun w' => by simp [go_sem, g114]) (fun w' => by simp [go_sem, g114]) sz df (by decide) fun a1 sz df n1 p1 => ?_
 replace g5 := (p1 5 (by decide)).trans g5
 replace g7 := (p1 7 (by decide)).trans g7
 replace g14 := (p1 14 (by decide)).trans g14
 clear g114
 have g115 := n1
 clear n1 p1
 refine all_step (.int .i64 k2) nb rfl rfl (wanted_g rfl rfl rfl g115) (fun w' => by simp [go_sem, g7]) (fun w' => by simp [go_sem, g7]) sz df (by decide) fun a1 sz df n1 p1 => ?_
 replace g5 := (p1 5 (by decide)).trans g5
 replace g14 := (p1 14 (by decide)).trans g14
 replace g115 := (p1 115 (by decide)).trans g115
 clear g7
 have g116 := n1
 clear n1 p1
 refine all_step (.bool false) nb rfl rfl (wanted_g rfl rfl rfl g115) (fun w' => by simp [go_sem, g116, hz]) (fun w' => by simp [go_sem, g116, hz]) sz df (by decide) fun a1 sz df n1 p1 => ?_
 replace g5 := (p1 5 (by decide)).trans g5
 replace g14 := (p1 14 (by decide)).trans g14
 replace g115 := (p1 115 (by decide)).trans g115
 clear g116
 have g117 := n1
 clear n1 p1
 refine all_step (.bool false) nb rfl rfl (wanted_g rfl rfl rfl g115) (fun w' => by simp [go_sem, g117]) (fun w' => by simp [go_sem, g117]) sz df (by decide) fun a1 sz df n1 p1 => ?_
 replace g5 := (p1 5 (by decide)).trans g5
 replace g14 := (p1 14 (by decide)).trans g14
 replace g115 := (p1 115 (by decide)).trans g115
 clear g117
 have g118 := n1
 clear n1 p1
 refine all_step (.slice xa m.length xc) nb rfl rfl (wanted_g rfl rfl rfl g118) (fun w' => by simp [go_sem, g14]) (fun w' => by simp [go_sem, g14]) sz df (by decide) fun a1 sz df n1 p1 => ?_
 replace g5 := (p1 5 (by decide)).trans g5
 replace g115 := (p1 115 (by decide)).trans g115
 replace g118 := (p1 118 (by decide)).trans g118
 clear g14
 have g119 := n1
 clear n1 p1
 refine all_step (.slice ya q.length yc) nb rfl rfl (wanted_g rfl rfl rfl g118) (fun w' => by simp [go_sem, g5]) (fun w' => by simp [go_sem, g5]) sz df (by decide) fun a1 sz df n1 p1 => ?_
 replace g115 := (p1 115 (by decide)).trans g115
 replace g118 := (p1 118 (by decide)).trans g118
 replace g119 := (p1 119 (by decide)).trans g119
 clear g5
 have g120 := n1
 clear n1 p1
 refine all_stepc 28 #[.slice xa m.length xc, .slice ya q.length yc] nb rfl rfl (wanted_g rfl rfl rfl g118) (fun w' => by simp [go_sem, g119, g120]) (fun w' => by simp [go_sem, g119, g120]; exact ev_call Tryz.func28 (by kernel_rfl) (by kernel_rfl)) sz df (by decide) (v := .bool false) (fun c w' t => lone_call (v := .bool false) t fun W hW => (fewer_at (hW.ints hx) (hW.ints hy) rfl rfl hml hql hf).mono (by rintro e w2 ⟨rfl, hb⟩; exact ⟨rfl, hb⟩)) fun a1 wn ho sz df n1 p1 => ?_
 replace hx := ho.ints hx
 replace hy := ho.ints hy
 replace hK := ho.kinds hK
 replace hold := hold.trans ho
 clear ho
 replace g115 := (p1 115 (by decide)).trans g115
 replace g118 := (p1 118 (by decide)).trans g118
 clear g119 g120
 have g121 := n1
 clear n1 p1
 refine all_step (.bool true) nb rfl rfl (wanted_g rfl rfl rfl g118) (fun w' => by simp [go_sem, g121]) (fun w' => by simp [go_sem, g121]) sz df (by decide) fun a1 sz df n1 p1 => ?_
 replace g115 := (p1 115 (by decide)).trans g115
 replace g118 := (p1 118 (by decide)).trans g118
 clear g121
 have g122 := n1
 clear n1 p1
 refine all_step (.bool true) nb rfl rfl (wanted_g rfl rfl rfl g115) (fun w' => by simp [go_sem, g118, g122]) (fun w' => by simp [go_sem, g118, g122]) sz df (by decide) fun a1 sz df n1 p1 => ?_
 replace g115 := (p1 115 (by decide)).trans g115
 clear g118 g122
 have g123 := n1
 clear n1 p1
 refine all_step (.bool true) nb rfl rfl rfl (fun w' => by simp [go_sem, g115, g123]) (fun w' => by simp [go_sem, g115, g123]) sz df (by decide) fun a1 sz df n1 p1 => ?_
 clear g115 g123
 have g124 := n1
 clear n1 p1
 refine all_step (.bool true) nb rfl rfl rfl (fun w' => by simp [go_sem, g124]) (fun w' => by simp [go_sem, g124]) sz df (by decide) fun a1 sz df n1 p1 => ?_
 clear g124
 have g125 := n1
 clear n1 p1
 refine all_stepc 14 #[] nb rfl rfl (wanted_g rfl rfl rfl g125) (fun w' => by simp [go_sem]) (fun w' => by simp [go_sem]; exact ev_call Tryz.func14 (by kernel_rfl) (by kernel_rfl)) sz df (by decide) (v := .bool true) (fun c w' t => stored_leads hK t _ _) fun a1 wn ho sz df n1 p1 => ?_
 replace hx := ho.ints hx
 replace hy := ho.ints hy
 replace hK := ho.kinds hK
 replace hold := hold.trans ho
 clear ho
 replace g125 := (p1 125 (by decide)).trans g125
 have g126 := n1
 clear n1 p1
 refine all_step (.bool true) nb rfl rfl rfl (fun w' => by simp [go_sem, g125, g126]) (fun w' => by simp [go_sem, g125, g126]) sz df (by decide) fun a1 sz df n1 p1 => ?_
 clear g125 g126
 have g127 := n1
 clear n1 p1
 refine all_step (.bool true) nb rfl rfl rfl (fun w' => by simp [go_sem, g127]) (fun w' => by simp [go_sem, g127]) sz df (by decide) fun a1 sz df n1 p1 => ?_
 clear g127
 have g4 := n1
 clear n1 p1
 refine all_end ?_
 refine all_ret ?_
 intro w' t
 exact .done (cl_leaves g4 df (hold.twin0 t))
theorem cl_early2 {r0 rg rs r3 r4 r5 f6 r7 s8 r9 r10 f11 r12 B0 r18 r19 B2 r24 r25 : Code} (hc : Tryz.f4.body = some (.seq r0 (.seq (.seq rg (.cond (.tmp 19) (.seq rs .ret) .skip)) (.seq r3 (.seq r4 (.seq (.seq r5 (.cond (.tmp 52) (.seq f6 .ret) .skip)) (.seq (.seq r7 (.cond (.tmp 54) (.seq s8 .ret) .skip)) (.seq (.seq r9 (.seq r10 (.cond (.tmp 68) (.seq f11 .ret) .skip))) (.seq (.seq r12 B0) (.seq r18 (.seq (.seq r19 B2) (.seq r24 (.seq r25 .ret))))))))))))) {w w0 : World} (hold : Old w0 w) (hK : KindsAt w) {a : Act} (sz : a.tmps.size = 128) (df : a.defers = []) {kk : List Item} :
 LeadsA Tryz.prog (Leaving0 Tryz.prog fun v w' => v = .bool true ∧ Old w0 w') ((Go.Conc.base 4).at a (.code (.seq rs .ret) :: kk)) [] w := by
 have nb : (Go.Conc.base 4).kind = .normal := rfl
 simp only [Tryz.f4, Option.some.injEq, Code.seq.injEq, Code.cond.injEq] at hc
 obtain ⟨-, ⟨-, -, ⟨h9, -⟩, -⟩, -⟩ := hc
 rw [← h9]
 clear h9
 refine all_seq ?_
 refine all_region ?_
 simp only [List.size_toArray, List.length_cons, List.length_nil, Nat.reduceAdd, Nat.zero_add, List.range, List.range.loop]
 refine all_stepc 14 #[] nb rfl rfl rfl (fun w' => by simp [go_sem]) (fun w' => by simp [go_sem]; exact ev_call Tryz.func14 (by kernel_rfl) (by kernel_rfl)) sz df (by decide) (v := .bool true) (fun c w' t => stored_leads hK t _ _) fun a1 wn ho sz df n1 p1 => ?_
 replace hK := ho.kinds hK
 replace hold := hold.trans ho
 clear ho
 have g20 := n1
 clear n1 p1
 refine all_step (.bool true) nb rfl rfl rfl (fun w' => by simp [go_sem, g20]) (fun w' => by simp [go_sem, g20]) sz df (by decide) fun a1 sz df n1 p1 => ?_
 clear g20
 have g4 := n1
 clear n1 p1
 refine all_end ?_
 refine all_ret ?_
 intro w' t
 exact .done (cl_leaves g4 df (hold.twin0 t))
theorem cl_early8 {r0 rg rs r3 r4 r5 f6 r7 s8 r9 r10 f11 r12 B0 r18 r19 B2 r24 r25 : Code} (hc : Tryz.f4.body = some (.seq r0 (.seq (.seq rg (.cond (.tmp 19) (.seq rs .ret) .skip)) (.seq r3 (.seq r4 (.seq (.seq r5 (.cond (.tmp 52) (.seq f6 .ret) .skip)) (.seq (.seq r7 (.cond (.tmp 54) (.seq s8 .ret) .skip)) (.seq (.seq r9 (.seq r10 (.cond (.tmp 68) (.seq f11 .ret) .skip))) (.seq (.seq r12 B0) (.seq r18 (.seq (.seq r19 B2) (.seq r24 (.seq r25 .ret))))))))))))) {w w0 : World} (hold : Old w0 w) (hK : KindsAt w) {a : Act} (sz : a.tmps.size = 128) (df : a.defers = []) {kk : List Item} :
 LeadsA Tryz.prog (Leaving0 Tryz.prog fun v w' => v = .bool true ∧ Old w0 w') ((Go.Conc.base 4).at a (.code (.seq s8 .ret) :: kk)) [] w := by
 have nb : (Go.Conc.base 4).kind = .normal := rfl
 simp only [Tryz.f4, Option.some.injEq, Code.seq.injEq, Code.cond.injEq] at hc
 obtain ⟨-, -, -, -, -, ⟨-, -, ⟨h9, -⟩, -⟩, -⟩ := hc
 rw [← h9]
 clear h9
 refine all_seq ?_
 refine all_region ?_
 simp only [List.size_toArray, List.length_cons, List.length_nil, Nat.reduceAdd, Nat.zero_add, List.range, List.range.loop]
 refine all_stepc 14 #[] nb rfl rfl rfl (fun w' => by simp [go_sem]) (fun w' => by simp [go_sem]; exact ev_call Tryz.func14 (by kernel_rfl) (by kernel_rfl)) sz df (by decide) (v := .bool true) (fun c w' t => stored_leads hK t _ _) fun a1 wn ho sz df n1 p1 => ?_
 replace hK := ho.kinds hK
 replace hold := hold.trans ho
 clear ho
 have g55 := n1
 clear n1 p1
 refine all_step (.bool true) nb rfl rfl rfl (fun w' => by simp [go_sem, g55]) (fun w' => by simp [go_sem, g55]) sz df (by decide) fun a1 sz df n1 p1 => ?_
 clear g55
 have g4 := n1
 clear n1 p1
 refine all_end ?_
 refine all_ret ?_
 intro w' t
 exact .done (cl_leaves g4 df (hold.twin0 t))
theorem cl_co {w : World} {b : Bk} {s : Int} {vr vg vm vs vc : Value} (hR : RawAt w b vr vg vm vs vc) (hK : KindsAt w) (hs0 : 0 ≤ s) (hs1 : s ≤ 255) :
 Leads Tryz.prog (Leaving0 Tryz.prog fun v w' => v = .bool true ∧ Old w w') (Frame.enter Tryz.prog 4 #[.agg #[vr, vg, vm, vs, vc], .int .u8 s] .normal) [] w := by
 obtain ⟨r0, rg, rs, r3, r4, r5, f6, r7, s8, r9, r10, f11, r12, B0, r18, r19, B2, r24, r25, hc⟩ := clBody_eq
 have hok := progOk.code _ _ Tryz.func4 _ hc
 simp only [codeOk, Bool.and_eq_true] at hok
 obtain ⟨k0, ⟨kg, _⟩, k3, k4, ⟨k5, ⟨kf6, _⟩, _⟩, ⟨k7, _⟩, ⟨k9, k10, ⟨kf11, _⟩, _⟩, ⟨k12, kB0⟩, k18, ⟨k19, kB2⟩, k24, _⟩ := hok
 rw [clFrame hc]
 have nb : (Go.Conc.base 4).kind = .normal := rfl
 have nd : MarksOnly [] := fun d hd => by cases hd
 refine piece_step k0 nb nd (Z := CZ0 b s vr vg vm vs vc) (fun a w1 w2 ht h => by obtain ⟨B, h1, h2⟩ := h; exact ⟨B, h1, h2.twin ht⟩) (fun W hW => cl_0 hc (hW.raw hR) (hW.kinds hK)) fun a0 w0 hz ho0 => ?_
 obtain ⟨B, rfl, hE⟩ := hz
 obtain ⟨x, hx⟩ : ∃ x : Bool, (x = true ↔ ¬ (SmallB b ∧ bookAl b = 0)) := by
  by_cases h : SmallB b ∧ bookAl b = 0
  ·exact ⟨false, by simp only [Bool.false_eq_true, false_iff]; exact fun h2 => h2 h⟩
  ·exact ⟨true, by simp only [true_iff]; exact h⟩
 refine leads_seq fun d => ?_
 have hE := hE.twin (on_at w0 d)
 have ho0 := ho0.at d
 refine piece_step kg nb nd (Z := CZ1 B s vr vg vm vs vc x) (fun a w1 w2 ht h => h) (fun W hW => cl_1 hc (hE.twin hW) hx) fun a1 w1 hz ho => ?_
 obtain ⟨d17, d18, rfl⟩ := hz
 have hE := hE.old ho
 have ho1 := ho0.trans ho
 clear ho
 cases x with
 | true =>
  refine leads_cond (t := true) (by simp [go_sem]) fun da => ?_
  simp only [if_true]
  exact (cl_early2 hc (ho1.at da) ((on_at w1 da).kinds hE.kd) rfl rfl).here
 | false =>
  have hS : SmallB b ∧ bookAl b = 0 := Classical.byContradiction fun h => by have := hx.2 h; cases this
  refine leads_cond (t := false) (by simp [go_sem]) fun dd => ?_
  simp only [Bool.false_eq_true, if_false]
  refine leads_skip fun dd2 => ?_
  have hE := (hE.twin (on_at w1 dd)).twin (on_at (w1.at dd) dd2)
  have ho1 := (ho1.at dd).at dd2
  generalize (w1.at dd).at dd2 = w2 at hE ho1
  have ho2 := ho1
  clear ho1
  refine pieces_co [r3, r4, .seq r5 (.cond (.tmp 52) (.seq f6 .ret) .skip)] (by simp [k3, k4, k5, kf6, codeOk]) nb rfl (Z := CZ5 B s (histN b) (clashQ b) vr vg vm vs vc) (fun a w1 w2 ht h => by obtain ⟨ya, yc, h1, h2⟩ := h; exact ⟨ya, yc, h1, ht.ints h2⟩) (fun W hW => cl_A hc (hE.twin hW) hS.1 hS.2 rfl rfl) fun a3 w3 hz ho => ?_
  obtain ⟨ya, yc, ⟨d17, d18, d21, d22, d23, d24, d25, d26, d27, d28, d29, d30, d31, d32, d33, d34, d35, d36, d37, d38, d39, d40, d41, d42, d43, d44, d45, d46, d47, d48, d49, d50, d51, rfl⟩, hY⟩ := hz
  have hE := hE.old ho
  have ho3 := ho2.trans ho
  clear ho ho2
  refine leads_seq fun d => ?_
  have hE := hE.twin (on_at w3 d)
  have hY := (on_at w3 d).ints hY
  have ho3 := ho3.at d
  generalize w3.at d = w4 at hE hY ho3
  obtain ⟨y, hy⟩ : ∃ y : Bool, y = decide (0 < histN b) := ⟨_, rfl⟩
  refine piece_step k7 nb nd (Z := CZ7 B s (histN b) (clashQ b) vr vg vm vs vc ya yc y) (fun a w1 w2 ht h => h) (fun W hW => cl_7 hc hy) fun a5 w5 hz ho => ?_
  obtain ⟨d17, d18, d21, d22, d23, d24, d25, d26, d27, d28, d29, d30, d31, d32, d33, d34, d35, d36, d37, d38, d39, d40, d41, d42, d43, d44, d45, d46, d47, d48, d49, d50, d51, d53, rfl⟩ := hz
  have hE := hE.old ho
  have hY := ho.ints hY
  have ho5 := ho3.trans ho
  clear ho ho3
  cases y with
  | true =>
   refine leads_cond (t := true) (by simp [go_sem]) fun da => ?_
   simp only [if_true]
   exact (cl_early8 hc (ho5.at da) ((on_at w5 da).kinds hE.kd) rfl rfl).here
  | false =>
   have hp : pasts b = [] := Classical.byContradiction fun h => by
    have h1 : histN b = ((pasts b).length : Int) := by unfold histN; rw [if_pos hS.2]
    have h2 := List.length_pos_iff.2 h
    rw [h1] at hy
    simp at hy
    exact h hy
   have hq : clashQ b = clashI b := by unfold clashQ; rw [if_pos hp]
   obtain ⟨⟨m0, hm0, e0⟩, hne, hz0, hz1, hfew⟩ := clash_law hp
   refine leads_cond (t := false) (by simp [go_sem]) fun dd => ?_
   simp only [Bool.false_eq_true, if_false]
   refine leads_skip fun dd2 => ?_
   have hE := (hE.twin (on_at w5 dd)).twin (on_at (w5.at dd) dd2)
   have hY := (on_at (w5.at dd) dd2).ints ((on_at w5 dd).ints hY)
   have ho5 := (ho5.at dd).at dd2
   generalize (w5.at dd).at dd2 = w6 at hE hY ho5
   rw [hq] at hY ⊢
   have hr5 := recs_len hS.2
   have hlen : ∀ m, (idxI m b.rs.length).length ≤ 5 := fun m => by
    have := idxs_le m b.rs.length
    unfold idxI
    simp
    omega
   have hq5 : (clashI b).length ≤ 5 := by rw [e0]; exact hlen m0
   have hqb : ∀ x ∈ clashI b, 0 ≤ x ∧ x < (b.rs.length : Int) := fun x hx => by rw [e0] at hx; exact idx_bd hx
   obtain ⟨sn, rfl⟩ : ∃ sn : Nat, s = (sn : Int) := ⟨s.toNat, by omega⟩
   have hs2 : sn < 256 := by omega
   generalize clashI b = q at hY hz0 hz1 hfew hq5 hqb hne
   refine pieces_co [.seq r9 (.seq r10 (.cond (.tmp 68) (.seq f11 .ret) .skip)), .seq r12 B0, r18, .seq r19 B2, r24] (by simp [k9, k10, kf11, k12, kB0, k18, k19, kB2, k24, codeOk]) nb rfl (Z := CZB sn (histN (aloneB b (idxI sn b.rs.length))) b.rs.length q) (fun a w1 w2 ht h => by obtain ⟨xa, xc, ya, yc, h1, h2, h3, h4⟩ := h; exact ⟨xa, xc, ya, yc, h1, ht.ints h2, ht.ints h3, ht.kinds h4⟩) (fun W hW => cl_B hc (hE.twin hW) hS.1 hS.2 (hW.ints hY) hq5 hqb hz0 hz1 rfl hs2 rfl) fun a7 w7 hz ho => ?_
   obtain ⟨xa, xc, ya, yc, ⟨sz, df, q5, q7, q14, q16⟩, hx7, hy7, hk7⟩ := hz
   have hl := hlen sn
   by_cases hk2 : pasts (aloneB b (idxI sn b.rs.length)) = []
   ·have e2 := alone_zero hS.2 hl hk2
    exact (cl_tailB hc (ho5.trans ho) hx7 hy7 hk7 (by omega) (by omega) (by rw [e2]; rfl) (hfew sn hk2) sz df q5 q7 q14 q16).here
   ·have e2 := alone_some hS.2 hl hk2
    exact (cl_tailA (xc := xc) (yc := yc) hc (ho5.trans ho) hx7 hy7 hk7 (by omega) (by omega) (by simpa using e2) sz df q7 q16).here
end Go.Proofs.YtgemjjdkjmpmlaaGreatDoor
