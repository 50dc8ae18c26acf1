/- Leads to StoreHistories of chapter 6: V13. -/
import Derived.Test.YtbibidfkbdhblaaGreatDoorM47
set_option maxHeartbeats 1000000
set_option maxRecDepth 100000
set_option linter.all false
namespace Go.Proofs.YtbibidfkbdhblaaGreatDoor
open Go.RowKit Go.Maps Sp Mt Go.Conc
theorem Twin.raw {n : Nat} {w w1 : World} (h : Twin n w w1) {b : Bk} {vr vg vm vs vc : Value} (k : RawAt w b vr vg vm vs vc) : RawAt w1 b vr vg vm vs vc := by
 obtain ⟨h1, h2, ⟨a1, c1, e1, h3⟩, ⟨a2, c2, e2, h4⟩, a3, c3, e3, h5⟩ := k
 refine ⟨h1, h2, ⟨a1, c1, e1, h.msgs h3⟩, ⟨a2, c2, e2, fun i hi => ?_⟩, a3, c3, e3, h.recs h5⟩
 obtain ⟨b, o, e, hlt, pa, pc, q1, q2, q4⟩ := h4 i hi
 exact ⟨b, o, e, by rw [h.size]; exact hlt, pa, pc, (h.cell _).trans q1, q2, h.parts q4⟩
theorem RawAt.below {w w1 : World} (h : Below w.heap.size w w1) {b : Bk} {vr vg vm vs vc : Value} (k : RawAt w b vr vg vm vs vc) : RawAt w1 b vr vg vm vs vc := by
 obtain ⟨h1, h2, ⟨a1, c1, e1, h3⟩, ⟨a2, c2, e2, h4⟩, a3, c3, e3, h5⟩ := k
 exact ⟨h1, h2, ⟨a1, c1, e1, h3.below h⟩, ⟨a2, c2, e2, h4.below h⟩, a3, c3, e3, h5.below h⟩
theorem Old.raw {w w1 : World} (h : Old w w1) {b : Bk} {vr vg vm vs vc : Value} (k : RawAt w b vr vg vm vs vc) : RawAt w1 b vr vg vm vs vc := (on_twin w1 w.tape 0).raw (k.below h.below)
structure LawAt (w : World) (B : Nat) (b : Bk) (l : List Int) (vr vg vm vs vc : Value) (la : Option Addr) : Prop where
 c0 : w.cell? ⟨B, 0, none⟩ = some vr
 c1 : w.cell? ⟨B, 1, none⟩ = some vg
 c2 : w.cell? ⟨B, 2, none⟩ = some vm
 c3 : w.cell? ⟨B, 3, none⟩ = some vs
 c4 : w.cell? ⟨B, 4, none⟩ = some vc
 raw : RawAt w b vr vg vm vs vc
 kd : KindsAt w
 im : IntsAt w la l
section
variable {w w1 : World} {B : Nat} {b : Bk} {l : List Int} {vr vg vm vs vc : Value} {la : Option Addr}
theorem LawAt.twin {n : Nat} (h : LawAt w B b l vr vg vm vs vc la) (t : Twin n w w1) : LawAt w1 B b l vr vg vm vs vc la := ⟨(t.cell _).trans h.c0, (t.cell _).trans h.c1, (t.cell _).trans h.c2, (t.cell _).trans h.c3, (t.cell _).trans h.c4, t.raw h.raw, t.kinds h.kd, t.ints h.im⟩
theorem LawAt.old (h : LawAt w B b l vr vg vm vs vc la) (t : Old w w1) : LawAt w1 B b l vr vg vm vs vc la := ⟨t.cell2 h.c0, t.cell2 h.c1, t.cell2 h.c2, t.cell2 h.c3, t.cell2 h.c4, t.raw h.raw, t.kinds h.kd, t.ints h.im⟩
theorem isHistory_at (hB : BookAt w b vr vg vm vs vc) (hN : ∀ m ∈ b.ms, m.name.size ≤ 1000000) (hK : KindsAt w) {lc : Nat} (hL : IntsAt w la l) (hl : l.length ≤ 1000000) {i : Bool} {h : Int} (hi : isHist b l = i) (hh : isHistAl b l = h) :
 Calls Tryz.prog 34 #[.agg #[vr, vg, vm, vs, vc], .slice la l.length lc] w fun e w' => e = .returned (.tuple #[.bool i, .int .i64 h]) ∧ Below w.heap.size w w' := by
 by_cases h0 : h = 0
 ·subst h0 hi
  exact isHistory_ok hB hN hK hL hh
 ·have : i = false := by
   rw [← hi]; unfold isHist; rw [hh]; simp [h0]
  subst this
  exact isHistory_no hB hN hK hl hh h0
theorem rIsHistory2_at (hB : BookAt w b vr vg vm vs vc) (hN : ∀ m ∈ b.ms, m.name.size ≤ 1000000) {lc : Nat} (hL : IntsAt w la l) (hl : l.length ≤ 1000000) {i : Bool} {h : Int} (hi : isHist b l = i) (hh : isHistAl b l = h) :
 Calls Tryz.prog 35 #[.agg #[vr, vg, vm, vs, vc], .slice la l.length lc] w fun e w' => e = .returned (.tuple #[.bool i, .int .i64 h]) ∧ Below w.heap.size w w' := by
 subst hi hh
 exact rIsHistory_at hB hN hL rfl hl
def histN (b : Bk) : Int := if bookAl b = 0 then ((pasts b).length : Nat) else 0
theorem histories2_at (hB : BookAt w b vr vg vm vs vc) (hN : ∀ m ∈ b.ms, m.name.size ≤ 1000000) (hK : KindsAt w) {n k : Int} (hn : histN b = n) (hk : bookAl b = k) :
 Calls Tryz.prog 38 #[.agg #[vr, vg, vm, vs, vc]] w fun e w' => e = .returned (.tuple #[.int .i64 n, .int .i64 k]) ∧ Below w.heap.size w w' := by
 subst hn hk
 exact histories_at hB hN hK
theorem rHistories2_at (hB : BookAt w b vr vg vm vs vc) (hN : ∀ m ∈ b.ms, m.name.size ≤ 1000000) {n k : Int} (hn : histN b = n) (hk : bookAl b = k) :
 Calls Tryz.prog 39 #[.agg #[vr, vg, vm, vs, vc]] w fun e w' => e = .returned (.tuple #[.int .i64 n, .int .i64 k]) ∧ Below w.heap.size w w' := by
 subst hn hk
 exact rHistories_at hB hN
def thr (b : Bk) (s : Int) : List Int := if throughAl b s = 0 then throughR b s else []
theorem thr_len {b : Bk} {s : Int} (hs : ∀ x ∈ b.ss, x.length ≤ 20) : (thr b s).length ≤ 1000000 := by
 unfold thr
 split
 ·unfold throughR
  have := throughTo_len b s.toNat (((b.ss[s.toNat]?).elim 0 List.length) + 1)
  have h2 : ((b.ss[s.toNat]?).elim 0 List.length) ≤ 20 := by
   cases h : b.ss[s.toNat]? with
   | none => simp
   | some x => exact hs x (List.mem_of_getElem? h)
  omega
 ·simp
theorem ints_nil {a : Option Addr} : IntsAt w a [] := fun i hi => absurd hi (Nat.not_lt_zero _)
theorem through2_at (hB : BookAt w b vr vg vm vs vc) (hN : ∀ m ∈ b.ms, m.name.size ≤ 1000000) (hK : KindsAt w) {s : Int} {q : List Int} {u : Int} (hq : thr b s = q) (hu : throughAl b s = u) :
 Calls Tryz.prog 40 #[.agg #[vr, vg, vm, vs, vc], .int .i64 s] w fun e w' => ∃ a c, e = .returned (.tuple #[.slice a q.length c, .int .i64 u]) ∧ IntsAt w' a q ∧ Below w.heap.size w w' := by
 by_cases h0 : u = 0
 ·subst h0
  have : q = throughI b s := by rw [← hq]; unfold thr; rw [if_pos hu, through_same hu]
  subst this
  exact through_ok hB hN hK s hu
 ·have : q = [] := by rw [← hq]; unfold thr; rw [if_neg (by rw [hu]; exact h0)]
  subst this
  refine (through_no hB hN hK s hu h0).mono ?_
  rintro e w' ⟨rfl, hb⟩
  exact ⟨none, 0, rfl, ints_nil, hb⟩
theorem rThrough2_at (hB : BookAt w b vr vg vm vs vc) (hN : ∀ m ∈ b.ms, m.name.size ≤ 1000000) {s : Int} {q : List Int} {u : Int} (hq : thr b s = q) (hu : throughAl b s = u) :
 Calls Tryz.prog 41 #[.agg #[vr, vg, vm, vs, vc], .int .i64 s] w fun e w' => ∃ a c, e = .returned (.tuple #[.slice a q.length c, .int .i64 u]) ∧ IntsAt w' a q ∧ Below w.heap.size w w' := by
 by_cases h0 : u = 0
 ·subst h0
  have : q = throughR b s := by rw [← hq]; unfold thr; rw [if_pos hu]
  subst this
  exact rThrough_ok hB hN s hu
 ·have : q = [] := by rw [← hq]; unfold thr; rw [if_neg (by rw [hu]; exact h0)]
  subst this
  refine (rThrough_no hB hN s hu h0).mono ?_
  rintro e w' ⟨rfl, hb⟩
  exact ⟨none, 0, rfl, ints_nil, hb⟩
theorem SmallB.names {b : Bk} (h : SmallB b) : ∀ m ∈ b.ms, m.name.size ≤ 1000000 := fun m hm => Nat.le_trans (h.2.2.2.1 m hm) (by decide)
theorem SmallB.groups {b : Bk} (h : SmallB b) : True := trivial
theorem lhBody_eq : ∃ r0 rg rs r3 r4 r5 r7 r8 r9 r11 r12 r13, Tryz.f5.body = some (.seq r0 (.seq (.seq rg (.cond (.tmp 21) (.seq rs .ret) .skip)) (.seq r3 (.seq r4 (.seq r5 (.seq r7 (.seq r8 (.seq r9 (.seq r11 (.seq r12 (.seq r13 (.ret)))))))))))) := ⟨_, _, _, _, _, _, _, _, _, _, _, _, rfl⟩
def LA0 (b : Bk) (l : List Int) (s : Int) (vr vg vm vs vc : Value) (la : Option Addr) (lc : Nat) (B : Nat) : Act := { tmps := #[.agg #[vr, vg, vm, vs, vc], .slice la l.length lc, .int .i64 s, .pointer (some ⟨B, 0, none⟩), U, U, .bool false, U, U, U, U, U, U, U, U, U, U, U, U, U, U, U, U, U, U, U, U, U, U, U, U, U, U, U, U, U, U, U, U, U, U, U, U, U, U, U, U, U, U, U, U, U, U, U, U, U, U, U, U, U, U, U, U, U, U, U, U, U, U, U, U, U, U, U, U, U, U, U, U, U, U, U, U, U, U, U, U, U, U, U, U], defers := [] }
def LZ0 (b : Bk) (l : List Int) (s : Int) (vr vg vm vs vc : Value) (la : Option Addr) (lc : Nat) (a' : Act) (w2 : World) : Prop := ∃ B, a' = LA0 b l s vr vg vm vs vc la lc B ∧ LawAt w2 B b l vr vg vm vs vc la
theorem lh_0 {r0 rg rs r3 r4 r5 r7 r8 r9 r11 r12 r13 : Code} (hc : Tryz.f5.body = some (.seq r0 (.seq (.seq rg (.cond (.tmp 21) (.seq rs .ret) .skip)) (.seq r3 (.seq r4 (.seq r5 (.seq r7 (.seq r8 (.seq r9 (.seq r11 (.seq r12 (.seq r13 (.ret))))))))))))) {b : Bk} {l : List Int} {s : Int} {vr vg vm vs vc : Value} {la : Option Addr} {lc : Nat} (hR : RawAt w b vr vg vm vs vc) (hK : KindsAt w) (hL : IntsAt w la l) : r0.wp Tryz.prog (PZ w (LZ0 b l s vr vg vm vs vc la lc)) ({ tmps := #[.agg #[vr, vg, vm, vs, vc], .slice la l.length lc, .int .i64 s, U, U, U, U, U, U, U, U, U, U, U, U, U, U, U, U, U, U, U, U, U, U, U, U, U, U, U, U, U, U, U, U, U, U, U, U, U, U, U, U, U, U, U, U, U, U, U, U, U, U, U, U, U, U, U, U, U, U, U, U, U, U, U, U, U, U, U, U, U, U, U, U, U, U, U, U, U, U, U, U, U, U, U, U, U, U, U, U], defers := [] }) w := by
 simp only [Tryz.f5, Option.some.injEq, Code.seq.injEq, Code.cond.injEq] at hc
 obtain ⟨rfl, ⟨rfl, -, ⟨rfl, -⟩, -⟩, rfl, rfl, rfl, rfl, rfl, rfl, rfl, rfl, rfl, -⟩ := hc
 have HR := Hh hR
 have HK := Hh hK
 have HL := Hh hL
 clear hR hK hL
 go_wp2
 have hbw : Below w.heap.size w (w.alloc (.cells #[vr, vg, vm, vs, vc] 26)) := bel
 refine ⟨rfl, ⟨w.heap.size, rfl, ?_, ?_, ?_, ?_, ?_, HR.out.below hbw, HK.out.below hbw, HL.out.below hbw⟩, hbw⟩ <;> (rw [World.cell?_alloc_at _ _ _ _ rfl]; rfl)
def LA1 (B : Nat) (b : Bk) (l : List Int) (s : Int) (vr vg vm vs vc : Value) (la : Option Addr) (lc : Nat) (x : Bool) (d15 : Value) (d16 : Value) (d17 : Value) (d18 : Value) (d19 : Value) (d20 : Value) : Act := { tmps := #[.agg #[vr, vg, vm, vs, vc], .slice la l.length lc, .int .i64 s, .pointer (some ⟨B, 0, none⟩), U, U, .bool false, U, U, U, U, U, U, U, U, d15, d16, d17, d18, d19, d20, .bool x, U, U, U, U, U, U, U, U, U, U, U, U, U, U, U, U, U, U, U, U, U, U, U, U, U, U, U, U, U, U, U, U, U, U, U, U, U, U, U, U, U, U, U, U, U, U, U, U, U, U, U, U, U, U, U, U, U, U, U, U, U, U, U, U, U, U, U, U, U], defers := [] }
def LZ1 (B : Nat) (b : Bk) (l : List Int) (s : Int) (vr vg vm vs vc : Value) (la : Option Addr) (lc : Nat) (x : Bool) (a' : Act) (w2 : World) : Prop := ∃ d15 d16 d17 d18 d19 d20, a' = LA1 B b l s vr vg vm vs vc la lc x d15 d16 d17 d18 d19 d20
theorem lh_1 {r0 rg rs r3 r4 r5 r7 r8 r9 r11 r12 r13 : Code} (hc : Tryz.f5.body = some (.seq r0 (.seq (.seq rg (.cond (.tmp 21) (.seq rs .ret) .skip)) (.seq r3 (.seq r4 (.seq r5 (.seq r7 (.seq r8 (.seq r9 (.seq r11 (.seq r12 (.seq r13 (.ret))))))))))))) {B : Nat} {b : Bk} {l : List Int} {s : Int} {vr vg vm vs vc : Value} {la : Option Addr} {lc : Nat} {x : Bool} (hE : LawAt w B b l vr vg vm vs vc la) (hx : x = true ↔ ¬ (SmallB b ∧ l.length ≤ 20)) : rg.wp Tryz.prog (PZ w (LZ1 B b l s vr vg vm vs vc la lc x)) (LA0 b l s vr vg vm vs vc la lc B) w := by
 simp only [Tryz.f5, Option.some.injEq, Code.seq.injEq, Code.cond.injEq] at hc
 obtain ⟨rfl, ⟨rfl, -, ⟨rfl, -⟩, -⟩, rfl, rfl, rfl, rfl, rfl, rfl, rfl, rfl, rfl, -⟩ := hc
 unfold LA0
 have hrw := hE.raw
 have hkd := hE.kd
 have him := hE.im
 obtain ⟨x0, x1, x2, x3, x4, _, _, _⟩ := hE
 have HRW := Hh hrw
 have HKD := Hh hkd
 have HIM := Hh him
 have hB0 := lt_of_cell x0
 simp only at hB0
 clear hrw hkd him
 by_cases hs : SmallB b
 ·have HG := Hh (show (false = true ↔ ¬ SmallB b) by simp [hs])
  by_cases hl : 20 < l.length
  ·obtain rfl : x = true := hx.2 fun h => by omega
   clear hs hx
   go_wp2_with (go_at_call 8; (with_reducible refine (great_at HRW.out HG.out).mono ?_); rintro e w1 ⟨rfl, hb1⟩)
   have hd : decide ((20 : Int) < (l.length : Int)) = true := by simp; omega
   rw [hd]
   exact ⟨rfl, ⟨_, _, _, _, _, _, rfl⟩, hb1⟩
  ·obtain rfl : x = false := by
    cases x with
    | false => rfl
    | true => exact absurd ⟨hs, by omega⟩ (hx.1 rfl)
   clear hs hx
   go_wp2_with (go_at_call 8; (with_reducible refine (great_at HRW.out HG.out).mono ?_); rintro e w1 ⟨rfl, hb1⟩)
   have hd : decide ((20 : Int) < (l.length : Int)) = false := by simp; omega
   rw [hd]
   exact ⟨rfl, ⟨_, _, _, _, _, _, rfl⟩, hb1⟩
 ·have HG := Hh (show (true = true ↔ ¬ SmallB b) by simp [hs])
  obtain rfl : x = true := hx.2 fun h => hs h.1
  clear hs hx
  go_wp2_with (go_at_call 8; (with_reducible refine (great_at HRW.out HG.out).mono ?_); rintro e w1 ⟨rfl, hb1⟩)
  exact ⟨rfl, ⟨_, _, _, _, _, _, rfl⟩, hb1⟩
def LA3 (B : Nat) (b : Bk) (l : List Int) (s : Int) (vr vg vm vs vc : Value) (la : Option Addr) (lc : Nat) (d15 d16 d17 d18 d19 d20 : Value) (i : Bool) (h : Int)  : Act := { tmps := #[.agg #[vr, vg, vm, vs, vc], .slice la l.length lc, .int .i64 s, .pointer (some ⟨B, 0, none⟩), U, U, .bool false, .bool i, .int .i64 h, U, U, U, U, U, U, d15, d16, d17, d18, d19, d20, .bool false, U, .tuple #[.bool i, .int .i64 h], .agg #[vr, vg, vm, vs, vc], .slice la l.length lc, .tuple #[.bool i, .int .i64 h], .bool i, .int .i64 h, U, U, U, U, U, U, U, U, U, U, U, U, U, U, U, U, U, U, U, U, U, U, U, U, U, U, U, U, U, U, U, U, U, U, U, U, U, U, U, U, U, U, U, U, U, U, U, U, U, U, U, U, U, U, U, U, U, U, U, U, U, U], defers := [] }
def LZ3 (B : Nat) (b : Bk) (l : List Int) (s : Int) (vr vg vm vs vc : Value) (la : Option Addr) (lc : Nat) (d15 d16 d17 d18 d19 d20 : Value) (i : Bool) (h : Int) (a' : Act) (w2 : World) : Prop := a' = LA3 B b l s vr vg vm vs vc la lc d15 d16 d17 d18 d19 d20 i h 
theorem lh_3 {r0 rg rs r3 r4 r5 r7 r8 r9 r11 r12 r13 : Code} (hc : Tryz.f5.body = some (.seq r0 (.seq (.seq rg (.cond (.tmp 21) (.seq rs .ret) .skip)) (.seq r3 (.seq r4 (.seq r5 (.seq r7 (.seq r8 (.seq r9 (.seq r11 (.seq r12 (.seq r13 (.ret))))))))))))) {B : Nat} {b : Bk} {l : List Int} {s : Int} {vr vg vm vs vc : Value} {la : Option Addr} {lc : Nat} {d15 d16 d17 d18 d19 d20 : Value} {i : Bool} {h : Int} (hE : LawAt w B b l vr vg vm vs vc la) (hS : SmallB b ∧ l.length ≤ 20) (hi : isHist b l = i) (hh : isHistAl b l = h) : r3.wp Tryz.prog (PZ w (LZ3 B b l s vr vg vm vs vc la lc d15 d16 d17 d18 d19 d20 i h)) (LA1 B b l s vr vg vm vs vc la lc false d15 d16 d17 d18 d19 d20) w := by
 simp only [Tryz.f5, Option.some.injEq, Code.seq.injEq, Code.cond.injEq] at hc
 obtain ⟨rfl, ⟨rfl, -, ⟨rfl, -⟩, -⟩, rfl, rfl, rfl, rfl, rfl, rfl, rfl, rfl, rfl, -⟩ := hc
 unfold LA1
 have hrw := hE.raw
 have hkd := hE.kd
 have him := hE.im
 obtain ⟨x0, x1, x2, x3, x4, _, _, _⟩ := hE
 have HRW := Hh hrw
 have HKD := Hh hkd
 have HIM := Hh him
 have hB0 := lt_of_cell x0
 simp only at hB0
 clear hrw hkd him
 have HBK := Hh (HRW.out.book hS.1)
 have HN := Hh hS.1.names
 have hll : l.length ≤ 1000000 := by have := hS.2; omega
 clear hS
 have H1 := Hh hi
 have H2 := Hh hh
 clear hi hh
 go_wp2_with (go_at_call 34; (with_reducible refine (isHistory_at HBK.out HN.out HKD.out HIM.out hll H1.out H2.out).mono ?_); rintro e w1 ⟨rfl, hb1⟩)
 exact ⟨rfl, rfl, hb1⟩
def LA4 (B : Nat) (b : Bk) (l : List Int) (s : Int) (vr vg vm vs vc : Value) (la : Option Addr) (lc : Nat) (d15 d16 d17 d18 d19 d20 : Value) (i : Bool) (h : Int)  : Act := { tmps := #[.agg #[vr, vg, vm, vs, vc], .slice la l.length lc, .int .i64 s, .pointer (some ⟨B, 0, none⟩), U, U, .bool false, .bool i, .int .i64 h, .bool i, .int .i64 h, U, U, U, U, d15, d16, d17, d18, d19, d20, .bool false, U, .tuple #[.bool i, .int .i64 h], .agg #[vr, vg, vm, vs, vc], .slice la l.length lc, .tuple #[.bool i, .int .i64 h], .bool i, .int .i64 h, .tuple #[.bool i, .int .i64 h], .agg #[vr, vg, vm, vs, vc], .slice la l.length lc, .tuple #[.bool i, .int .i64 h], .bool i, .int .i64 h, U, U, U, U, U, U, U, U, U, U, U, U, U, U, U, U, U, U, U, U, U, U, U, U, U, U, U, U, U, U, U, U, U, U, U, U, U, U, U, U, U, U, U, U, U, U, U, U, U, U, U, U, U, U, U, U], defers := [] }
def LZ4 (B : Nat) (b : Bk) (l : List Int) (s : Int) (vr vg vm vs vc : Value) (la : Option Addr) (lc : Nat) (d15 d16 d17 d18 d19 d20 : Value) (i : Bool) (h : Int) (a' : Act) (w2 : World) : Prop := a' = LA4 B b l s vr vg vm vs vc la lc d15 d16 d17 d18 d19 d20 i h 
theorem lh_4 {r0 rg rs r3 r4 r5 r7 r8 r9 r11 r12 r13 : Code} (hc : Tryz.f5.body = some (.seq r0 (.seq (.seq rg (.cond (.tmp 21) (.seq rs .ret) .skip)) (.seq r3 (.seq r4 (.seq r5 (.seq r7 (.seq r8 (.seq r9 (.seq r11 (.seq r12 (.seq r13 (.ret))))))))))))) {B : Nat} {b : Bk} {l : List Int} {s : Int} {vr vg vm vs vc : Value} {la : Option Addr} {lc : Nat} {d15 d16 d17 d18 d19 d20 : Value} {i : Bool} {h : Int} (hE : LawAt w B b l vr vg vm vs vc la) (hS : SmallB b ∧ l.length ≤ 20) (hi : isHist b l = i) (hh : isHistAl b l = h) : r4.wp Tryz.prog (PZ w (LZ4 B b l s vr vg vm vs vc la lc d15 d16 d17 d18 d19 d20 i h)) (LA3 B b l s vr vg vm vs vc la lc d15 d16 d17 d18 d19 d20 i h ) w := by
 simp only [Tryz.f5, Option.some.injEq, Code.seq.injEq, Code.cond.injEq] at hc
 obtain ⟨rfl, ⟨rfl, -, ⟨rfl, -⟩, -⟩, rfl, rfl, rfl, rfl, rfl, rfl, rfl, rfl, rfl, -⟩ := hc
 unfold LA3
 have hrw := hE.raw
 have hkd := hE.kd
 have him := hE.im
 obtain ⟨x0, x1, x2, x3, x4, _, _, _⟩ := hE
 have HRW := Hh hrw
 have HKD := Hh hkd
 have HIM := Hh him
 have hB0 := lt_of_cell x0
 simp only at hB0
 clear hrw hkd him
 have HBK := Hh (HRW.out.book hS.1)
 have HN := Hh hS.1.names
 have hll : l.length ≤ 1000000 := by have := hS.2; omega
 clear hS
 have H1 := Hh hi
 have H2 := Hh hh
 clear hi hh
 go_wp2_with (go_at_call 35; (with_reducible refine (rIsHistory2_at HBK.out HN.out HIM.out hll H1.out H2.out).mono ?_); rintro e w1 ⟨rfl, hb1⟩)
 exact ⟨rfl, rfl, hb1⟩
def LA5 (B : Nat) (b : Bk) (l : List Int) (s : Int) (vr vg vm vs vc : Value) (la : Option Addr) (lc : Nat) (d15 d16 d17 d18 d19 d20 : Value) (i : Bool) (h : Int) (k : Int)  : Act := { tmps := #[.agg #[vr, vg, vm, vs, vc], .slice la l.length lc, .int .i64 s, .pointer (some ⟨B, 0, none⟩), U, U, .bool false, .bool i, .int .i64 h, .bool i, .int .i64 h, U, U, U, U, d15, d16, d17, d18, d19, d20, .bool false, U, .tuple #[.bool i, .int .i64 h], .agg #[vr, vg, vm, vs, vc], .slice la l.length lc, .tuple #[.bool i, .int .i64 h], .bool i, .int .i64 h, .tuple #[.bool i, .int .i64 h], .agg #[vr, vg, vm, vs, vc], .slice la l.length lc, .tuple #[.bool i, .int .i64 h], .bool i, .int .i64 h, .agg #[vr, vg, vm, vs, vc], .int .i64 k, .agg #[vr, vg, vm, vs, vc], .int .i64 k, .bool false, .bool false, .bool i, .bool i, .bool false, .bool false, .bool false, .int .i64 h, .int .i64 h, .bool false, .bool false, U, U, U, U, U, U, U, U, U, U, U, U, U, U, U, U, U, U, U, U, U, U, U, U, U, U, U, U, U, U, U, U, U, U, U, U, U, U, U, U, U], defers := [] }
def LZ5 (B : Nat) (b : Bk) (l : List Int) (s : Int) (vr vg vm vs vc : Value) (la : Option Addr) (lc : Nat) (d15 d16 d17 d18 d19 d20 : Value) (i : Bool) (h : Int) (k : Int) (a' : Act) (w2 : World) : Prop := a' = LA5 B b l s vr vg vm vs vc la lc d15 d16 d17 d18 d19 d20 i h k 
theorem lh_5 {r0 rg rs r3 r4 r5 r7 r8 r9 r11 r12 r13 : Code} (hc : Tryz.f5.body = some (.seq r0 (.seq (.seq rg (.cond (.tmp 21) (.seq rs .ret) .skip)) (.seq r3 (.seq r4 (.seq r5 (.seq r7 (.seq r8 (.seq r9 (.seq r11 (.seq r12 (.seq r13 (.ret))))))))))))) {B : Nat} {b : Bk} {l : List Int} {s : Int} {vr vg vm vs vc : Value} {la : Option Addr} {lc : Nat} {d15 d16 d17 d18 d19 d20 : Value} {i : Bool} {h : Int} {k : Int} (hE : LawAt w B b l vr vg vm vs vc la) (hS : SmallB b ∧ l.length ≤ 20) (hk : bookAl b = k) : r5.wp Tryz.prog (PZ w (LZ5 B b l s vr vg vm vs vc la lc d15 d16 d17 d18 d19 d20 i h k)) (LA4 B b l s vr vg vm vs vc la lc d15 d16 d17 d18 d19 d20 i h ) w := by
 simp only [Tryz.f5, Option.some.injEq, Code.seq.injEq, Code.cond.injEq] at hc
 obtain ⟨rfl, ⟨rfl, -, ⟨rfl, -⟩, -⟩, rfl, rfl, rfl, rfl, rfl, rfl, rfl, rfl, rfl, -⟩ := hc
 unfold LA4
 have hrw := hE.raw
 have hkd := hE.kd
 have him := hE.im
 obtain ⟨x0, x1, x2, x3, x4, _, _, _⟩ := hE
 have HRW := Hh hrw
 have HKD := Hh hkd
 have HIM := Hh him
 have hB0 := lt_of_cell x0
 simp only at hB0
 clear hrw hkd him
 have HBK := Hh (HRW.out.book hS.1)
 have HN := Hh hS.1.names
 have hll : l.length ≤ 1000000 := by have := hS.2; omega
 clear hS
 have H1 := Hh hk
 clear hk
 go_wp2
 (refine wp_region_bel (by kernel_rfl) (by kernel_rfl) ?_; (repeat (go_big_quiet_step (first | (go_at_call 36; with_reducible exact Calls.bel_of (checkBook_at (HBK.out.below (later_below _ _)) HN.out (HKD.out.below (later_below _ _)) H1.out)) | (go_at_call 37; with_reducible exact Calls.bel_of (rCheckBook_at (HBK.out.below (later_below _ _)) HN.out H1.out))))); refine wpQuiet_nil ?_; rintro _ ⟨xq, rfl⟩)
 go_wp2
 exact ⟨rfl, rfl, later_below _ _⟩
def LA7 (B : Nat) (b : Bk) (l : List Int) (s : Int) (vr vg vm vs vc : Value) (la : Option Addr) (lc : Nat) (d15 d16 d17 d18 d19 d20 : Value) (i : Bool) (h : Int) (k : Int) (n : Int)  : Act := { tmps := #[.agg #[vr, vg, vm, vs, vc], .slice la l.length lc, .int .i64 s, .pointer (some ⟨B, 0, none⟩), U, U, .bool false, .bool i, .int .i64 k, .bool i, .int .i64 h, .int .i64 n, U, U, U, d15, d16, d17, d18, d19, d20, .bool false, U, .tuple #[.bool i, .int .i64 h], .agg #[vr, vg, vm, vs, vc], .slice la l.length lc, .tuple #[.bool i, .int .i64 h], .bool i, .int .i64 h, .tuple #[.bool i, .int .i64 h], .agg #[vr, vg, vm, vs, vc], .slice la l.length lc, .tuple #[.bool i, .int .i64 h], .bool i, .int .i64 h, .agg #[vr, vg, vm, vs, vc], .int .i64 k, .agg #[vr, vg, vm, vs, vc], .int .i64 k, .bool false, .bool false, .bool i, .bool i, .bool false, .bool false, .bool false, .int .i64 h, .int .i64 h, .bool false, .bool false, .tuple #[.int .i64 n, .int .i64 k], .agg #[vr, vg, vm, vs, vc], .tuple #[.int .i64 n, .int .i64 k], .int .i64 n, .int .i64 k, U, U, U, U, U, U, U, U, U, U, U, U, U, U, U, U, U, U, U, U, U, U, U, U, U, U, U, U, U, U, U, U, U, U, U, U], defers := [] }
def LZ7 (B : Nat) (b : Bk) (l : List Int) (s : Int) (vr vg vm vs vc : Value) (la : Option Addr) (lc : Nat) (d15 d16 d17 d18 d19 d20 : Value) (i : Bool) (h : Int) (k : Int) (n : Int) (a' : Act) (w2 : World) : Prop := a' = LA7 B b l s vr vg vm vs vc la lc d15 d16 d17 d18 d19 d20 i h k n 
theorem lh_7 {r0 rg rs r3 r4 r5 r7 r8 r9 r11 r12 r13 : Code} (hc : Tryz.f5.body = some (.seq r0 (.seq (.seq rg (.cond (.tmp 21) (.seq rs .ret) .skip)) (.seq r3 (.seq r4 (.seq r5 (.seq r7 (.seq r8 (.seq r9 (.seq r11 (.seq r12 (.seq r13 (.ret))))))))))))) {B : Nat} {b : Bk} {l : List Int} {s : Int} {vr vg vm vs vc : Value} {la : Option Addr} {lc : Nat} {d15 d16 d17 d18 d19 d20 : Value} {i : Bool} {h : Int} {k : Int} {n : Int} (hE : LawAt w B b l vr vg vm vs vc la) (hS : SmallB b ∧ l.length ≤ 20) (hn : histN b = n) (hk : bookAl b = k) : r7.wp Tryz.prog (PZ w (LZ7 B b l s vr vg vm vs vc la lc d15 d16 d17 d18 d19 d20 i h k n)) (LA5 B b l s vr vg vm vs vc la lc d15 d16 d17 d18 d19 d20 i h k ) w := by
 simp only [Tryz.f5, Option.some.injEq, Code.seq.injEq, Code.cond.injEq] at hc
 obtain ⟨rfl, ⟨rfl, -, ⟨rfl, -⟩, -⟩, rfl, rfl, rfl, rfl, rfl, rfl, rfl, rfl, rfl, -⟩ := hc
 unfold LA5
 have hrw := hE.raw
 have hkd := hE.kd
 have him := hE.im
 obtain ⟨x0, x1, x2, x3, x4, _, _, _⟩ := hE
 have HRW := Hh hrw
 have HKD := Hh hkd
 have HIM := Hh him
 have hB0 := lt_of_cell x0
 simp only at hB0
 clear hrw hkd him
 have HBK := Hh (HRW.out.book hS.1)
 have HN := Hh hS.1.names
 have hll : l.length ≤ 1000000 := by have := hS.2; omega
 clear hS
 have H1 := Hh hn
 have H2 := Hh hk
 clear hn hk
 go_wp2_with (go_at_call 38; (with_reducible refine (histories2_at HBK.out HN.out HKD.out H1.out H2.out).mono ?_); rintro e w1 ⟨rfl, hb1⟩)
 exact ⟨rfl, rfl, hb1⟩
def LA8 (B : Nat) (b : Bk) (l : List Int) (s : Int) (vr vg vm vs vc : Value) (la : Option Addr) (lc : Nat) (d15 d16 d17 d18 d19 d20 : Value) (i : Bool) (h : Int) (k : Int) (n : Int)  : Act := { tmps := #[.agg #[vr, vg, vm, vs, vc], .slice la l.length lc, .int .i64 s, .pointer (some ⟨B, 0, none⟩), U, U, .bool false, .bool i, .int .i64 k, .bool i, .int .i64 k, .int .i64 n, .int .i64 n, U, U, d15, d16, d17, d18, d19, d20, .bool false, U, .tuple #[.bool i, .int .i64 h], .agg #[vr, vg, vm, vs, vc], .slice la l.length lc, .tuple #[.bool i, .int .i64 h], .bool i, .int .i64 h, .tuple #[.bool i, .int .i64 h], .agg #[vr, vg, vm, vs, vc], .slice la l.length lc, .tuple #[.bool i, .int .i64 h], .bool i, .int .i64 h, .agg #[vr, vg, vm, vs, vc], .int .i64 k, .agg #[vr, vg, vm, vs, vc], .int .i64 k, .bool false, .bool false, .bool i, .bool i, .bool false, .bool false, .bool false, .int .i64 h, .int .i64 h, .bool false, .bool false, .tuple #[.int .i64 n, .int .i64 k], .agg #[vr, vg, vm, vs, vc], .tuple #[.int .i64 n, .int .i64 k], .int .i64 n, .int .i64 k, .tuple #[.int .i64 n, .int .i64 k], .agg #[vr, vg, vm, vs, vc], .tuple #[.int .i64 n, .int .i64 k], .int .i64 n, .int .i64 k, U, U, U, U, U, U, U, U, U, U, U, U, U, U, U, U, U, U, U, U, U, U, U, U, U, U, U, U, U, U, U], defers := [] }
def LZ8 (B : Nat) (b : Bk) (l : List Int) (s : Int) (vr vg vm vs vc : Value) (la : Option Addr) (lc : Nat) (d15 d16 d17 d18 d19 d20 : Value) (i : Bool) (h : Int) (k : Int) (n : Int) (a' : Act) (w2 : World) : Prop := a' = LA8 B b l s vr vg vm vs vc la lc d15 d16 d17 d18 d19 d20 i h k n 
theorem lh_8 {r0 rg rs r3 r4 r5 r7 r8 r9 r11 r12 r13 : Code} (hc : Tryz.f5.body = some (.seq r0 (.seq (.seq rg (.cond (.tmp 21) (.seq rs .ret) .skip)) (.seq r3 (.seq r4 (.seq r5 (.seq r7 (.seq r8 (.seq r9 (.seq r11 (.seq r12 (.seq r13 (.ret))))))))))))) {B : Nat} {b : Bk} {l : List Int} {s : Int} {vr vg vm vs vc : Value} {la : Option Addr} {lc : Nat} {d15 d16 d17 d18 d19 d20 : Value} {i : Bool} {h : Int} {k : Int} {n : Int} (hE : LawAt w B b l vr vg vm vs vc la) (hS : SmallB b ∧ l.length ≤ 20) (hn : histN b = n) (hk : bookAl b = k) : r8.wp Tryz.prog (PZ w (LZ8 B b l s vr vg vm vs vc la lc d15 d16 d17 d18 d19 d20 i h k n)) (LA7 B b l s vr vg vm vs vc la lc d15 d16 d17 d18 d19 d20 i h k n ) w := by
 simp only [Tryz.f5, Option.some.injEq, Code.seq.injEq, Code.cond.injEq] at hc
 obtain ⟨rfl, ⟨rfl, -, ⟨rfl, -⟩, -⟩, rfl, rfl, rfl, rfl, rfl, rfl, rfl, rfl, rfl, -⟩ := hc
 unfold LA7
 have hrw := hE.raw
 have hkd := hE.kd
 have him := hE.im
 obtain ⟨x0, x1, x2, x3, x4, _, _, _⟩ := hE
 have HRW := Hh hrw
 have HKD := Hh hkd
 have HIM := Hh him
 have hB0 := lt_of_cell x0
 simp only at hB0
 clear hrw hkd him
 have HBK := Hh (HRW.out.book hS.1)
 have HN := Hh hS.1.names
 have hll : l.length ≤ 1000000 := by have := hS.2; omega
 clear hS
 have H1 := Hh hn
 have H2 := Hh hk
 clear hn hk
 go_wp2_with (go_at_call 39; (with_reducible refine (rHistories2_at HBK.out HN.out H1.out H2.out).mono ?_); rintro e w1 ⟨rfl, hb1⟩)
 exact ⟨rfl, rfl, hb1⟩
def LA9 (B : Nat) (b : Bk) (l : List Int) (s : Int) (vr vg vm vs vc : Value) (la : Option Addr) (lc : Nat) (d15 d16 d17 d18 d19 d20 : Value) (i : Bool) (h : Int) (k : Int) (n : Int)  : Act := { tmps := #[.agg #[vr, vg, vm, vs, vc], .slice la l.length lc, .int .i64 s, .pointer (some ⟨B, 0, none⟩), U, U, .bool false, .bool i, .int .i64 k, .bool i, .int .i64 k, .int .i64 n, .int .i64 n, U, U, d15, d16, d17, d18, d19, d20, .bool false, U, .tuple #[.bool i, .int .i64 h], .agg #[vr, vg, vm, vs, vc], .slice la l.length lc, .tuple #[.bool i, .int .i64 h], .bool i, .int .i64 h, .tuple #[.bool i, .int .i64 h], .agg #[vr, vg, vm, vs, vc], .slice la l.length lc, .tuple #[.bool i, .int .i64 h], .bool i, .int .i64 h, .agg #[vr, vg, vm, vs, vc], .int .i64 k, .agg #[vr, vg, vm, vs, vc], .int .i64 k, .bool false, .bool false, .bool i, .bool i, .bool false, .bool false, .bool false, .int .i64 h, .int .i64 h, .bool false, .bool false, .tuple #[.int .i64 n, .int .i64 k], .agg #[vr, vg, vm, vs, vc], .tuple #[.int .i64 n, .int .i64 k], .int .i64 n, .int .i64 k, .tuple #[.int .i64 n, .int .i64 k], .agg #[vr, vg, vm, vs, vc], .tuple #[.int .i64 n, .int .i64 k], .int .i64 n, .int .i64 k, .int .i64 n, .int .i64 n, .bool false, .bool false, .int .i64 k, .int .i64 k, .bool false, .bool false, U, U, U, U, U, U, U, U, U, U, U, U, U, U, U, U, U, U, U, U, U, U, U], defers := [] }
def LZ9 (B : Nat) (b : Bk) (l : List Int) (s : Int) (vr vg vm vs vc : Value) (la : Option Addr) (lc : Nat) (d15 d16 d17 d18 d19 d20 : Value) (i : Bool) (h : Int) (k : Int) (n : Int) (a' : Act) (w2 : World) : Prop := a' = LA9 B b l s vr vg vm vs vc la lc d15 d16 d17 d18 d19 d20 i h k n 
theorem lh_9 {r0 rg rs r3 r4 r5 r7 r8 r9 r11 r12 r13 : Code} (hc : Tryz.f5.body = some (.seq r0 (.seq (.seq rg (.cond (.tmp 21) (.seq rs .ret) .skip)) (.seq r3 (.seq r4 (.seq r5 (.seq r7 (.seq r8 (.seq r9 (.seq r11 (.seq r12 (.seq r13 (.ret))))))))))))) {B : Nat} {b : Bk} {l : List Int} {s : Int} {vr vg vm vs vc : Value} {la : Option Addr} {lc : Nat} {d15 d16 d17 d18 d19 d20 : Value} {i : Bool} {h : Int} {k : Int} {n : Int} (hE : LawAt w B b l vr vg vm vs vc la) (hS : SmallB b ∧ l.length ≤ 20) : r9.wp Tryz.prog (PZ w (LZ9 B b l s vr vg vm vs vc la lc d15 d16 d17 d18 d19 d20 i h k n)) (LA8 B b l s vr vg vm vs vc la lc d15 d16 d17 d18 d19 d20 i h k n ) w := by
 simp only [Tryz.f5, Option.some.injEq, Code.seq.injEq, Code.cond.injEq] at hc
 obtain ⟨rfl, ⟨rfl, -, ⟨rfl, -⟩, -⟩, rfl, rfl, rfl, rfl, rfl, rfl, rfl, rfl, rfl, -⟩ := hc
 unfold LA8
 have hrw := hE.raw
 have hkd := hE.kd
 have him := hE.im
 obtain ⟨x0, x1, x2, x3, x4, _, _, _⟩ := hE
 have HRW := Hh hrw
 have HKD := Hh hkd
 have HIM := Hh him
 have hB0 := lt_of_cell x0
 simp only at hB0
 clear hrw hkd him
 have HBK := Hh (HRW.out.book hS.1)
 have HN := Hh hS.1.names
 have hll : l.length ≤ 1000000 := by have := hS.2; omega
 clear hS
 go_wp2
 exact ⟨rfl, rfl, Below.refl _ _⟩
def LA11 (B : Nat) (b : Bk) (l : List Int) (s : Int) (vr vg vm vs vc : Value) (la : Option Addr) (lc : Nat) (d15 d16 d17 d18 d19 d20 : Value) (i : Bool) (h : Int) (k : Int) (n : Int) (q : List Int) (u : Int) (pa : Option Addr) (pc : Nat) : Act := { tmps := #[.agg #[vr, vg, vm, vs, vc], .slice la l.length lc, .int .i64 s, .pointer (some ⟨B, 0, none⟩), U, U, .bool false, .bool i, .int .i64 u, .bool i, .int .i64 k, .int .i64 n, .int .i64 n, .slice pa q.length pc, U, d15, d16, d17, d18, d19, d20, .bool false, U, .tuple #[.bool i, .int .i64 h], .agg #[vr, vg, vm, vs, vc], .slice la l.length lc, .tuple #[.bool i, .int .i64 h], .bool i, .int .i64 h, .tuple #[.bool i, .int .i64 h], .agg #[vr, vg, vm, vs, vc], .slice la l.length lc, .tuple #[.bool i, .int .i64 h], .bool i, .int .i64 h, .agg #[vr, vg, vm, vs, vc], .int .i64 k, .agg #[vr, vg, vm, vs, vc], .int .i64 k, .bool false, .bool false, .bool i, .bool i, .bool false, .bool false, .bool false, .int .i64 h, .int .i64 h, .bool false, .bool false, .tuple #[.int .i64 n, .int .i64 k], .agg #[vr, vg, vm, vs, vc], .tuple #[.int .i64 n, .int .i64 k], .int .i64 n, .int .i64 k, .tuple #[.int .i64 n, .int .i64 k], .agg #[vr, vg, vm, vs, vc], .tuple #[.int .i64 n, .int .i64 k], .int .i64 n, .int .i64 k, .int .i64 n, .int .i64 n, .bool false, .bool false, .int .i64 k, .int .i64 k, .bool false, .bool false, .tuple #[.slice pa q.length pc, .int .i64 u], .agg #[vr, vg, vm, vs, vc], .int .i64 s, .tuple #[.slice pa q.length pc, .int .i64 u], .slice pa q.length pc, .int .i64 u, U, U, U, U, U, U, U, U, U, U, U, U, U, U, U, U, U], defers := [] }
def LZ11 (B : Nat) (b : Bk) (l : List Int) (s : Int) (vr vg vm vs vc : Value) (la : Option Addr) (lc : Nat) (d15 d16 d17 d18 d19 d20 : Value) (i : Bool) (h : Int) (k : Int) (n : Int) (q : List Int) (u : Int) (a' : Act) (w2 : World) : Prop := ∃ pa pc, a' = LA11 B b l s vr vg vm vs vc la lc d15 d16 d17 d18 d19 d20 i h k n q u pa pc ∧ IntsAt w2 pa q
theorem lh_11 {r0 rg rs r3 r4 r5 r7 r8 r9 r11 r12 r13 : Code} (hc : Tryz.f5.body = some (.seq r0 (.seq (.seq rg (.cond (.tmp 21) (.seq rs .ret) .skip)) (.seq r3 (.seq r4 (.seq r5 (.seq r7 (.seq r8 (.seq r9 (.seq r11 (.seq r12 (.seq r13 (.ret))))))))))))) {B : Nat} {b : Bk} {l : List Int} {s : Int} {vr vg vm vs vc : Value} {la : Option Addr} {lc : Nat} {d15 d16 d17 d18 d19 d20 : Value} {i : Bool} {h : Int} {k : Int} {n : Int} {q : List Int} {u : Int} (hE : LawAt w B b l vr vg vm vs vc la) (hS : SmallB b ∧ l.length ≤ 20) (hq : thr b s = q) (hu : throughAl b s = u) : r11.wp Tryz.prog (PZ w (LZ11 B b l s vr vg vm vs vc la lc d15 d16 d17 d18 d19 d20 i h k n q u)) (LA9 B b l s vr vg vm vs vc la lc d15 d16 d17 d18 d19 d20 i h k n ) w := by
 simp only [Tryz.f5, Option.some.injEq, Code.seq.injEq, Code.cond.injEq] at hc
 obtain ⟨rfl, ⟨rfl, -, ⟨rfl, -⟩, -⟩, rfl, rfl, rfl, rfl, rfl, rfl, rfl, rfl, rfl, -⟩ := hc
 unfold LA9
 have hrw := hE.raw
 have hkd := hE.kd
 have him := hE.im
 obtain ⟨x0, x1, x2, x3, x4, _, _, _⟩ := hE
 have HRW := Hh hrw
 have HKD := Hh hkd
 have HIM := Hh him
 have hB0 := lt_of_cell x0
 simp only at hB0
 clear hrw hkd him
 have HBK := Hh (HRW.out.book hS.1)
 have HN := Hh hS.1.names
 have hll : l.length ≤ 1000000 := by have := hS.2; omega
 clear hS
 have H1 := Hh hq
 have H2 := Hh hu
 clear hq hu
 go_wp2_with (go_at_call 40; (with_reducible refine (through2_at HBK.out HN.out HKD.out H1.out H2.out).mono ?_); rintro e w1 ⟨pa, pc, rfl, hi1, hb1⟩)
 exact ⟨rfl, ⟨pa, pc, rfl, hi1⟩, hb1⟩
def LA12 (B : Nat) (b : Bk) (l : List Int) (s : Int) (vr vg vm vs vc : Value) (la : Option Addr) (lc : Nat) (d15 d16 d17 d18 d19 d20 : Value) (i : Bool) (h : Int) (k : Int) (n : Int) (q : List Int) (u : Int) (pa : Option Addr) (pc : Nat) (xa : Option Addr) (xc : Nat) : Act := { tmps := #[.agg #[vr, vg, vm, vs, vc], .slice la l.length lc, .int .i64 s, .pointer (some ⟨B, 0, none⟩), U, U, .bool false, .bool i, .int .i64 u, .bool i, .int .i64 u, .int .i64 n, .int .i64 n, .slice pa q.length pc, .slice xa q.length xc, d15, d16, d17, d18, d19, d20, .bool false, U, .tuple #[.bool i, .int .i64 h], .agg #[vr, vg, vm, vs, vc], .slice la l.length lc, .tuple #[.bool i, .int .i64 h], .bool i, .int .i64 h, .tuple #[.bool i, .int .i64 h], .agg #[vr, vg, vm, vs, vc], .slice la l.length lc, .tuple #[.bool i, .int .i64 h], .bool i, .int .i64 h, .agg #[vr, vg, vm, vs, vc], .int .i64 k, .agg #[vr, vg, vm, vs, vc], .int .i64 k, .bool false, .bool false, .bool i, .bool i, .bool false, .bool false, .bool false, .int .i64 h, .int .i64 h, .bool false, .bool false, .tuple #[.int .i64 n, .int .i64 k], .agg #[vr, vg, vm, vs, vc], .tuple #[.int .i64 n, .int .i64 k], .int .i64 n, .int .i64 k, .tuple #[.int .i64 n, .int .i64 k], .agg #[vr, vg, vm, vs, vc], .tuple #[.int .i64 n, .int .i64 k], .int .i64 n, .int .i64 k, .int .i64 n, .int .i64 n, .bool false, .bool false, .int .i64 k, .int .i64 k, .bool false, .bool false, .tuple #[.slice pa q.length pc, .int .i64 u], .agg #[vr, vg, vm, vs, vc], .int .i64 s, .tuple #[.slice pa q.length pc, .int .i64 u], .slice pa q.length pc, .int .i64 u, .tuple #[.slice xa q.length xc, .int .i64 u], .agg #[vr, vg, vm, vs, vc], .int .i64 s, .tuple #[.slice xa q.length xc, .int .i64 u], .slice xa q.length xc, .int .i64 u, U, U, U, U, U, U, U, U, U, U, U], defers := [] }
def LZ12 (B : Nat) (b : Bk) (l : List Int) (s : Int) (vr vg vm vs vc : Value) (la : Option Addr) (lc : Nat) (d15 d16 d17 d18 d19 d20 : Value) (i : Bool) (h : Int) (k : Int) (n : Int) (q : List Int) (u : Int) (pa : Option Addr) (pc : Nat) (a' : Act) (w2 : World) : Prop := ∃ xa xc, a' = LA12 B b l s vr vg vm vs vc la lc d15 d16 d17 d18 d19 d20 i h k n q u pa pc xa xc ∧ IntsAt w2 xa q
theorem lh_12 {r0 rg rs r3 r4 r5 r7 r8 r9 r11 r12 r13 : Code} (hc : Tryz.f5.body = some (.seq r0 (.seq (.seq rg (.cond (.tmp 21) (.seq rs .ret) .skip)) (.seq r3 (.seq r4 (.seq r5 (.seq r7 (.seq r8 (.seq r9 (.seq r11 (.seq r12 (.seq r13 (.ret))))))))))))) {B : Nat} {b : Bk} {l : List Int} {s : Int} {vr vg vm vs vc : Value} {la : Option Addr} {lc : Nat} {d15 d16 d17 d18 d19 d20 : Value} {i : Bool} {h : Int} {k : Int} {n : Int} {q : List Int} {u : Int} {pa : Option Addr} {pc : Nat} (hE : LawAt w B b l vr vg vm vs vc la) (hS : SmallB b ∧ l.length ≤ 20) (hq : thr b s = q) (hu : throughAl b s = u) : r12.wp Tryz.prog (PZ w (LZ12 B b l s vr vg vm vs vc la lc d15 d16 d17 d18 d19 d20 i h k n q u pa pc)) (LA11 B b l s vr vg vm vs vc la lc d15 d16 d17 d18 d19 d20 i h k n q u pa pc) w := by
 simp only [Tryz.f5, Option.some.injEq, Code.seq.injEq, Code.cond.injEq] at hc
 obtain ⟨rfl, ⟨rfl, -, ⟨rfl, -⟩, -⟩, rfl, rfl, rfl, rfl, rfl, rfl, rfl, rfl, rfl, -⟩ := hc
 unfold LA11
 have hrw := hE.raw
 have hkd := hE.kd
 have him := hE.im
 obtain ⟨x0, x1, x2, x3, x4, _, _, _⟩ := hE
 have HRW := Hh hrw
 have HKD := Hh hkd
 have HIM := Hh him
 have hB0 := lt_of_cell x0
 simp only at hB0
 clear hrw hkd him
 have HBK := Hh (HRW.out.book hS.1)
 have HN := Hh hS.1.names
 have hll : l.length ≤ 1000000 := by have := hS.2; omega
 clear hS
 have H1 := Hh hq
 have H2 := Hh hu
 clear hq hu
 go_wp2_with (go_at_call 41; (with_reducible refine (rThrough2_at HBK.out HN.out H1.out H2.out).mono ?_); rintro e w1 ⟨xa, xc, rfl, hi1, hb1⟩)
 exact ⟨rfl, ⟨xa, xc, rfl, hi1⟩, hb1⟩
end
end Go.Proofs.YtbibidfkbdhblaaGreatDoor
