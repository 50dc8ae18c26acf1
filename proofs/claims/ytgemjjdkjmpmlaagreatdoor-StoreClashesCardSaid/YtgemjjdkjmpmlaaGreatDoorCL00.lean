/- Leads to StoreClashes of chapter 6: G1 G3 Law G5 U2 U3 U4. -/
import Derived.Test.YtgemjjdkjmpmlaaGreatDoorBase
set_option maxHeartbeats 4000000
set_option maxRecDepth 100000
set_option linter.all false
namespace Go.Proofs.YtgemjjdkjmpmlaaGreatDoor
open Go.RowKit Sp
theorem goP_ms {b b' : Bk} (h : b.ms = b'.ms) : ∀ (l seen : List Prt), goP b seen l = goP b' seen l
 | [], _ => rfl
 | p :: l, seen => by
  have hp : isPart b p = isPart b' p := by unfold isPart; rw [h]
  unfold goP
  rw [hp, goP_ms h l]
theorem goS_zero {b : Bk} : ∀ {l : List (List Prt)}, (∀ s ∈ l, s.length ≤ 5 ∧ goP b [] s = 0) → goS b l = 0
 | [], _ => rfl
 | s :: l, h => by
  obtain ⟨h1, h2⟩ := h s (List.mem_cons_self ..)
  unfold goS
  rw [if_neg (by omega), if_neg (by simp [h2])]
  exact goS_zero fun s hs => h s (List.mem_cons_of_mem _ hs)
theorem goR_zero {b : Bk} : ∀ {l : List Rec}, (∀ r ∈ l, recAl b r = 0) → goR b l = 0
 | [], _ => rfl
 | s :: l, h => by
  unfold goR
  rw [if_neg (by simp [h s (List.mem_cons_self ..)])]
  exact goR_zero fun s hs => h s (List.mem_cons_of_mem _ hs)
theorem bookAl_rs {b : Bk} (h : bookAl b = 0) {rs : List Rec} (hl : rs.length ≤ 5) (hr : ∀ r ∈ rs, recAl b r = 0) : bookAl { b with rs := rs } = 0 := by
 obtain ⟨h0, h1, h2, h3⟩ := bookAl_parts h
 have h2' : sessAl { b with rs := rs } = 0 := by
  unfold sessAl at h2 ⊢
  split at h2
  ·cases h2
  ·rename_i hl
   rw [if_neg hl]
   exact goS_zero fun s hs => by
    obtain ⟨k1, k2⟩ := goS_ok _ h2 s hs
    exact ⟨k1, (goP_ms (b := { b with rs := rs }) (b' := b) rfl s []).trans k2⟩
 have h3' : recsAl { b with rs := rs } = 0 := by
  unfold recsAl
  rw [if_neg (by simpa using hl)]
  exact goR_zero fun r h => hr r h
 unfold bookAl
 rw [show numbersAl { b with rs := rs } = 0 from h0, show msgsAl { b with rs := rs } = 0 from h1, h2', h3']
 rfl
theorem recs_len {b : Bk} (h : bookAl b = 0) : b.rs.length ≤ 5 := by
 obtain ⟨_, _, _, h3⟩ := bookAl_parts h
 unfold recsAl at h3
 split at h3
 ·cases h3
 ·omega
end Go.Proofs.YtgemjjdkjmpmlaaGreatDoor
namespace Go.Proofs.YtgemjjdkjmpmlaaGreatDoor
open Go.RowKit Sp Mt Go.Conc
section
variable {P : Program} {b : Frame} {a : Act} {w : World} {k : List Item} {cs : List Frame} {K : Frame → List Frame → World → Prop}
theorem Twin.refl0 (w : World) : Twin 0 w w := ⟨rfl, rfl, rfl, fun _ => rfl, fun _ => rfl, fun _ _ => rfl⟩
theorem Twin.at0 {w w1 : World} (h : Twin 0 w w1) (d : Nat) : Twin 0 w (w1.at d) := ⟨h.os, h.output, h.size, h.cell, h.frozen, h.block⟩
theorem Twin.old0 {w w1 w2 : World} (h : Twin 0 w w1) (k : Old w1 w2) : Old w w2 := ⟨k.os.trans h.os, k.output.trans h.output, by rw [← h.size]; exact k.size, fun i hi => (k.block i (by rw [h.size]; exact hi)).trans (h.block i (Nat.zero_le _))⟩
def LeadsA (P : Program) (K : Frame → List Frame → World → Prop) (fr : Frame) (cs : List Frame) (w : World) : Prop := ∀ w', Twin 0 w w' → Leads P K fr cs w'
theorem LeadsA.here {fr : Frame} (h : LeadsA P K fr cs w) : Leads P K fr cs w := h w (Twin.refl0 w)
theorem all_region {id : Nat} {ops : Array Oper} (h : LeadsA P K (b.at a (.inRegion ops (List.range ops.size) :: k)) cs w) : LeadsA P K (b.at a (.code (.region id ops false) :: k)) cs w := fun _ t => leads_region fun d => h _ (t.at0 d)
theorem all_end {ops : Array Oper} (h : LeadsA P K (b.at a k) cs w) : LeadsA P K (b.at a (.inRegion ops [] :: k)) cs w := fun _ t => leads_inRegion fun d => h _ (t.at0 d)
theorem all_seq {x y : Code} (h : LeadsA P K (b.at a (.code x :: .code y :: k)) cs w) : LeadsA P K (b.at a (.code (.seq x y) :: k)) cs w := fun _ t => leads_seq fun d => h _ (t.at0 d)
theorem all_ret (h : LeadsA P K { b.at a (.code .ret :: k) with mode := .returning } cs w) : LeadsA P K (b.at a (.code .ret :: k)) cs w := fun _ t => leads_ret fun d => h _ (t.at0 d)
theorem all_op {ops : Array Oper} {i : Nat} {rest : List Nat} (v : Value) (hb : b.kind = .normal) {o : Oper} (ho : ops[i]? = some o) (hw : Region.wanted o (yielded ops a.tmps) = true)
 (hr : ∀ w', (execOp a.eval o).run P w' = .ok (.value v) w') (he : ∀ w', (execOp a.eval o).events P w' #[] = #[])
 (h : LeadsA P K (b.at (a.put o.dst v) (.inRegion ops rest :: k)) cs w) : LeadsA P K (b.at a (.inRegion ops (i :: rest) :: k)) cs w := fun _ t =>
 leads_op v hb ho hw (fun d => hr _) (fun d e hm => by rw [he] at hm; simp at hm) fun d => h _ (t.at0 d)
theorem all_call {ops : Array Oper} {i : Nat} {rest : List Nat} (f : FuncId) (args : Array Value) (hb : b.kind = .normal) {o : Oper} (ho : ops[i]? = some o) (hw : Region.wanted o (yielded ops a.tmps) = true)
 (hr : ∀ w', (execOp a.eval o).run P w' = .ok (.enter f args) w') (he : ∀ w', (execOp a.eval o).events P w' #[] = #[]) {Z : Value → World → Prop}
 (hc : ∀ (c : Frame) (w' : World), Twin 0 w w' → Leads P (fun fr' cs' w1 => ∃ v, fr' = c.finish v ∧ cs' = cs ∧ Z v w1) (Frame.enter P f args .normal) (c :: cs) w')
 (h : ∀ v w1, Z v w1 → LeadsA P K (b.at (a.put o.dst v) (.inRegion ops rest :: k)) cs w1) : LeadsA P K (b.at a (.inRegion ops (i :: rest) :: k)) cs w := fun w' t =>
 leads_call hb ho hw (fun d => hr _) (fun d => he _) (fun d => hc _ _ (t.at0 d)) fun v w1 hz => (h v w1 hz).here
end
section
variable {w : World} {cs : List Frame} {c : Frame}
theorem lone_call {f : FuncId} {args : Array Value} {v : Value} {w' : World} (t : Twin 0 w w') (h : ∀ W, Twin w.heap.size w W → Calls Tryz.prog f args W fun e w2 => e = .returned v ∧ Below W.heap.size W w2) :
 Leads Tryz.prog (fun fr' cs' w1 => ∃ v', fr' = c.finish v' ∧ cs' = cs ∧ v' = v ∧ Old w w1) (Frame.enter Tryz.prog f args .normal) (c :: cs) w' := by
 refine (calls_co (Z := fun v' _ => v' = v) (fun _ _ _ _ h => h) fun W hW => ?_).mono ?_
 ·refine (h W ⟨hW.os.trans t.os, hW.output.trans t.output, hW.size.trans t.size, fun a => (hW.cell a).trans (t.cell a), fun a => (hW.frozen a).trans (t.frozen a), fun k hk => (hW.block k (by rw [t.size]; exact hk)).trans (t.block k (Nat.zero_le _))⟩).mono ?_
  rintro e w2 ⟨rfl, hb⟩
  exact ⟨_, rfl, rfl, hb⟩
 ·rintro fr' cs' w1 ⟨v', h1, h2, h3, ho⟩
  exact ⟨v', h1, h2, h3, t.old0 ho⟩
end
theorem wps_cons {P : Program} {c : Code} {l : List Code} {Q : Act → World → Prop} {a : Act} {w : World} (h : c.wp P (fun e a' w' => e = .normal ∧ a'.defers = [] ∧ ∀ X, Twin 0 w' X → wps P l Q a' X) a w) : wps P (c :: l) Q a w :=
 Code.wp_mono (fun _ _ _ ⟨h1, h2, h3⟩ => ⟨h1, h2, fun _ => h3 _ ⟨rfl, rfl, rfl, fun _ => rfl, fun _ => rfl, fun _ _ => rfl⟩⟩) h
theorem Twin.five {n : Nat} {w w1 : World} (h : Twin n w w1) {r : Nat} {v0 v1 v2 v3 v4 : Value} (k : Five w r v0 v1 v2 v3 v4) : Five w1 r v0 v1 v2 v3 v4 := ⟨(h.cell _).trans k.c0, (h.cell _).trans k.c1, (h.cell _).trans k.c2, (h.cell _).trans k.c3, (h.cell _).trans k.c4, by rw [h.size]; exact k.lt⟩
theorem Old.twin0 {w w1 X : World} (h : Old w w1) (t : Twin 0 w1 X) : Old w X := ⟨t.os.trans h.os, t.output.trans h.output, by rw [t.size]; exact h.size, fun k hk => (t.block k (Nat.zero_le _)).trans (h.block k hk)⟩
theorem Old.ofBelow {w w1 : World} (h : Below w.heap.size w w1) : Old w w1 := ⟨h.os, h.output, h.size, h.block⟩
theorem Old.ks {w A B : World} {O : Nat} (h : Old w A) (hO : w.heap.size ≤ O) (hk : KS (fun k => k < A.heap.size ∧ k ≠ O) A B) : Old w B := ⟨hk.os.trans h.os, hk.output.trans h.output, Nat.le_trans h.size hk.size, fun k hkl => (hk.block k (Nat.lt_of_lt_of_le hkl h.size) ⟨Nat.lt_of_lt_of_le hkl h.size, by omega⟩).trans (h.block k hkl)⟩
def NQ (R : Act → World → Prop) : Exit → Act → World → Prop
 | .normal, a, w => R a w
 | _, _, _ => False
theorem wps_nq {P : Program} {c : Code} {l : List Code} {Q : Act → World → Prop} {a : Act} {w : World} (h : c.wp P (NQ fun a' w' => a'.defers = [] ∧ ∀ X, Twin 0 w' X → wps P l Q a' X) a w) : wps P (c :: l) Q a w := by
 refine wps_cons (Code.wp_mono (fun e a' w' hq => ?_) h)
 cases e <;> first | exact ⟨rfl, hq.1, hq.2⟩ | exact hq.elim
section
variable {P : Program} {b : Frame} {a : Act} {w : World} {k : List Item} {cs : List Frame} {K : Frame → List Frame → World → Prop}
theorem put_at {a : Act} {j : Nat} {v : Value} (h : j < a.tmps.size) : (a.put (some j) v).tmps[j]? = some v := by
 show (a.tmps.setIfInBounds j v)[j]? = some v
 simp [h]
theorem put_keep {a : Act} {j i : Nat} {v : Value} (hne : i ≠ j) : (a.put (some j) v).tmps[i]? = a.tmps[i]? := by
 show (a.tmps.setIfInBounds j v)[i]? = a.tmps[i]?
 rw [Array.getElem?_setIfInBounds_ne (by omega)]
theorem all_step {ops : Array Oper} {i n j : Nat} {rest : List Nat} (v : Value) (hb : b.kind = .normal) {o : Oper} (ho : ops[i]? = some o) (hd : o.dst = some j) (hw : Region.wanted o (yielded ops a.tmps) = true)
 (hr : ∀ w', (execOp a.eval o).run P w' = .ok (.value v) w') (he : ∀ w', (execOp a.eval o).events P w' #[] = #[]) (hn : a.tmps.size = n) (hdf : a.defers = []) (hj : j < n)
 (h : ∀ a1 : Act, a1.tmps.size = n → a1.defers = [] → a1.tmps[j]? = some v → (∀ i, i ≠ j → a1.tmps[i]? = a.tmps[i]?) → LeadsA P K (b.at a1 (.inRegion ops rest :: k)) cs w) : LeadsA P K (b.at a (.inRegion ops (i :: rest) :: k)) cs w := by
 refine all_op v hb ho hw hr he ?_
 rw [hd]
 exact h _ ((Array.size_setIfInBounds).trans hn) hdf (put_at (by omega)) fun i hi => put_keep hi
theorem all_stepc {ops : Array Oper} {i n j : Nat} {rest : List Nat} (f : FuncId) (args : Array Value) (hb : b.kind = .normal) {o : Oper} (ho : ops[i]? = some o) (hd : o.dst = some j) (hw : Region.wanted o (yielded ops a.tmps) = true)
 (hr : ∀ w', (execOp a.eval o).run P w' = .ok (.enter f args) w') (he : ∀ w', (execOp a.eval o).events P w' #[] = #[]) (hn : a.tmps.size = n) (hdf : a.defers = []) (hj : j < n) {v : Value}
 (hc : ∀ (c : Frame) (w' : World), Twin 0 w w' → Leads P (fun fr' cs' w1 => ∃ v', fr' = c.finish v' ∧ cs' = cs ∧ v' = v ∧ Old w w1) (Frame.enter P f args .normal) (c :: cs) w')
 (h : ∀ (a1 : Act) (w1 : World), Old w w1 → a1.tmps.size = n → a1.defers = [] → a1.tmps[j]? = some v → (∀ i, i ≠ j → a1.tmps[i]? = a.tmps[i]?) → LeadsA P K (b.at a1 (.inRegion ops rest :: k)) cs w1) : LeadsA P K (b.at a (.inRegion ops (i :: rest) :: k)) cs w := by
 refine all_call f args hb ho hw hr he (Z := fun v' w1 => v' = v ∧ Old w w1) hc ?_
 rintro v' w1 ⟨rfl, ho1⟩
 rw [hd]
 exact h _ _ ho1 ((Array.size_setIfInBounds).trans hn) hdf (put_at (by omega)) fun i hi => put_keep hi
theorem wanted_g {o ok : Oper} {ops : Array Oper} {tmps : Array Value} {m j : Nat} {want : Bool} (hg : o.guard = some (m, want)) (hk : ops[m]? = some ok) (hd : ok.dst = some j) (hA : tmps[j]? = some (.bool want)) : Region.wanted o (yielded ops tmps) = true := by
 unfold Region.wanted yielded
 rw [hg]
 simp [hk, hd, hA]
theorem all_skip {ops : Array Oper} {i n j : Nat} {rest : List Nat} {o : Oper} (ho : ops[i]? = some o) (hd : o.dst = some j) (hw : Region.wanted o (yielded ops a.tmps) = false) (hn : a.tmps.size = n) (hdf : a.defers = []) (hj : j < n)
 (h : ∀ a1 : Act, a1.tmps.size = n → a1.defers = [] → a1.tmps[j]? = some undef → (∀ i, i ≠ j → a1.tmps[i]? = a.tmps[i]?) → LeadsA P K (b.at a1 (.inRegion ops rest :: k)) cs w) : LeadsA P K (b.at a (.inRegion ops (i :: rest) :: k)) cs w := fun _ t =>
 leads_go (fun d => stepG_unwanted ho hw) fun d => by
  rw [hd]
  exact h (a.put (some j) undef) ((Array.size_setIfInBounds).trans hn) hdf (put_at (by omega)) (fun i hi => put_keep hi) _ (t.at0 d)
theorem unwanted_g {o ok : Oper} {ops : Array Oper} {tmps : Array Value} {m j : Nat} {want : Bool} (hg : o.guard = some (m, want)) (hk : ops[m]? = some ok) (hd : ok.dst = some j) (hA : tmps[j]? = some (.bool (!want))) : Region.wanted o (yielded ops tmps) = false := by
 unfold Region.wanted yielded
 rw [hg]
 cases want <;> simp [hk, hd, hA]
end
end Go.Proofs.YtgemjjdkjmpmlaaGreatDoor
namespace Go.Proofs.YtgemjjdkjmpmlaaGreatDoor
open Go.RowKit Sp
def fewerI (x y : List Int) : Bool := decide (x.length < y.length) || (decide (x.length = y.length) && lesserI x y)
theorem cmp_lesser : ∀ (l m : List Int), decide (cmpI l m < 0) = lesserI l m
 | [], [] => rfl
 | [], _ :: _ => rfl
 | _ :: _, [] => rfl
 | a :: l, b :: m => by
  unfold cmpI lesserI
  by_cases h : a = b
  ·subst h
   rw [if_neg (by omega), if_neg (by omega), if_pos rfl]
   exact cmp_lesser l m
  ·rw [if_neg h]
   by_cases h1 : a < b
   ·rw [if_pos h1]; simp [h1]
   ·rw [if_neg h1, if_pos (by omega)]; simp [h1]
theorem lesser_trans : ∀ {a b c : List Int}, lesserI a b = true → lesserI b c = true → lesserI a c = true
 | [], [], _, h, _ => by cases h
 | _ :: _, [], _, h, _ => by simp [lesserI] at h
 | [], _ :: _, [], _, h => by simp [lesserI] at h
 | [], _ :: _, _ :: _, _, _ => rfl
 | _ :: _, _ :: _, [], _, h => by simp [lesserI] at h
 | x :: a, y :: b, z :: c, h, k => by
  unfold lesserI at h k ⊢
  by_cases e : x = y
  ·subst e
   rw [if_pos rfl] at h
   by_cases e2 : x = z
   ·rw [if_pos e2] at k ⊢; exact lesser_trans h k
   ·rw [if_neg e2] at k ⊢; exact k
  ·rw [if_neg e] at h
   by_cases e2 : y = z
   ·subst e2; rw [if_neg e]; exact h
   ·rw [if_neg e2] at k
    simp only [decide_eq_true_eq] at h k
    rw [if_neg (by omega)]
    simp only [decide_eq_true_eq]; omega
theorem fewer_trans {a b c : List Int} (h : fewerI a b = true) (k : fewerI b c = true) : fewerI a c = true := by
 unfold fewerI at *
 simp only [Bool.or_eq_true, Bool.and_eq_true, decide_eq_true_eq] at *
 rcases h with h | ⟨h1, h2⟩
 ·rcases k with k | ⟨k1, k2⟩
  ·exact .inl (by omega)
  ·exact .inl (by omega)
 ·rcases k with k | ⟨k1, k2⟩
  ·exact .inl (by omega)
  ·exact .inr ⟨by omega, lesser_trans h2 k2⟩
theorem lesser_irrefl : ∀ a : List Int, lesserI a a = false
 | [] => rfl
 | x :: a => by unfold lesserI; rw [if_pos rfl]; exact lesser_irrefl a
theorem fewer_irrefl (a : List Int) : fewerI a a = false := by unfold fewerI; simp [lesser_irrefl]
def pickStep (n : Nat) (E : Nat → Bool) (st : Option (List Int)) (mask : Nat) : Option (List Int) :=
 if (match st with | none => false | some y => decide (y.length < (idxI mask n).length) || (decide ((idxI mask n).length = y.length) && decide (0 ≤ cmpI (idxI mask n) y))) then st
 else if E mask then some (idxI mask n) else st
def PickInv (n : Nat) (E : Nat → Bool) (k : Nat) : Option (List Int) → Prop
 | none => ∀ m, m < k → E m = false
 | some y => (∃ m, m < k ∧ E m = true ∧ y = idxI m n) ∧ ∀ m, m < k → E m = true → fewerI (idxI m n) y = false
theorem stay_iff (x y : List Int) : (decide (y.length < x.length) || (decide (x.length = y.length) && decide (0 ≤ cmpI x y))) = !fewerI x y := by
 have h := cmp_lesser x y
 unfold fewerI
 rw [← h]
 by_cases h1 : x.length < y.length
 ·simp [h1]; omega
 ·by_cases h2 : y.length < x.length
  ·simp [h2]; omega
  ·have : x.length = y.length := by omega
   by_cases h3 : cmpI x y < 0
   ·simp [this, h3]
   ·simp [this, h3]; omega
theorem pick_inv (n : Nat) (E : Nat → Bool) : ∀ k, PickInv n E k ((List.range k).foldl (pickStep n E) none)
 | 0 => fun m h => absurd h (Nat.not_lt_zero _)
 | k + 1 => by
  have ih := pick_inv n E k
  rw [List.range_succ, List.foldl_append]
  generalize (List.range k).foldl (pickStep n E) none = st at ih
  simp only [List.foldl_cons, List.foldl_nil]
  cases st with
  | none =>
   unfold pickStep
   simp only [Bool.false_eq_true, if_false]
   by_cases he : E k = true
   ·rw [if_pos he]
    refine ⟨⟨k, by omega, he, rfl⟩, fun m hm hE => ?_⟩
    by_cases e : m = k
    ·subst e; exact fewer_irrefl _
    ·have := ih m (by omega); rw [this] at hE; cases hE
   ·rw [if_neg he]
    intro m hm
    by_cases e : m = k
    ·subst e; simpa using he
    ·exact ih m (by omega)
  | some y =>
   obtain ⟨⟨m0, h0, hE0, hy⟩, hmin⟩ := ih
   unfold pickStep
   simp only [stay_iff]
   by_cases hf : fewerI (idxI k n) y = true
   ·rw [if_neg (by simp [hf])]
    by_cases he : E k = true
    ·rw [if_pos he]
     refine ⟨⟨k, by omega, he, rfl⟩, fun m hm hE => ?_⟩
     by_cases e : m = k
     ·subst e; exact fewer_irrefl _
     ·cases hc : fewerI (idxI m n) (idxI k n) with
      | false => rfl
      | true =>
       have := fewer_trans hc hf
       rw [hmin m (by omega) hE] at this
       cases this
    ·rw [if_neg he]
     refine ⟨⟨m0, by omega, hE0, hy⟩, fun m hm hE => ?_⟩
     by_cases e : m = k
     ·subst e; exact absurd hE he
     ·exact hmin m (by omega) hE
   ·rw [if_pos (by simp [hf])]
    refine ⟨⟨m0, by omega, hE0, hy⟩, fun m hm hE => ?_⟩
    by_cases e : m = k
    ·subst e; simpa using hf
    ·exact hmin m (by omega) hE
theorem mask_of (p : Nat → Bool) : ∀ n, ∃ m, m < 2 ^ n ∧ ∀ i, i < n → m.testBit i = p i
 | 0 => ⟨0, by simp, fun i h => absurd h (Nat.not_lt_zero _)⟩
 | n + 1 => by
  obtain ⟨m, h1, h2⟩ := mask_of p n
  by_cases hp : p n = true
  ·refine ⟨2 ^ n + m, by rw [Nat.pow_succ]; omega, fun i hi => ?_⟩
   by_cases e : i = n
   ·subst e
    rw [Nat.testBit_two_pow_add_eq, Nat.testBit_lt_two_pow h1, hp]; rfl
   ·rw [Nat.testBit_two_pow_add_gt (by omega)]; exact h2 i (by omega)
  ·refine ⟨m, by rw [Nat.pow_succ]; omega, fun i hi => ?_⟩
   by_cases e : i = n
   ·subst e
    rw [Nat.testBit_lt_two_pow h1]; simp at hp; exact hp.symm
   ·exact h2 i (by omega)
theorem idxs_of {p : Nat → Bool} {m n : Nat} (h : ∀ i, i < n → m.testBit i = p i) : idxs m n = (List.range n).filter p := by
 unfold idxs
 refine List.filter_congr fun i hi => h i (by simpa using hi)
theorem idxs_mod (m n : Nat) : idxs (m % 2 ^ n) n = idxs m n := by
 unfold idxs
 refine List.filter_congr fun i hi => ?_
 rw [Nat.testBit_mod_two_pow]
 simp at hi
 simp [hi]
theorem erase_filter : ∀ {l : List Nat} {i : Nat} (h : i < l.length), l.Nodup → l.eraseIdx i = l.filter (fun x => decide (x ≠ l[i]))
 | x :: l, 0, _, hn => by
  rw [List.nodup_cons] at hn
  simp only [List.eraseIdx_cons_zero, List.getElem_cons_zero]
  rw [List.filter_cons_of_neg (by simp)]
  rw [List.filter_eq_self.2]
  intro y hy
  simp only [ne_eq, decide_eq_true_eq]
  intro e; subst e; exact hn.1 hy
 | x :: l, i + 1, h, hn => by
  rw [List.nodup_cons] at hn
  have hi : i < l.length := by simpa using h
  simp only [List.eraseIdx_cons_succ, List.getElem_cons_succ]
  rw [List.filter_cons_of_pos, erase_filter hi hn.2]
  simp only [ne_eq, decide_eq_true_eq]
  intro e; exact hn.1 (e ▸ List.getElem_mem hi)
theorem idxs_nodup (m n : Nat) : (idxs m n).Nodup := List.Pairwise.filter _ List.nodup_range
theorem idxs_erase {m n i : Nat} (h : i < (idxs m n).length) : ∃ m', m' < 2 ^ n ∧ idxs m' n = (idxs m n).eraseIdx i := by
 obtain ⟨m', h1, h2⟩ := mask_of (fun j => m.testBit j && decide (j ≠ (idxs m n)[i])) n
 refine ⟨m', h1, ?_⟩
 rw [idxs_of h2, erase_filter h (idxs_nodup m n)]
 show _ = ((List.range n).filter fun i => m.testBit i).filter _
 rw [List.filter_filter]
 refine List.filter_congr fun j _ => ?_
 rw [Bool.and_comm]
theorem map_erase {α β : Type} (f : α → β) : ∀ (l : List α) (i : Nat), (l.eraseIdx i).map f = (l.map f).eraseIdx i
 | [], _ => by simp
 | x :: l, 0 => rfl
 | x :: l, i + 1 => by simp only [List.eraseIdx_cons_succ, List.map_cons, map_erase f l i]
theorem idxI_erase {m n i : Nat} (h : i < (idxI m n).length) : ∃ m', m' < 2 ^ n ∧ idxI m' n = (idxI m n).eraseIdx i := by
 obtain ⟨m', h1, h2⟩ := idxs_erase (m := m) (n := n) (i := i) (by simpa [idxI] using h)
 refine ⟨m', h1, ?_⟩
 unfold idxI
 rw [h2, map_erase]
theorem erase_fewer {l : List Int} {i : Nat} (h : i < l.length) : fewerI (l.eraseIdx i) l = true := by
 unfold fewerI
 have := List.length_eraseIdx_of_lt h
 simp; left; omega
theorem full_idxs (n : Nat) : idxs (2 ^ n - 1) n = List.range n := by
 unfold idxs
 rw [List.filter_eq_self]
 intro i hi
 rw [Nat.testBit_two_pow_sub_one]
 simpa using hi
def aloneB (b : Bk) (l : List Int) : Bk := { b with rs := l.filterMap fun i => b.rs[i.toNat]? }
theorem alone_idx (b : Bk) (m : Nat) : aloneB b (idxI m b.rs.length) = subB b m := by
 unfold aloneB subB recsOf idxI
 rw [List.filterMap_map]
 rfl
theorem pasts_norecs {b : Bk} (h : b.rs = []) : pasts b ≠ [] := fun e => by
 have : List.replicate b.ss.length (0 : Int) ∈ pasts b := by
  refine mem_pasts.2 ⟨by simp, fun i hi => ?_, by unfold right; rw [h]; rfl⟩
  rw [List.getElem_replicate]
  exact ⟨by omega, by simpa using hi, by omega⟩
 rw [e] at this
 cases this
theorem fewer_no {a b : List Int} (h : fewerI a b = false) (k : fewerI a b = true) : False := by rw [h] at k; cases k
theorem range_all : ∀ l : List Rec, (List.range l.length).filterMap (fun i => l[i]?) = l
 | [] => rfl
 | x :: l => by
  rw [List.length_cons, List.range_succ_eq_map]
  simp only [List.filterMap_cons, List.getElem?_cons_zero, List.filterMap_map, Function.comp_def, List.getElem?_cons_succ, Nat.succ_eq_add_one]
  rw [range_all l]
theorem clash_law {b : Bk} (hp : pasts b = []) : (∃ m, m < 2 ^ b.rs.length ∧ clashI b = idxI m b.rs.length) ∧ clashI b ≠ [] ∧ pasts (aloneB b (clashI b)) = [] ∧ (∀ i, i < (clashI b).length → pasts (aloneB b ((clashI b).eraseIdx i)) ≠ []) ∧
 ∀ m, pasts (aloneB b (idxI m b.rs.length)) = [] → fewerI (idxI m b.rs.length) (clashI b) = false := by
 have hfold : clashStep b = pickStep b.rs.length (fun m => (pasts (subB b m)).isEmpty) := rfl
 have hinv := pick_inv b.rs.length (fun m => (pasts (subB b m)).isEmpty) (2 ^ b.rs.length)
 have hc : clashI b = ((List.range (2 ^ b.rs.length)).foldl (pickStep b.rs.length fun m => (pasts (subB b m)).isEmpty) none).getD [] := by unfold clashI; rw [hfold]
 have hpos : 0 < 2 ^ b.rs.length := Nat.two_pow_pos _
 have hfull : pasts (subB b (2 ^ b.rs.length - 1)) = [] := by
  have e : subB b (2 ^ b.rs.length - 1) = b := by
   unfold subB recsOf
   rw [full_idxs, range_all]
  rw [e]; exact hp
 generalize hst : (List.range (2 ^ b.rs.length)).foldl (pickStep b.rs.length fun m => (pasts (subB b m)).isEmpty) none = st at hinv hc
 cases st with
 | none =>
  have := hinv (2 ^ b.rs.length - 1) (by omega)
  simp only [hfull] at this
  cases this
 | some y =>
  obtain ⟨⟨m0, h0, hE0, hy⟩, hmin⟩ := hinv
  have hcy : clashI b = y := hc
  rw [hcy]
  have hmin' : ∀ m, pasts (aloneB b (idxI m b.rs.length)) = [] → fewerI (idxI m b.rs.length) y = false := fun m hm => by
   have e : idxI (m % 2 ^ b.rs.length) b.rs.length = idxI m b.rs.length := by unfold idxI; rw [idxs_mod]
   rw [← e] at hm ⊢
   refine hmin _ (Nat.mod_lt _ hpos) ?_
   rw [alone_idx] at hm
   show (pasts (subB b _)).isEmpty = true
   rw [hm]; rfl
  have hyp : pasts (aloneB b y) = [] := by
   rw [hy, alone_idx]
   simpa using hE0
  refine ⟨⟨m0, h0, hy⟩, fun e => ?_, hyp, fun i hi e => ?_, hmin'⟩
  ·rw [e] at hyp
   exact pasts_norecs (b := aloneB b []) rfl hyp
  ·rw [hy] at e hi
   obtain ⟨m', _, h2⟩ := idxI_erase hi
   rw [← h2] at e
   have := hmin' m' e
   rw [h2, ← hy] at this
   rw [← hy] at hi
   exact fewer_no this (erase_fewer hi)
end Go.Proofs.YtgemjjdkjmpmlaaGreatDoor
namespace Go.Proofs.YtgemjjdkjmpmlaaGreatDoor
open Go.RowKit Go.Maps Sp
def leaveTo (l : List Int) (i k : Nat) : List Int := (l.take k).eraseIdx i
theorem leaveTo_succ (l : List Int) (i k : Nat) (h : k < l.length) : leaveTo l i (k + 1) = if k = i then leaveTo l i k else leaveTo l i k ++ [l[k]] := by
 unfold leaveTo
 rw [List.take_succ_eq_append_getElem h]
 have hl : (l.take k).length = k := by simp; omega
 by_cases e : k = i
 ·subst e
  rw [if_pos rfl, List.eraseIdx_append_of_length_le (by omega), hl, Nat.sub_self, List.eraseIdx_of_length_le (l := l.take k) (k := k) (by omega)]
  simp
 ·rw [if_neg e]
  by_cases e2 : i < k
  ·rw [List.eraseIdx_append_of_lt_length (by omega)]
  ·rw [List.eraseIdx_append_of_length_le (by omega), hl, List.eraseIdx_of_length_le (l := l.take k) (by omega), List.eraseIdx_of_length_le (by simp; omega)]
theorem leaveTo_le (l : List Int) (i k : Nat) : (leaveTo l i k).length ≤ l.length := by
 unfold leaveTo
 exact Nat.le_trans (List.length_eraseIdx_le _ _) (List.length_take_le' _ _)
def NumsRet (w : World) (l : List Int) (e : Ending) (w' : World) : Prop := ∃ a c, e = .returned (.slice a l.length c) ∧ IntsAt w' a l ∧ Below w.heap.size w w'
section
variable {w : World} {la : Option Addr} {lc n : Nat} {l : List Int}
theorem leave_at (hL : IntsAt w la l) (hn : n = l.length) (hl : l.length ≤ 1000) (i : Nat) (hi : i < l.length) :
 Calls Tryz.prog 27 #[.slice la n lc, .int .i64 i] w (NumsRet w (l.eraseIdx i)) := by
 subst hn
 have HP := Hh hL; clear hL
 obtain ⟨i0, hi0, hz0, hz1, hz2⟩ := info_parts intInfo
 go_enter Tryz.func27, Tryz.ntmps27
 go_wp2
 go_loopw [5, 6] (fun v t wr => ∃ (k : Nat) (a : Option Addr) (c : Nat), k ≤ l.length ∧ t = .int .i64 k ∧ v = .slice a (leaveTo l i k).length c ∧ wr.ownsRow w.heap.size 3 1 (.slice a (leaveTo l i k).length c) (leaveTo l i k).length ((leaveTo l i k).map (Value.int .i64)) ∧ Below w.heap.size w wr) (fun _ t _ => l.length - (intOf t).toNat)
 case atStart => exact ⟨0, none, 0, Nat.zero_le _, rfl, rfl, by simpa [leaveTo] using World.ownsRow_nil _ _ _ _, Below.refl _ _⟩
 case round =>
  obtain ⟨k, a, c, hk, rfl, rfl, hrow, hW⟩ := hrel
  have hWs := hW.size
  by_cases hlt : k < l.length
  ·obtain ⟨lb, lo, rfl, hlb, e0⟩ := HP.out k hlt
   have d0 := (hW.cell hlb).trans e0
   have hlb2 : lb < wr.heap.size := Nat.lt_of_lt_of_le hlb hWs
   have hsn := leaveTo_succ l i k hlt
   have hle := leaveTo_le l i k
   generalize l[k] = x at d0 hsn e0
   have HROW := Hh hrow
   have HSN := Hh hsn
   clear e0 hsn hrow
   by_cases hki : k = i
   ·subst hki
    have hd : ((k : Int) != (k : Int)) = false := by simp
    go_wp2
    go_roundw
    case rel => exact ⟨k + 1, a, c, by omega, by go_num, by rw [HSN.out, if_pos rfl], by rw [HSN.out, if_pos rfl]; exact HROW.out, hW⟩
    case measure => simp [intOf]; omega
   ·have hd : ((k : Int) != (i : Int)) = true := by simp; omega
    generalize hlt' : leaveTo l i k = q at HROW HSN hle
    have HQ := Hh hlt'
    clear hlt'
    go_wp2_with (at_builtin; go_loud (refine wpList_append_own _ rfl _ _ 30 rfl w.heap.size 3 i0 (.int .i64 0) 1 8 Tryz.underlying30 hi0 hz0 hz1 hz2 rfl (by decide) _ _ _ rfl (HROW.out.alloc _) ⟨wr.heap.size, 0, none⟩ 1 1 [.int .i64 x] rfl rfl (cells_new _ _ _) (by simp [Value.oneCell']) (by unfold maxLen; omega) (by omega) (by simp; omega) ?_; intro v' w5 hown' hgrow _; obtain ⟨g', cap', rfl⟩ := ownsRow_succ hown'; have hb5 := below_own (HROW.out.alloc (.cells #[.int .i64 x] 3)) hgrow (by simp; omega)))
    have hb6 : Below w.heap.size w w5 := (hW.alloc (by omega) _).trans hb5
    have hb7 := Hh hb6
    have HO := Hh hown'
    clear hb6 hb5 hown' hgrow
    go_roundw
    case rel => exact ⟨k + 1, some ⟨g', 0, none⟩, cap', by omega, by go_num, by rw [HSN.out, if_neg hki, List.length_append]; rfl, by rw [HSN.out, if_neg hki, List.length_append, List.map_append]; exact HO.out, hb7.out⟩
    case measure => simp [intOf]; omega
  ·obtain rfl : k = l.length := by omega
   have e : leaveTo l i l.length = l.eraseIdx i := by unfold leaveTo; rw [List.take_length]
   rw [e] at hrow ⊢
   have HROW := Hh hrow
   clear hrow e
   go_wp2
   go_ret
   exact ⟨a, c, rfl, ints_of_row HROW.out, hW⟩
theorem fewer_at {ma : Option Addr} {mc mn : Nat} {m : List Int} (hL : IntsAt w la l) (hM : IntsAt w ma m) (hn : n = l.length) (hm : mn = m.length) (hl : l.length ≤ 1000000) (hml : m.length ≤ 1000000) {t : Bool} (ht : fewerI l m = t) :
 Calls Tryz.prog 28 #[.slice la n lc, .slice ma mn mc] w fun e w' => e = .returned (.bool t) ∧ Below w.heap.size w w' := by
 subst hn hm
 have HL := Hh hL
 have HM := Hh hM
 have HT := Hh ht
 clear hL hM ht
 by_cases h1 : l.length < m.length
 ·have e : t = true := by rw [← HT.out]; unfold fewerI; simp [h1]
  subst e
  go_enter Tryz.func28, Tryz.ntmps28
  go_wp2
  go_ret
  exact ⟨rfl, bel⟩
 ·by_cases h2 : l.length = m.length
  ·have e : lesserI l m = t := by rw [← HT.out]; unfold fewerI; simp [h2]
   have HE := Hh e
   have hd : ((l.length : Int) == (m.length : Int)) = true := by simp [h2]
   clear h2 e
   go_enter Tryz.func28, Tryz.ntmps28
   go_wp2_with (go_at_call 45; (with_reducible refine (lesser_at HL.out HM.out rfl rfl hl hml HE.out).mono ?_); rintro e w' ⟨rfl, hb⟩)
   go_ret
   exact ⟨rfl, bel⟩
  ·have e : t = false := by rw [← HT.out]; unfold fewerI; simp [h1, h2]
   subst e
   have hd : ((l.length : Int) == (m.length : Int)) = false := by simp; omega
   go_enter Tryz.func28, Tryz.ntmps28
   go_wp2
   go_ret
   exact ⟨rfl, bel⟩
end
section
variable {w : World} {la : Option Addr} {lc n : Nat} {l : List Int}
theorem asc_ok (hL : IntsAt w la l) (hn : n = l.length) (hl : l.length ≤ 1000) {m : Nat} (hm : m ≤ 1000) (hb : ∀ x ∈ l, inB x 0 ((m : Int) - 1) = true) (hp : l.Pairwise (· < ·)) :
 Calls Tryz.prog 25 #[.slice la n lc, .int .i64 m] w fun e w' => e = .returned (.int .i64 0) ∧ Below w.heap.size w w' := by
 subst hn
 have HP := Hh hL
 have HB := Hh hb
 have HPW := Hh hp
 clear hL hb hp
 have hwm : IntKind.i64.wrap ((m : Int) - 1) = (m : Int) - 1 := wrapI (by omega) (by omega)
 go_enter Tryz.func25, Tryz.ntmps25
 go_wp2
 go_loopw [5] (fun i wr => ∃ k : Nat, k ≤ l.length ∧ i = .int .i64 k ∧ Below w.heap.size w wr) (fun i _ => l.length - (intOf i).toNat)
 case atStart => exact ⟨0, Nat.zero_le _, rfl, Below.refl _ _⟩
 case round =>
  obtain ⟨k, hk, rfl, hW⟩ := hrel
  have hWs := hW.size
  by_cases hlt : k < l.length
  ·obtain ⟨lb, lo, rfl, hlb, e0⟩ := HP.out k hlt
   have d0 := (hW.cell hlb).trans e0
   have hlb2 : lb < wr.heap.size := Nat.lt_of_lt_of_le hlb hWs
   have HI := Hh (HB.out _ (List.getElem_mem hlt))
   by_cases h0 : k = 0
   ·subst h0
    generalize l[0] = x at d0 HI e0
    have d9 : wr.cell? ⟨lb, lo, none⟩ = some (.int .i64 x) := d0
    clear e0 d0
    go_wp2_with (go_at_call 30; (with_reducible refine (rin_at HI.out).mono ?_); rintro e w' ⟨rfl, rfl⟩)
    go_quiet (fail)
    go_wp2
    go_roundw
    case rel => exact ⟨1, by omega, by go_num, bel⟩
    case measure => simp [intOf]; omega
   ·obtain ⟨j, rfl⟩ : ∃ j, k = j + 1 := ⟨k - 1, by omega⟩
    obtain ⟨lb', lo', e', hlb', e1⟩ := HP.out j (by omega)
    cases e'
    have d1 := (hW.cell hlb').trans e1
    have hlts := List.pairwise_iff_getElem.1 HPW.out j (j + 1) (by omega) hlt (by omega)
    have hd : decide (l[j + 1] ≤ l[j]) = false := by simp; omega
    generalize l[j] = y at d1 hd hlts e1
    generalize l[j + 1] = x at d0 HI hd hlts e0
    have hwj : IntKind.i64.wrap (((j + 1 : Nat) : Int) - 1) = (j : Int) := by rw [wrapI (by omega) (by omega)]; simp
    have hgt : decide ((0 : Int) < ((j + 1 : Nat) : Int)) = true := by simp
    clear e0 e1 hlts
    go_wp2_with (go_at_call 30; (with_reducible refine (rin_at HI.out).mono ?_); rintro e w' ⟨rfl, rfl⟩)
    go_quiet (fail)
    go_wp2
    go_roundw
    case rel => exact ⟨j + 1 + 1, by omega, by go_num, bel⟩
    case measure => simp [intOf]; omega
  ·obtain rfl : k = l.length := by omega
   go_wp2
   go_ret
   exact ⟨rfl, hW⟩
end
def recsIdx (b : Bk) (l : List Int) : List Rec := l.filterMap fun i => b.rs[i.toNat]?
theorem recsIdx_snoc (b : Bk) (l : List Int) (j : Nat) (h : j < l.length) (h2 : l[j].toNat < b.rs.length) : recsIdx b (l.take (j + 1)) = recsIdx b (l.take j) ++ [b.rs[l[j].toNat]] := by
 unfold recsIdx
 rw [List.take_succ_eq_append_getElem h, List.filterMap_append]
 simp [h2]
theorem recsIdx_len (b : Bk) (l : List Int) (h : ∀ x ∈ l, 0 ≤ x ∧ x < (b.rs.length : Int)) : ∀ j, j ≤ l.length → (recsIdx b (l.take j)).length = j
 | 0, _ => by simp [recsIdx]
 | j + 1, hj => by
  have hx := h l[j] (List.getElem_mem (by omega))
  rw [recsIdx_snoc b l j (by omega) (by omega), List.length_append, recsIdx_len b l h j (by omega)]
  rfl
def AloneRet (w : World) (b : Bk) (l : List Int) (vr vg vm vs : Value) (e : Ending) (w' : World) : Prop := ∃ ra rc, e = .returned (.agg #[vr, vg, vm, vs, .slice ra l.length rc]) ∧ BookAt w' (aloneB b l) vr vg vm vs (.slice ra l.length rc) ∧ Below w.heap.size w w'
section
variable {b : Bk} {vr vg vm vs vc : Value} {w : World} {la : Option Addr} {lc n : Nat} {l : List Int}
theorem alone_at (hB : BookAt w b vr vg vm vs vc) (hr5 : b.rs.length ≤ 5) (hL : IntsAt w la l) (hn : n = l.length) (hl : ∀ x ∈ l, 0 ≤ x ∧ x < (b.rs.length : Int)) (hl5 : l.length ≤ 5) :
 Calls Tryz.prog 26 #[.agg #[vr, vg, vm, vs, vc], .slice la n lc] w (AloneRet w b l vr vg vm vs) := by
 subst hn
 have HB := Hh hB
 have HP := Hh hL
 have HX := Hh hl
 obtain ⟨i0, hi, hz0, hz1, hz2⟩ := info_parts recInfo
 obtain ⟨rfl, rfl, ⟨ma, mc, rfl, _, _⟩, ⟨sa, sc, rfl, _, _⟩, ra, rc, rfl, hRR, _⟩ := id hB
 have HRR := Hh hRR
 clear hB hL hl hRR
 go_enter Tryz.func26, Tryz.ntmps26
 go_wp2
 obtain ⟨W0, hW0⟩ : ∃ W0, W0 = ((w.alloc (.cells #[.int .i64 b.room, .int .i64 b.gap, .slice ma b.ms.length mc, .slice sa b.ss.length sc, .slice ra b.rs.length rc] 26)).alloc (.cells #[.int .i64 0, .int .i64 0, .slice none 0 0, .slice none 0 0, .slice none 0 0] 26)).alloc (.cells #[.int .i64 b.room, .int .i64 b.gap, .slice ma b.ms.length mc, .slice sa b.ss.length sc, .slice none 0 0] 26) := ⟨_, rfl⟩
 rw [← hW0]
 have hb0 : Below w.heap.size w W0 := by rw [hW0]; (exact bel)
 have hs0 : W0.heap.size = w.heap.size + 3 := by rw [hW0]; simp
 have x4 : W0.cell? ⟨w.heap.size, 4, none⟩ = some (.slice ra b.rs.length rc) := by rw [hW0, World.cell?_alloc_past _ _ _ (by first | omega | (simp; done) | (simp; omega)), World.cell?_alloc_past _ _ _ (by first | omega | (simp; done) | (simp; omega)), World.cell?_alloc_at _ _ _ _ rfl]; rfl
 have nn : ∀ k u, (#[.int .i64 b.room, .int .i64 b.gap, .slice ma b.ms.length mc, .slice sa b.ss.length sc, .slice none 0 0] : Array Value)[k]? = some u → W0.cell? ⟨w.heap.size + 1 + 1, k, none⟩ = some u := fun k u hk => by
  rw [hW0, World.cell?_alloc_at _ _ _ _ (by simp)]; exact hk
 have y4 := nn 4 _ rfl
 have z4 : W0.frozen? ⟨w.heap.size + 1 + 1, 4, none⟩ = false := by rw [hW0, World.frozen?_alloc_at _ _ _ _ (by simp)]
 have zz : ∀ k, W0.frozen? ⟨w.heap.size + 1, k, none⟩ = false := fun k => by rw [hW0, World.frozen?_alloc_past _ _ _ (by simp), World.frozen?_alloc_at _ _ _ _ (by simp)]
 have zc : ∀ k u, (#[.int .i64 0, .int .i64 0, .slice none 0 0, .slice none 0 0, .slice none 0 0] : Array Value)[k]? = some u → W0.cell? ⟨w.heap.size + 1, k, none⟩ = some u := fun k u hk => by
  rw [hW0, World.cell?_alloc_past _ _ _ (by simp), World.cell?_alloc_at _ _ _ _ (by simp)]; exact hk
 have hle1 : w.heap.size + 3 ≤ W0.heap.size := by omega
 have HN := Hh nn
 have HZ := Hh zz
 have HZC := Hh zc
 have HB0 := Hh hb0
 clear hW0 nn hs0 zz zc hb0
 go_loopw [6] (fun i wr => ∃ (j : Nat) (a : Option Addr) (c : Nat), j ≤ l.length ∧ i = .int .i64 j ∧ wr.cell? ⟨w.heap.size + 1 + 1, 4, none⟩ = some (.slice a j c) ∧ wr.frozen? ⟨w.heap.size + 1 + 1, 4, none⟩ = false ∧ wr.ownsRow W0.heap.size 70 4 (.slice a j c) j ((recsIdx b (l.take j)).flatMap cellsR) ∧ KS (fun k => k < W0.heap.size ∧ k ≠ w.heap.size + 1 + 1) W0 wr ∧ Hid (∀ k, k ≠ 4 → wr.cell? ⟨w.heap.size + 1 + 1, k, none⟩ = W0.cell? ⟨w.heap.size + 1 + 1, k, none⟩)) (fun i _ => l.length - (intOf i).toNat)
 case atStart => exact ⟨0, none, 0, Nat.zero_le _, rfl, y4, z4, by simpa [recsIdx] using World.ownsRow_nil _ _ _ _, KS.refl _ _, fun _ _ => rfl⟩
 case round =>
  obtain ⟨j, a, c, hj, rfl, h1, h2, hrow, hW, hQ⟩ := hrel
  have hWs := hW.size
  by_cases hlt : j < l.length
  ·obtain ⟨lb, lo, rfl, hlb, e9⟩ := HP.out j hlt
   have hxx := HX.out _ (List.getElem_mem hlt)
   have hsn := recsIdx_snoc b l j hlt (by omega)
   obtain ⟨sb, so, rfl, hsb, e0, e1, e2, e3⟩ := HRR.out l[j].toNat (by omega)
   have hlW := Nat.lt_of_lt_of_le hlb HB0.out.size
   have hsW := Nat.lt_of_lt_of_le hsb HB0.out.size
   have g9 := (hW.cell (x := ⟨lb, lo + j, none⟩) hlW (by simp; omega)).trans ((HB0.out.cell (p := ⟨lb, lo + j, none⟩) hlb).trans e9)
   have gB := (hW.cell (x := ⟨w.heap.size, 4, none⟩) (by simp; omega) (by simp; omega)).trans x4
   have g0 := (hW.cell (x := ⟨sb, so + l[j].toNat * 4, none⟩) hsW (by simp; omega)).trans ((HB0.out.cell (p := ⟨sb, so + l[j].toNat * 4, none⟩) hsb).trans e0)
   have g1 := (hW.cell (x := ⟨sb, so + l[j].toNat * 4 + 1, none⟩) hsW (by simp; omega)).trans ((HB0.out.cell (p := ⟨sb, so + l[j].toNat * 4 + 1, none⟩) hsb).trans e1)
   have g2 := (hW.cell (x := ⟨sb, so + l[j].toNat * 4 + 2, none⟩) hsW (by simp; omega)).trans ((HB0.out.cell (p := ⟨sb, so + l[j].toNat * 4 + 2, none⟩) hsb).trans e2)
   have g3 := (hW.cell (x := ⟨sb, so + l[j].toNat * 4 + 3, none⟩) hsW (by simp; omega)).trans ((HB0.out.cell (p := ⟨sb, so + l[j].toNat * 4 + 3, none⟩) hsb).trans e3)
   generalize b.rs[l[j].toNat] = r at g0 g1 g2 g3 hsn e0 e1 e2 e3
   generalize l[j] = x at g9 g0 g1 g2 g3 hsn hxx e0 e1 e2 e3 e9
   obtain ⟨q, rfl⟩ : ∃ q : Nat, x = q := ⟨x.toNat, by omega⟩
   simp only [Int.toNat_natCast] at g0 g1 g2 g3
   obtain ⟨rk, rA, rb, rm⟩ := r
   simp only at g0 g1 g2 g3
   have HSN := Hh hsn
   have HROW := Hh hrow
   have HW := Hh hW
   have hq1 : (q : Int) < (b.rs.length : Int) := hxx.2
   have hOr : w.heap.size + 1 + 1 < wr.heap.size := by omega
   have hlr : lb < wr.heap.size := by omega
   have hsr : sb < wr.heap.size := by omega
   have hj20 : j ≤ 5 := by omega
   clear e0 e1 e2 e3 e9 hsn hrow hW hxx
   go_wp2
   go_region_law ((refine step_append_lies (w := _) rfl _ _ 24 rfl W0.heap.size 70 i0 (.agg #[.int .i64 0, .int .i64 0, .int .i64 0, .int .i64 0]) 4 32 Tryz.underlying24 hi hz0 hz1 hz2 rfl (by decide) (.slice a j c) j _ rfl (row_keep' HROW.out ((KS.drew (fun _ => True) _).trans (KS.alloc _ _ _)) (fun _ _ => trivial)) ⟨wr.heap.size, 0, none⟩ 1 1 [.int .i64 rk, .int .i64 rA, .int .i64 rb, .int .i64 rm] rfl rfl (cells_new _ _ _) (by simp [Value.oneCell']) (by decide) (by unfold maxLen; omega) (by omega) (by simp; omega) _ rfl ?_; intro g cap w5 hown' hgrow hat hglt; have hks := grow_ks (row_keep' HROW.out ((KS.drew (fun _ => True) wr).trans (KS.alloc _ _ (.cells #[.int .i64 rk, .int .i64 rA, .int .i64 rb, .int .i64 rm] 70))) (fun _ _ => trivial)) hgrow; have q1 := (hks.cell (x := ⟨w.heap.size + 1 + 1, 4, none⟩) (by simp; omega) (by simp; omega)); have q2 := (hks.frozen (x := ⟨w.heap.size + 1 + 1, 4, none⟩) (by simp; omega) (by simp; omega)); rw [World.cell?_alloc_past _ _ _ (by simp; omega), World.cell?_drew, h1] at q1; rw [World.frozen?_alloc_past _ _ _ (by simp; omega), World.frozen?_drew, h2] at q2))
   all_goals
    have h8 : KS (fun k => k < W0.heap.size) wr w5 := ((KS.drew (fun k => k < W0.heap.size) wr).trans (KS.alloc _ _ _)).trans hks
    have h9 : KS (fun k => k ≠ w.heap.size + 1 + 1) w5 (w5.setCell ⟨w.heap.size + 1 + 1, 4, none⟩ (.slice (some ⟨g, 0, none⟩) (j + 1) cap)) := KS.setCell (by simp) _ _
    have H9 := Hh (⟨h8, h9, q1, q2, hown'⟩ : _ ∧ _ ∧ _ ∧ _ ∧ _)
    clear h8 h9 q1 q2 hown' hgrow hat hglt hks
    go_wp2
    go_roundw
    case rel =>
     obtain ⟨h8, h9, q1, q2, hown'⟩ := H9.out
     refine ⟨j + 1, some ⟨g, 0, none⟩, cap, by omega, by go_num, ?_, ?_, ?_, ?_, fun k hk => ?_⟩
     ·exact World.cell?_setCell_same' _ _ _ (by rw [q1]; rfl)
     ·rw [World.frozen?_setCell]; exact q2
     ·rw [HSN.out, List.flatMap_append]
      exact ownsRow_ks hown' h9 (fun k hk => by show k ≠ _; omega)
     ·exact HW.out.trans ((h8.mono fun k _ h => h.1).trans (h9.mono fun k _ h => h.2))
     ·rw [World.cell?_setCell_other (h := fun e => by injection e with _ e _; exact hk e.symm)]
      exact (h8.cell (x := ⟨w.heap.size + 1 + 1, k, none⟩) hOr (by show w.heap.size + 1 + 1 < W0.heap.size; omega)).trans (hQ.out k hk)
    case measure => simp [intOf]; omega
  ·obtain rfl : j = l.length := by omega
   have o : ∀ k, wr.cell? ⟨w.heap.size + 1, k, none⟩ = W0.cell? ⟨w.heap.size + 1, k, none⟩ := fun k => hW.cell (x := ⟨w.heap.size + 1, k, none⟩) (by simp; omega) (by simp; omega)
   have oz : ∀ k, wr.frozen? ⟨w.heap.size + 1, k, none⟩ = false := fun k => (hW.frozen (x := ⟨w.heap.size + 1, k, none⟩) (by simp; omega) (by simp; omega)).trans (HZ.out k)
   have t0 := (o 0).trans (HZC.out 0 _ rfl)
   have t1 := (o 1).trans (HZC.out 1 _ rfl)
   have t2 := (o 2).trans (HZC.out 2 _ rfl)
   have t3 := (o 3).trans (HZC.out 3 _ rfl)
   have t4 := (o 4).trans (HZC.out 4 _ rfl)
   have f0 := oz 0
   have f1 := oz 1
   have f2 := oz 2
   have f3 := oz 3
   have f4 := oz 4
   have p0 := (hQ.out 0 (by omega)).trans (HN.out 0 _ rfl)
   have p1 := (hQ.out 1 (by omega)).trans (HN.out 1 _ rfl)
   have p2 := (hQ.out 2 (by omega)).trans (HN.out 2 _ rfl)
   have p3 := (hQ.out 3 (by omega)).trans (HN.out 3 _ rfl)
   have hOr : w.heap.size + 1 + 1 < wr.heap.size := by omega
   have hLr : w.heap.size + 1 < wr.heap.size := by omega
   have HROW := Hh hrow
   have HW := Hh hW
   have hlen := recsIdx_len b l HX.out l.length (Nat.le_refl _)
   have HLEN := Hh hlen
   clear o oz hQ hrow hW hlen
   go_wp2
   have five := Five.put (r := w.heap.size + 1) (v0 := .int .i64 b.room) (v1 := .int .i64 b.gap) (v2 := .slice ma b.ms.length mc) (v3 := .slice sa b.ss.length sc) (v4 := .slice a l.length c) (w := wr) (by rw [t0]; rfl) (by rw [t1]; rfl) (by rw [t2]; rfl) (by rw [t3]; rfl) (by rw [t4]; rfl) hLr
   obtain ⟨W9, hW9⟩ : ∃ W9, W9 = (((((wr.setCell ⟨w.heap.size + 1, 0, none⟩ (.int .i64 b.room)).setCell ⟨w.heap.size + 1, 1, none⟩ (.int .i64 b.gap)).setCell ⟨w.heap.size + 1, 2, none⟩ (.slice ma b.ms.length mc)).setCell ⟨w.heap.size + 1, 3, none⟩ (.slice sa b.ss.length sc)).setCell ⟨w.heap.size + 1, 4, none⟩ (.slice a l.length c)) := ⟨_, rfl⟩
   have k9 : KS (fun k => k ≠ w.heap.size + 1) wr W9 := by
    rw [hW9]
    exact ((((KS.setCell (by simp) _ _).trans (KS.setCell (by simp) _ _)).trans (KS.setCell (by simp) _ _)).trans (KS.setCell (by simp) _ _)).trans (KS.setCell (by simp) _ _)
   rw [← hW9] at five ⊢
   obtain ⟨c0, c1, c2, c3, c4, _⟩ := five
   have hbw : Below w.heap.size w W9 := (HB0.out.trans ((HW.out.toBelow (n := w.heap.size) (by omega) (fun k hk => by omega)))).trans (k9.toBelow (n := w.heap.size) (by omega) (fun k hk => by omega))
   have hr9 : W9.ownsRow W0.heap.size 70 4 (.slice a l.length c) l.length ((recsIdx b (l.take l.length)).flatMap cellsR) := ownsRow_ks HROW.out k9 (fun k hk => by omega)
   have HBW := Hh hbw
   have HR9 := Hh hr9
   clear hW9 k9 hbw hr9 t0 t1 t2 t3 t4 p0 p1 p2 p3 f0 f1 f2 f3 f4 h1 h2
   refine bodyPost_ret (v := .agg #[.int .i64 b.room, .int .i64 b.gap, .slice ma b.ms.length mc, .slice sa b.ss.length sc, .slice a l.length c]) (by simp [results, Tryz.results26, go_sem, c0, c1, c2, c3, c4]) rfl ⟨a, c, rfl, ?_, HBW.out⟩
   have hB9 := HB.out.below HBW.out
   have e : (recsIdx b l).length = l.length := by have := HLEN.out; rwa [List.take_length] at this
   have hrr := recs_of_row HR9.out
   rw [List.take_length] at hrr
   exact ⟨hB9.room, hB9.gap, hB9.ms, hB9.ss, a, c, by rw [← e]; rfl, hrr, by show (recsIdx b l).length ≤ 1000000; omega⟩
end
section
variable {b : Bk} {vr vg vm vs vc : Value} {w : World}
theorem clash_none (hB : BookAt w b vr vg vm vs vc) (hN : ∀ m ∈ b.ms, m.name.size ≤ 1000000) (hK : KindsAt w) (hk : bookAl b = 0) (hp : pasts b ≠ []) :
 Calls Tryz.prog 23 #[.agg #[vr, vg, vm, vs, vc]] w fun e w' => e = .returned (.tuple #[.slice none 0 0, .int .i64 0]) ∧ Below w.heap.size w w' := by
 have HB := Hh hB
 have HN := Hh hN
 have HK := Hh hK
 have hbo := (bookAl_ok hk).1
 have HO := Hh hbo
 have HRR := Hh (bookAl_ok hk).2
 have HBA := Hh hk
 have hpos : 0 < (pasts b).length := List.length_pos_iff.2 hp
 have hple := pasts_le hbo
 obtain ⟨rfl, rfl, ⟨ma, mc, rfl, _, _⟩, ⟨sa, sc, rfl, _, _⟩, ra, rc, rfl, _, _⟩ := id hB
 clear hB hN hK hk hp hbo
 go_enter Tryz.func23, Tryz.ntmps23
 go_wp2
 go_step3
 go_wp2_with (first
  | (go_at_call 72; (with_reducible refine (checkBook_at (HB.out.below (bel)) HN.out (HK.out.below (bel)) HBA.out).mono ?_); rintro e w3 ⟨rfl, hb3⟩; obtain ⟨hc3, hf3⟩ := bcell hb3; have hz3 := hb3.size; (try simp at hz3))
  | (go_at_call 73; (with_reducible refine (all_at (HB.out.below (bel)) (HK.out.below (bel)) HO.out HRR.out).mono ?_); rintro e w4 ⟨v4, rfl, hr4, hb4⟩; obtain ⟨a4, c4, rfl⟩ := ownsRow_slice hr4; clear hr4; obtain ⟨hc4, hf4⟩ := bcell hb4; have hz4 := hb4.size; (try simp at hz4)))
 try rw [Exit.noGoto_ret]
 exact bodyPost_ret (v := .tuple #[.slice none 0 0, .int .i64 0]) (by simp [results, Tryz.results23, go_sem, *]) rfl ⟨rfl, bel⟩
def clashQ (b : Bk) : List Int := if pasts b = [] then clashI b else []
theorem clash2_at (hB : BookAt w b vr vg vm vs vc) (hN : ∀ m ∈ b.ms, m.name.size ≤ 1000000) (hK : KindsAt w) (hk : bookAl b = 0) (hR : b.rs.length ≤ 5) {q : List Int} (hq : clashQ b = q) :
 Calls Tryz.prog 23 #[.agg #[vr, vg, vm, vs, vc]] w fun e w' => ∃ a c, e = .returned (.tuple #[.slice a q.length c, .int .i64 0]) ∧ IntsAt w' a q ∧ Below w.heap.size w w' := by
 subst hq
 unfold clashQ
 by_cases hp : pasts b = []
 ·rw [if_pos hp]
  exact clash_ok hB hN hK hk hp hR
 ·rw [if_neg hp]
  refine (clash_none hB hN hK hk hp).mono ?_
  rintro e w' ⟨rfl, hb⟩
  exact ⟨none, 0, rfl, ints_nil, hb⟩
end
end Go.Proofs.YtgemjjdkjmpmlaaGreatDoor
