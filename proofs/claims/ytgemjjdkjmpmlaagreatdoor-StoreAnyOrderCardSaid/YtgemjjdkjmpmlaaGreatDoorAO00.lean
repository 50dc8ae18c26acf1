/- Leads to StoreAnyOrder of chapter 6: G1 G3 Law G8 G7 AO1 Ord AO2. -/
import Derived.Test.YtgemjjdkjmpmlaaGreatDoorBase
set_option maxHeartbeats 4000000
set_option maxRecDepth 100000
set_option linter.all false
namespace Go.Proofs.YtgemjjdkjmpmlaaGreatDoor
open Go.RowKit Sp
def turnR (n : Nat) (r : Rec) : Rec := if r.k = 4 ∨ r.k = 5 then r else { r with a := (n : Int) - 1 - r.a }
def turnB (b : Bk) : Bk := { b with ss := b.ss.reverse, rs := b.rs.reverse.map (turnR b.ss.length) }
theorem goP_ms {b b' : Bk} (h : b.ms = b'.ms) : ∀ (l seen : List Prt), goP b seen l = goP b' seen l
 | [], _ => rfl
 | p :: l, seen => by
  have hp : isPart b p = isPart b' p := by unfold isPart; rw [h]
  unfold goP
  rw [hp, goP_ms h l]
theorem goS_zero {b : Bk} : ∀ {l : List (List Prt)}, (∀ s ∈ l, s.length ≤ 5 ∧ goP b [] s = 0) → goS b l = 0
 | [], _ => rfl
 | s :: l, h => by
  obtain ⟨h1, h2⟩ := h s (List.mem_cons_self ..)
  unfold goS
  rw [if_neg (by omega), if_neg (by simp [h2])]
  exact goS_zero fun s hs => h s (List.mem_cons_of_mem _ hs)
theorem goR_zero {b : Bk} : ∀ {l : List Rec}, (∀ r ∈ l, recAl b r = 0) → goR b l = 0
 | [], _ => rfl
 | s :: l, h => by
  unfold goR
  rw [if_neg (by simp [h s (List.mem_cons_self ..)])]
  exact goR_zero fun s hs => h s (List.mem_cons_of_mem _ hs)
theorem isPart_turn (b : Bk) (p : Prt) : isPart (turnB b) p = isPart b p := rfl
theorem turn_at {α : Type} {l : List α} {a : Int} (h0 : 0 ≤ a) (h1 : a ≤ (l.length : Int) - 1) : l.reverse[((l.length : Int) - 1 - a).toNat]? = l[a.toNat]? := by
 rw [List.getElem?_reverse (by omega)]
 congr 1
 omega
theorem recAl_kind {b : Bk} {r : Rec} (h : recAl b r = 0) : 0 ≤ r.k ∧ r.k ≤ 5 := by
 unfold recAl at h
 split at h
 ·cases h
 ·rename_i hk
  simpa [inB] using hk
theorem recAl_a {b : Bk} {r : Rec} (h : recAl b r = 0) (hk : r.k ≤ 3) : 0 ≤ r.a ∧ r.a ≤ (b.ss.length : Int) - 1 := by
 unfold recAl at h
 split at h
 ·cases h
 ·split at h
  ·cases h
  ·split at h
   ·cases h
   ·rename_i hm
    unfold most at hm
    rw [if_pos hk] at hm
    split at hm
    ·rename_i hi; simpa [inB] using hi
    ·cases hm
theorem recAl_turn {b : Bk} {r : Rec} (h : recAl b r = 0) : recAl (turnB b) (turnR b.ss.length r) = 0 := by
 by_cases hk : r.k = 4 ∨ r.k = 5
 ·have e : turnR b.ss.length r = r := if_pos hk
  rw [e, ← h]
  unfold recAl most
  have h3 : ¬ r.k ≤ 3 := by omega
  simp only [if_neg h3, isPart_turn]
  simp only [turnB, List.length_reverse]
  rfl
 ·have hkk := recAl_kind h
  have h3 : r.k ≤ 3 := by omega
  have ha := recAl_a h h3
  have e : turnR b.ss.length r = { r with a := (b.ss.length : Int) - 1 - r.a } := if_neg hk
  rw [e, ← h]
  have hi : inB ((b.ss.length : Int) - 1 - r.a) 0 ((b.ss.length : Int) - 1) = inB r.a 0 ((b.ss.length : Int) - 1) := by unfold inB; rw [decide_eq_decide]; omega
  unfold recAl most
  simp only [if_pos h3, turnB, List.length_reverse, turn_at ha.1 ha.2, hi]
theorem bookAl_turn {b : Bk} (h : bookAl b = 0) : bookAl (turnB b) = 0 := by
 obtain ⟨h0, h1, h2, h3⟩ := bookAl_parts h
 have h2' : sessAl (turnB b) = 0 := by
  unfold sessAl at h2 ⊢
  split at h2
  ·cases h2
  ·rename_i hl
   rw [if_neg (by simpa [turnB] using hl)]
   refine goS_zero fun s hs => ?_
   obtain ⟨k1, k2⟩ := goS_ok _ h2 s (by simpa [turnB] using hs)
   exact ⟨k1, (goP_ms (b := turnB b) (b' := b) rfl s []).trans k2⟩
 have h3' : recsAl (turnB b) = 0 := by
  unfold recsAl at h3 ⊢
  split at h3
  ·cases h3
  ·rename_i hl
   rw [if_neg (by simpa [turnB] using hl)]
   refine goR_zero fun r hr => ?_
   simp only [turnB, List.mem_map, List.mem_reverse] at hr
   obtain ⟨r0, hr0, rfl⟩ := hr
   exact recAl_turn (goR_ok _ h3 r0 hr0)
 unfold bookAl
 rw [show numbersAl (turnB b) = 0 from h0, show msgsAl (turnB b) = 0 from h1, h2', h3']
 rfl
theorem copies_turn (b : Bk) (c : List Int) (p : Prt) (h : c.length = b.ss.length) : copies (turnB b) c.reverse p = copies b c p := by
 unfold copies turnB
 have : b.ss.reverse.zip c.reverse = (b.ss.zip c).reverse := by
  rw [List.zip_eq_zipWith, List.zip_eq_zipWith, ← List.reverse_zipWith h.symm]
 simp only [this, List.map_reverse, List.sum_reverse]
theorem haveOf_turn (b : Bk) (c : List Int) (m : Int) (h : c.length = b.ss.length) : haveOf (turnB b) c.reverse m = haveOf b c m := by
 unfold haveOf
 simp only [copies_turn b c _ h]
 rfl
theorem getD_turn {c : List Int} {a : Int} (h0 : 0 ≤ a) (h1 : a ≤ (c.length : Int) - 1) : c.reverse.getD ((c.length : Int) - 1 - a).toNat 0 = c.getD a.toNat 0 := by
 rw [List.getD_eq_getElem?_getD, List.getD_eq_getElem?_getD, turn_at h0 h1]
theorem rightR_turn {b : Bk} {c : List Int} {r : Rec} (hc : c.length = b.ss.length) (h : recAl b r = 0) : rightR (turnB b) c.reverse (turnR b.ss.length r) = rightR b c r := by
 have hkk := recAl_kind h
 by_cases hk : r.k = 4 ∨ r.k = 5
 ·rw [show turnR b.ss.length r = r from if_pos hk]
  unfold rightR
  rcases hk with e | e <;> simp [e, copies_turn b c _ hc, haveOf_turn b c _ hc]
 ·have h3 : r.k ≤ 3 := by omega
  have ha := recAl_a h h3
  have hg := getD_turn (c := c) ha.1 (by rw [hc]; exact ha.2)
  have ht := turn_at (l := b.ss) ha.1 ha.2
  rw [hc] at hg
  rw [show turnR b.ss.length r = { r with a := (b.ss.length : Int) - 1 - r.a } from if_neg hk]
  unfold rightR
  simp only [turnB, hg, ht]
  rw [if_neg (show ¬ r.k = 4 by omega), if_neg (show ¬ r.k = 4 by omega)]
  repeat' (first | rfl | (split; rfl))
  omega
theorem right_turn {b : Bk} (hb : bookAl b = 0) {c : List Int} (hc : c.length = b.ss.length) : right (turnB b) c.reverse = right b c := by
 unfold right
 simp only [show (turnB b).rs = b.rs.reverse.map (turnR b.ss.length) from rfl, List.all_map, List.all_reverse]
 have hr := (bookAl_ok hb).2
 generalize b.rs = l at hr
 induction l with
 | nil => rfl
 | cons r l ih =>
  simp only [List.all_cons, Function.comp]
  rw [rightR_turn hc (hr r (List.mem_cons_self ..))]
  congr 1
  exact ih fun r h => hr r (List.mem_cons_of_mem _ h)
theorem pasts_turn1 {b : Bk} (hb : bookAl b = 0) {x : List Int} (h : x ∈ pasts b) : x.reverse ∈ pasts (turnB b) := by
 obtain ⟨h1, h2, h3⟩ := mem_pasts.1 h
 refine mem_pasts.2 ⟨by simpa [turnB] using h1, fun i hi => ?_, by rw [right_turn hb h1]; exact h3⟩
 have hi' : i < x.length := by simpa using hi
 obtain ⟨k1, k2, k3⟩ := h2 (x.length - 1 - i) (by omega)
 rw [List.getElem_reverse]
 refine ⟨k1, by simp [turnB]; omega, ?_⟩
 simp only [turnB, List.getElem_reverse]
 simpa [h1] using k3
theorem pasts_turn {b : Bk} (hb : bookAl b = 0) {x : List Int} : x ∈ pasts (turnB b) ↔ x.reverse ∈ pasts b := by
 constructor
 ·intro h
  obtain ⟨h1, h2, h3⟩ := mem_pasts.1 h
  have hl : x.length = b.ss.length := by simpa [turnB] using h1
  refine mem_pasts.2 ⟨by simpa using hl, fun i hi => ?_, ?_⟩
  ·have hi' : i < x.length := by simpa using hi
   obtain ⟨k1, k2, k3⟩ := h2 (x.length - 1 - i) (by omega)
   rw [List.getElem_reverse]
   refine ⟨k1, by omega, ?_⟩
   simp only [turnB, List.getElem_reverse] at k3
   have e : b.ss.length - 1 - (x.length - 1 - i) = i := by omega
   simpa [e] using k3
  ·rw [← right_turn hb (c := x.reverse) (by simpa using hl), List.reverse_reverse]; exact h3
 ·intro h
  have := pasts_turn1 hb h
  rwa [List.reverse_reverse] at this
theorem pastsFrom_nodup (b : Bk) : ∀ (l : List (List Prt)) (pre : List Int), (pastsFrom b pre l).Nodup
 | [], pre => by
  unfold pastsFrom
  split <;> simp
 | s :: l, pre => by
  unfold pastsFrom List.Nodup
  rw [List.pairwise_flatMap]
  refine ⟨fun a _ => pastsFrom_nodup b l _, ?_⟩
  refine (List.pairwise_lt_range).imp fun {a c} hlt x hx y hy e => ?_
  subst e
  obtain ⟨s1, e1, _⟩ := (mem_pastsFrom _ _ _).1 hx
  obtain ⟨s2, e2, _⟩ := (mem_pastsFrom _ _ _).1 hy
  rw [e1, List.append_assoc, List.append_assoc, List.append_cancel_left_eq] at e2
  simp at e2
  omega
theorem pasts_perm {b : Bk} (hb : bookAl b = 0) : (pasts (turnB b)).Perm ((pasts b).map List.reverse) := by
 refine (List.perm_ext_iff_of_nodup (pastsFrom_nodup _ _ _) ?_).2 fun x => ?_
 ·unfold List.Nodup
  rw [List.pairwise_map]
  exact (pastsFrom_nodup b b.ss []).imp fun {x y} h e => h (by have := congrArg List.reverse e; simpa using this)
 ·refine (pasts_turn hb).trans ?_
  rw [List.mem_map]
  constructor
  ·intro h; exact ⟨_, h, List.reverse_reverse _⟩
  ·rintro ⟨y, hy, rfl⟩; rwa [List.reverse_reverse]
theorem pasts_len {b : Bk} (hb : bookAl b = 0) : (pasts (turnB b)).length = (pasts b).length := by
 rw [(pasts_perm hb).length_eq, List.length_map]
theorem openAl_turn {b : Bk} (hb : bookAl b = 0) (al : Int) : openAl (turnB b) al = openAl b al := by
 unfold openAl
 rw [bookAl_turn hb, hb]
 have : pasts (turnB b) = [] ↔ pasts b = [] := by rw [← List.length_eq_zero_iff, ← List.length_eq_zero_iff, pasts_len hb]
 simp only [this]
theorem throughAl_turn {b : Bk} (hb : bookAl b = 0) {s : Int} (h0 : 0 ≤ s) (h1 : s ≤ (b.ss.length : Int) - 1) : throughAl (turnB b) ((b.ss.length : Int) - 1 - s) = throughAl b s := by
 unfold throughAl
 rw [openAl_turn hb]
 congr 1
 unfold throughAsk
 have : inB ((b.ss.length : Int) - 1 - s) 0 (((turnB b).ss.length : Int) - 1) = inB s 0 ((b.ss.length : Int) - 1) := by
  simp only [turnB, List.length_reverse]
  unfold inB; rw [decide_eq_decide]; omega
 rw [this]
theorem mem_through {b : Bk} {s x : Int} : x ∈ throughI b s ↔ ∃ p ∈ pasts b, p.getD s.toNat 0 = x := by
 unfold throughI
 rw [mem_compact (sortI_sorted _)]
 unfold sortI
 rw [List.mem_mergeSort, List.mem_map]
theorem throughI_turn {b : Bk} (hb : bookAl b = 0) {s : Int} (h0 : 0 ≤ s) (h1 : s ≤ (b.ss.length : Int) - 1) : throughI (turnB b) ((b.ss.length : Int) - 1 - s) = throughI b s := by
 refine sorted_ext (compact_part (sortI_sorted _) _ (Nat.le_refl _)).1 (compact_part (sortI_sorted _) _ (Nat.le_refl _)).1 fun x => ?_
 show x ∈ throughI (turnB b) ((b.ss.length : Int) - 1 - s) ↔ x ∈ throughI b s
 rw [mem_through, mem_through]
 constructor
 ·rintro ⟨p, hp, rfl⟩
  have hq := (pasts_turn hb).1 hp
  refine ⟨_, hq, ?_⟩
  have hl := (mem_pasts.1 hq).1
  have := getD_turn (c := p.reverse) h0 (by rw [hl]; exact h1)
  rw [List.reverse_reverse, hl] at this
  exact this.symm
 ·rintro ⟨p, hp, rfl⟩
  refine ⟨_, pasts_turn1 hb hp, ?_⟩
  have hl := (mem_pasts.1 hp).1
  have := getD_turn (c := p) h0 (by rw [hl]; exact h1)
  rw [hl] at this
  exact this
theorem missI_turn {b : Bk} (hb : bookAl b = 0) : missI (turnB b) = missI b := by
 unfold missI missL
 rw [show partsL (turnB b) = partsL b from rfl]
 refine List.filter_congr fun p _ => ?_
 unfold isMiss
 rw [pasts_len hb]
 have h : countI (oftenI (turnB b) (pasts (turnB b)) p) 1 = countI (oftenI b (pasts b) p) 1 := by
  unfold countI
  rw [← List.countP_eq_length_filter, ← List.countP_eq_length_filter]
  congr 1
  unfold oftenI
  rw [List.countP_map, List.countP_map, (pasts_perm hb).countP_eq, List.countP_map]
  refine List.countP_congr fun x hx => ?_
  simp only [Function.comp, copies_turn b x p (mem_pasts.1 hx).1]
 rw [h]
theorem recs_len {b : Bk} (h : bookAl b = 0) : b.rs.length ≤ 5 := by
 obtain ⟨_, _, _, h3⟩ := bookAl_parts h
 unfold recsAl at h3
 split at h3
 ·cases h3
 ·omega
end Go.Proofs.YtgemjjdkjmpmlaaGreatDoor
namespace Go.Proofs.YtgemjjdkjmpmlaaGreatDoor
open Go.RowKit Sp Mt Go.Conc
section
variable {P : Program} {b : Frame} {a : Act} {w : World} {k : List Item} {cs : List Frame} {K : Frame → List Frame → World → Prop}
theorem Twin.refl0 (w : World) : Twin 0 w w := ⟨rfl, rfl, rfl, fun _ => rfl, fun _ => rfl, fun _ _ => rfl⟩
theorem Twin.at0 {w w1 : World} (h : Twin 0 w w1) (d : Nat) : Twin 0 w (w1.at d) := ⟨h.os, h.output, h.size, h.cell, h.frozen, h.block⟩
theorem Twin.old0 {w w1 w2 : World} (h : Twin 0 w w1) (k : Old w1 w2) : Old w w2 := ⟨k.os.trans h.os, k.output.trans h.output, by rw [← h.size]; exact k.size, fun i hi => (k.block i (by rw [h.size]; exact hi)).trans (h.block i (Nat.zero_le _))⟩
def LeadsA (P : Program) (K : Frame → List Frame → World → Prop) (fr : Frame) (cs : List Frame) (w : World) : Prop := ∀ w', Twin 0 w w' → Leads P K fr cs w'
theorem LeadsA.here {fr : Frame} (h : LeadsA P K fr cs w) : Leads P K fr cs w := h w (Twin.refl0 w)
theorem all_region {id : Nat} {ops : Array Oper} (h : LeadsA P K (b.at a (.inRegion ops (List.range ops.size) :: k)) cs w) : LeadsA P K (b.at a (.code (.region id ops false) :: k)) cs w := fun _ t => leads_region fun d => h _ (t.at0 d)
theorem all_end {ops : Array Oper} (h : LeadsA P K (b.at a k) cs w) : LeadsA P K (b.at a (.inRegion ops [] :: k)) cs w := fun _ t => leads_inRegion fun d => h _ (t.at0 d)
theorem all_seq {x y : Code} (h : LeadsA P K (b.at a (.code x :: .code y :: k)) cs w) : LeadsA P K (b.at a (.code (.seq x y) :: k)) cs w := fun _ t => leads_seq fun d => h _ (t.at0 d)
theorem all_ret (h : LeadsA P K { b.at a (.code .ret :: k) with mode := .returning } cs w) : LeadsA P K (b.at a (.code .ret :: k)) cs w := fun _ t => leads_ret fun d => h _ (t.at0 d)
theorem all_op {ops : Array Oper} {i : Nat} {rest : List Nat} (v : Value) (hb : b.kind = .normal) {o : Oper} (ho : ops[i]? = some o) (hw : Region.wanted o (yielded ops a.tmps) = true)
 (hr : ∀ w', (execOp a.eval o).run P w' = .ok (.value v) w') (he : ∀ w', (execOp a.eval o).events P w' #[] = #[])
 (h : LeadsA P K (b.at (a.put o.dst v) (.inRegion ops rest :: k)) cs w) : LeadsA P K (b.at a (.inRegion ops (i :: rest) :: k)) cs w := fun _ t =>
 leads_op v hb ho hw (fun d => hr _) (fun d e hm => by rw [he] at hm; simp at hm) fun d => h _ (t.at0 d)
theorem all_call {ops : Array Oper} {i : Nat} {rest : List Nat} (f : FuncId) (args : Array Value) (hb : b.kind = .normal) {o : Oper} (ho : ops[i]? = some o) (hw : Region.wanted o (yielded ops a.tmps) = true)
 (hr : ∀ w', (execOp a.eval o).run P w' = .ok (.enter f args) w') (he : ∀ w', (execOp a.eval o).events P w' #[] = #[]) {Z : Value → World → Prop}
 (hc : ∀ (c : Frame) (w' : World), Twin 0 w w' → Leads P (fun fr' cs' w1 => ∃ v, fr' = c.finish v ∧ cs' = cs ∧ Z v w1) (Frame.enter P f args .normal) (c :: cs) w')
 (h : ∀ v w1, Z v w1 → LeadsA P K (b.at (a.put o.dst v) (.inRegion ops rest :: k)) cs w1) : LeadsA P K (b.at a (.inRegion ops (i :: rest) :: k)) cs w := fun w' t =>
 leads_call hb ho hw (fun d => hr _) (fun d => he _) (fun d => hc _ _ (t.at0 d)) fun v w1 hz => (h v w1 hz).here
end
section
variable {w : World} {cs : List Frame} {c : Frame}
theorem lone_call {f : FuncId} {args : Array Value} {v : Value} {w' : World} (t : Twin 0 w w') (h : ∀ W, Twin w.heap.size w W → Calls Tryz.prog f args W fun e w2 => e = .returned v ∧ Below W.heap.size W w2) :
 Leads Tryz.prog (fun fr' cs' w1 => ∃ v', fr' = c.finish v' ∧ cs' = cs ∧ v' = v ∧ Old w w1) (Frame.enter Tryz.prog f args .normal) (c :: cs) w' := by
 refine (calls_co (Z := fun v' _ => v' = v) (fun _ _ _ _ h => h) fun W hW => ?_).mono ?_
 ·refine (h W ⟨hW.os.trans t.os, hW.output.trans t.output, hW.size.trans t.size, fun a => (hW.cell a).trans (t.cell a), fun a => (hW.frozen a).trans (t.frozen a), fun k hk => (hW.block k (by rw [t.size]; exact hk)).trans (t.block k (Nat.zero_le _))⟩).mono ?_
  rintro e w2 ⟨rfl, hb⟩
  exact ⟨_, rfl, rfl, hb⟩
 ·rintro fr' cs' w1 ⟨v', h1, h2, h3, ho⟩
  exact ⟨v', h1, h2, h3, t.old0 ho⟩
end
theorem wps_cons {P : Program} {c : Code} {l : List Code} {Q : Act → World → Prop} {a : Act} {w : World} (h : c.wp P (fun e a' w' => e = .normal ∧ a'.defers = [] ∧ ∀ X, Twin 0 w' X → wps P l Q a' X) a w) : wps P (c :: l) Q a w :=
 Code.wp_mono (fun _ _ _ ⟨h1, h2, h3⟩ => ⟨h1, h2, fun _ => h3 _ ⟨rfl, rfl, rfl, fun _ => rfl, fun _ => rfl, fun _ _ => rfl⟩⟩) h
theorem Twin.five {n : Nat} {w w1 : World} (h : Twin n w w1) {r : Nat} {v0 v1 v2 v3 v4 : Value} (k : Five w r v0 v1 v2 v3 v4) : Five w1 r v0 v1 v2 v3 v4 := ⟨(h.cell _).trans k.c0, (h.cell _).trans k.c1, (h.cell _).trans k.c2, (h.cell _).trans k.c3, (h.cell _).trans k.c4, by rw [h.size]; exact k.lt⟩
theorem Old.twin0 {w w1 X : World} (h : Old w w1) (t : Twin 0 w1 X) : Old w X := ⟨t.os.trans h.os, t.output.trans h.output, by rw [t.size]; exact h.size, fun k hk => (t.block k (Nat.zero_le _)).trans (h.block k hk)⟩
theorem Old.ofBelow {w w1 : World} (h : Below w.heap.size w w1) : Old w w1 := ⟨h.os, h.output, h.size, h.block⟩
theorem Old.ks {w A B : World} {O : Nat} (h : Old w A) (hO : w.heap.size ≤ O) (hk : KS (fun k => k < A.heap.size ∧ k ≠ O) A B) : Old w B := ⟨hk.os.trans h.os, hk.output.trans h.output, Nat.le_trans h.size hk.size, fun k hkl => (hk.block k (Nat.lt_of_lt_of_le hkl h.size) ⟨Nat.lt_of_lt_of_le hkl h.size, by omega⟩).trans (h.block k hkl)⟩
theorem row_twin {A B : World} {base e size m : Nat} {v : Value} {xs : List Value} (h : A.ownsRow base e size v m xs) (t : Twin 0 A B) : B.ownsRow base e size v m xs := by
 obtain ⟨h1, h2 | ⟨g, cap, cur, e1, e2, e3, e4⟩⟩ := h
 ·exact ⟨h1, .inl h2⟩
 ·exact ⟨h1, .inr ⟨g, cap, cur, e1, e2, (t.block g (Nat.zero_le _)).trans e3, e4⟩⟩
def NQ (R : Act → World → Prop) : Exit → Act → World → Prop
 | .normal, a, w => R a w
 | _, _, _ => False
theorem wps_nq {P : Program} {c : Code} {l : List Code} {Q : Act → World → Prop} {a : Act} {w : World} (h : c.wp P (NQ fun a' w' => a'.defers = [] ∧ ∀ X, Twin 0 w' X → wps P l Q a' X) a w) : wps P (c :: l) Q a w := by
 refine wps_cons (Code.wp_mono (fun e a' w' hq => ?_) h)
 cases e <;> first | exact ⟨rfl, hq.1, hq.2⟩ | exact hq.elim
section
variable {P : Program} {b : Frame} {a : Act} {w : World} {k : List Item} {cs : List Frame} {K : Frame → List Frame → World → Prop}
theorem put_at {a : Act} {j : Nat} {v : Value} (h : j < a.tmps.size) : (a.put (some j) v).tmps[j]? = some v := by
 show (a.tmps.setIfInBounds j v)[j]? = some v
 simp [h]
theorem put_keep {a : Act} {j i : Nat} {v : Value} (hne : i ≠ j) : (a.put (some j) v).tmps[i]? = a.tmps[i]? := by
 show (a.tmps.setIfInBounds j v)[i]? = a.tmps[i]?
 rw [Array.getElem?_setIfInBounds_ne (by omega)]
theorem all_step {ops : Array Oper} {i n j : Nat} {rest : List Nat} (v : Value) (hb : b.kind = .normal) {o : Oper} (ho : ops[i]? = some o) (hd : o.dst = some j) (hw : Region.wanted o (yielded ops a.tmps) = true)
 (hr : ∀ w', (execOp a.eval o).run P w' = .ok (.value v) w') (he : ∀ w', (execOp a.eval o).events P w' #[] = #[]) (hn : a.tmps.size = n) (hdf : a.defers = []) (hj : j < n)
 (h : ∀ a1 : Act, a1.tmps.size = n → a1.defers = [] → a1.tmps[j]? = some v → (∀ i, i ≠ j → a1.tmps[i]? = a.tmps[i]?) → LeadsA P K (b.at a1 (.inRegion ops rest :: k)) cs w) : LeadsA P K (b.at a (.inRegion ops (i :: rest) :: k)) cs w := by
 refine all_op v hb ho hw hr he ?_
 rw [hd]
 exact h _ ((Array.size_setIfInBounds).trans hn) hdf (put_at (by omega)) fun i hi => put_keep hi
theorem all_stepc {ops : Array Oper} {i n j : Nat} {rest : List Nat} (f : FuncId) (args : Array Value) (hb : b.kind = .normal) {o : Oper} (ho : ops[i]? = some o) (hd : o.dst = some j) (hw : Region.wanted o (yielded ops a.tmps) = true)
 (hr : ∀ w', (execOp a.eval o).run P w' = .ok (.enter f args) w') (he : ∀ w', (execOp a.eval o).events P w' #[] = #[]) (hn : a.tmps.size = n) (hdf : a.defers = []) (hj : j < n) {v : Value}
 (hc : ∀ (c : Frame) (w' : World), Twin 0 w w' → Leads P (fun fr' cs' w1 => ∃ v', fr' = c.finish v' ∧ cs' = cs ∧ v' = v ∧ Old w w1) (Frame.enter P f args .normal) (c :: cs) w')
 (h : ∀ (a1 : Act) (w1 : World), Old w w1 → a1.tmps.size = n → a1.defers = [] → a1.tmps[j]? = some v → (∀ i, i ≠ j → a1.tmps[i]? = a.tmps[i]?) → LeadsA P K (b.at a1 (.inRegion ops rest :: k)) cs w1) : LeadsA P K (b.at a (.inRegion ops (i :: rest) :: k)) cs w := by
 refine all_call f args hb ho hw hr he (Z := fun v' w1 => v' = v ∧ Old w w1) hc ?_
 rintro v' w1 ⟨rfl, ho1⟩
 rw [hd]
 exact h _ _ ho1 ((Array.size_setIfInBounds).trans hn) hdf (put_at (by omega)) fun i hi => put_keep hi
theorem wanted_g {o ok : Oper} {ops : Array Oper} {tmps : Array Value} {m j : Nat} {want : Bool} (hg : o.guard = some (m, want)) (hk : ops[m]? = some ok) (hd : ok.dst = some j) (hA : tmps[j]? = some (.bool want)) : Region.wanted o (yielded ops tmps) = true := by
 unfold Region.wanted yielded
 rw [hg]
 simp [hk, hd, hA]
end
end Go.Proofs.YtgemjjdkjmpmlaaGreatDoor
namespace Go.Proofs.YtgemjjdkjmpmlaaGreatDoor
open Go.RowKit Go.Maps Sp
def SesV (w : World) (vs : List Value) (l : List (List Prt)) : Prop := vs.length = l.length ∧ ∀ (i : Nat) (v : Value) (s : List Prt), vs[i]? = some v → l[i]? = some s → ∃ pa pc, v = .slice pa s.length pc ∧ s.length ≤ pc ∧ s.length ≤ 1000000 ∧ PartsAt w pa s
section
variable {w w' : World}
theorem SesV.nil (w : World) : SesV w [] [] := ⟨rfl, fun i v l h => by simp at h⟩
theorem SesV.snoc {vs : List Value} {l : List (List Prt)} (h : SesV w vs l) {s : List Prt} {pa : Option Addr} {pc : Nat} (h1 : s.length ≤ pc) (h2 : s.length ≤ 1000000) (h3 : PartsAt w pa s) : SesV w (vs ++ [.slice pa s.length pc]) (l ++ [s]) := by
 refine ⟨by simp [h.1], fun i v t hv ht => ?_⟩
 by_cases hi : i < vs.length
 ·rw [List.getElem?_append_left hi] at hv
  rw [List.getElem?_append_left (by rw [← h.1]; exact hi)] at ht
  exact h.2 i v t hv ht
 ·rw [List.getElem?_append_right (by omega)] at hv
  rw [List.getElem?_append_right (by rw [← h.1]; omega), ← h.1] at ht
  cases hk : i - vs.length with
  | zero =>
   rw [hk] at hv ht
   simp only [List.getElem?_cons_zero, Option.some.injEq] at hv ht
   subst hv ht
   exact ⟨pa, pc, rfl, h1, h2, h3⟩
  | succ k => rw [hk] at hv; simp at hv
theorem rev_snoc {α : Type} (l : List α) (j : Nat) (h : j < l.length) : l.reverse.take (j + 1) = l.reverse.take j ++ [l[l.length - 1 - j]'(by omega)] := by
 rw [List.take_succ_eq_append_getElem (by simpa using h), List.getElem_reverse]
end
end Go.Proofs.YtgemjjdkjmpmlaaGreatDoor
namespace Go.Proofs.YtgemjjdkjmpmlaaGreatDoor
open Go.RowKit Go.Maps Sp Mt
section
variable {b : Bk}
theorem histN_turn (hb : bookAl b = 0) : histN (turnB b) = histN b := by unfold histN; rw [bookAl_turn hb, hb, pasts_len hb]
theorem thr_turn (hb : bookAl b = 0) {s : Int} (h0 : 0 ≤ s) (h1 : s ≤ (b.ss.length : Int) - 1) : thr (turnB b) ((b.ss.length : Int) - 1 - s) = thr b s := by
 have e := throughAl_turn hb h0 h1
 unfold thr
 rw [e]
 by_cases h : throughAl b s = 0
 ·rw [if_pos h, if_pos h, ← through_same h, ← through_same (e.trans h), throughI_turn hb h0 h1]
 ·rw [if_neg h, if_neg h]
theorem miss_turn (hb : bookAl b = 0) : miss (turnB b) = miss b := by
 unfold miss
 rw [openAl_turn hb, missI_turn hb]
theorem small_turn (h : SmallB b) : SmallB (turnB b) := by
 obtain ⟨h1, h2, h3, h4, h5⟩ := h
 refine ⟨h1, by simpa [turnB] using h2, by simpa [turnB] using h3, h4, fun s hs => h5 s (by simpa [turnB] using hs)⟩
end
section
variable {w w' : World}
theorem sess_of_row {base e n c : Nat} {a : Option Addr} {vs : List Value} {l : List (List Prt)} (h : w'.ownsRow base e 1 (.slice a n c) n vs) (k : SesV w vs l) (hb : Old w w') : SessAt w' a l := fun i hi => by
 have hv : i < vs.length := by rw [k.1]; exact hi
 obtain ⟨g, rfl, _, h2, h3⟩ := row_cell h i hv
 obtain ⟨pa, pc, e, h4, h5, h6⟩ := k.2 i vs[i] l[i] (List.getElem?_eq_getElem hv) (List.getElem?_eq_getElem hi)
 exact ⟨g, 0, rfl, h2, pa, pc, by rw [Nat.zero_add, h3, List.getElem?_eq_getElem hv, e], h4, h5, hb.parts h6⟩
theorem book_turn {b : Bk} {vr vg vm vs vc : Value} (hB : BookAt w b vr vg vm vs vc) (hb : Old w w') {B1 B2 e1 sc rc : Nat} {sa ra : Option Addr} {ws : List Value} (hs : w'.ownsRow B1 e1 1 (.slice sa b.ss.length sc) b.ss.length ws) (k : SesV w ws b.ss.reverse)
 (hr : w'.ownsRow B2 70 4 (.slice ra b.rs.length rc) b.rs.length ((b.rs.reverse.map (turnR b.ss.length)).flatMap cellsR)) : BookAt w' (turnB b) vr vg vm (.slice sa b.ss.length sc) (.slice ra b.rs.length rc) := by
 have hB' := hb.book hB
 obtain ⟨h1, h2, h3, ⟨_, _, _, _, h4⟩, _, _, _, _, h5⟩ := hB'
 refine ⟨h1, h2, h3, ⟨sa, sc, by simp [turnB], sess_of_row hs k hb, by simpa [turnB] using h4⟩, ra, rc, by simp [turnB], recs_of_row hr, by simpa [turnB] using h5⟩
end
end Go.Proofs.YtgemjjdkjmpmlaaGreatDoor
namespace Go.Proofs.YtgemjjdkjmpmlaaGreatDoor
open Go.RowKit Go.Maps Sp Mt Go.Conc
theorem aoBody_eq : ∃ r0 rg rs r3 r4 r5 L1 r9 L2 r16 r17 r18 r19 r20 r21 r22 r23, Tryz.f7.body = some (.seq r0 (.seq (.seq rg (.cond (.tmp 31) (.seq rs .ret) .skip)) (.seq r3 (.seq r4 (.seq (.seq r5 L1) (.seq (.seq r9 L2) (.seq r16 (.seq r17 (.seq r18 (.seq r19 (.seq r20 (.seq r21 (.seq r22 (.seq r23 .ret)))))))))))))) := ⟨_, _, _, _, _, _, _, _, _, _, _, _, _, _, _, _, _, rfl⟩
def AZ0 (b : Bk) (s : Int) (vr vg vm vs vc : Value) (a' : Act) (w2 : World) : Prop := ∃ B, a' = { tmps := #[.agg #[vr, vg, vm, vs, vc], .int .u8 s, .pointer (some ⟨B, 0, none⟩), U, .bool false, U, U, U, U, U, U, U, U, U, U, U, U, U, U, U, U, U, U, U, U, U, U, U, U, U, U, U, U, U, U, U, U, U, U, U, U, U, U, U, U, U, U, U, U, U, U, U, U, U, U, U, U, U, U, U, U, U, U, U, U, U, U, U, U, U, U, U, U, U, U, U, U, U, U, U, U, U, U, U, U, U, U, U, U, U, U, U, U, U, U, U, U, U, U, U, U, U, U, U, U, U, U, U, U, U, U, U, U, U, U, U, U, U, U, U, U, U, U, U, U, U, U, U, U, U, U, U, U, U, U, U, U, U, U, U, U, U, U, U, U, U, U, U, U, U, U, U, U, U, U, U, U, U, U, U, U], defers := [] } ∧ LawAt w2 B b [] vr vg vm vs vc none
theorem ao_0 {r0 rg rs r3 r4 r5 L1 r9 L2 r16 r17 r18 r19 r20 r21 r22 r23 : Code} (hc : Tryz.f7.body = some (.seq r0 (.seq (.seq rg (.cond (.tmp 31) (.seq rs .ret) .skip)) (.seq r3 (.seq r4 (.seq (.seq r5 L1) (.seq (.seq r9 L2) (.seq r16 (.seq r17 (.seq r18 (.seq r19 (.seq r20 (.seq r21 (.seq r22 (.seq r23 .ret))))))))))))))) {b : Bk} {s : Int} {vr vg vm vs vc : Value} {w : World} (hR : RawAt w b vr vg vm vs vc) (hK : KindsAt w) : r0.wp Tryz.prog (PZ w (AZ0 b s vr vg vm vs vc)) ({ tmps := #[.agg #[vr, vg, vm, vs, vc], .int .u8 s, U, U, U, U, U, U, U, U, U, U, U, U, U, U, U, U, U, U, U, U, U, U, U, U, U, U, U, U, U, U, U, U, U, U, U, U, U, U, U, U, U, U, U, U, U, U, U, U, U, U, U, U, U, U, U, U, U, U, U, U, U, U, U, U, U, U, U, U, U, U, U, U, U, U, U, U, U, U, U, U, U, U, U, U, U, U, U, U, U, U, U, U, U, U, U, U, U, U, U, U, U, U, U, U, U, U, U, U, U, U, U, U, U, U, U, U, U, U, U, U, U, U, U, U, U, U, U, U, U, U, U, U, U, U, U, U, U, U, U, U, U, U, U, U, U, U, U, U, U, U, U, U, U, U, U, U, U, U, U], defers := [] }) w := by
 simp only [Tryz.f7, Option.some.injEq, Code.seq.injEq, Code.cond.injEq] at hc
 obtain ⟨rfl, ⟨rfl, -, ⟨rfl, -⟩, -⟩, rfl, rfl, ⟨rfl, rfl⟩, ⟨rfl, rfl⟩, rfl, rfl, rfl, rfl, rfl, rfl, rfl, rfl, -⟩ := hc
 have HR := Hh hR
 have HK := Hh hK
 clear hR hK
 go_wp2
 have hbw : Below w.heap.size w (w.alloc (.cells #[vr, vg, vm, vs, vc] 26)) := bel
 refine ⟨rfl, ⟨w.heap.size, rfl, ?_, ?_, ?_, ?_, ?_, HR.out.below hbw, HK.out.below hbw, ints_nil⟩, hbw⟩ <;> (rw [World.cell?_alloc_at _ _ _ _ rfl]; rfl)
def AZ1 (B : Nat) (s : Int) (vr vg vm vs vc : Value) (x : Bool) (a' : Act) (w2 : World) : Prop := ∃ d23 d24 d25 d26 d27 d28 d29 d30, a' = { tmps := #[.agg #[vr, vg, vm, vs, vc], .int .u8 s, .pointer (some ⟨B, 0, none⟩), U, .bool false, U, U, U, U, U, U, U, U, U, U, U, U, U, U, U, U, U, U, d23, d24, d25, d26, d27, d28, d29, d30, .bool x, U, U, U, U, U, U, U, U, U, U, U, U, U, U, U, U, U, U, U, U, U, U, U, U, U, U, U, U, U, U, U, U, U, U, U, U, U, U, U, U, U, U, U, U, U, U, U, U, U, U, U, U, U, U, U, U, U, U, U, U, U, U, U, U, U, U, U, U, U, U, U, U, U, U, U, U, U, U, U, U, U, U, U, U, U, U, U, U, U, U, U, U, U, U, U, U, U, U, U, U, U, U, U, U, U, U, U, U, U, U, U, U, U, U, U, U, U, U, U, U, U, U, U, U, U, U, U, U, U], defers := [] }
theorem ao_1 {r0 rg rs r3 r4 r5 L1 r9 L2 r16 r17 r18 r19 r20 r21 r22 r23 : Code} (hc : Tryz.f7.body = some (.seq r0 (.seq (.seq rg (.cond (.tmp 31) (.seq rs .ret) .skip)) (.seq r3 (.seq r4 (.seq (.seq r5 L1) (.seq (.seq r9 L2) (.seq r16 (.seq r17 (.seq r18 (.seq r19 (.seq r20 (.seq r21 (.seq r22 (.seq r23 .ret))))))))))))))) {B : Nat} {b : Bk} {s : Int} {vr vg vm vs vc : Value} {w : World} {x : Bool} (hE : LawAt w B b [] vr vg vm vs vc none) (hx : x = true ↔ ¬ ((SmallB b ∧ bookAl b = 0) ∧ b.ss ≠ [])) : rg.wp Tryz.prog (PZ w (AZ1 B s vr vg vm vs vc x)) ({ tmps := #[.agg #[vr, vg, vm, vs, vc], .int .u8 s, .pointer (some ⟨B, 0, none⟩), U, .bool false, U, U, U, U, U, U, U, U, U, U, U, U, U, U, U, U, U, U, U, U, U, U, U, U, U, U, U, U, U, U, U, U, U, U, U, U, U, U, U, U, U, U, U, U, U, U, U, U, U, U, U, U, U, U, U, U, U, U, U, U, U, U, U, U, U, U, U, U, U, U, U, U, U, U, U, U, U, U, U, U, U, U, U, U, U, U, U, U, U, U, U, U, U, U, U, U, U, U, U, U, U, U, U, U, U, U, U, U, U, U, U, U, U, U, U, U, U, U, U, U, U, U, U, U, U, U, U, U, U, U, U, U, U, U, U, U, U, U, U, U, U, U, U, U, U, U, U, U, U, U, U, U, U, U, U, U], defers := [] }) w := by
 simp only [Tryz.f7, Option.some.injEq, Code.seq.injEq, Code.cond.injEq] at hc
 obtain ⟨rfl, ⟨rfl, -, ⟨rfl, -⟩, -⟩, rfl, rfl, ⟨rfl, rfl⟩, ⟨rfl, rfl⟩, rfl, rfl, rfl, rfl, rfl, rfl, rfl, rfl, -⟩ := hc
 have hrw := hE.raw
 obtain ⟨x0, x1, x2, x3, x4, _, _, _⟩ := hE
 have HRW := Hh hrw
 have hB0 := lt_of_cell x0
 simp only at hB0
 obtain ⟨rfl, rfl, ⟨ma, mc, rfl, _⟩, ⟨sa, sc, rfl, _⟩, ra, rc, rfl, _⟩ := hrw
 by_cases hs : SmallB b ∧ bookAl b = 0
 ·have HG := Hh (show (true = true ↔ SmallB b ∧ bookAl b = 0) by simp [hs])
  by_cases hl : b.ss = []
  ·obtain rfl : x = true := hx.2 fun h => h.2 hl
   have e0 : ((b.ss.length : Int) == 0) = true := by simp [hl]
   clear hs hx hl
   go_wp2_with (go_at_call 13; (with_reducible refine (fit_at HRW.out HG.out).mono ?_); rintro e w1 ⟨rfl, hb1⟩; obtain ⟨hc1, hf1⟩ := bcell hb1; have hz1 := hb1.size)
   exact ⟨rfl, ⟨_, _, _, _, _, _, _, _, rfl⟩, bel⟩
  ·obtain rfl : x = false := by
    cases x with
    | false => rfl
    | true => exact absurd ⟨hs, hl⟩ (hx.1 rfl)
   have e0 : ((b.ss.length : Int) == 0) = false := by simp [hl]
   clear hs hx hl
   go_wp2_with (go_at_call 13; (with_reducible refine (fit_at HRW.out HG.out).mono ?_); rintro e w1 ⟨rfl, hb1⟩; obtain ⟨hc1, hf1⟩ := bcell hb1; have hz1 := hb1.size)
   exact ⟨rfl, ⟨_, _, _, _, _, _, _, _, rfl⟩, bel⟩
 ·have HG := Hh (show (false = true ↔ SmallB b ∧ bookAl b = 0) by simp [hs])
  obtain rfl : x = true := hx.2 fun h => hs h.1
  clear hs hx
  go_wp2_with (go_at_call 13; (with_reducible refine (fit_at HRW.out HG.out).mono ?_); rintro e w1 ⟨rfl, hb1⟩)
  exact ⟨rfl, ⟨_, _, _, _, _, _, _, _, rfl⟩, bel⟩
end Go.Proofs.YtgemjjdkjmpmlaaGreatDoor
namespace Go.Proofs.YtgemjjdkjmpmlaaGreatDoor
open Go
section
variable {P : Program} {md : Region.Mode} {ops : Array Oper} {Q : Exit → Act → World → Prop} {S T : World → Prop} {d : Nat}
def wpAnyD (P : Program) (md : Region.Mode) (ops : Array Oper) (Q : Exit → Act → World → Prop) (S T : World → Prop) (d : Nat) : Nat → Array Bool → Act → World → Prop
 | 0, listed, a, w => Region.ready md ops listed = [] ∧ Q .normal a w
 | fuel + 1, listed, a, w =>
  (Region.ready md ops listed = [] → Q .normal a w) ∧
  ∀ i ∈ Region.ready md ops listed, wpOp P ops Q i (fun a' w' => (S w' ∧ ((listed.setIfInBounds i true).getD d true = false → T w')) ∧ wpAnyD P md ops Q S T d fuel (listed.setIfInBounds i true) a' w') a w
def Down (md : Region.Mode) (ops : Array Oper) (listed : Array Bool) : Prop := ∀ (k : Nat) (ok : Oper), ops[k]? = some ok → listed.getD k false = true → ∀ e ∈ ok.after, Region.binds md e = true → listed.getD e.on false = true
theorem Down.set {listed : Array Bool} (h : Down md ops listed) {j : Nat} (hj : j ∈ Region.ready md ops listed) : Down md ops (listed.setIfInBounds j true) := fun k ok hk hl e he hb => by
 by_cases hjk : j = k
 ·subst hjk
  obtain ⟨_, oj, hoj, hall⟩ := mem_ready.1 hj
  rw [hoj] at hk
  cases hk
  exact getD_set_true (hall e he hb)
 ·rw [getD_set_ne false hjk] at hl
  exact getD_set_true (h k ok hk hl e he hb)
def AllReadyD (P : Program) (md : Region.Mode) (ops : Array Oper) (Q : Exit → Act → World → Prop) (S T : World → Prop) (d : Nat) (fuel : Nat) (listed : Array Bool) (a : Act) (w : World) (rs : List Nat) : Prop :=
 ∀ i ∈ rs, wpOp P ops Q i (fun a' w' => (S w' ∧ ((listed.setIfInBounds i true).getD d true = false → T w')) ∧ wpAnyD P md ops Q S T d fuel (listed.setIfInBounds i true) a' w') a w
theorem AllReadyD.nil {fuel : Nat} {listed : Array Bool} {a : Act} {w : World} : AllReadyD P md ops Q S T d fuel listed a w [] := fun _ h => by cases h
theorem AllReadyD.pre {fuel : Nat} {listed : Array Bool} {a : Act} {w : World} (i : Nat) {o : Oper} {rs : List Nat} (ho : ops[i]? = some o)
 (h : ∀ K' : Act → World → Prop, Shut (∀ a w, S w → T w → (S w → T w → wpAnyD P md ops Q S T d fuel (listed.setIfInBounds i true) a w) → K' a w) → if Region.wanted o (yielded ops a.tmps) = true then Oper.wp P o a w K' Q else K' (a.put o.dst undef) w)
 (hs : AllReadyD P md ops Q S T d fuel listed a w rs) : AllReadyD P md ops Q S T d fuel listed a w (i :: rs) := fun j hj => by
 rcases List.mem_cons.1 hj with rfl | hj
 ·exact wpOp_step ho (fun K' hK => h K' (fun a w hS hT hW => hK a w ⟨⟨hS, fun _ => hT⟩, hW hS hT⟩))
 ·exact hs j hj
theorem AllReadyD.post {fuel : Nat} {listed : Array Bool} {a : Act} {w : World} (i : Nat) {o : Oper} {rs : List Nat} (ho : ops[i]? = some o) (hd : (listed.setIfInBounds i true).getD d true = true)
 (h : ∀ K' : Act → World → Prop, Shut (∀ a w, S w → (S w → wpAnyD P md ops Q S T d fuel (listed.setIfInBounds i true) a w) → K' a w) → if Region.wanted o (yielded ops a.tmps) = true then Oper.wp P o a w K' Q else K' (a.put o.dst undef) w)
 (hs : AllReadyD P md ops Q S T d fuel listed a w rs) : AllReadyD P md ops Q S T d fuel listed a w (i :: rs) := fun j hj => by
 rcases List.mem_cons.1 hj with rfl | hj
 ·exact wpOp_step ho (fun K' hK => h K' (fun a w hS hW => hK a w ⟨⟨hS, fun hf => by rw [hd] at hf; cases hf⟩, hW hS⟩))
 ·exact hs j hj
end
section
variable {P : Program} {md : Region.Mode} {ops : Array Oper} {Q : Exit → Act → World → Prop} {l : Nat}
end
end Go.Proofs.YtgemjjdkjmpmlaaGreatDoor
namespace Go.Proofs.YtgemjjdkjmpmlaaGreatDoor
open Go.RowKit Go.Maps Sp Mt Go.Conc
theorem int_eq {k : IntKind} {a b : Int} (h : a = b) : Value.int k a = .int k b := by rw [h]
theorem sesInfo : (Tryz.prog.info? 64).map (fun i => (i.zero, i.size, i.bytes)) = some (some (.agg #[.slice none 0 0]), 1, 24) := by kernel_rfl
def AL1 (B O : Nat) (b : Bk) (s : Int) (vr vg vm vs vc : Value) (w W : World) : Exit → Act → World → Prop
 | .normal, a', w2 => ∃ d7 d23 d24 d25 d26 d27 d28 d29 d30 d33 d34 d35 d36 d37 d38 d39 d40 d41 d42 d43 d44 d45 d46 d47 d48 d49 d50 d51 d52 d53 d54, a' = { tmps := #[.agg #[vr, vg, vm, vs, vc], .int .u8 s, .pointer (some ⟨B, 0, none⟩), U, .bool false, .pointer (some ⟨O, 0, none⟩), .int .i64 (b.ss.length : Int), d7, U, U, U, U, U, U, U, U, U, U, U, U, U, U, U, d23, d24, d25, d26, d27, d28, d29, d30, .bool false, U, d33, d34, d35, d36, d37, d38, d39, d40, d41, d42, d43, d44, d45, d46, d47, d48, d49, d50, d51, d52, d53, d54, U, U, U, U, U, U, U, U, U, U, U, U, U, U, U, U, U, U, U, U, U, U, U, U, U, U, U, U, U, U, U, U, U, U, U, U, U, U, U, U, U, U, U, U, U, U, U, U, U, U, U, U, U, U, U, U, U, U, U, U, U, U, U, U, U, U, U, U, U, U, U, U, U, U, U, U, U, U, U, U, U, U, U, U, U, U, U, U, U, U, U, U, U, U, U, U, U, U, U, U, U, U, U, U, U, U], defers := [] } ∧ ∃ a c ws, w2.cell? ⟨O, 3, none⟩ = some (.slice a b.ss.length c) ∧ w2.frozen? ⟨O, 3, none⟩ = false ∧ w2.ownsRow W.heap.size 64 1 (.slice a b.ss.length c) b.ss.length ws ∧ SesV w ws b.ss.reverse ∧ KS (fun k => k < W.heap.size ∧ k ≠ O) W w2 ∧ Hid (∀ k, k ≠ 3 → w2.cell? ⟨O, k, none⟩ = W.cell? ⟨O, k, none⟩ ∧ w2.frozen? ⟨O, k, none⟩ = W.frozen? ⟨O, k, none⟩)
 | _, _, _ => False
theorem ao_L1 {r0 rg rs r3 r4 r5 L1 r9 L2 r16 r17 r18 r19 r20 r21 r22 r23 : Code} (hc : Tryz.f7.body = some (.seq r0 (.seq (.seq rg (.cond (.tmp 31) (.seq rs .ret) .skip)) (.seq r3 (.seq r4 (.seq (.seq r5 L1) (.seq (.seq r9 L2) (.seq r16 (.seq r17 (.seq r18 (.seq r19 (.seq r20 (.seq r21 (.seq r22 (.seq r23 .ret))))))))))))))) {B O : Nat} {b : Bk} {s : Int} {vr vg vm vs vc : Value} {w : World} {W : World} {sa : Option Addr} {sc : Nat} (hSS : SessAt w sa b.ss) (hbw : Old w W) (hB3 : W.cell? ⟨B, 3, none⟩ = some (.slice sa b.ss.length sc)) (hBw : B < w.heap.size) (hOw : w.heap.size ≤ O) (hO : W.cell? ⟨O, 3, none⟩ = some (.slice none 0 0)) (hOf : W.frozen? ⟨O, 3, none⟩ = false) (hs4 : b.ss.length ≤ 4) {d23 d24 d25 d26 d27 d28 d29 d30 d33 d34 d35 d36 d37 d38 : Value} :
 (Code.seq r5 L1).wp Tryz.prog (AL1 B O b s vr vg vm vs vc w W) ({ tmps := #[.agg #[vr, vg, vm, vs, vc], .int .u8 s, .pointer (some ⟨B, 0, none⟩), U, .bool false, .pointer (some ⟨O, 0, none⟩), .int .i64 (b.ss.length : Int), U, U, U, U, U, U, U, U, U, U, U, U, U, U, U, U, d23, d24, d25, d26, d27, d28, d29, d30, .bool false, U, d33, d34, d35, d36, d37, d38, U, U, U, U, U, U, U, U, U, U, U, U, U, U, U, U, U, U, U, U, U, U, U, U, U, U, U, U, U, U, U, U, U, U, U, U, U, U, U, U, U, U, U, U, U, U, U, U, U, U, U, U, U, U, U, U, U, U, U, U, U, U, U, U, U, U, U, U, U, U, U, U, U, U, U, U, U, U, U, U, U, U, U, U, U, U, U, U, U, U, U, U, U, U, U, U, U, U, U, U, U, U, U, U, U, U, U, U, U, U, U, U, U, U, U, U, U, U, U, U, U, U], defers := [] }) W := by
 simp only [Tryz.f7, Option.some.injEq, Code.seq.injEq, Code.cond.injEq] at hc
 obtain ⟨rfl, ⟨rfl, -, ⟨rfl, -⟩, -⟩, rfl, rfl, ⟨rfl, rfl⟩, ⟨rfl, rfl⟩, rfl, rfl, rfl, rfl, rfl, rfl, rfl, rfl, -⟩ := hc
 have HSS := Hh hSS
 have HBW := Hh hbw
 have hOl := lt_of_cell hO
 simp only at hOl
 have hBl : B < W.heap.size := Nat.lt_of_lt_of_le hBw hbw.size
 have hwr : IntKind.i64.wrap ((b.ss.length : Int) - 1) = (b.ss.length : Int) - 1 := wrapI (by omega) (by omega)
 obtain ⟨i0, hi, hz0, hz1, hz2⟩ := info_parts sesInfo
 clear hSS hbw
 go_wp2
 go_loopw [7] (fun i wr => ∃ (j : Nat) (a : Option Addr) (c : Nat) (ws : List Value), j ≤ b.ss.length ∧ i = .int .i64 ((b.ss.length : Int) - 1 - j) ∧ wr.cell? ⟨O, 3, none⟩ = some (.slice a j c) ∧ wr.frozen? ⟨O, 3, none⟩ = false ∧ wr.ownsRow W.heap.size 64 1 (.slice a j c) j ws ∧ SesV w ws (b.ss.reverse.take j) ∧ KS (fun k => k < W.heap.size ∧ k ≠ O) W wr ∧ Hid (∀ k, k ≠ 3 → wr.cell? ⟨O, k, none⟩ = W.cell? ⟨O, k, none⟩ ∧ wr.frozen? ⟨O, k, none⟩ = W.frozen? ⟨O, k, none⟩)) (fun i _ => (intOf i + 1).toNat)
 case atStart => exact ⟨0, none, 0, [], Nat.zero_le _, by simp, hO, hOf, World.ownsRow_nil _ _ _ _, by simpa using SesV.nil w, KS.refl _ _, fun _ _ => ⟨rfl, rfl⟩⟩
 case round =>
  obtain ⟨j, a, c, ws, hj, rfl, h1, h2, hrow, hsv, hW, hQ⟩ := hrel
  have hWs := hW.size
  by_cases hlt : j < b.ss.length
  ·obtain ⟨sb, so, rfl, hsb, pa, pc, e0, hpc, hp6, hpp⟩ := HSS.out (b.ss.length - 1 - j) (by omega)
   have hsn := rev_snoc b.ss j hlt
   have g3 := (hW.cell (x := ⟨B, 3, none⟩) hBl (by simp; omega)).trans hB3
   have hsbW := Nat.lt_of_lt_of_le hsb HBW.out.size
   have g0 := (hW.cell (x := ⟨sb, so + (b.ss.length - 1 - j), none⟩) hsbW (by simp; omega)).trans ((HBW.out.cell hsb).trans e0)
   generalize b.ss[b.ss.length - 1 - j] = x at g0 hpc hp6 hpp hsn e0
   have hsv2 := hsv.snoc hpc hp6 hpp
   rw [← hsn] at hsv2
   have HSV2 := Hh hsv2
   have HROW := Hh hrow
   have HW := Hh hW
   have hd : decide ((0 : Int) ≤ (b.ss.length : Int) - 1 - (j : Int)) = true := by simp; omega
   have hge : (0 : Int) ≤ (b.ss.length : Int) - 1 - (j : Int) := by omega
   have hle : (b.ss.length : Int) - 1 - (j : Int) < (b.ss.length : Int) := by omega
   have hnat : ((b.ss.length : Int) - 1 - (j : Int)).toNat = b.ss.length - 1 - j := by omega
   have hOr : O < wr.heap.size := by omega
   have hBr : B < wr.heap.size := by omega
   have hsbr : sb < wr.heap.size := by omega
   clear e0 hsn hsv hsv2 hrow hW hpp hpc hp6
   go_wp2
   go_region_law ((refine step_append_lies (w := _) rfl _ _ 23 rfl W.heap.size 64 i0 (.agg #[.slice none 0 0]) 1 24 Tryz.underlying23 hi hz0 hz1 hz2 rfl (by decide) (.slice a j c) j ws rfl (row_keep' HROW.out ((KS.drew (fun _ => True) _).trans (KS.alloc _ _ _)) (fun _ _ => trivial)) ⟨wr.heap.size, 0, none⟩ 1 1 [.slice pa x.length pc] rfl rfl (cells_new _ _ _) (by simp [Value.oneCell']) (by decide) (by unfold maxLen; omega) (by omega) (by simp; omega) _ rfl ?_; intro g cap w5 hown' hgrow hat hglt; have hks := grow_ks (row_keep' HROW.out ((KS.drew (fun _ => True) wr).trans (KS.alloc _ _ (.cells #[.slice pa x.length pc] 64))) (fun _ _ => trivial)) hgrow; have q1 := (hks.cell (x := ⟨O, 3, none⟩) (by simp; omega) (by simp; omega)); have q2 := (hks.frozen (x := ⟨O, 3, none⟩) (by simp; omega) (by simp; omega)); rw [World.cell?_alloc_past _ _ _ (by simp; omega), World.cell?_drew, h1] at q1; rw [World.frozen?_alloc_past _ _ _ (by simp; omega), World.frozen?_drew, h2] at q2))
   all_goals
    have hks9 : KS (fun k => k < W.heap.size ∧ k ≠ O) wr (w5.setCell ⟨O, 3, none⟩ (.slice (some ⟨g, 0, none⟩) (j + 1) cap)) := (((KS.drew (fun k => k < W.heap.size) wr).trans (KS.alloc _ _ (.cells #[.slice pa x.length pc] 64))).trans hks).mono (fun k _ h => h.1) |>.trans ((KS.setCell (p := fun k => k ≠ O) (by simp) w5 _).mono fun k _ h => h.2)
    have hc9 : (w5.setCell ⟨O, 3, none⟩ (.slice (some ⟨g, 0, none⟩) (j + 1) cap)).cell? ⟨O, 3, none⟩ = some (.slice (some ⟨g, 0, none⟩) (j + 1) cap) := World.cell?_setCell_same' _ _ _ (by rw [q1]; rfl)
    have hf9 : (w5.setCell ⟨O, 3, none⟩ (.slice (some ⟨g, 0, none⟩) (j + 1) cap)).frozen? ⟨O, 3, none⟩ = false := by rw [World.frozen?_setCell]; exact q2
    have hr9 : (w5.setCell ⟨O, 3, none⟩ (.slice (some ⟨g, 0, none⟩) (j + 1) cap)).ownsRow W.heap.size 64 1 (.slice (some ⟨g, 0, none⟩) (j + 1) cap) (j + 1) (ws ++ [.slice pa x.length pc]) := ownsRow_ks hown' (KS.setCell (p := fun k => k ≠ O) (by simp) w5 _) (fun k hk => by show k ≠ O; omega)
    have hq9 : ∀ k, k ≠ 3 → (w5.setCell ⟨O, 3, none⟩ (.slice (some ⟨g, 0, none⟩) (j + 1) cap)).cell? ⟨O, k, none⟩ = W.cell? ⟨O, k, none⟩ ∧ (w5.setCell ⟨O, 3, none⟩ (.slice (some ⟨g, 0, none⟩) (j + 1) cap)).frozen? ⟨O, k, none⟩ = W.frozen? ⟨O, k, none⟩ := fun k hk => by
     have a1 := (hks.cell (x := ⟨O, k, none⟩) (by simp; omega) (by simp; omega))
     have a2 := (hks.frozen (x := ⟨O, k, none⟩) (by simp; omega) (by simp; omega))
     rw [World.cell?_alloc_past _ _ _ (by simp; omega), World.cell?_drew] at a1
     rw [World.frozen?_alloc_past _ _ _ (by simp; omega), World.frozen?_drew] at a2
     rw [World.cell?_setCell_other (h := fun e => by injection e with _ e _; exact hk e.symm), World.frozen?_setCell]
     exact ⟨a1.trans (hQ.out k hk).1, a2.trans (hQ.out k hk).2⟩
    have H9 := Hh (⟨hks9, hc9, hf9, hr9, hq9⟩ : _ ∧ _ ∧ _ ∧ _ ∧ _)
    have hw9 : IntKind.i64.wrap ((b.ss.length : Int) - 1 - (j : Int) - 1) = (b.ss.length : Int) - 1 - (j : Int) - 1 := wrapI (by omega) (by omega)
    clear hks9 hc9 hf9 hr9 hq9 hks q1 q2 hown' hgrow hat hglt
    go_wp2
    go_roundw
    case rel => exact ⟨j + 1, some ⟨g, 0, none⟩, cap, ws ++ [.slice pa x.length pc], by omega, int_eq (by omega), H9.out.2.1, H9.out.2.2.1, H9.out.2.2.2.1, HSV2.out, HW.out.trans H9.out.1, H9.out.2.2.2.2⟩
    case measure => simp [intOf]; omega
  ·obtain rfl : j = b.ss.length := by omega
   have hd : decide ((0 : Int) ≤ (b.ss.length : Int) - 1 - (b.ss.length : Int)) = false := by simp; omega
   have HROW := Hh hrow
   have HW := Hh hW
   have HSV := Hh hsv
   clear hrow hW hsv
   go_wp2
   refine ⟨_, _, _, _, _, _, _, _, _, _, _, _, _, _, _, _, _, _, _, _, _, _, _, _, _, _, _, _, _, _, _, rfl, a, c, ws, h1, h2, HROW.out, ?_, HW.out, hQ⟩
   have := HSV.out
   rwa [List.take_of_length_le (by simp)] at this
end Go.Proofs.YtgemjjdkjmpmlaaGreatDoor
