/- Leads to StoreAsked of chapter 6: G1 G3 Law G6 U5 U9 AS1 AS2 AS3 U6 U7. -/
import Derived.Test.YtgemjjdkjmpmlaaGreatDoorBase
set_option maxHeartbeats 4000000
set_option maxRecDepth 100000
set_option linter.all false
namespace Go.Proofs.YtgemjjdkjmpmlaaGreatDoor
open Go.RowKit Sp
theorem goP_ms {b b' : Bk} (h : b.ms = b'.ms) : ∀ (l seen : List Prt), goP b seen l = goP b' seen l
 | [], _ => rfl
 | p :: l, seen => by
  have hp : isPart b p = isPart b' p := by unfold isPart; rw [h]
  unfold goP
  rw [hp, goP_ms h l]
theorem goS_zero {b : Bk} : ∀ {l : List (List Prt)}, (∀ s ∈ l, s.length ≤ 5 ∧ goP b [] s = 0) → goS b l = 0
 | [], _ => rfl
 | s :: l, h => by
  obtain ⟨h1, h2⟩ := h s (List.mem_cons_self ..)
  unfold goS
  rw [if_neg (by omega), if_neg (by simp [h2])]
  exact goS_zero fun s hs => h s (List.mem_cons_of_mem _ hs)
theorem goR_zero {b : Bk} : ∀ {l : List Rec}, (∀ r ∈ l, recAl b r = 0) → goR b l = 0
 | [], _ => rfl
 | s :: l, h => by
  unfold goR
  rw [if_neg (by simp [h s (List.mem_cons_self ..)])]
  exact goR_zero fun s hs => h s (List.mem_cons_of_mem _ hs)
theorem recAl_mk {b : Bk} {r : Rec} (h0 : 0 ≤ r.k ∧ r.k ≤ 5) (h1 : usesB r.k = false → r.b = 0) (h2 : usesMany r.k = false → r.m = 0) {n : Int} (hm : most b r = some n) (h3 : 0 ≤ r.m ∧ r.m ≤ n) : recAl b r = 0 := by
 unfold recAl
 rw [if_neg (by simpa [inB] using h0), if_neg (by rintro (⟨u, v⟩ | ⟨u, v⟩); exact v (h1 u); exact v (h2 u)), hm]
 simp only
 rw [if_pos (by simpa [inB] using h3)]
theorem most_sess {b : Bk} {r : Rec} (hk : r.k ≤ 3) (ha : 0 ≤ r.a ∧ r.a ≤ (b.ss.length : Int) - 1) : most b r = some (((b.ss[r.a.toNat]?).elim 0 List.length : Nat) : Int) := by
 unfold most
 rw [if_pos hk, if_pos (by simpa [inB] using ha)]
theorem bookAl_rs {b : Bk} (h : bookAl b = 0) {rs : List Rec} (hl : rs.length ≤ 5) (hr : ∀ r ∈ rs, recAl b r = 0) : bookAl { b with rs := rs } = 0 := by
 obtain ⟨h0, h1, h2, h3⟩ := bookAl_parts h
 have h2' : sessAl { b with rs := rs } = 0 := by
  unfold sessAl at h2 ⊢
  split at h2
  ·cases h2
  ·rename_i hl
   rw [if_neg hl]
   exact goS_zero fun s hs => by
    obtain ⟨k1, k2⟩ := goS_ok _ h2 s hs
    exact ⟨k1, (goP_ms (b := { b with rs := rs }) (b' := b) rfl s []).trans k2⟩
 have h3' : recsAl { b with rs := rs } = 0 := by
  unfold recsAl
  rw [if_neg (by simpa using hl)]
  exact goR_zero fun r h => hr r h
 unfold bookAl
 rw [show numbersAl { b with rs := rs } = 0 from h0, show msgsAl { b with rs := rs } = 0 from h1, h2', h3']
 rfl
theorem recs_len {b : Bk} (h : bookAl b = 0) : b.rs.length ≤ 5 := by
 obtain ⟨_, _, _, h3⟩ := bookAl_parts h
 unfold recsAl at h3
 split at h3
 ·cases h3
 ·omega
end Go.Proofs.YtgemjjdkjmpmlaaGreatDoor
namespace Go.Proofs.YtgemjjdkjmpmlaaGreatDoor
open Go.RowKit Sp Mt Go.Conc
section
variable {P : Program} {b : Frame} {a : Act} {w : World} {k : List Item} {cs : List Frame} {K : Frame → List Frame → World → Prop}
theorem Twin.refl0 (w : World) : Twin 0 w w := ⟨rfl, rfl, rfl, fun _ => rfl, fun _ => rfl, fun _ _ => rfl⟩
theorem Twin.at0 {w w1 : World} (h : Twin 0 w w1) (d : Nat) : Twin 0 w (w1.at d) := ⟨h.os, h.output, h.size, h.cell, h.frozen, h.block⟩
theorem Twin.old0 {w w1 w2 : World} (h : Twin 0 w w1) (k : Old w1 w2) : Old w w2 := ⟨k.os.trans h.os, k.output.trans h.output, by rw [← h.size]; exact k.size, fun i hi => (k.block i (by rw [h.size]; exact hi)).trans (h.block i (Nat.zero_le _))⟩
def LeadsA (P : Program) (K : Frame → List Frame → World → Prop) (fr : Frame) (cs : List Frame) (w : World) : Prop := ∀ w', Twin 0 w w' → Leads P K fr cs w'
theorem LeadsA.here {fr : Frame} (h : LeadsA P K fr cs w) : Leads P K fr cs w := h w (Twin.refl0 w)
theorem all_region {id : Nat} {ops : Array Oper} (h : LeadsA P K (b.at a (.inRegion ops (List.range ops.size) :: k)) cs w) : LeadsA P K (b.at a (.code (.region id ops false) :: k)) cs w := fun _ t => leads_region fun d => h _ (t.at0 d)
theorem all_end {ops : Array Oper} (h : LeadsA P K (b.at a k) cs w) : LeadsA P K (b.at a (.inRegion ops [] :: k)) cs w := fun _ t => leads_inRegion fun d => h _ (t.at0 d)
theorem all_seq {x y : Code} (h : LeadsA P K (b.at a (.code x :: .code y :: k)) cs w) : LeadsA P K (b.at a (.code (.seq x y) :: k)) cs w := fun _ t => leads_seq fun d => h _ (t.at0 d)
theorem all_ret (h : LeadsA P K { b.at a (.code .ret :: k) with mode := .returning } cs w) : LeadsA P K (b.at a (.code .ret :: k)) cs w := fun _ t => leads_ret fun d => h _ (t.at0 d)
theorem all_op {ops : Array Oper} {i : Nat} {rest : List Nat} (v : Value) (hb : b.kind = .normal) {o : Oper} (ho : ops[i]? = some o) (hw : Region.wanted o (yielded ops a.tmps) = true)
 (hr : ∀ w', (execOp a.eval o).run P w' = .ok (.value v) w') (he : ∀ w', (execOp a.eval o).events P w' #[] = #[])
 (h : LeadsA P K (b.at (a.put o.dst v) (.inRegion ops rest :: k)) cs w) : LeadsA P K (b.at a (.inRegion ops (i :: rest) :: k)) cs w := fun _ t =>
 leads_op v hb ho hw (fun d => hr _) (fun d e hm => by rw [he] at hm; simp at hm) fun d => h _ (t.at0 d)
theorem all_call {ops : Array Oper} {i : Nat} {rest : List Nat} (f : FuncId) (args : Array Value) (hb : b.kind = .normal) {o : Oper} (ho : ops[i]? = some o) (hw : Region.wanted o (yielded ops a.tmps) = true)
 (hr : ∀ w', (execOp a.eval o).run P w' = .ok (.enter f args) w') (he : ∀ w', (execOp a.eval o).events P w' #[] = #[]) {Z : Value → World → Prop}
 (hc : ∀ (c : Frame) (w' : World), Twin 0 w w' → Leads P (fun fr' cs' w1 => ∃ v, fr' = c.finish v ∧ cs' = cs ∧ Z v w1) (Frame.enter P f args .normal) (c :: cs) w')
 (h : ∀ v w1, Z v w1 → LeadsA P K (b.at (a.put o.dst v) (.inRegion ops rest :: k)) cs w1) : LeadsA P K (b.at a (.inRegion ops (i :: rest) :: k)) cs w := fun w' t =>
 leads_call hb ho hw (fun d => hr _) (fun d => he _) (fun d => hc _ _ (t.at0 d)) fun v w1 hz => (h v w1 hz).here
end
section
variable {w : World} {cs : List Frame} {c : Frame}
end
theorem wps_cons {P : Program} {c : Code} {l : List Code} {Q : Act → World → Prop} {a : Act} {w : World} (h : c.wp P (fun e a' w' => e = .normal ∧ a'.defers = [] ∧ ∀ X, Twin 0 w' X → wps P l Q a' X) a w) : wps P (c :: l) Q a w :=
 Code.wp_mono (fun _ _ _ ⟨h1, h2, h3⟩ => ⟨h1, h2, fun _ => h3 _ ⟨rfl, rfl, rfl, fun _ => rfl, fun _ => rfl, fun _ _ => rfl⟩⟩) h
theorem Twin.five {n : Nat} {w w1 : World} (h : Twin n w w1) {r : Nat} {v0 v1 v2 v3 v4 : Value} (k : Five w r v0 v1 v2 v3 v4) : Five w1 r v0 v1 v2 v3 v4 := ⟨(h.cell _).trans k.c0, (h.cell _).trans k.c1, (h.cell _).trans k.c2, (h.cell _).trans k.c3, (h.cell _).trans k.c4, by rw [h.size]; exact k.lt⟩
theorem Old.twin0 {w w1 X : World} (h : Old w w1) (t : Twin 0 w1 X) : Old w X := ⟨t.os.trans h.os, t.output.trans h.output, by rw [t.size]; exact h.size, fun k hk => (t.block k (Nat.zero_le _)).trans (h.block k hk)⟩
theorem Old.ofBelow {w w1 : World} (h : Below w.heap.size w w1) : Old w w1 := ⟨h.os, h.output, h.size, h.block⟩
theorem Old.ks {w A B : World} {O : Nat} (h : Old w A) (hO : w.heap.size ≤ O) (hk : KS (fun k => k < A.heap.size ∧ k ≠ O) A B) : Old w B := ⟨hk.os.trans h.os, hk.output.trans h.output, Nat.le_trans h.size hk.size, fun k hkl => (hk.block k (Nat.lt_of_lt_of_le hkl h.size) ⟨Nat.lt_of_lt_of_le hkl h.size, by omega⟩).trans (h.block k hkl)⟩
def NQ (R : Act → World → Prop) : Exit → Act → World → Prop
 | .normal, a, w => R a w
 | _, _, _ => False
theorem wps_nq {P : Program} {c : Code} {l : List Code} {Q : Act → World → Prop} {a : Act} {w : World} (h : c.wp P (NQ fun a' w' => a'.defers = [] ∧ ∀ X, Twin 0 w' X → wps P l Q a' X) a w) : wps P (c :: l) Q a w := by
 refine wps_cons (Code.wp_mono (fun e a' w' hq => ?_) h)
 cases e <;> first | exact ⟨rfl, hq.1, hq.2⟩ | exact hq.elim
section
variable {P : Program} {b : Frame} {a : Act} {w : World} {k : List Item} {cs : List Frame} {K : Frame → List Frame → World → Prop}
theorem put_at {a : Act} {j : Nat} {v : Value} (h : j < a.tmps.size) : (a.put (some j) v).tmps[j]? = some v := by
 show (a.tmps.setIfInBounds j v)[j]? = some v
 simp [h]
theorem put_keep {a : Act} {j i : Nat} {v : Value} (hne : i ≠ j) : (a.put (some j) v).tmps[i]? = a.tmps[i]? := by
 show (a.tmps.setIfInBounds j v)[i]? = a.tmps[i]?
 rw [Array.getElem?_setIfInBounds_ne (by omega)]
theorem all_step {ops : Array Oper} {i n j : Nat} {rest : List Nat} (v : Value) (hb : b.kind = .normal) {o : Oper} (ho : ops[i]? = some o) (hd : o.dst = some j) (hw : Region.wanted o (yielded ops a.tmps) = true)
 (hr : ∀ w', (execOp a.eval o).run P w' = .ok (.value v) w') (he : ∀ w', (execOp a.eval o).events P w' #[] = #[]) (hn : a.tmps.size = n) (hdf : a.defers = []) (hj : j < n)
 (h : ∀ a1 : Act, a1.tmps.size = n → a1.defers = [] → a1.tmps[j]? = some v → (∀ i, i ≠ j → a1.tmps[i]? = a.tmps[i]?) → LeadsA P K (b.at a1 (.inRegion ops rest :: k)) cs w) : LeadsA P K (b.at a (.inRegion ops (i :: rest) :: k)) cs w := by
 refine all_op v hb ho hw hr he ?_
 rw [hd]
 exact h _ ((Array.size_setIfInBounds).trans hn) hdf (put_at (by omega)) fun i hi => put_keep hi
theorem all_stepc {ops : Array Oper} {i n j : Nat} {rest : List Nat} (f : FuncId) (args : Array Value) (hb : b.kind = .normal) {o : Oper} (ho : ops[i]? = some o) (hd : o.dst = some j) (hw : Region.wanted o (yielded ops a.tmps) = true)
 (hr : ∀ w', (execOp a.eval o).run P w' = .ok (.enter f args) w') (he : ∀ w', (execOp a.eval o).events P w' #[] = #[]) (hn : a.tmps.size = n) (hdf : a.defers = []) (hj : j < n) {v : Value}
 (hc : ∀ (c : Frame) (w' : World), Twin 0 w w' → Leads P (fun fr' cs' w1 => ∃ v', fr' = c.finish v' ∧ cs' = cs ∧ v' = v ∧ Old w w1) (Frame.enter P f args .normal) (c :: cs) w')
 (h : ∀ (a1 : Act) (w1 : World), Old w w1 → a1.tmps.size = n → a1.defers = [] → a1.tmps[j]? = some v → (∀ i, i ≠ j → a1.tmps[i]? = a.tmps[i]?) → LeadsA P K (b.at a1 (.inRegion ops rest :: k)) cs w1) : LeadsA P K (b.at a (.inRegion ops (i :: rest) :: k)) cs w := by
 refine all_call f args hb ho hw hr he (Z := fun v' w1 => v' = v ∧ Old w w1) hc ?_
 rintro v' w1 ⟨rfl, ho1⟩
 rw [hd]
 exact h _ _ ho1 ((Array.size_setIfInBounds).trans hn) hdf (put_at (by omega)) fun i hi => put_keep hi
theorem wanted_g {o ok : Oper} {ops : Array Oper} {tmps : Array Value} {m j : Nat} {want : Bool} (hg : o.guard = some (m, want)) (hk : ops[m]? = some ok) (hd : ok.dst = some j) (hA : tmps[j]? = some (.bool want)) : Region.wanted o (yielded ops tmps) = true := by
 unfold Region.wanted yielded
 rw [hg]
 simp [hk, hd, hA]
theorem all_skip {ops : Array Oper} {i n j : Nat} {rest : List Nat} {o : Oper} (ho : ops[i]? = some o) (hd : o.dst = some j) (hw : Region.wanted o (yielded ops a.tmps) = false) (hn : a.tmps.size = n) (hdf : a.defers = []) (hj : j < n)
 (h : ∀ a1 : Act, a1.tmps.size = n → a1.defers = [] → a1.tmps[j]? = some undef → (∀ i, i ≠ j → a1.tmps[i]? = a.tmps[i]?) → LeadsA P K (b.at a1 (.inRegion ops rest :: k)) cs w) : LeadsA P K (b.at a (.inRegion ops (i :: rest) :: k)) cs w := fun _ t =>
 leads_go (fun d => stepG_unwanted ho hw) fun d => by
  rw [hd]
  exact h (a.put (some j) undef) ((Array.size_setIfInBounds).trans hn) hdf (put_at (by omega)) (fun i hi => put_keep hi) _ (t.at0 d)
theorem unwanted_g {o ok : Oper} {ops : Array Oper} {tmps : Array Value} {m j : Nat} {want : Bool} (hg : o.guard = some (m, want)) (hk : ops[m]? = some ok) (hd : ok.dst = some j) (hA : tmps[j]? = some (.bool (!want))) : Region.wanted o (yielded ops tmps) = false := by
 unfold Region.wanted yielded
 rw [hg]
 cases want <;> simp [hk, hd, hA]
end
end Go.Proofs.YtgemjjdkjmpmlaaGreatDoor
namespace Go.Proofs.YtgemjjdkjmpmlaaGreatDoor
open Go.RowKit Sp
theorem askK_law (l : List (List Int)) : ∀ k, ((askK l k).1 = -1 ∧ (askK l k).2 = (l.length : Int) ∨ ∃ j : Nat, j < k ∧ (askK l k).1 = (j : Int) ∧ (askK l k).2 = mostI l j ∧ mostI l j < (l.length : Int)) ∧
 ∀ i : Nat, i < k → (askK l k).2 < mostI l i ∨ (askK l k).2 = mostI l i ∧ ((askK l k).1 < 0 ∨ (askK l k).1 ≤ (i : Int)) ∨ (askK l k).2 ≤ mostI l i ∧ (askK l k).1 < 0
 | 0 => ⟨.inl ⟨rfl, rfl⟩, fun i h => absurd h (Nat.not_lt_zero _)⟩
 | k + 1 => by
  obtain ⟨h1, h2⟩ := askK_law l k
  rw [askK_succ]
  unfold askStep
  by_cases h : mostI l k < (askK l k).2
  ·rw [if_pos h]
   refine ⟨.inr ⟨k, by omega, rfl, rfl, ?_⟩, fun i hi => ?_⟩
   ·rcases h1 with ⟨_, e⟩ | ⟨j, _, _, e, e2⟩
    ·omega
    ·omega
   ·by_cases e : i = k
    ·subst e; right; left; exact ⟨rfl, .inr (by simp)⟩
    ·rcases h2 i (by omega) with h3 | h3 | h3 <;> left <;> show mostI l k < mostI l i <;> omega
  ·rw [if_neg h]
   refine ⟨?_, fun i hi => ?_⟩
   ·rcases h1 with h1 | ⟨j, hj, h3⟩
    ·exact .inl h1
    ·exact .inr ⟨j, by omega, h3⟩
   ·by_cases e : i = k
    ·subst e
     rcases h1 with ⟨e1, e2⟩ | ⟨j, hj, e1, e2, e3⟩
     ·right; right; exact ⟨by omega, by omega⟩
     ·by_cases e4 : (askK l i).2 = mostI l i
      ·right; left; exact ⟨e4, .inr (by omega)⟩
      ·left; omega
    ·exact h2 i (by omega)
theorem most_upto (l : List (List Int)) (i n : Nat) (hn : n ≤ 6) (h0 : ∀ v, n ≤ v → cntI l i v = 0) : ((List.range n).map (cntI l i)).foldl max 0 = mostI l i := by
 have b := fun v => cntI_bd l i v
 have b0 := b 0; have b1 := b 1; have b2 := b 2; have b3 := b 3; have b4 := b 4; have b5 := b 5
 rw [mostI_eq]
 rcases (show n = 0 ∨ n = 1 ∨ n = 2 ∨ n = 3 ∨ n = 4 ∨ n = 5 ∨ n = 6 by omega) with rfl | rfl | rfl | rfl | rfl | rfl | rfl
 all_goals simp only [List.range, List.range.loop, List.map, List.foldl]
 ·rw [h0 0 (by omega), h0 1 (by omega), h0 2 (by omega), h0 3 (by omega), h0 4 (by omega), h0 5 (by omega)]; rfl
 ·rw [h0 1 (by omega), h0 2 (by omega), h0 3 (by omega), h0 4 (by omega), h0 5 (by omega)]; omega
 ·rw [h0 2 (by omega), h0 3 (by omega), h0 4 (by omega), h0 5 (by omega)]; omega
 ·rw [h0 3 (by omega), h0 4 (by omega), h0 5 (by omega)]; omega
 ·rw [h0 4 (by omega), h0 5 (by omega)]; omega
 ·rw [h0 5 (by omega)]; omega
theorem pastsFrom_filter {b b' : Bk} (q : List Int → Bool) (h : ∀ c, c.length = b.ss.length → right b' c = (right b c && q c)) : ∀ (l : List (List Prt)) (pre : List Int), pre.length + l.length = b.ss.length → pastsFrom b' pre l = (pastsFrom b pre l).filter q
 | [], pre, hl => by
  unfold pastsFrom
  rw [h pre (by simpa using hl)]
  cases right b pre <;> cases hq : q pre <;> simp [hq]
 | s :: l, pre, hl => by
  unfold pastsFrom
  rw [List.filter_flatMap]
  congr 1
  funext n
  exact pastsFrom_filter q h l _ (by simp at hl ⊢; omega)
theorem pasts_filter {b b' : Bk} (hs : b'.ss = b.ss) (q : List Int → Bool) (h : ∀ c, c.length = b.ss.length → right b' c = (right b c && q c)) : pasts b' = (pasts b).filter q := by
 unfold pasts
 rw [hs]
 exact pastsFrom_filter q h _ _ (by simp)
theorem right_more (b : Bk) (xs : List Rec) (c : List Int) : right { b with rs := b.rs ++ xs } c = (right b c && xs.all (rightR b c)) := by
 unfold right
 rw [List.all_append]
 rfl
def knownB (b : Bk) (i k : Int) : Bk := { b with rs := b.rs ++ [⟨2, i, 0, k⟩, ⟨3, i, 0, k⟩] }
theorem known_pasts (b : Bk) (i k : Nat) : pasts (knownB b i k) = (pasts b).filter fun c => decide (c.getD i 0 = (k : Int)) := by
 refine pasts_filter (b := b) (b' := knownB b i k) rfl _ fun c _ => ?_
 unfold knownB
 rw [right_more]
 congr 1
 simp only [List.all_cons, List.all_nil, Bool.and_true, rightR]
 simp
 rw [Bool.eq_iff_iff]
 simp
 omega
theorem known_len (b : Bk) (i k : Nat) : ((pasts (knownB b i k)).length : Int) = cntI (pasts b) i k := by
 rw [known_pasts]
 unfold cntI
 rw [← List.countP_eq_length_filter]
 simp only [pad_getD]
theorem known_al {b : Bk} (h : bookAl b = 0) (hl : b.rs.length + 2 ≤ 5) {i k : Nat} (hi : i < b.ss.length) (hk : k ≤ b.ss[i].length) : bookAl (knownB b i k) = 0 := by
 have hm : ∀ (kd : Int), kd ≤ 3 → most b ⟨kd, i, 0, k⟩ = some ((b.ss[i].length : Nat) : Int) := fun kd hkd => by
  rw [most_sess hkd ⟨by simp, by show (i : Int) ≤ _; omega⟩]
  simp [hi]
 refine bookAl_rs h (by simp; omega) fun r hr => ?_
 rcases List.mem_append.1 hr with hr | hr
 ·exact (bookAl_ok h).2 r hr
 ·simp only [List.mem_cons, List.not_mem_nil, or_false] at hr
  rcases hr with rfl | rfl
  ·exact recAl_mk ⟨by simp, by simp⟩ (fun _ => rfl) (fun h => by simp [usesMany] at h) (hm 2 (by decide)) ⟨by simp, by show (k : Int) ≤ _; omega⟩
  ·exact recAl_mk ⟨by simp, by simp⟩ (fun _ => rfl) (fun h => by simp [usesMany] at h) (hm 3 (by decide)) ⟨by simp, by show (k : Int) ≤ _; omega⟩
theorem cnt_beyond {b : Bk} {i v : Nat} (hi : i < b.ss.length) (hv : b.ss[i].length + 1 ≤ v) : cntI (pasts b) i v = 0 := by
 unfold cntI
 rw [show (0 : Int) = ((0 : Nat) : Int) from rfl, Int.ofNat_inj, List.countP_eq_zero]
 intro x hx
 obtain ⟨h1, h2, _⟩ := mem_pasts.1 hx
 obtain ⟨_, h3, h4⟩ := h2 i (by omega)
 have e : (pad x).getD i 0 = x[i]'(by omega) := by rw [pad_getD, List.getD_eq_getElem?_getD, List.getElem?_eq_getElem (by omega), Option.getD_some]
 simp only [decide_eq_true_eq]
 intro e2
 have e3 := e.symm.trans e2
 omega
theorem leaves_most {b : Bk} (h : bookAl b = 0) {i : Nat} (hi : i < b.ss.length) : ((List.range (b.ss[i].length + 1)).map fun v => cntI (pasts b) i v).foldl max 0 = mostI (pasts b) i :=
 most_upto _ _ _ (by have := (bookAl_ok h).1.pl _ (List.getElem_mem hi); omega) fun v hv => cnt_beyond hi hv
end Go.Proofs.YtgemjjdkjmpmlaaGreatDoor
namespace Go.Proofs.YtgemjjdkjmpmlaaGreatDoor
open Go.RowKit Go.Maps Sp
def KnownRet (w : World) (b : Bk) (i k : Nat) (vr vg vm vs : Value) (e : Ending) (w' : World) : Prop := ∃ ra n rc, e = .returned (.agg #[vr, vg, vm, vs, .slice ra n rc]) ∧ BookAt w' (knownB b i k) vr vg vm vs (.slice ra n rc) ∧ Below w.heap.size w w'
def KnownC : Prop := ∀ (w : World) (b : Bk) (vr vg vm vs vc : Value) (i k : Nat), BookAt w b vr vg vm vs vc → b.rs.length + 2 ≤ 5 →
 Calls Tryz.prog 76 #[.agg #[vr, vg, vm, vs, vc], .int .i64 i, .int .i64 k] w (KnownRet w b i k vr vg vm vs)
def upTo (b : Bk) (i j : Nat) : Int := ((List.range j).map fun v => cntI (pasts b) i v).foldl max 0
theorem upTo_succ (b : Bk) (i j : Nat) : upTo b i (j + 1) = max (upTo b i j) (cntI (pasts b) i j) := by
 unfold upTo
 rw [List.range_succ, List.map_append, List.foldl_append]
 rfl
theorem known_hist {b : Bk} (h : bookAl b = 0) (hl : b.rs.length + 2 ≤ 5) {i k : Nat} (hi : i < b.ss.length) (hk : k ≤ b.ss[i].length) : histN (knownB b i k) = cntI (pasts b) i k := by
 unfold histN
 rw [if_pos (known_al h hl hi hk)]
 exact known_len b i k
section
variable {b : Bk} {vr vg vm vs vc : Value} {w : World}
theorem leaves_at (hC : KnownC) (hB : BookAt w b vr vg vm vs vc) (hN : ∀ m ∈ b.ms, m.name.size ≤ 1000000) (hK : KindsAt w) (hk : bookAl b = 0) (hl : b.rs.length + 2 ≤ 5) (i : Nat) (hi : i < b.ss.length) :
 Calls Tryz.prog 31 #[.agg #[vr, vg, vm, vs, vc], .int .i64 i] w fun e w' => e = .returned (.tuple #[.int .i64 (mostI (pasts b) i), .bool true]) ∧ Below w.heap.size w w' := by
 have hmo := leaves_most hk hi
 have hpl : b.ss[i].length ≤ 5 := by have := (bookAl_ok hk).1.pl _ (List.getElem_mem hi); omega
 obtain ⟨sa, sc, rfl, hSS, _⟩ := hB.ss
 obtain ⟨sb, so, rfl, hsb, pa, pc, e0, _, _, _⟩ := hSS i hi
 have hall : ∀ k : Nat, k ≤ b.ss[i].length → histN (knownB b i k) = cntI (pasts b) i k ∧ bookAl (knownB b i k) = 0 := fun k hkk => ⟨known_hist hk hl hi hkk, known_al hk hl hi hkk⟩
 have hi20 : i < 1000 := by have := (bookAl_ok hk).1.sl; omega
 have hmo2 : upTo b i (b.ss[i].length + 1) = mostI (pasts b) i := hmo
 generalize b.ss[i].length = L at hpl e0 hall hmo2
 have HC := Hh hC
 have HB := Hh hB
 have HN := Hh hN
 have HK := Hh hK
 have HALL := Hh hall
 have HMO := Hh hmo2
 have HL := Hh hl
 clear hC hB hN hK hk hall hmo hmo2 hSS hl
 go_enter Tryz.func31, Tryz.ntmps31
 go_wp2
 obtain ⟨W0, hW0⟩ : ∃ W0, W0 = w.alloc (.cells #[vr, vg, vm, .slice (some ⟨sb, so, none⟩) b.ss.length sc, vc] 26) := ⟨_, rfl⟩
 rw [← hW0]
 have hb0 : Below w.heap.size w W0 := by rw [hW0]; (exact bel)
 have hs0 : W0.heap.size = w.heap.size + 1 := by rw [hW0]; simp
 have nn : ∀ k u, (#[vr, vg, vm, .slice (some ⟨sb, so, none⟩) b.ss.length sc, vc] : Array Value)[k]? = some u → W0.cell? ⟨w.heap.size, k, none⟩ = some u := fun k u hk => by
  rw [hW0, World.cell?_alloc_at _ _ _ _ rfl]; exact hk
 have c0 := nn 0 _ rfl
 have c1 := nn 1 _ rfl
 have c2 := nn 2 _ rfl
 have c3 := nn 3 _ rfl
 have c4 := nn 4 _ rfl
 have e1 := (hb0.cell hsb).trans e0
 have hsb0 : sb < W0.heap.size := by omega
 have HB0 := Hh hb0
 clear hW0 nn e0 hb0
 go_loopw [6, 7] (fun m t wr => ∃ j : Nat, j ≤ L + 1 ∧ t = .int .i64 j ∧ m = .int .i64 (upTo b i j) ∧ Below W0.heap.size W0 wr) (fun _ t _ => L + 1 - (intOf t).toNat)
 case atStart => exact ⟨0, Nat.zero_le _, rfl, rfl, Below.refl _ _⟩
 case round =>
  obtain ⟨j, hj, rfl, rfl, hW⟩ := hrel
  have hWs := hW.size
  have hbr : w.heap.size < wr.heap.size := by omega
  have hz : w.heap.size < W0.heap.size := by omega
  have hsbr : sb < wr.heap.size := by omega
  have d0 := (hW.cell (p := ⟨w.heap.size, 0, none⟩) hz).trans c0
  have d1 := (hW.cell (p := ⟨w.heap.size, 1, none⟩) hz).trans c1
  have d2 := (hW.cell (p := ⟨w.heap.size, 2, none⟩) hz).trans c2
  have d3 := (hW.cell (p := ⟨w.heap.size, 3, none⟩) hz).trans c3
  have d4 := (hW.cell (p := ⟨w.heap.size, 4, none⟩) hz).trans c4
  have d5 := (hW.cell (p := ⟨sb, so + i, none⟩) hsb0).trans e1
  have hbb := Hh (Below.next HB0.out (bel : Below W0.heap.size W0 wr))
  by_cases hlt : j ≤ L
  ·have hd : decide ((j : Int) ≤ (L : Int)) = true := by rw [decide_eq_true_iff]; omega
   obtain ⟨hh, hal⟩ := HALL.out j hlt
   have hsn := upTo_succ b i j
   generalize cntI (pasts b) i j = nn at hh hsn
   generalize upTo b i j = mm at hsn
   have HH := Hh hh
   have HAL := Hh hal
   have HSN := Hh hsn
   have HNA := Hh (show ∀ m ∈ (knownB b i j).ms, m.name.size ≤ 1000000 from HN.out)
   clear hh hal hsn
   go_wp2_with (first
    | (go_at_call 76; go_loud (refine (HC.out _ _ _ _ _ _ _ i j (HB.out.below hbb.out) HL.out).mono ?_); rintro e w1 ⟨ra, rn, rc, rfl, hBA, hb1⟩)
    | (go_at_call 24; (with_reducible refine (histories2_at hBA HNA.out (HK.out.below (Below.next hbb.out hb1)) HH.out HAL.out).mono ?_); rintro e w2 ⟨rfl, hb2⟩))
   go_roundw
   case rel => exact ⟨j + 1, by omega, by go_num, by rw [HSN.out], bel⟩
   case measure => simp [intOf]; omega
  ·obtain rfl : j = L + 1 := by omega
   have hd : decide (((L + 1 : Nat) : Int) ≤ (L : Int)) = false := by rw [decide_eq_false_iff_not]; omega
   go_wp2
   go_ret2
   exact ⟨by rw [HMO.out]; rfl, hbb.out⟩
end
section
variable {b : Bk} {vr vg vm vs vc : Value} {w : World}
theorem ask_no (hB : BookAt w b vr vg vm vs vc) (hN : ∀ m ∈ b.ms, m.name.size ≤ 1000000) (hK : KindsAt w) {t : Int} (ht : openAl b 0 = t) (h0 : t ≠ 0) :
 Calls Tryz.prog 29 #[.agg #[vr, vg, vm, vs, vc]] w fun e w' => e = .returned (.tuple #[.int .i64 0, .int .i64 0, .int .i64 t]) ∧ Below w.heap.size w w' := by
 have HB := Hh hB
 have HN := Hh hN
 have HK := Hh hK
 have HT := Hh ht
 have HH0 := Hh h0
 have hz3 : (t != 0) = true := by simpa using h0
 obtain ⟨rfl, rfl, ⟨ma, mc, rfl, _, _⟩, ⟨sa, sc, rfl, _, _⟩, ra, rc, rfl, _, _⟩ := id hB
 clear hB hN hK ht
 go_enter Tryz.func29, Tryz.ntmps29
 go_wp2_with (go_at_call 66; (with_reducible refine (open_nothing_no (HB.out.below (bel)) HN.out (HK.out.below (bel)) (al := 0) (fun hk W hW => nothing_any2 _ _ _ _ _ _) HT.out HH0.out).mono ?_); rintro e w3 ⟨rfl, hb3⟩; obtain ⟨hc3, hf3⟩ := bcell hb3; have hz3 := hb3.size; (try simp at hz3))
 exact bodyPost_ret (v := .tuple #[.int .i64 0, .int .i64 0, .int .i64 t]) (by simp [results, Tryz.results29, go_sem, *]) rfl ⟨rfl, bel⟩
end
end Go.Proofs.YtgemjjdkjmpmlaaGreatDoor
namespace Go.Proofs.YtgemjjdkjmpmlaaGreatDoor
open Go.RowKit Go.Maps Sp Mt Go.Conc
theorem asBody_eq : ∃ r0 rg rs r3 r4 r5 s6 r7 f8 r9 r10 r11 f12 r13 r14 r15, Tryz.f5.body = some (.seq r0 (.seq (.seq rg (.cond (.tmp 30) (.seq rs .ret) .skip)) (.seq r3 (.seq r4 (.seq (.seq r5 (.cond (.tmp 48) (.seq s6 .ret) .skip)) (.seq (.seq r7 (.cond (.tmp 86) (.seq f8 .ret) .skip)) (.seq (.seq r9 (.cond (.tmp 88) (.seq r10 (.seq r11 (.cond (.tmp 101) (.seq f12 .ret) .skip))) .skip)) (.seq r13 (.seq r14 (.seq r15 .ret)))))))))) := ⟨_, _, _, _, _, _, _, _, _, _, _, _, _, _, _, _, rfl⟩
def UZ0 (b : Bk) (s : Int) (vr vg vm vs vc : Value) (a' : Act) (w2 : World) : Prop := ∃ B, a' = { tmps := #[.agg #[vr, vg, vm, vs, vc], .int .u8 s, .pointer (some ⟨B, 0, none⟩), U, .bool false, U, U, U, U, U, U, U, U, U, U, U, U, U, U, U, U, U, U, U, U, U, U, U, U, U, U, U, U, U, U, U, U, U, U, U, U, U, U, U, U, U, U, U, U, U, U, U, U, U, U, U, U, U, U, U, U, U, U, U, U, U, U, U, U, U, U, U, U, U, U, U, U, U, U, U, U, U, U, U, U, U, U, U, U, U, U, U, U, U, U, U, U, U, U, U, U, U, U, U, U, U, U, U, U, U, U, U, U, U, U, U, U, U, U, U, U, U, U, U, U, U, U, U, U, U, U, U, U, U, U, U, U], defers := [] } ∧ LawAt w2 B b [] vr vg vm vs vc none
theorem as_0 {r0 rg rs r3 r4 r5 s6 r7 f8 r9 r10 r11 f12 r13 r14 r15 : Code} (hc : Tryz.f5.body = some (.seq r0 (.seq (.seq rg (.cond (.tmp 30) (.seq rs .ret) .skip)) (.seq r3 (.seq r4 (.seq (.seq r5 (.cond (.tmp 48) (.seq s6 .ret) .skip)) (.seq (.seq r7 (.cond (.tmp 86) (.seq f8 .ret) .skip)) (.seq (.seq r9 (.cond (.tmp 88) (.seq r10 (.seq r11 (.cond (.tmp 101) (.seq f12 .ret) .skip))) .skip)) (.seq r13 (.seq r14 (.seq r15 .ret))))))))))) {b : Bk} {s : Int} {vr vg vm vs vc : Value} {w : World} (hR : RawAt w b vr vg vm vs vc) (hK : KindsAt w) : r0.wp Tryz.prog (PZ w (UZ0 b s vr vg vm vs vc)) ({ tmps := #[.agg #[vr, vg, vm, vs, vc], .int .u8 s, U, U, U, U, U, U, U, U, U, U, U, U, U, U, U, U, U, U, U, U, U, U, U, U, U, U, U, U, U, U, U, U, U, U, U, U, U, U, U, U, U, U, U, U, U, U, U, U, U, U, U, U, U, U, U, U, U, U, U, U, U, U, U, U, U, U, U, U, U, U, U, U, U, U, U, U, U, U, U, U, U, U, U, U, U, U, U, U, U, U, U, U, U, U, U, U, U, U, U, U, U, U, U, U, U, U, U, U, U, U, U, U, U, U, U, U, U, U, U, U, U, U, U, U, U, U, U, U, U, U, U, U, U, U, U], defers := [] }) w := by
 simp only [Tryz.f5, Option.some.injEq, Code.seq.injEq, Code.cond.injEq] at hc
 obtain ⟨rfl, ⟨rfl, -, ⟨rfl, -⟩, -⟩, rfl, rfl, ⟨rfl, -, ⟨rfl, -⟩, -⟩, ⟨rfl, -, ⟨rfl, -⟩, -⟩, ⟨rfl, -, ⟨rfl, rfl, -, ⟨rfl, -⟩, -⟩, -⟩, rfl, rfl, rfl, -⟩ := hc
 have HR := Hh hR
 have HK := Hh hK
 clear hR hK
 go_wp2
 have hbw : Below w.heap.size w (w.alloc (.cells #[vr, vg, vm, vs, vc] 26)) := bel
 refine ⟨rfl, ⟨w.heap.size, rfl, ?_, ?_, ?_, ?_, ?_, HR.out.below hbw, HK.out.below hbw, ints_nil⟩, hbw⟩ <;> (rw [World.cell?_alloc_at _ _ _ _ rfl]; rfl)
def UZ1 (B : Nat) (s : Int) (vr vg vm vs vc : Value) (x : Bool) (a' : Act) (w2 : World) : Prop := ∃ d15 d16 d17 d18 d19 d20 d21 d22 d23 d24 d25 d26 d27 d28 d29, a' = { tmps := #[.agg #[vr, vg, vm, vs, vc], .int .u8 s, .pointer (some ⟨B, 0, none⟩), U, .bool false, U, U, U, U, U, U, U, U, U, U, d15, d16, d17, d18, d19, d20, d21, d22, d23, d24, d25, d26, d27, d28, d29, .bool x, U, U, U, U, U, U, U, U, U, U, U, U, U, U, U, U, U, U, U, U, U, U, U, U, U, U, U, U, U, U, U, U, U, U, U, U, U, U, U, U, U, U, U, U, U, U, U, U, U, U, U, U, U, U, U, U, U, U, U, U, U, U, U, U, U, U, U, U, U, U, U, U, U, U, U, U, U, U, U, U, U, U, U, U, U, U, U, U, U, U, U, U, U, U, U, U, U, U, U, U, U, U, U, U, U, U], defers := [] }
theorem as_1 {r0 rg rs r3 r4 r5 s6 r7 f8 r9 r10 r11 f12 r13 r14 r15 : Code} (hc : Tryz.f5.body = some (.seq r0 (.seq (.seq rg (.cond (.tmp 30) (.seq rs .ret) .skip)) (.seq r3 (.seq r4 (.seq (.seq r5 (.cond (.tmp 48) (.seq s6 .ret) .skip)) (.seq (.seq r7 (.cond (.tmp 86) (.seq f8 .ret) .skip)) (.seq (.seq r9 (.cond (.tmp 88) (.seq r10 (.seq r11 (.cond (.tmp 101) (.seq f12 .ret) .skip))) .skip)) (.seq r13 (.seq r14 (.seq r15 .ret))))))))))) {B : Nat} {b : Bk} {s : Int} {vr vg vm vs vc : Value} {w : World} {x : Bool} (hE : LawAt w B b [] vr vg vm vs vc none) (hx : x = true ↔ ¬ ((SmallB b ∧ bookAl b = 0) ∧ b.rs.length + 2 ≤ 5 ∧ 0 < b.ss.length)) : rg.wp Tryz.prog (PZ w (UZ1 B s vr vg vm vs vc x)) ({ tmps := #[.agg #[vr, vg, vm, vs, vc], .int .u8 s, .pointer (some ⟨B, 0, none⟩), U, .bool false, U, U, U, U, U, U, U, U, U, U, U, U, U, U, U, U, U, U, U, U, U, U, U, U, U, U, U, U, U, U, U, U, U, U, U, U, U, U, U, U, U, U, U, U, U, U, U, U, U, U, U, U, U, U, U, U, U, U, U, U, U, U, U, U, U, U, U, U, U, U, U, U, U, U, U, U, U, U, U, U, U, U, U, U, U, U, U, U, U, U, U, U, U, U, U, U, U, U, U, U, U, U, U, U, U, U, U, U, U, U, U, U, U, U, U, U, U, U, U, U, U, U, U, U, U, U, U, U, U, U, U, U], defers := [] }) w := by
 simp only [Tryz.f5, Option.some.injEq, Code.seq.injEq, Code.cond.injEq] at hc
 obtain ⟨rfl, ⟨rfl, -, ⟨rfl, -⟩, -⟩, rfl, rfl, ⟨rfl, -, ⟨rfl, -⟩, -⟩, ⟨rfl, -, ⟨rfl, -⟩, -⟩, ⟨rfl, -, ⟨rfl, rfl, -, ⟨rfl, -⟩, -⟩, -⟩, rfl, rfl, rfl, -⟩ := hc
 have hrw := hE.raw
 obtain ⟨x0, x1, x2, x3, x4, _, _, _⟩ := hE
 have HRW := Hh hrw
 have hB0 := lt_of_cell x0
 simp only at hB0
 obtain ⟨rfl, rfl, ⟨ma, mc, rfl, _⟩, ⟨sa, sc, rfl, _⟩, ra, rc, rfl, _⟩ := hrw
 by_cases hs : SmallB b ∧ bookAl b = 0
 ·have HG := Hh (show (true = true ↔ SmallB b ∧ bookAl b = 0) by simp [hs])
  have hr5 := recs_len hs.2
  by_cases hl : b.rs.length + 2 ≤ 5
  ·have e0 : decide ((5 : Int) < (b.rs.length : Int) + 2) = false := by rw [decide_eq_false_iff_not]; omega
   have e1 : decide ((5 : Int) < ((b.rs.length + 2 : Nat) : Int)) = false := by rw [decide_eq_false_iff_not]; omega
   by_cases hn : 0 < b.ss.length
   ·obtain rfl : x = false := by
     cases x with
     | false => rfl
     | true => exact absurd ⟨hs, hl, hn⟩ (hx.1 rfl)
    have e2 : ((b.ss.length : Int) == 0) = false := by rw [beq_eq_false_iff_ne]; omega
    clear hs hx
    go_wp2_with (go_at_call 13; (with_reducible refine (fit_at HRW.out HG.out).mono ?_); rintro e w1 ⟨rfl, hb1⟩; obtain ⟨hc1, hf1⟩ := bcell hb1; have hz1 := hb1.size)
    exact ⟨rfl, ⟨_, _, _, _, _, _, _, _, _, _, _, _, _, _, _, rfl⟩, bel⟩
   ·obtain rfl : x = true := hx.2 fun h => hn h.2.2
    have e2 : ((b.ss.length : Int) == 0) = true := by rw [beq_iff_eq]; omega
    clear hs hx
    go_wp2_with (go_at_call 13; (with_reducible refine (fit_at HRW.out HG.out).mono ?_); rintro e w1 ⟨rfl, hb1⟩; obtain ⟨hc1, hf1⟩ := bcell hb1; have hz1 := hb1.size)
    exact ⟨rfl, ⟨_, _, _, _, _, _, _, _, _, _, _, _, _, _, _, rfl⟩, bel⟩
  ·obtain rfl : x = true := hx.2 fun h => hl h.2.1
   have e0 : decide ((5 : Int) < (b.rs.length : Int) + 2) = true := by rw [decide_eq_true_iff]; omega
   have e1 : decide ((5 : Int) < ((b.rs.length + 2 : Nat) : Int)) = true := by rw [decide_eq_true_iff]; omega
   clear hs hx
   go_wp2_with (go_at_call 13; (with_reducible refine (fit_at HRW.out HG.out).mono ?_); rintro e w1 ⟨rfl, hb1⟩; obtain ⟨hc1, hf1⟩ := bcell hb1; have hz1 := hb1.size)
   exact ⟨rfl, ⟨_, _, _, _, _, _, _, _, _, _, _, _, _, _, _, rfl⟩, bel⟩
 ·have HG := Hh (show (false = true ↔ SmallB b ∧ bookAl b = 0) by simp [hs])
  obtain rfl : x = true := hx.2 fun h => hs h.1
  clear hs hx
  go_wp2_with (go_at_call 13; (with_reducible refine (fit_at HRW.out HG.out).mono ?_); rintro e w1 ⟨rfl, hb1⟩; obtain ⟨hc1, hf1⟩ := bcell hb1; have hz1 := hb1.size)
  exact ⟨rfl, ⟨_, _, _, _, _, _, _, _, _, _, _, _, _, _, _, rfl⟩, bel⟩
def UZA (B : Nat) (s : Int) (vr vg vm vs vc : Value) (a' : Act) (w2 : World) : Prop := ∃ d15 d16 d17 d18 d19 d20 d21 d22 d23 d24 d25 d26 d27 d28 d29 d32 d33 d34 d35 d36 d37 d38 d39 d40 d41 d42, a' = { tmps := #[.agg #[vr, vg, vm, vs, vc], .int .u8 s, .pointer (some ⟨B, 0, none⟩), U, .bool false, .int .i64 0, .int .i64 0, .int .i64 10, .int .i64 0, .int .i64 0, U, U, U, U, U, d15, d16, d17, d18, d19, d20, d21, d22, d23, d24, d25, d26, d27, d28, d29, .bool false, U, d32, d33, d34, d35, d36, d37, d38, d39, d40, d41, d42, U, U, U, U, U, U, U, U, U, U, U, U, U, U, U, U, U, U, U, U, U, U, U, U, U, U, U, U, U, U, U, U, U, U, U, U, U, U, U, U, U, U, U, U, U, U, U, U, U, U, U, U, U, U, U, U, U, U, U, U, U, U, U, U, U, U, U, U, U, U, U, U, U, U, U, U, U, U, U, U, U, U, U, U, U, U, U, U, U, U, U, U, U, U], defers := [] }
theorem as_A {r0 rg rs r3 r4 r5 s6 r7 f8 r9 r10 r11 f12 r13 r14 r15 : Code} (hc : Tryz.f5.body = some (.seq r0 (.seq (.seq rg (.cond (.tmp 30) (.seq rs .ret) .skip)) (.seq r3 (.seq r4 (.seq (.seq r5 (.cond (.tmp 48) (.seq s6 .ret) .skip)) (.seq (.seq r7 (.cond (.tmp 86) (.seq f8 .ret) .skip)) (.seq (.seq r9 (.cond (.tmp 88) (.seq r10 (.seq r11 (.cond (.tmp 101) (.seq f12 .ret) .skip))) .skip)) (.seq r13 (.seq r14 (.seq r15 .ret))))))))))) {B : Nat} {b : Bk} {s : Int} {vr vg vm vs vc : Value} {w : World} (hE : LawAt w B b [] vr vg vm vs vc none) (hS : SmallB b) (hk : bookAl b = 0) (hp : pasts b = []) {d15 d16 d17 d18 d19 d20 d21 d22 d23 d24 d25 d26 d27 d28 d29 : Value} :
 wps Tryz.prog [r3, r4] (fun a' w2 => UZA B s vr vg vm vs vc a' w2 ∧ Old w w2) ({ tmps := #[.agg #[vr, vg, vm, vs, vc], .int .u8 s, .pointer (some ⟨B, 0, none⟩), U, .bool false, U, U, U, U, U, U, U, U, U, U, d15, d16, d17, d18, d19, d20, d21, d22, d23, d24, d25, d26, d27, d28, d29, .bool false, U, U, U, U, U, U, U, U, U, U, U, U, U, U, U, U, U, U, U, U, U, U, U, U, U, U, U, U, U, U, U, U, U, U, U, U, U, U, U, U, U, U, U, U, U, U, U, U, U, U, U, U, U, U, U, U, U, U, U, U, U, U, U, U, U, U, U, U, U, U, U, U, U, U, U, U, U, U, U, U, U, U, U, U, U, U, U, U, U, U, U, U, U, U, U, U, U, U, U, U, U, U, U, U, U, U], defers := [] }) w := by
 simp only [Tryz.f5, Option.some.injEq, Code.seq.injEq, Code.cond.injEq] at hc
 obtain ⟨-, -, h3, h4, ⟨h5, -, ⟨h6, -⟩, -⟩, ⟨h7, -, ⟨h8, -⟩, -⟩, ⟨h9, -, ⟨h10, h11, -, ⟨h12, -⟩, -⟩, -⟩, h13, h14, -⟩ := hc
 clear h5 h6 h7 h8 h9 h10 h11 h12 h13 h14
 have HS := Hh hS
 have HN := Hh hS.names
 have HAL := Hh hk
 have HKK := Hh (show histN b = 0 by unfold histN; rw [if_pos hk, hp]; rfl)
 have HT := Hh (show openAl b 0 = 10 by unfold openAl; rw [if_neg (by simp [hk]), if_neg (by simp), if_pos hp])
 clear hS hk hp
 refine wps_nq ?_
 rw [← h3]
 clear h3
 obtain ⟨c0, c1, c2, c3, c4, _, _, _⟩ := id hE
 have HBx := Hh (hE.raw.book HS.out)
 have HKx := Hh hE.kd
 have EE := Hh hE
 clear hE
 have hB0 := lt_of_cell c0
 simp only at hB0
 go_wp2_with (go_at_call 29; (with_reducible refine (ask_no HBx.out HN.out HKx.out HT.out (by decide)).mono ?_); rintro e w1 ⟨rfl, hb1⟩)
 refine ⟨rfl, fun X1 t1 => ?_⟩
 have o1 := (Old.ofBelow hb1).twin0 t1
 have E1 := EE.out.old o1
 have OO1 := Hh (o1)
 clear c0 c1 c2 c3 c4 HBx HKx EE hb1 t1 o1 hB0
 refine wps_nq ?_
 rw [← h4]
 clear h4
 obtain ⟨c0, c1, c2, c3, c4, _, _, _⟩ := id E1
 have HBx := Hh (E1.raw.book HS.out)
 have HKx := Hh E1.kd
 have EE := Hh E1
 clear E1
 have hB0 := lt_of_cell c0
 simp only at hB0
 go_wp2_with (go_at_call 24; (with_reducible refine (histories2_at HBx.out HN.out HKx.out HKK.out HAL.out).mono ?_); rintro e w1 ⟨rfl, hb1⟩)
 refine ⟨rfl, fun X2 t1 => ?_⟩
 have o1 := (Old.ofBelow hb1).twin0 t1
 have E2 := EE.out.old o1
 have OO2 := Hh (OO1.out.trans o1)
 clear c0 c1 c2 c3 c4 HBx HKx EE hb1 t1 o1 hB0 OO1
 exact ⟨⟨_, _, _, _, _, _, _, _, _, _, _, _, _, _, _, _, _, _, _, _, _, _, _, _, _, _, rfl⟩, OO2.out⟩
def UZA5 (B : Nat) (s : Int) (vr vg vm vs vc : Value) (a' : Act) (w2 : World) : Prop := ∃ d15 d16 d17 d18 d19 d20 d21 d22 d23 d24 d25 d26 d27 d28 d29 d32 d33 d34 d35 d36 d37 d38 d39 d40 d41 d42 d43 d44 d45 d46 d47, a' = { tmps := #[.agg #[vr, vg, vm, vs, vc], .int .u8 s, .pointer (some ⟨B, 0, none⟩), U, .bool false, .int .i64 0, .int .i64 0, .int .i64 10, .int .i64 0, .int .i64 0, U, U, U, U, U, d15, d16, d17, d18, d19, d20, d21, d22, d23, d24, d25, d26, d27, d28, d29, .bool false, U, d32, d33, d34, d35, d36, d37, d38, d39, d40, d41, d42, d43, d44, d45, d46, d47, .bool true, U, U, U, U, U, U, U, U, U, U, U, U, U, U, U, U, U, U, U, U, U, U, U, U, U, U, U, U, U, U, U, U, U, U, U, U, U, U, U, U, U, U, U, U, U, U, U, U, U, U, U, U, U, U, U, U, U, U, U, U, U, U, U, U, U, U, U, U, U, U, U, U, U, U, U, U, U, U, U, U, U, U, U, U, U, U, U, U], defers := [] }
theorem as_A5 {r0 rg rs r3 r4 r5 s6 r7 f8 r9 r10 r11 f12 r13 r14 r15 : Code} (hc : Tryz.f5.body = some (.seq r0 (.seq (.seq rg (.cond (.tmp 30) (.seq rs .ret) .skip)) (.seq r3 (.seq r4 (.seq (.seq r5 (.cond (.tmp 48) (.seq s6 .ret) .skip)) (.seq (.seq r7 (.cond (.tmp 86) (.seq f8 .ret) .skip)) (.seq (.seq r9 (.cond (.tmp 88) (.seq r10 (.seq r11 (.cond (.tmp 101) (.seq f12 .ret) .skip))) .skip)) (.seq r13 (.seq r14 (.seq r15 .ret))))))))))) {B : Nat} {b : Bk} {s : Int} {vr vg vm vs vc : Value} {w : World} {d15 d16 d17 d18 d19 d20 d21 d22 d23 d24 d25 d26 d27 d28 d29 d32 d33 d34 d35 d36 d37 d38 d39 d40 d41 d42 : Value} : r5.wp Tryz.prog (PZ w (UZA5 B s vr vg vm vs vc)) ({ tmps := #[.agg #[vr, vg, vm, vs, vc], .int .u8 s, .pointer (some ⟨B, 0, none⟩), U, .bool false, .int .i64 0, .int .i64 0, .int .i64 10, .int .i64 0, .int .i64 0, U, U, U, U, U, d15, d16, d17, d18, d19, d20, d21, d22, d23, d24, d25, d26, d27, d28, d29, .bool false, U, d32, d33, d34, d35, d36, d37, d38, d39, d40, d41, d42, U, U, U, U, U, U, U, U, U, U, U, U, U, U, U, U, U, U, U, U, U, U, U, U, U, U, U, U, U, U, U, U, U, U, U, U, U, U, U, U, U, U, U, U, U, U, U, U, U, U, U, U, U, U, U, U, U, U, U, U, U, U, U, U, U, U, U, U, U, U, U, U, U, U, U, U, U, U, U, U, U, U, U, U, U, U, U, U, U, U, U, U, U, U], defers := [] }) w := by
 simp only [Tryz.f5, Option.some.injEq, Code.seq.injEq, Code.cond.injEq] at hc
 obtain ⟨rfl, ⟨rfl, -, ⟨rfl, -⟩, -⟩, rfl, rfl, ⟨rfl, -, ⟨rfl, -⟩, -⟩, ⟨rfl, -, ⟨rfl, -⟩, -⟩, ⟨rfl, -, ⟨rfl, rfl, -, ⟨rfl, -⟩, -⟩, -⟩, rfl, rfl, rfl, -⟩ := hc
 go_wp2
 exact ⟨rfl, ⟨_, _, _, _, _, _, _, _, _, _, _, _, _, _, _, _, _, _, _, _, _, _, _, _, _, _, _, _, _, _, _, rfl⟩, bel⟩
theorem as_3 {r0 rg rs r3 r4 r5 s6 r7 f8 r9 r10 r11 f12 r13 r14 r15 : Code} (hc : Tryz.f5.body = some (.seq r0 (.seq (.seq rg (.cond (.tmp 30) (.seq rs .ret) .skip)) (.seq r3 (.seq r4 (.seq (.seq r5 (.cond (.tmp 48) (.seq s6 .ret) .skip)) (.seq (.seq r7 (.cond (.tmp 86) (.seq f8 .ret) .skip)) (.seq (.seq r9 (.cond (.tmp 88) (.seq r10 (.seq r11 (.cond (.tmp 101) (.seq f12 .ret) .skip))) .skip)) (.seq r13 (.seq r14 (.seq r15 .ret))))))))))) {B : Nat} {b : Bk} {s : Int} {vr vg vm vs vc : Value} {w : World} (hE : LawAt w B b [] vr vg vm vs vc none) (hS : SmallB b) (ht : openAl b 0 = 0) (hn : 0 < b.ss.length) {d15 d16 d17 d18 d19 d20 d21 d22 d23 d24 d25 d26 d27 d28 d29 : Value} {kk : List Item} {cs : List Frame} {K : Frame → List Frame → World → Prop}
 (hr : ∀ w', Old w w' → ∀ {d32 d33 d34 d35 d36 d37 : Value}, Leads Tryz.prog K ((Go.Conc.base 5).at { tmps := #[.agg #[vr, vg, vm, vs, vc], .int .u8 s, .pointer (some ⟨B, 0, none⟩), U, .bool false, .int .i64 (askI (pasts b) b.ss.length).1, .int .i64 (askI (pasts b) b.ss.length).2, .int .i64 0, U, U, U, U, U, U, U, d15, d16, d17, d18, d19, d20, d21, d22, d23, d24, d25, d26, d27, d28, d29, .bool false, U, d32, d33, d34, d35, d36, d37, U, U, U, U, U, U, U, U, U, U, U, U, U, U, U, U, U, U, U, U, U, U, U, U, U, U, U, U, U, U, U, U, U, U, U, U, U, U, U, U, U, U, U, U, U, U, U, U, U, U, U, U, U, U, U, U, U, U, U, U, U, U, U, U, U, U, U, U, U, U, U, U, U, U, U, U, U, U, U, U, U, U, U, U, U, U, U, U, U, U, U, U, U, U, U, U, U, U, U], defers := [] } kk) cs w') :
 Leads Tryz.prog K ((Go.Conc.base 5).at { tmps := #[.agg #[vr, vg, vm, vs, vc], .int .u8 s, .pointer (some ⟨B, 0, none⟩), U, .bool false, U, U, U, U, U, U, U, U, U, U, d15, d16, d17, d18, d19, d20, d21, d22, d23, d24, d25, d26, d27, d28, d29, .bool false, U, U, U, U, U, U, U, U, U, U, U, U, U, U, U, U, U, U, U, U, U, U, U, U, U, U, U, U, U, U, U, U, U, U, U, U, U, U, U, U, U, U, U, U, U, U, U, U, U, U, U, U, U, U, U, U, U, U, U, U, U, U, U, U, U, U, U, U, U, U, U, U, U, U, U, U, U, U, U, U, U, U, U, U, U, U, U, U, U, U, U, U, U, U, U, U, U, U, U, U, U, U, U, U, U, U], defers := [] } (.code r3 :: kk)) cs w := by
 have nb : (Go.Conc.base 5).kind = .normal := rfl
 have hbk := hE.raw.book hS
 have hkd := hE.kd
 have hnm := hS.names
 obtain ⟨x0, x1, x2, x3, x4, _, _, _⟩ := hE
 have hB0 := lt_of_cell x0
 simp only at hB0
 simp only [Tryz.f5, Option.some.injEq, Code.seq.injEq, Code.cond.injEq] at hc
 obtain ⟨-, -, h3, h4, ⟨h5, -, ⟨h6, -⟩, -⟩, ⟨h7, -, ⟨h8, -⟩, -⟩, ⟨h9, -, ⟨h10, h11, -, ⟨h12, -⟩, -⟩, -⟩, h13, h14, -⟩ := hc
 clear h4 h5 h6 h7 h8 h9 h10 h11 h12 h13 h14
 rw [← h3]
 clear h3
 refine leads_region fun d => ?_
 simp only [List.size_toArray, List.length_cons, List.length_nil, Nat.reduceAdd, Nat.zero_add, List.range, List.range.loop]
 have atc : ∀ (w : World) (d : Nat) (a : Addr), (w.at d).cell? a = w.cell? a := fun _ _ _ => rfl
 have ats : ∀ (w : World) (d : Nat), (w.at d).heap.size = w.heap.size := fun _ _ => rfl
 refine leads_op (.agg #[vr, vg, vm, vs, vc]) nb rfl rfl (fun d => by simp [go_sem, atc, x0, x1, x2, x3, x4]) (fun d => by simp [go_sem, atc, ats, x0, x1, x2, x3, x4, EvOk, hB0]) fun d2 => ?_
 go_simp
 refine leads_call (f := 29) (args := #[.agg #[vr, vg, vm, vs, vc]]) (Z := fun v w1 => v = .tuple #[.int .i64 (askI (pasts b) b.ss.length).1, .int .i64 (askI (pasts b) b.ss.length).2, .int .i64 0] ∧ Old w w1) nb rfl rfl (fun d => by simp [go_sem]) (fun d => by simp [go_sem]; exact ev_call Tryz.func29 (by kernel_rfl) (by kernel_rfl)) (fun d3 => ?_) ?_
 ·have tw : Twin 0 w (((w.at d).at d2).at d3) := ⟨rfl, rfl, rfl, fun _ => rfl, fun _ => rfl, fun _ _ => rfl⟩
  refine (ask_co (tw.book hbk) hnm (tw.kinds hkd) ht hn _ _).mono ?_
  rintro fr' cs' w1 ⟨h1, h2, ho⟩
  exact ⟨_, h1, h2, rfl, ⟨ho.os, ho.output, ho.size, ho.block⟩⟩
 rintro v w1 ⟨rfl, ho⟩
 go_simp
 refine leads_op (.tuple #[.int .i64 (askI (pasts b) b.ss.length).1, .int .i64 (askI (pasts b) b.ss.length).2, .int .i64 0]) nb rfl rfl (fun d => by simp [go_sem]) (fun d => by simp [go_sem]) fun d => ?_
 go_simp
 refine leads_op (.int .i64 (askI (pasts b) b.ss.length).1) nb rfl rfl (fun d => by simp [go_sem]) (fun d => by simp [go_sem]) fun d => ?_
 go_simp
 refine leads_op (.int .i64 (askI (pasts b) b.ss.length).2) nb rfl rfl (fun d => by simp [go_sem]) (fun d => by simp [go_sem]) fun d => ?_
 go_simp
 refine leads_op (.int .i64 0) nb rfl rfl (fun d => by simp [go_sem]) (fun d => by simp [go_sem]) fun d => ?_
 go_simp
 refine leads_op (.int .i64 (askI (pasts b) b.ss.length).1) nb rfl rfl (fun d => by simp [go_sem]) (fun d => by simp [go_sem]) fun d => ?_
 go_simp
 refine leads_op (.int .i64 (askI (pasts b) b.ss.length).2) nb rfl rfl (fun d => by simp [go_sem]) (fun d => by simp [go_sem]) fun d => ?_
 go_simp
 refine leads_op (.int .i64 0) nb rfl rfl (fun d => by simp [go_sem]) (fun d => by simp [go_sem]) fun d => ?_
 go_simp
 refine leads_inRegion fun d => ?_
 refine hr _ ?_
 exact ⟨ho.os, ho.output, ho.size, ho.block⟩
end Go.Proofs.YtgemjjdkjmpmlaaGreatDoor
namespace Go.Proofs.YtgemjjdkjmpmlaaGreatDoor
open Go.RowKit Go.Maps Sp
theorem recs_cells {w : World} {sb : Nat} : ∀ (l : List Rec) (so : Nat), (∀ i (h : i < l.length), w.cell? ⟨sb, so + i * 4, none⟩ = some (.int .i64 l[i].k) ∧ w.cell? ⟨sb, so + i * 4 + 1, none⟩ = some (.int .i64 l[i].a) ∧ w.cell? ⟨sb, so + i * 4 + 2, none⟩ = some (.int .i64 l[i].b) ∧ w.cell? ⟨sb, so + i * 4 + 3, none⟩ = some (.int .i64 l[i].m)) →
 ∀ j u, (l.flatMap cellsR)[j]? = some u → w.cell? ⟨sb, so + j, none⟩ = some u
 | [], _, _, j, u, hj => by simp at hj
 | r :: l, so, h, j, u, hj => by
  obtain ⟨h0, h1, h2, h3⟩ := h 0 (by simp)
  rw [List.flatMap_cons] at hj
  by_cases hlt : j < 4
  ·rw [List.getElem?_append_left (by show _ < 4; omega)] at hj
   match j, hlt with
   | 0, _ => obtain rfl := Option.some.inj hj; exact h0
   | 1, _ => obtain rfl := Option.some.inj hj; exact h1
   | 2, _ => obtain rfl := Option.some.inj hj; exact h2
   | 3, _ => obtain rfl := Option.some.inj hj; exact h3
  ·rw [List.getElem?_append_right (by show 4 ≤ _; omega)] at hj
   have ih := recs_cells l (so + 4) (fun i hi => by
    have := h (i + 1) (by simp; omega)
    simp only [List.getElem_cons_succ] at this
    rw [show so + 4 + i * 4 = so + (i + 1) * 4 by omega]
    exact this) (j - 4) u hj
   rwa [show so + 4 + (j - 4) = so + j by omega] at ih
theorem recs_flat_len : ∀ l : List Rec, (l.flatMap cellsR).length = l.length * 4
 | [] => rfl
 | x :: l => by
  rw [List.flatMap_cons, List.length_append, recs_flat_len l, List.length_cons]
  show 4 + _ = _
  omega
theorem known_flat (b : Bk) (i k : Nat) : (knownB b i k).rs.flatMap cellsR = b.rs.flatMap cellsR ++ [.int .i64 2, .int .i64 i, .int .i64 0, .int .i64 k, .int .i64 3, .int .i64 i, .int .i64 0, .int .i64 k] := by
 unfold knownB
 rw [List.flatMap_append]
 rfl
theorem row_made3 {w : World} {e : TypeId} {x y z : Obj} : ((((w.alloc x).alloc y).alloc z).alloc (.cells #[] e)).ownsRow (w.heap.size + 3) e 4 (.slice (some ⟨w.heap.size + 1 + 1 + 1, 0, none⟩) 0 0) 0 [] := by
 have h := World.ownsRow_made (base := w.heap.size + 3) (e := e) (size := 4) (((w.alloc x).alloc y).alloc z) #[] 0 (by simp) (by decide) rfl
 rw [show (((w.alloc x).alloc y).alloc z).heap.size = w.heap.size + 1 + 1 + 1 by simp] at h
 exact h
theorem keep3 {w W6 : World} {x o : Obj} {cy cz : Array Value} {ey ez : TypeId} (h : KS (fun k => k < w.heap.size + 3) ((((w.alloc x).alloc (.cells cy ey)).alloc (.cells cz ez)).alloc o) W6) :
 (∀ k u, cz[k]? = some u → W6.cell? ⟨w.heap.size + 1 + 1, k, none⟩ = some u) ∧ (∀ k u, cy[k]? = some u → W6.cell? ⟨w.heap.size + 1, k, none⟩ = some u) ∧ (∀ k, W6.frozen? ⟨w.heap.size + 1 + 1, k, none⟩ = false) ∧ ∀ k, W6.frozen? ⟨w.heap.size + 1, k, none⟩ = false := by
 refine ⟨fun k u hk => ?_, fun k u hk => ?_, fun k => ?_, fun k => ?_⟩
 ·rw [h.cell (x := ⟨w.heap.size + 1 + 1, k, none⟩) (by simp) (by simp), World.cell?_alloc_past _ _ _ (by simp), World.cell?_alloc_at _ _ _ _ (by simp)]; exact hk
 ·rw [h.cell (x := ⟨w.heap.size + 1, k, none⟩) (by simp) (by simp), World.cell?_alloc_past _ _ _ (by simp), World.cell?_alloc_past _ _ _ (by simp), World.cell?_alloc_at _ _ _ _ (by simp)]; exact hk
 ·rw [h.frozen (x := ⟨w.heap.size + 1 + 1, k, none⟩) (by simp) (by simp), World.frozen?_alloc_past _ _ _ (by simp), World.frozen?_alloc_at _ _ _ _ (by simp)]
 ·rw [h.frozen (x := ⟨w.heap.size + 1, k, none⟩) (by simp) (by simp), World.frozen?_alloc_past _ _ _ (by simp), World.frozen?_alloc_past _ _ _ (by simp), World.frozen?_alloc_at _ _ _ _ (by simp)]
theorem known_some {w : World} {b : Bk} {vr vg vm vs vc : Value} {i k : Nat} (hB : BookAt w b vr vg vm vs vc) (hl : b.rs.length + 2 ≤ 5) (hne : 0 < b.rs.length) :
 Calls Tryz.prog 76 #[.agg #[vr, vg, vm, vs, vc], .int .i64 i, .int .i64 k] w (KnownRet w b i k vr vg vm vs) := by
 have HB := Hh hB
 obtain ⟨i0, hi, hz0, hz1, hz2⟩ := info_parts recInfo
 obtain ⟨rfl, rfl, ⟨ma, mc, rfl, _, _⟩, ⟨sa, sc, rfl, _, _⟩, ra, rc, rfl, hRR, _⟩ := id hB
 obtain ⟨sb, so, rfl, hsb, _⟩ := hRR 0 hne
 have hsrc : ∀ W' : World, Below w.heap.size w W' → ∀ j u, (b.rs.flatMap cellsR)[j]? = some u → W'.cell? (Addr.add ⟨sb, so, none⟩ j) = some u := fun W' hW j u hj => by
  have e : Addr.add ⟨sb, so, none⟩ j = ⟨sb, so + j, none⟩ := by unfold Addr.add; split <;> simp_all
  rw [e]
  refine (hW.cell (p := ⟨sb, so + j, none⟩) hsb).trans (recs_cells b.rs so (fun i h => ?_) j u hj)
  obtain ⟨b', o', e', _, h0, h1, h2, h3⟩ := hRR i h
  cases e'
  exact ⟨h0, h1, h2, h3⟩
 have hone : ∀ u ∈ b.rs.flatMap cellsR, u.oneCell' = true := fun u hu => by
  obtain ⟨r, _, hr⟩ := List.mem_flatMap.1 hu
  unfold cellsR at hr
  simp at hr
  rcases hr with rfl | rfl | rfl | rfl <;> rfl
 have HSRC := Hh hsrc
 have HONE := Hh hone
 have HFL := Hh (recs_flat_len b.rs)
 clear hB hRR hsrc hone
 go_enter Tryz.func76, Tryz.ntmps76
 go_wp2_with (first
  | (at_builtin; (refine wpList_append_own _ rfl _ _ 24 rfl (w.heap.size + 3) 70 i0 (.agg #[.int .i64 0, .int .i64 0, .int .i64 0, .int .i64 0]) 4 32 Tryz.underlying24 hi hz0 hz1 hz2 rfl (by decide) _ 0 [] rfl row_made3 ⟨sb, so, none⟩ b.rs.length rc (b.rs.flatMap cellsR) rfl HFL.out (HSRC.out _ (bel)) HONE.out (by unfold maxLen; omega) (by omega) (by simp) ?_); intro v1 w5 hown1 hgrow1 _; have hs5 := hgrow1.size; simp at hs5)
  | (at_builtin; (refine wpList_append_own _ rfl _ _ 24 rfl (w.heap.size + 3) 70 i0 (.agg #[.int .i64 0, .int .i64 0, .int .i64 0, .int .i64 0]) 4 32 Tryz.underlying24 hi hz0 hz1 hz2 rfl (by decide) _ (0 + b.rs.length) _ rfl (hown1.alloc _) ⟨w5.heap.size, 0, none⟩ 2 2 [.int .i64 2, .int .i64 i, .int .i64 0, .int .i64 k, .int .i64 3, .int .i64 i, .int .i64 0, .int .i64 k] rfl rfl (cells_new _ _ _) (by simp [Value.oneCell']) (by unfold maxLen; omega) (by omega) (by simp; omega) ?_); intro v2 w6 hown2 hgrow2 _; obtain ⟨g2, cap2, rfl⟩ := ownsRow_succ hown2; have hks := (grow_ks row_made3 hgrow1).trans ((KS.alloc _ _ _).trans (grow_ks (hown1.alloc _) hgrow2)); have hs6 : w5.heap.size + 1 ≤ w6.heap.size := (by have := hgrow2.size; simpa using this); obtain ⟨kz, ky, kf, kg⟩ := keep3 hks; have p0 := kz 0 _ rfl; have p1 := kz 1 _ rfl; have p2 := kz 2 _ rfl; have p3 := kz 3 _ rfl; have p4 := kz 4 _ rfl; have z4 := kf 4; have t0 := ky 0 _ rfl; have t1 := ky 1 _ rfl; have t2 := ky 2 _ rfl; have t3 := ky 3 _ rfl; have t4 := ky 4 _ rfl; have f0 := kg 0; have f1 := kg 1; have f2 := kg 2; have f3 := kg 3; have f4 := kg 4; have HKS := Hh hks; have HOWN := Hh hown2; clear hks; have HKEEP := Hh (⟨kz, ky, kf, kg⟩ : _ ∧ _ ∧ _ ∧ _); clear kz ky kf kg))
 all_goals
  have five := Five.put (r := w.heap.size + 1) (v0 := .int .i64 b.room) (v1 := .int .i64 b.gap) (v2 := .slice ma b.ms.length mc) (v3 := .slice sa b.ss.length sc) (v4 := (.slice (some ⟨g2, 0, none⟩) (b.rs.length + 1 + 1) cap2)) (w := (w6.setCell ⟨w.heap.size + 1 + 1, 4, none⟩ (.slice (some ⟨g2, 0, none⟩) (b.rs.length + 1 + 1) cap2))) (by rw [World.cell?_setCell_other (h := fun e => by injection e with e1 _ _; omega), t0]; rfl) (by rw [World.cell?_setCell_other (h := fun e => by injection e with e1 _ _; omega), t1]; rfl) (by rw [World.cell?_setCell_other (h := fun e => by injection e with e1 _ _; omega), t2]; rfl) (by rw [World.cell?_setCell_other (h := fun e => by injection e with e1 _ _; omega), t3]; rfl) (by rw [World.cell?_setCell_other (h := fun e => by injection e with e1 _ _; omega), t4]; rfl) (by simp; omega)
  obtain ⟨W9, hW9⟩ : ∃ W9, W9 = ((((((w6.setCell ⟨w.heap.size + 1 + 1, 4, none⟩ (.slice (some ⟨g2, 0, none⟩) (b.rs.length + 1 + 1) cap2)).setCell ⟨w.heap.size + 1, 0, none⟩ (.int .i64 b.room)).setCell ⟨w.heap.size + 1, 1, none⟩ (.int .i64 b.gap)).setCell ⟨w.heap.size + 1, 2, none⟩ (.slice ma b.ms.length mc)).setCell ⟨w.heap.size + 1, 3, none⟩ (.slice sa b.ss.length sc)).setCell ⟨w.heap.size + 1, 4, none⟩ (.slice (some ⟨g2, 0, none⟩) (b.rs.length + 1 + 1) cap2)) := ⟨_, rfl⟩
  have k9 : KS (fun k => k ≠ w.heap.size + 1 ∧ k ≠ w.heap.size + 1 + 1) w6 W9 := by
   rw [hW9]
   exact (((((KS.setCell (by simp) _ _).trans (KS.setCell (by simp) _ _)).trans (KS.setCell (by simp) _ _)).trans (KS.setCell (by simp) _ _)).trans (KS.setCell (by simp) _ _)).trans (KS.setCell (by simp) _ _)
  rw [← hW9] at five ⊢
  obtain ⟨c0, c1, c2, c3, c4, _⟩ := five
  have hbw : Below w.heap.size w W9 := (bel : Below w.heap.size w _).trans ((HKS.out.toBelow (n := w.heap.size) (by simp; omega) (fun k hk => by omega)).trans (k9.toBelow (n := w.heap.size) (by omega) (fun k hk => ⟨by omega, by omega⟩)))
  have hr9 := ownsRow_ks HOWN.out k9 (fun k hk => ⟨by omega, by omega⟩)
  rw [List.nil_append, ← known_flat] at hr9
  have hrr := recs_of_row hr9
  have HBW := Hh hbw
  have HRR := Hh hrr
  clear hW9 k9 hbw hr9 hrr
  refine bodyPost_ret (v := .agg #[.int .i64 b.room, .int .i64 b.gap, .slice ma b.ms.length mc, .slice sa b.ss.length sc, (.slice (some ⟨g2, 0, none⟩) (b.rs.length + 1 + 1) cap2)]) (by simp [results, Tryz.results76, go_sem, c0, c1, c2, c3, c4]) rfl ⟨some ⟨g2, 0, none⟩, b.rs.length + 1 + 1, cap2, rfl, ?_, HBW.out⟩
  have hB9 := HB.out.below HBW.out
  have e : (knownB b i k).rs.length = b.rs.length + 1 + 1 := by simp [knownB]
  exact ⟨hB9.room, hB9.gap, hB9.ms, hB9.ss, some ⟨g2, 0, none⟩, cap2, by rw [e], HRR.out, by rw [e]; omega⟩
end Go.Proofs.YtgemjjdkjmpmlaaGreatDoor
