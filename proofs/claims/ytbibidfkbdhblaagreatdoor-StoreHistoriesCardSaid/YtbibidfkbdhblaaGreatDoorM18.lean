/- Leads to StoreHistories of chapter 6: App. -/
import Derived.Test.YtbibidfkbdhblaaGreatDoorM09
import Derived.Deep.Upon
set_option maxHeartbeats 200000
set_option maxRecDepth 100000
set_option linter.all false
namespace Go.Proofs.YtbibidfkbdhblaaGreatDoor
open Go.RowKit Go.Maps Sp
theorem add_off (b o j : Nat) : Addr.add ⟨b, o, none⟩ j = ⟨b, o + j, none⟩ := by unfold Addr.add; split <;> simp_all
section
variable {P : Program}
def Src1 (X : World) (sa : Option Addr) (c : Nat) (news : List Value) : Prop := (sa = none → c = 0 ∧ news = []) ∧ ∀ j u, news[j]? = some u → ∃ ad, sa = some ad ∧ X.cell? (ad.add j) = some u
theorem run_app {X : World} {base : Nat} {t ty e : TypeId} {z : Value} {bytes : Nat} (ht : P.underlying t = some (.slice e)) (hi : (P.info? e).map (fun i => (i.zero, i.size, i.bytes)) = some (some z, 1, bytes)) (hzs : z.cells.size = 1) (hby : bytes ≤ 100)
 {v : Value} {n : Nat} {xs : List Value} (hown : X.ownsRow base e 1 v n xs) {sa : Option Addr} {m c : Nat} {news : List Value} (hl : news.length = m) (hnews : Src1 X sa c news) (h1 : ∀ u ∈ news, u.oneCell' = true) (hnm : n + m ≤ 1000000) (hbase : base ≤ X.heap.size) :
 ∃ a' c' w', (Builtin.append_ #[t, t] ty #[v, .slice sa m c]).run P X = .ok (.slice a' (n + m) c') w' ∧ w'.ownsRow base e 1 (.slice a' (n + m) c') (n + m) (xs ++ news) ∧ X.grownBy w' v.ownBlock := by
 obtain ⟨i, hi, hz, hsz, hb⟩ := info_parts hi
 obtain ⟨hn0, hcell⟩ := hnews
 cases sa with
 | some ad =>
  have hbm : (n + m) * bytes ≤ 140737488355328 := by have := Nat.mul_le_mul hnm hby; omega
  obtain ⟨v', w', hr, h2, h3, _, _⟩ := run_append_own_at (P := P) X base t ty e i z 1 bytes ht hi hz hsz hb hzs (by decide) v n xs hown ad m c news (by simpa using hl) (fun j u hj => by
   obtain ⟨ad', e', hc⟩ := hcell j u hj
   cases e'
   exact hc) h1 (by unfold maxLen; omega) hbm hbase
  rcases h2.2 with ⟨h4, h5⟩ | ⟨g, cap, cur, h4, _⟩
  ·subst h4
   have hn : n = 0 ∧ m = 0 := by omega
   obtain ⟨rfl, rfl⟩ := hn
   exact ⟨none, 0, w', hr, h2, h3⟩
  ·subst h4
   exact ⟨_, _, w', hr, h2, h3⟩
 | none =>
  obtain ⟨rfl, rfl⟩ := hn0 rfl
  simp only [List.length_nil] at hl
  subst hl
  have hshape : ∃ a' c', v = .slice a' n c' ∧ n ≤ c' := by
   rcases hown.2 with ⟨rfl, rfl⟩ | ⟨g, cap, cur, rfl, _, _, h, _⟩
   ·exact ⟨none, 0, rfl, Nat.le_refl _⟩
   ·exact ⟨_, _, rfl, h⟩
  obtain ⟨a', c', rfl, hle⟩ := hshape
  refine ⟨a', c', X, ?_, by simpa using hown, ⟨rfl, rfl, rfl, Nat.le_refl _, fun _ _ _ => rfl⟩⟩
  exact run_append_nothing (P := P) X t t ty e i ht hi a' n c' hle (.slice none 0 0) ⟨.inl ⟨e, ht⟩, fun w' => rfl, rfl, rfl, by simp, by simp⟩
theorem step_app {X W : World} {B : Nat} {ops : Array Oper} {o : Oper} {a : Act} {K : Act → World → Prop} {Q : Exit → Act → World → Prop} {E : Prop} (hgd : o.guard = none) (s x : Operand) (t : TypeId)
 (ho : o.op = .call { callee := .builtin .append, args := #[s, x], argTypes := #[t, t] }) (base : Nat) (e : TypeId) {z : Value} {bytes : Nat} (ht : P.underlying t = some (.slice e)) (hi : (P.info? e).map (fun i => (i.zero, i.size, i.bytes)) = some (some z, 1, bytes)) (hzs : z.cells.size = 1) (hby : bytes ≤ 100)
 {v : Value} {n : Nat} {xs : List Value} (hs : a.eval s = v) (hown : X.ownsRow base e 1 v n xs) {sa : Option Addr} {m c : Nat} {news : List Value} (hx : a.eval x = .slice sa m c) (hl : news.length = m) (hnews : Src1 X sa c news) (h1 : ∀ u ∈ news, u.oneCell' = true)
 {r : Nat} (hr : n + m = r) (hnm : r ≤ 1000000) (hbase : base ≤ X.heap.size) (hW : Below B W X) (hB : B ≤ base)
 (h : ∀ a' c' w', w'.ownsRow base e 1 (.slice a' r c') r (xs ++ news) → KS (fun k => v.ownBlock ≠ some k) X w' → Below B W w' → K (a.put o.dst (.slice a' r c')) w') :
 if Region.wanted o (yielded ops a.tmps) = true then Oper.wp P o a X K Q else E := by
 subst hr
 have hw : Region.wanted o (yielded ops a.tmps) = true := by simp [Region.wanted, hgd]
 rw [if_pos hw]
 obtain ⟨a', c', w', hrun, h2, h3⟩ := run_app (P := P) (ty := o.type) ht hi hzs hby hown hl hnews h1 hnm hbase
 unfold Oper.wp execOp
 simp only [ho, resolve, invoke, builtin, Sem.run_bind, Sem.run_pure, Result.andThen_ok, List.map_toArray, List.map_cons, List.map_nil, hs, hx, hrun]
 exact h a' c' w' h2 (KS.own h3 fun g hg => by simp [hg]) (hW.trans ((below_own hown h3 hbase).mono hB))
theorem step_appW {X : World} {ops : Array Oper} {o : Oper} {a : Act} {K : Act → World → Prop} {Q : Exit → Act → World → Prop} {E : Prop} (W : World) (hgd : o.guard = none) (s x : Operand) (t : TypeId)
 (ho : o.op = .call { callee := .builtin .append, args := #[s, x], argTypes := #[t, t] }) (e : TypeId) {z : Value} {bytes : Nat} (ht : P.underlying t = some (.slice e)) (hi : (P.info? e).map (fun i => (i.zero, i.size, i.bytes)) = some (some z, 1, bytes)) (hzs : z.cells.size = 1) (hby : bytes ≤ 100)
 (v : Value) (n : Nat) (xs : List Value) (hs : a.eval s = v) (sa : Option Addr) (m c : Nat) (news : List Value) (hx : a.eval x = .slice sa m c) (hl : news.length = m) (h1 : ∀ u ∈ news, u.oneCell' = true)
 (r : Nat) (hr : n + m = r) (hnm : r ≤ 1000000) (hW : Below W.heap.size W X) (hown : X.ownsRow W.heap.size e 1 v n xs) (hnews : Src1 X sa c news)
 (h : ∀ a' c' w', w'.ownsRow W.heap.size e 1 (.slice a' r c') r (xs ++ news) → KS (fun k => v.ownBlock ≠ some k) X w' → Below W.heap.size W w' → K (a.put o.dst (.slice a' r c')) w') :
 if Region.wanted o (yielded ops a.tmps) = true then Oper.wp P o a X K Q else E :=
 step_app hgd s x t ho _ e ht hi hzs hby hs hown hx hl hnews h1 hr hnm hW.size hW (Nat.le_refl _) h
theorem own_lit {w : World} {base : Nat} {e : TypeId} {n : Nat} (hn : n = w.heap.size) (hb : base ≤ n) : (w.alloc (.cells #[] e)).ownsRow base e 1 (.slice (some ⟨n, 0, none⟩) 0 0) 0 [] := by
 subst hn
 exact World.ownsRow_lit w #[] 0 hb (by decide) rfl
theorem step_app1K {X : World} {ops : Array Oper} {o : Oper} {a : Act} {K : Act → World → Prop} {Q : Exit → Act → World → Prop} {E : Prop} (hgd : o.guard = none) (s x : Operand) (t : TypeId)
 (ho : o.op = .call { callee := .builtin .append, args := #[s, x], argTypes := #[t, t] }) (base : Nat) (e : TypeId) {z : Value} {k bytes : Nat} (ht : P.underlying t = some (.slice e)) (hi : (P.info? e).map (fun i => (i.zero, i.size, i.bytes)) = some (some z, k, bytes)) (hzs : z.cells.size = k) (hk : 0 < k) (hby : bytes ≤ 100)
 (v : Value) (n : Nat) (xs : List Value) (hs : a.eval s = v) (nb : Nat) (news : List Value) (hx : a.eval x = .slice (some ⟨nb, 0, none⟩) 1 1) (hl : news.length = k) (h1 : ∀ u ∈ news, u.oneCell' = true)
 (r : Nat) (hr : n + 1 = r) (hnm : r ≤ 1000000) (hbase : base ≤ X.heap.size) (hown : X.ownsRow base e k v n xs) (hnews : Src1 X (some ⟨nb, 0, none⟩) 1 news)
 (h : ∀ a' c' w', w'.ownsRow base e k (.slice a' r c') r (xs ++ news) → KS (fun k => v.ownBlock ≠ some k) X w' → K (a.put o.dst (.slice a' r c')) w') :
 if Region.wanted o (yielded ops a.tmps) = true then Oper.wp P o a X K Q else E := by
 subst hr
 obtain ⟨i, hi, hz, hsz, hb⟩ := info_parts hi
 have hbm : (n + 1) * bytes ≤ 140737488355328 := by have := Nat.mul_le_mul hnm hby; omega
 refine step_append_lies (w := X) hgd s x t ho base e i z k bytes ht hi hz hsz hb hzs hk v n xs hs hown ⟨nb, 0, none⟩ 1 1 news hx (by rw [hl, Nat.one_mul]) (fun j u hj => ?_) h1 (by decide) (by unfold maxLen; omega) hbm hbase X.heap.size rfl fun g c w' h2 h3 _ _ => h _ _ w' h2 (KS.own h3 fun g hg => by simp [hg])
 obtain ⟨ad, e', hc⟩ := hnews.2 j u hj
 cases e'
 exact hc
theorem Src1.ks {X Y : World} {sa : Option Addr} {c : Nat} {news : List Value} (h : Src1 X sa c news) {p : Nat → Prop} (hk : KS p X Y) (hp : ∀ ad, sa = some ad → ad.block < X.heap.size ∧ p ad.block) : Src1 Y sa c news :=
 ⟨h.1, fun j u hj => by
   obtain ⟨ad, e, hc⟩ := h.2 j u hj
   obtain ⟨h1, h2⟩ := hp ad e
   have hb : (Addr.add ad j).block = ad.block := by unfold Addr.add; split <;> rfl
   exact ⟨ad, e, (hk.cell (x := ad.add j) (by rw [hb]; exact h1) (by rw [hb]; exact h2)).trans hc⟩⟩
end
theorem ints_src {w : World} {a : Option Addr} {c : Nat} {l : List Int} (h : IntsAt w a l) (hz : a = none → c = 0) : Src1 w a c (l.map (Value.int .i64)) := by
 refine ⟨fun ha => ⟨hz ha, ?_⟩, fun j u hj => ?_⟩
 ·cases l with
  | nil => rfl
  | cons x l =>
   obtain ⟨b, o, e, _⟩ := h 0 (by simp)
   rw [ha] at e
   cases e
 ·rw [List.getElem?_map] at hj
  obtain ⟨x, hx, rfl⟩ := Option.map_eq_some_iff.1 hj
  obtain ⟨hjl, rfl⟩ := List.getElem?_eq_some_iff.1 hx
  obtain ⟨b, o, rfl, _, hc⟩ := h j hjl
  refine ⟨_, rfl, ?_⟩
  have : Addr.add ⟨b, o, none⟩ j = ⟨b, o + j, none⟩ := by unfold Addr.add; split <;> simp_all
  rw [this]; exact hc
theorem src_new (w : World) (cs : List Value) (t : TypeId) {n : Nat} (hn : n = w.heap.size) (c : Nat) : Src1 (w.alloc (.cells cs.toArray t)) (some ⟨n, 0, none⟩) c cs := by
 subst hn
 exact ⟨fun h => (by cases h), fun j u hj => ⟨_, rfl, cells_new w cs t j u hj⟩⟩
def IntsV (w : World) (v : Value) (l : List Int) : Prop := w.ownsRow 0 3 1 v l.length (l.map (Value.int .i64))
def ListsV (w : World) (vs : List Value) (ls : List (List Int)) : Prop := vs.length = ls.length ∧ ∀ (i : Nat) (v : Value) (l : List Int), vs[i]? = some v → ls[i]? = some l → IntsV w v l
def ListsAt (w : World) (a : Option Addr) (ls : List (List Int)) : Prop := ∀ i (h : i < ls.length), ∃ b o, a = some ⟨b, o, none⟩ ∧ b < w.heap.size ∧ ∃ v, w.cell? ⟨b, o + i, none⟩ = some v ∧ IntsV w v ls[i]
section
variable {w w' : World}
theorem IntsV.form {v : Value} {l : List Int} (h : IntsV w v l) : ∃ a c, v = .slice a l.length c ∧ IntsAt w a l ∧ (a = none → c = 0) ∧ l.length ≤ c := by
 rcases id h with ⟨hl, ⟨rfl, h2⟩ | ⟨g, cap, cur, rfl, _, _, hle, _⟩⟩
 ·refine ⟨none, 0, by rw [h2], fun i hi => by omega, fun _ => rfl, by omega⟩
 ·exact ⟨_, _, rfl, ints_of_row h, fun h => (by cases h), hle⟩
theorem IntsV.of {base n c : Nat} {a : Option Addr} {l : List Int} (h : w.ownsRow base 3 1 (.slice a n c) n (l.map (Value.int .i64))) : IntsV w (.slice a n c) l := by
 have hn : n = l.length := by have := h.1; simp at this; omega
 subst hn
 exact h.mono (Nat.zero_le _)
theorem IntsV.nil (w : World) : IntsV w (.slice none 0 0) [] := World.ownsRow_nil w 0 3 1
theorem IntsV.below {v : Value} {l : List Int} (h : IntsV w v l) (hb : Below w.heap.size w w') : IntsV w' v l := ownsRow_below h hb
theorem row_keep' {p : Nat → Prop} {A B : World} {base e size n : Nat} {v : Value} {xs : List Value} (h : A.ownsRow base e size v n xs) (hk : KS p A B) (hp : ∀ g, v.ownBlock = some g → p g) : B.ownsRow base e size v n xs := by
 obtain ⟨h1, h2 | ⟨g, cap, cur, rfl, e2, e3, e4⟩⟩ := h
 ·exact ⟨h1, .inl h2⟩
 ·exact ⟨h1, .inr ⟨g, cap, cur, rfl, e2, (hk.block g (Array.getElem?_eq_some_iff.1 e3).1 (hp g rfl)).trans e3, e4⟩⟩
theorem rows_apart' {A : World} {b1 e1 s1 n1 b2 e2 s2 n2 : Nat} {v1 v2 : Value} {x1 x2 : List Value} (h1 : A.ownsRow b1 e1 s1 v1 n1 x1) (h2 : A.ownsRow b2 e2 s2 v2 n2 x2) (he : e1 ≠ e2) : ∀ g, v1.ownBlock = some g → v2.ownBlock ≠ some g := fun g hg hg2 => by
 obtain ⟨_, ⟨rfl, _⟩ | ⟨g1, c1, cur1, rfl, _, e3, _⟩⟩ := h1
 ·cases hg
 ·obtain ⟨_, ⟨rfl, _⟩ | ⟨g2, c2, cur2, rfl, _, f3, _⟩⟩ := h2
  ·cases hg2
  ·cases hg
   cases hg2
   rw [e3] at f3
   cases f3
   exact he rfl
theorem ListsV.below {vs : List Value} {ls : List (List Int)} (h : ListsV w vs ls) (hb : Below w.heap.size w w') : ListsV w' vs ls := ⟨h.1, fun i v l h1 h2 => (h.2 i v l h1 h2).below hb⟩
theorem ListsV.keep {vs : List Value} {ls : List (List Int)} (h : ListsV w vs ls) {base e size n : Nat} {v : Value} {xs : List Value} (hrow : w.ownsRow base e size v n xs) (he : 3 ≠ e) (hk : KS (fun k => v.ownBlock ≠ some k) w w') : ListsV w' vs ls :=
 ⟨h.1, fun i u l h1 h2 => row_keep' (h.2 i u l h1 h2) hk fun g hg => rows_apart' (h.2 i u l h1 h2) hrow he g hg⟩
theorem ListsV.nil (w : World) : ListsV w [] [] := ⟨rfl, fun i v l h => by simp at h⟩
theorem ListsV.append {vs us : List Value} {ls ms : List (List Int)} (h : ListsV w vs ls) (k : ListsV w us ms) : ListsV w (vs ++ us) (ls ++ ms) := by
 refine ⟨by rw [List.length_append, List.length_append, h.1, k.1], fun i v l h1 h2 => ?_⟩
 by_cases hi : i < vs.length
 ·rw [List.getElem?_append_left hi] at h1
  rw [List.getElem?_append_left (by rw [← h.1]; exact hi)] at h2
  exact h.2 i v l h1 h2
 ·rw [List.getElem?_append_right (by omega)] at h1
  rw [List.getElem?_append_right (by rw [← h.1]; omega), ← h.1] at h2
  exact k.2 _ v l h1 h2
theorem ListsV.single {v : Value} {l : List Int} (h : IntsV w v l) : ListsV w [v] [l] := ⟨rfl, fun i u m h1 h2 => by
 cases i with
 | zero => simp only [List.getElem?_cons_zero, Option.some.injEq] at h1 h2; rw [← h1, ← h2]; exact h
 | succ i => simp at h1⟩
theorem ListsV.one {vs : List Value} {ls : List (List Int)} (h : ListsV w vs ls) : ∀ u ∈ vs, u.oneCell' = true := fun u hu => by
 obtain ⟨i, hi, rfl⟩ := List.mem_iff_getElem.1 hu
 obtain ⟨a, c, e, _⟩ := (h.2 i vs[i] (ls[i]'(by rw [← h.1]; exact hi)) (List.getElem?_eq_getElem hi) (List.getElem?_eq_getElem _)).form
 rw [e]; rfl
theorem lists_of_row {base e n c : Nat} {a : Option Addr} {vs : List Value} {ls : List (List Int)} (h : w.ownsRow base e 1 (.slice a n c) n vs) (k : ListsV w vs ls) : ListsAt w a ls := fun i hi => by
 have hv : i < vs.length := by rw [k.1]; exact hi
 obtain ⟨g, rfl, _, h2, h3⟩ := row_cell h i hv
 exact ⟨g, 0, rfl, h2, vs[i], by rw [Nat.zero_add, h3, List.getElem?_eq_getElem hv], k.2 i _ _ (List.getElem?_eq_getElem hv) (List.getElem?_eq_getElem hi)⟩
theorem ListsAt.below {a : Option Addr} {ls : List (List Int)} (h : ListsAt w a ls) (hb : Below w.heap.size w w') : ListsAt w' a ls := fun i hi => by
 obtain ⟨b, o, e, hlt, v, hc, hv⟩ := h i hi
 exact ⟨b, o, e, Nat.lt_of_lt_of_le hlt hb.size, v, (hb.cell hlt).trans hc, hv.below hb⟩
theorem src_row {base e n c : Nat} {a : Option Addr} {vs : List Value} (h : w.ownsRow base e 1 (.slice a n c) n vs) : Src1 w a c vs := by
 obtain ⟨hl, ⟨h1, h2⟩ | ⟨g, cap, cur, h1, _⟩⟩ := id h
 ·cases h1
  have hv : vs = [] := List.length_eq_zero_iff.1 (by rw [hl])
  subst hv
  exact ⟨fun _ => ⟨rfl, rfl⟩, fun j u hj => by simp at hj⟩
 ·cases h1
  exact ⟨fun h => (by cases h), fun j u hj => ⟨_, rfl, h.cells (g := g) rfl j u hj⟩⟩
end
end Go.Proofs.YtbibidfkbdhblaaGreatDoor
