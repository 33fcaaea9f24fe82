/-
  The least taint map of code: what it is, that it is one alone, and the steps towards it. No program in sight. Conditions: none.
-/
import Derived.Test.YtjlnaiifegjneaaPure4
namespace Go.Proofs.Ytjlnaiifegjneaa

def rle (t u : List Bool) : Prop := ∀ k : Nat, t.getD k false = true → u.getD k false = true
theorem rle.refl (t : List Bool) : rle t t := fun _ h => h
theorem rle.trans {a b c : List Bool} (h : rle a b) (g : rle b c) : rle a c := fun k x => g k (h k x)
theorem rle.antisymm {a b : List Bool} (hl : a.length = b.length) (h : rle a b) (g : rle b a) : a = b := by
  apply List.ext_getElem hl
  intro i h1 h2
  have e1 := h i
  have e2 := g i
  simp only [List.getD_eq_getElem?_getD, List.getElem?_eq_getElem h1, List.getElem?_eq_getElem h2, Option.getD_some] at e1 e2
  cases ha : a[i] <;> cases hb : b[i] <;> simp_all

theorem covUpto_iff (t row : List Bool) : covUpto t row t.length = true ↔ rle t row := by
  unfold covUpto rle
  rw [List.all_eq_true]
  constructor
  · intro h k hk
    rcases Nat.lt_or_ge k t.length with h1 | h1
    · have := h k (List.mem_range.2 h1)
      rw [hk] at this
      simpa using this
    · simp [h1] at hk
  · intro h k _
    cases hk : t.getD k false
    · rfl
    · rw [h k hk]; rfl
theorem covF_iff (t row : List Bool) : covF t row = true ↔ 0 < row.length ∧ rle t row := by
  have : covF t row = (decide (0 < row.length) && covUpto t row t.length) := rfl
  rw [this, Bool.and_eq_true, decide_eq_true_eq, covUpto_iff]

theorem getD_set (t : List Bool) (a k : Nat) (b : Bool) : (t.set a b).getD k false = if k = a ∧ a < t.length then b else t.getD k false := by
  simp only [List.getD_eq_getElem?_getD, List.getElem?_set]
  by_cases h : a = k
  · subst h
    by_cases h2 : a < t.length
    · simp [h2]
    · simp [h2]
  · rw [if_neg h, if_neg (fun x => h x.1.symm)]

theorem bAt_mono {t u : List Bool} (h : rle t u) (k : Int) : bAt t k = true → bAt u k = true := h k.toNat
theorem afterBit_mono {c : LCode} {x : LIns} {t u : List Bool} (h : rle t u) : (afterBit c x t = none ∧ afterBit c x u = none) ∨ ∃ p q, afterBit c x t = some p ∧ afterBit c x u = some q ∧ (p = true → q = true) := by
  have hb := bAt_mono h
  unfold afterBit
  by_cases h1 : x.op = 1 ∨ x.op = 11
  · rw [if_pos h1, if_pos h1]; exact .inr ⟨_, _, rfl, rfl, id⟩
  rw [if_neg h1, if_neg h1]
  by_cases h2 : x.op = 2
  · rw [if_pos h2, if_pos h2]; exact .inr ⟨_, _, rfl, rfl, id⟩
  rw [if_neg h2, if_neg h2]
  by_cases h4 : x.op = 4
  · rw [if_pos h4, if_pos h4]; refine .inr ⟨_, _, rfl, rfl, fun g => ?_⟩
    simp only [Bool.or_eq_true] at g ⊢
    rcases g with g | g
    · exact .inl g
    · exact .inr (hb _ g)
  rw [if_neg h4, if_neg h4]
  by_cases h6 : x.op = 6
  · rw [if_pos h6, if_pos h6]; refine .inr ⟨_, _, rfl, rfl, fun g => ?_⟩
    simp only [Bool.or_eq_true] at g ⊢
    rcases g with g | g
    · exact .inl (hb _ g)
    · exact .inr (hb _ g)
  rw [if_neg h6, if_neg h6]
  by_cases h7 : x.op = 7
  · rw [if_pos h7, if_pos h7]; refine .inr ⟨_, _, rfl, rfl, fun g => ?_⟩
    simp only [Bool.or_eq_true] at g ⊢
    rcases g with (g | g) | g
    · exact .inl (.inl (hb _ g))
    · exact .inl (.inr (hb _ g))
    · exact .inr (hb _ g)
  rw [if_neg h7, if_neg h7]
  exact .inl ⟨rfl, rfl⟩
theorem afterF_mono {c : LCode} {x : LIns} {t u : List Bool} (hl : t.length = u.length) (h : rle t u) : rle (afterF c x t) (afterF c x u) := by
  unfold afterF
  rcases afterBit_mono (c := c) (x := x) h with ⟨e1, e2⟩ | ⟨p, q, e1, e2, hpq⟩
  · rw [e1, e2]; exact h
  · rw [e1, e2]
    intro k
    rw [getD_set, getD_set, hl]
    split
    · exact hpq
    · exact h k

/-- One taint map below another. -/
def mle (m p : List (List Bool)) : Prop := ∀ i : Nat, (rowAt m i).length = 0 ∨ ((rowAt p i).length ≠ 0 ∧ rle (rowAt m i) (rowAt p i))
def isPre (c : LCode) (m : List (List Bool)) : Prop := m.length = c.list.length ∧ m.all rowOk = true ∧ (rowAt m 0).length ≠ 0 ∧ ∀ i : Nat, i < m.length → covAt c m i = true
def isLeast (c : LCode) (m : List (List Bool)) : Prop := isPre c m ∧ ∀ p, isPre c p → mle m p

theorem least_unique {c : LCode} {m p : List (List Bool)} (h : isLeast c m) (g : isLeast c p) : m = p := by
  have h1 := h.2 p g.1
  have h2 := g.2 m h.1
  have hl : m.length = p.length := h.1.1.trans g.1.1.symm
  apply List.ext_getElem hl
  intro i hi hj
  have e1 := h1 i
  have e2 := h2 i
  have o1 := rowOk_len h.1.2.1 i
  have o2 := rowOk_len g.1.2.1 i
  rw [rowAt_nat hi] at e1 e2 o1
  rw [rowAt_nat hj] at e1 e2 o2
  have el : m[i].length = p[i].length := by omega
  rcases Nat.eq_zero_or_pos m[i].length with h0 | h0
  · have e3 : p[i].length = 0 := by omega
    rw [List.eq_nil_of_length_eq_zero h0, List.eq_nil_of_length_eq_zero e3]
  · rcases e1 with e1 | e1
    · omega
    · rcases e2 with e2 | e2
      · omega
      · exact rle.antisymm el e1.2 e2.2

/-- A map on its way to the least one. -/
structure Low (c : LCode) (m : List (List Bool)) : Prop where
  len : m.length = c.list.length
  ok : m.all rowOk = true
  first : (rowAt m 0).length ≠ 0
  low : ∀ p, isPre c p → mle m p

theorem Low.least {c : LCode} {m : List (List Bool)} (h : Low c m) (hc : ∀ i : Nat, i < m.length → covAt c m i = true) : isLeast c m := ⟨⟨h.len, h.ok, h.first, hc⟩, h.low⟩

theorem rowAt_set {m : List (List Bool)} {y : Nat} (r : List Bool) (i : Int) (hy : y < m.length) : rowAt (m.set y r) i = if i.toNat = y then r else rowAt m i := by
  unfold rowAt
  simp only [List.getD_eq_getElem?_getD, List.getElem?_set]
  by_cases h : y = i.toNat
  · rw [if_pos h, if_pos h.symm]; subst h; simp [hy]
  · rw [if_neg h, if_neg (Ne.symm h)]

theorem Low.start {c : LCode} (hn : 1 ≤ c.list.length) : Low c ((List.replicate c.list.length ([] : List Bool)).set 0 (List.replicate 14 false)) := by
  have hl : 0 < (List.replicate c.list.length ([] : List Bool)).length := by rw [List.length_replicate]; omega
  refine ⟨by simp, ?_, ?_, fun p hp i => ?_⟩
  · rw [List.all_eq_true]
    intro r hr
    rcases List.mem_or_eq_of_mem_set hr with h | h
    · rw [(List.mem_replicate.1 h).2]; rfl
    · rw [h]; rfl
  · rw [rowAt_set _ _ hl]; simp
  · rw [rowAt_set _ _ hl]
    by_cases hi : i = 0
    · subst hi
      right
      refine ⟨hp.2.2.1, fun k hk => ?_⟩
      exfalso
      rw [if_pos (by simp)] at hk
      simp only [List.getD_eq_getElem?_getD, List.getElem?_replicate] at hk
      split at hk <;> simp at hk
    · left
      rw [if_neg (by simpa using hi)]
      unfold rowAt
      simp only [List.getD_eq_getElem?_getD, List.getElem?_replicate]
      split <;> simp

theorem Low.set {c : LCode} {m : List (List Bool)} (h : Low c m) {y : Nat} (hy : y < m.length) {r : List Bool} (hr : r.length = 14) (hp : ∀ p, isPre c p → (rowAt p y).length ≠ 0 ∧ rle r (rowAt p y)) : Low c (m.set y r) := by
  refine ⟨by simpa using h.len, ?_, ?_, fun p g i => ?_⟩
  · rw [List.all_eq_true]
    intro r' hr'
    rcases List.mem_or_eq_of_mem_set hr' with h' | h'
    · exact List.all_eq_true.1 h.ok _ h'
    · rw [h']; simp [rowOk, hr]
  · rw [rowAt_set _ _ hy]
    split
    · omega
    · exact h.first
  · rw [rowAt_set _ _ hy]
    split
    · rename_i e
      have e : i = y := by simpa using e
      subst e
      exact .inr (hp p g)
    · exact h.low p g i

/-- What stands behind an instruction lies below every map. -/
theorem Low.after {c : LCode} {m : List (List Bool)} (h : Low c m) {i : Nat} (hi : i < m.length) (h14 : (rowAt m i).length = 14) : ∀ p, isPre c p → ∀ t ∈ nx c i, (rowAt p t).length ≠ 0 ∧ rle (afterF c (insAt c i) (rowAt m i)) (rowAt p t) := by
  intro p hp t ht
  have hpi : i < p.length := by rw [hp.1, ← h.len]; exact hi
  rcases h.low p hp i with h0 | ⟨hn, hr⟩
  · omega
  · have hc := hp.2.2.2 i hpi
    unfold covAt at hc
    rw [Bool.or_eq_true, decide_eq_true_eq] at hc
    rcases hc with hc | hc
    · exact absurd hc hn
    · have := List.all_eq_true.1 hc t ht
      rw [covF_iff] at this
      have h2 := rowOk_len hp.2.1 i
      exact ⟨by omega, (afterF_mono (by omega) hr).trans this.2⟩

/-- Another row grows: what is covered stays covered. -/
theorem covAt_set {c : LCode} {m : List (List Bool)} {y j : Nat} (hy : y < m.length) (hne : j ≠ y) {r : List Bool} (hr : r.length = 14) (hle : rle (rowAt m y) r) (h : covAt c m j = true) : covAt c (m.set y r) j = true := by
  unfold covAt at h ⊢
  have ej : rowAt (m.set y r) j = rowAt m j := by rw [rowAt_set _ _ hy, if_neg (by simpa using hne)]
  rw [ej]
  rw [Bool.or_eq_true, decide_eq_true_eq] at h ⊢
  rcases h with h | h
  · exact .inl h
  · right
    rw [List.all_eq_true] at h ⊢
    intro t ht
    have := h t ht
    rw [covF_iff] at this ⊢
    rw [rowAt_set _ _ hy]
    split
    · rename_i e
      refine ⟨by omega, this.2.trans ?_⟩
      rw [show rowAt m t = rowAt m y by unfold rowAt; rw [e]; simp]
      exact hle
    · exact this
theorem covF_set {m : List (List Bool)} {y : Nat} (hy : y < m.length) {r t : List Bool} {z : Int} (hr : r.length = 14) (hle : rle (rowAt m y) r) (h : covF t (rowAt m z) = true) : covF t (rowAt (m.set y r) z) = true := by
  rw [covF_iff] at h ⊢
  rw [rowAt_set _ _ hy]
  split
  · rename_i e
    refine ⟨by omega, h.2.trans ?_⟩
    rw [show rowAt m z = rowAt m y by unfold rowAt; rw [e]; simp]
    exact hle
  · exact h

/-- The join of two rows, up to a bit. -/
def joinUpto (row t : List Bool) (k : Nat) : List Bool := (List.range row.length).map fun j => row.getD j false || (decide (j < k) && t.getD j false)
def joinF (row t : List Bool) : List Bool := if row.length = 0 then t else joinUpto row t t.length
theorem joinUpto_len (row t : List Bool) (k : Nat) : (joinUpto row t k).length = row.length := by simp [joinUpto]
theorem joinUpto_zero (row t : List Bool) : joinUpto row t 0 = row := by
  apply List.ext_getElem (joinUpto_len _ _ _)
  intro i h1 h2
  simp [joinUpto, h2]
theorem joinUpto_getD (row t : List Bool) (k j : Nat) (hj : j < row.length) : (joinUpto row t k).getD j false = (row.getD j false || (decide (j < k) && t.getD j false)) := by
  simp [joinUpto, hj]
theorem joinUpto_keep {row t : List Bool} {k : Nat} (h : (t.getD k false && !row.getD k false) = false) : joinUpto row t (k + 1) = joinUpto row t k := by
  unfold joinUpto
  apply List.map_congr_left
  intro j _
  by_cases hj : j = k
  · subst hj
    cases h1 : t.getD j false <;> cases h2 : row.getD j false <;> simp_all
  · have : decide (j < k + 1) = decide (j < k) := by rw [decide_eq_decide]; omega
    rw [this]
theorem joinUpto_put {row t : List Bool} {k : Nat} (_hk : k < row.length) (h1 : t.getD k false = true) : joinUpto row t (k + 1) = (joinUpto row t k).set k true := by
  apply List.ext_getElem (by simp [joinUpto_len])
  intro i g1 g2
  have hi : i < row.length := by simpa [joinUpto_len] using g1
  rw [List.getElem_set]
  split
  · rename_i e
    subst e
    simp only [joinUpto, List.getElem_map, List.getElem_range]
    rw [h1]; simp
  · rename_i e
    simp only [joinUpto, List.getElem_map, List.getElem_range]
    have : decide (i < k + 1) = decide (i < k) := by rw [decide_eq_decide]; omega
    rw [this]
theorem joinF_len {row t : List Bool} (hr : row.length = 0 ∨ row.length = 14) (ht : t.length = 14) : (joinF row t).length = 14 := by
  unfold joinF
  split
  · exact ht
  · rw [joinUpto_len]; omega
theorem joinF_left {row t : List Bool} (_hr : row.length = 0 ∨ row.length = 14) : rle row (joinF row t) := by
  intro k hk
  unfold joinF
  split
  · rename_i h0
    rw [List.eq_nil_of_length_eq_zero h0] at hk
    simp at hk
  · rcases Nat.lt_or_ge k row.length with h1 | h1
    · rw [joinUpto_getD _ _ _ _ h1, hk]; rfl
    · simp [h1] at hk
theorem joinF_right {row t : List Bool} (hr : row.length = 0 ∨ row.length = 14) (ht : t.length = 14) : rle t (joinF row t) := by
  intro k hk
  unfold joinF
  split
  · exact hk
  · rcases Nat.lt_or_ge k t.length with h1 | h1
    · rw [joinUpto_getD _ _ _ _ (by omega), hk, decide_eq_true h1]; simp
    · simp [h1] at hk
theorem joinF_least {row t u : List Bool} (h1 : rle row u) (h2 : rle t u) : rle (joinF row t) u := by
  intro k hk
  unfold joinF at hk
  split at hk
  · exact h2 k hk
  · rcases Nat.lt_or_ge k row.length with h | h
    · rw [joinUpto_getD _ _ _ _ h] at hk
      rw [Bool.or_eq_true, Bool.and_eq_true] at hk
      rcases hk with hk | hk
      · exact h1 k hk
      · exact h2 k hk.2
    · have : (joinUpto row t t.length).length ≤ k := by rw [joinUpto_len]; exact h
      simp [this] at hk

/-- How many changes may still come. -/
def rpot (r : List Bool) : Nat := if r.length = 0 then 15 else r.count false
def pot (m : List (List Bool)) : Nat := (m.map rpot).sum
theorem pot_set : ∀ (m : List (List Bool)) (y : Nat) (r : List Bool) (hy : y < m.length), pot (m.set y r) + rpot m[y] = pot m + rpot r
  | [], y, _, hy => by simp at hy
  | a :: m, 0, r, _ => by simp [pot]; omega
  | a :: m, y + 1, r, hy => by
    have := pot_set m y r (by simpa using hy)
    simp [pot] at this ⊢
    omega
theorem count_le {a b : List Bool} (hl : a.length = b.length) (h : rle a b) : b.count false ≤ a.count false := by
  induction a generalizing b with
  | nil => cases b <;> simp_all
  | cons x a ih =>
    cases b with
    | nil => simp at hl
    | cons y b =>
      have h1 := ih (b := b) (by simpa using hl) (fun k hk => by have := h (k + 1); simp at this hk ⊢; exact this hk)
      have h0 := h 0
      simp at h0
      cases x <;> cases y <;> simp_all <;> omega
theorem count_lt {a b : List Bool} (hl : a.length = b.length) (h : rle a b) (hn : ¬ rle b a) : b.count false < a.count false := by
  induction a generalizing b with
  | nil => cases b <;> simp_all [rle]
  | cons x a ih =>
    cases b with
    | nil => simp at hl
    | cons y b =>
      have hs : rle a b := fun k hk => by have := h (k + 1); simp at this hk ⊢; exact this hk
      have hc := count_le (by simpa using hl) hs
      have h0 := h 0
      simp at h0
      by_cases hr : rle b a
      · have : ¬ (y = true → x = true) := fun g => hn (fun k => by
          cases k with
          | zero => simpa using g
          | succ k => simpa using hr k)
        cases x <;> cases y <;> simp_all <;> omega
      · have h1 := ih (b := b) (by simpa using hl) hs hr
        cases x <;> cases y <;> simp_all <;> omega
theorem rpot_join {row t : List Bool} (hr : row.length = 0 ∨ row.length = 14) (ht : t.length = 14) (h : covF t row = false) : rpot (joinF row t) < rpot row := by
  unfold rpot
  rw [if_neg (by rw [joinF_len hr ht]; omega)]
  by_cases h0 : row.length = 0
  · rw [if_pos h0]
    have := List.count_le_length (a := false) (l := joinF row t)
    rw [joinF_len hr ht] at this
    omega
  · rw [if_neg h0]
    refine count_lt (by rw [joinF_len hr ht]; omega) (joinF_left hr) fun g => ?_
    rw [Bool.eq_false_iff] at h
    exact h ((covF_iff _ _).2 ⟨by omega, (joinF_right hr ht).trans g⟩)
theorem joinF_same {row t : List Bool} (hr : row.length = 0 ∨ row.length = 14) (ht : t.length = 14) (h : covF t row = true) : joinF row t = row := by
  rw [covF_iff] at h
  exact rle.antisymm (by rw [joinF_len hr ht]; omega) (joinF_least (rle.refl _) h.2) (joinF_left hr)
theorem pot_le (m : List (List Bool)) (h : m.all rowOk = true) : pot m ≤ 15 * m.length := by
  induction m with
  | nil => simp [pot]
  | cons r m ih =>
    simp only [List.all_cons, Bool.and_eq_true] at h
    have h1 := ih h.2
    have h2 : rpot r ≤ 15 := by
      unfold rpot
      split
      · omega
      · have := List.count_le_length (a := false) (l := r)
        have := h.1
        simp only [rowOk, Bool.or_eq_true, decide_eq_true_eq] at this
        omega
    simp only [pot, List.map_cons, List.sum_cons, List.length_cons] at h1 ⊢
    omega

end Go.Proofs.Ytjlnaiifegjneaa
