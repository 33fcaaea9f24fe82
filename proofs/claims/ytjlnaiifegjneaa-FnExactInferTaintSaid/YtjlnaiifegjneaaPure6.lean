/-
  The two searches for the least taint map, as invariants. No program in sight. Conditions: valid code.
-/
import Derived.Test.YtjlnaiifegjneaaPure5
namespace Go.Proofs.Ytjlnaiifegjneaa

/-- The queue's search, at the head of a round. -/
structure WInv (c : LCode) (m : List (List Bool)) (qs : List Int) (k : Nat) : Prop where
  low : Low c m
  q : ∀ x ∈ qs, 0 ≤ x ∧ x < c.list.length ∧ (rowAt m x).length = 14
  pend : ∀ i : Nat, i < c.list.length → covAt c m i = true ∨ ∃ p, k ≤ p ∧ qs[p]? = some (i : Int)
  cnt : qs.length + pot m ≤ 15 * c.list.length + 1

/-- The same, in the midst of what follows an instruction. -/
structure JInv (c : LCode) (m : List (List Bool)) (qs : List Int) (k a : Nat) (t : List Bool) (ns : List Int) (j : Nat) : Prop where
  low : Low c m
  q : ∀ x ∈ qs, 0 ≤ x ∧ x < c.list.length ∧ (rowAt m x).length = 14
  pend : ∀ i : Nat, i < c.list.length → i ≠ a → covAt c m i = true ∨ ∃ p, k + 1 ≤ p ∧ qs[p]? = some (i : Int)
  self : (∃ p, k + 1 ≤ p ∧ qs[p]? = some (a : Int)) ∨ (∀ y ∈ ns.take j, covF t (rowAt m y) = true) ∧ afterF c (insAt c a) (rowAt m a) = t
  cnt : qs.length + pot m ≤ 15 * c.list.length + 1
  bnd : ∀ p, isPre c p → ∀ y ∈ ns, (rowAt p y).length ≠ 0 ∧ rle t (rowAt p y)
  tl : t.length = 14

theorem WInv.start {c : LCode} (hn : 1 ≤ c.list.length) : WInv c ((List.replicate c.list.length ([] : List Bool)).set 0 (List.replicate 14 false)) [0] 0 := by
  have hl : 0 < (List.replicate c.list.length ([] : List Bool)).length := by rw [List.length_replicate]; omega
  have h0 := Low.start hn
  refine ⟨h0, ?_, fun i hi => ?_, ?_⟩
  · intro x hx
    rw [List.mem_singleton.1 hx]
    refine ⟨Int.le_refl _, by omega, ?_⟩
    rw [rowAt_set _ _ hl]; simp
  · by_cases e : i = 0
    · subst e; exact .inr ⟨0, Nat.le_refl _, rfl⟩
    · left
      unfold covAt
      rw [Bool.or_eq_true, decide_eq_true_eq]
      left
      rw [rowAt_set _ _ hl, if_neg (by simpa using e)]
      unfold rowAt
      simp only [List.getD_eq_getElem?_getD, List.getElem?_replicate]
      split <;> simp
  · have := pot_le _ h0.ok
    simp only [List.length_set, List.length_replicate] at this
    simp only [List.length_singleton]
    omega

theorem WInv.enter {c : LCode} {m : List (List Bool)} {qs : List Int} {k a : Nat} (h : WInv c m qs k) (ha : qs[k]? = some (a : Int)) :
    (rowAt m a).length = 14 ∧ a < c.list.length ∧ JInv c m qs k a (afterF c (insAt c a) (rowAt m a)) (nx c a) 0 := by
  have hm := h.q a (List.mem_of_getElem? ha)
  have hl : a < m.length := by rw [h.low.len]; omega
  refine ⟨hm.2.2, by omega, h.low, h.q, fun i hi hne => ?_, .inr ⟨by simp, rfl⟩, h.cnt, ?_, by rw [afterF_len]; exact hm.2.2⟩
  · rcases h.pend i hi with g | ⟨p, g1, g2⟩
    · exact .inl g
    · refine .inr ⟨p, ?_, g2⟩
      rcases Nat.lt_or_ge k p with g3 | g3
      · exact g3
      · have : p = k := by omega
        subst this
        rw [ha] at g2
        have := Option.some.inj g2
        omega
  · exact fun p hp y hy => h.low.after hl hm.2.2 p hp y hy

theorem JInv.keep {c : LCode} {m : List (List Bool)} {qs : List Int} {k a : Nat} {t : List Bool} {ns : List Int} {j : Nat} (h : JInv c m qs k a t ns j) (hj : j < ns.length) (hc : covF t (rowAt m ns[j]) = true) : JInv c m qs k a t ns (j + 1) := by
  refine ⟨h.low, h.q, h.pend, ?_, h.cnt, h.bnd, h.tl⟩
  rcases h.self with g | ⟨g1, g2⟩
  · exact .inl g
  · refine .inr ⟨fun y hy => ?_, g2⟩
    rw [p_take_succ _ _ hj, List.mem_append, List.mem_singleton] at hy
    rcases hy with hy | hy
    · exact g1 y hy
    · rw [hy]; exact hc

theorem JInv.push {c : LCode} {m : List (List Bool)} {qs : List Int} {k a : Nat} {t : List Bool} {ns : List Int} {j : Nat} (h : JInv c m qs k a t ns j) (hj : j < ns.length) {y : Nat} (hy : ns[j] = (y : Int)) (hyl : y < c.list.length) (hk : k < qs.length)
    (hc : covF t (rowAt m y) = false) : JInv c (m.set y (joinF (rowAt m y) t)) (qs ++ [(y : Int)]) k a t ns (j + 1) := by
  have hl : y < m.length := by rw [h.low.len]; exact hyl
  have hr := rowOk_len h.low.ok y
  have h14 := joinF_len hr h.tl
  have hle := joinF_left (t := t) hr
  have hmem : (y : Int) ∈ ns := by rw [← hy]; exact List.getElem_mem hj
  have hpl : ∀ i : Nat, (∃ p, k + 1 ≤ p ∧ qs[p]? = some (i : Int)) → ∃ p, k + 1 ≤ p ∧ (qs ++ [(y : Int)])[p]? = some (i : Int) := by
    rintro i ⟨p, h1, h2⟩
    exact ⟨p, h1, by rw [List.getElem?_append_left (List.getElem?_eq_some_iff.1 h2).1]; exact h2⟩
  have hpy : ∃ p, k + 1 ≤ p ∧ (qs ++ [(y : Int)])[p]? = some (y : Int) := ⟨qs.length, hk, by simp⟩
  refine ⟨?_, ?_, ?_, ?_, ?_, h.bnd, h.tl⟩
  · refine h.low.set hl h14 fun p hp => ?_
    have h1 := h.bnd p hp y hmem
    refine ⟨h1.1, joinF_least ?_ h1.2⟩
    rcases h.low.low p hp y with h2 | h2
    · intro z hz
      rw [List.eq_nil_of_length_eq_zero h2] at hz
      simp at hz
    · exact h2.2
  · intro x hx
    rw [rowAt_set _ _ hl]
    rw [List.mem_append, List.mem_singleton] at hx
    rcases hx with hx | hx
    · have := h.q x hx
      refine ⟨this.1, this.2.1, ?_⟩
      split
      · exact h14
      · exact this.2.2
    · subst hx
      refine ⟨by omega, by omega, ?_⟩
      rw [if_pos (by simp)]
      exact h14
  · intro i hi hne
    by_cases e : i = y
    · subst e; exact .inr hpy
    · rcases h.pend i hi hne with g | g
      · exact .inl (covAt_set hl e h14 hle g)
      · exact .inr (hpl i g)
  · by_cases e : a = y
    · subst e; exact .inl hpy
    · rcases h.self with g | ⟨g1, g2⟩
      · exact .inl (hpl a g)
      · refine .inr ⟨fun z hz => ?_, ?_⟩
        · rw [p_take_succ _ _ hj, List.mem_append, List.mem_singleton] at hz
          rcases hz with hz | hz
          · exact covF_set hl h14 hle (g1 z hz)
          · rw [hz, hy, covF_iff, rowAt_set _ _ hl, if_pos (by simp)]
            exact ⟨by omega, joinF_right hr h.tl⟩
        · rw [rowAt_set _ _ hl, if_neg (by simpa using e)]
          exact g2
  · have h1 := pot_set m y (joinF (rowAt m y) t) hl
    have h2 := rpot_join hr h.tl hc
    rw [← rowAt_nat hl] at h1
    have := h.cnt
    rw [List.length_append, List.length_singleton]
    omega

theorem JInv.done {c : LCode} {m : List (List Bool)} {qs : List Int} {k a : Nat} {t : List Bool} {j : Nat} (h : JInv c m qs k a t (nx c a) j) (hj : (nx c a).length ≤ j) : WInv c m qs (k + 1) := by
  refine ⟨h.low, h.q, fun i hi => ?_, h.cnt⟩
  by_cases e : i = a
  · subst e
    rcases h.self with g | ⟨g1, g2⟩
    · exact .inr g
    · left
      rw [List.take_of_length_le hj] at g1
      unfold covAt
      rw [Bool.or_eq_true]
      right
      rw [List.all_eq_true, g2]
      exact g1
  · exact h.pend i hi e

theorem WInv.done {c : LCode} {m : List (List Bool)} {qs : List Int} (h : WInv c m qs qs.length) : isLeast c m := by
  refine h.low.least fun i hi => ?_
  rcases h.pend i (by rw [← h.low.len]; exact hi) with g | ⟨p, g1, g2⟩
  · exact g
  · have := (List.getElem?_eq_some_iff.1 g2).1
    omega

end Go.Proofs.Ytjlnaiifegjneaa
