/-
  A slice of slices of bools that grows by a row. Conditions: the row is newer than the slice and its rows.
-/
import Derived.Test.YtooifghhgnlcoaaDoorPtP
import Derived.Test.YtooifghhgnlcoaaDoorApp
namespace Go.Proofs.YtooifghhgnlcoaaDoor
set_option linter.unusedVariables false
set_option linter.unusedSimpArgs false
open Go Go.RowKit

theorem mat_push {w w4 : World} {lo B : Nat} {v v' u : Value} {m : List (List Bool)} {r : List Bool} {vs : List Value}
    (h1 : Own w lo B 30 1 v m.length vs) (h2 : ∀ (i : Nat) (x : Value) (r : List Bool), vs[i]? = some x → m[i]? = some r → Own w lo B 4 1 x r.length (bools r))
    (h3 : ∀ (i j : Nat) (x y : Value), i < j → vs[i]? = some x → vs[j]? = some y → Disj x y) (h4 : ∀ (i : Nat) (x : Value), vs[i]? = some x → Disj x v)
    (hu : Own w B w.heap.size 4 1 u r.length (bools r)) (hlo : lo ≤ B) (hB : B ≤ w.heap.size)
    (hg : w.grownBy w4 v.ownBlock) (ho : w4.ownsRow lo 30 1 v' (m.length + 1) (vs ++ [u])) (hv : ∀ g, v'.ownBlock = some g → v.ownBlock = some g ∨ w.heap.size ≤ g) :
    MatOwn w4 lo w4.heap.size v' (m ++ [r]) := by
  have sg := hg.size
  have hl : vs.length = m.length := by have := h1.1.1; omega
  have row : ∀ (i : Nat) (x : Value), vs[i]? = some x → ∃ r, m[i]? = some r ∧ Own w lo B 4 1 x r.length (bools r) := by
    intro i x hx
    have hi : i < m.length := by have := (List.getElem?_eq_some_iff.1 hx).1; omega
    exact ⟨m[i], List.getElem?_eq_getElem hi, h2 i x _ hx (List.getElem?_eq_getElem hi)⟩
  have hd : ∀ (i : Nat) (x : Value), vs[i]? = some x → Disj x u := by
    intro i x hx
    obtain ⟨r', -, ho'⟩ := row i x hx
    exact disj_of ho' hu (.inl (Nat.le_refl _))
  have get : ∀ (i : Nat) (x : Value), (vs ++ [u])[i]? = some x → (i < m.length ∧ vs[i]? = some x) ∨ (i = m.length ∧ x = u) := by
    intro i x hx
    rcases Nat.lt_or_ge i vs.length with hi | hi
    · rw [List.getElem?_append_left hi] at hx
      exact .inl ⟨by omega, hx⟩
    · rw [List.getElem?_append_right hi] at hx
      have h0 : i - vs.length = 0 := by
        have := (List.getElem?_eq_some_iff.1 hx).1
        simp at this
        omega
      rw [h0] at hx
      simp at hx
      exact .inr ⟨by omega, hx.symm⟩
  refine ⟨vs ++ [u], ?_, ?_, ?_, ?_⟩
  · rw [List.length_append]
    exact Own.mk' ho
  · intro i x r' hx hr
    rcases get i x hx with ⟨hi, hx⟩ | ⟨rfl, rfl⟩
    · rw [List.getElem?_append_left hi] at hr
      exact ((h2 i x r' hx hr).grown hg fun g hv1 hv2 => h4 i x hx g hv1 hv2).wide (Nat.le_refl _) (by omega)
    · rw [List.getElem?_append_right (Nat.le_refl _), Nat.sub_self] at hr
      cases hr
      exact (hu.grown hg fun g hv1 hv2 => by
        have a1 := hu.lt g hv1
        have a2 := h1.lt g hv2
        omega).wide hlo sg
  · intro i j x y hij hx hy
    rcases get i x hx with ⟨hi, hx2⟩ | ⟨rfl, rfl⟩
    · rcases get j y hy with ⟨hj, hy2⟩ | ⟨rfl, rfl⟩
      · exact h3 i j x y hij hx2 hy2
      · exact hd i x hx2
    · rcases get j y hy with ⟨hj, hy⟩ | ⟨rfl, rfl⟩ <;> omega
  · intro i x hx g hg1 hg2
    rcases get i x hx with ⟨hi, hx⟩ | ⟨rfl, rfl⟩
    · obtain ⟨r', -, ho'⟩ := row i x hx
      have a1 := ho'.lt g hg1
      rcases hv g hg2 with hh | hh
      · exact h4 i x hx g hg1 hh
      · omega
    · have a1 := hu.lt g hg1
      rcases hv g hg2 with hh | hh
      · have a2 := h1.lt g hh
        omega
      · omega

theorem mat_nil (w : World) (lo hi : Nat) : MatOwn w lo hi (.slice none 0 0) [] :=
  ⟨[], ⟨World.ownsRow_nil _ _ _ _, fun g h => by cases h⟩, fun i u r h => by simp at h, fun i j u u' _ h => by simp at h, fun i u h => by simp at h⟩

def ptB (l : List UInt8) : Bool := decide (l ≠ [] ∧ fmtT (ptM l) = l)
theorem ptB_iff (l : List UInt8) : ptB l = true ↔ ptOk l := by unfold ptB ptOk; exact decide_eq_true_iff
def ptV (l : List UInt8) : List (List Bool) := if ptB l = true then ptM l else []
theorem ptV_size (l : List UInt8) : matSize (ptV l) ≤ l.length := by
  unfold ptV
  split
  · exact ptM_size l
  · simp [matSize, rowSum]

end Go.Proofs.YtooifghhgnlcoaaDoor
