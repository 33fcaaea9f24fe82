/-
  A slice of slices of bools that came in. Conditions: it can be read as data.
-/
import Derived.Test.YtjlnaiifegjneaaOpen
import Derived.Test.YtjlnaiifegjneaaLawMat
namespace Go.Proofs.Ytjlnaiifegjneaa
open Go Go.RowKit Go.ChangeShapes Go.WideShapes Go.Deep
section
variable {H : Type} {enc : TypeId × Value → H} {W : World}

theorem mat_of_trod {fuel : Nat} {t : TypeId} {v : Value} {x : DataW H × List MemPlace} (ht : Try.prog.underlying t = some (.slice 40))
    (h : DataW.trod enc Try.prog W 0 (fun _ => true) true fuel t [v] = some x) : ∃ m : List (List Bool), MatRow W v m := by
  obtain ⟨n, q, C, hr, hC, hx⟩ := row_of_trod ht (sz := 1) (by kernel_rfl) (by omega) h
  obtain ⟨g, hg⟩ := choose_lt (α := Value × List Bool) (n := n) (p := fun i p => C i = [p.1] ∧ Row W p.1 p.2.length 1 (bools p.2)) (fun i hi => by
    obtain ⟨y, hy⟩ := hx i hi
    obtain ⟨u, hu⟩ : ∃ u, C i = [u] := by
      have := hC i
      match hci : C i, this with
      | [u], _ => exact ⟨u, rfl⟩
    rw [hu] at hy
    obtain ⟨l, hl⟩ := bools_of_trod Try.underlying40 hy
    exact ⟨(u, l), hu, hl⟩)
  refine ⟨(List.range n).map fun i => (g i).2, (List.range n).map fun i => (g i).1, ?_, ?_⟩
  · rw [List.length_map, List.length_range]
    have := map_range_flat n C id (fun i => (g i).1) (fun i hi => (hg i hi).1)
    rw [List.map_id] at this
    rw [← this]
    exact hr
  · intro i u r hu hr'
    have hi : i < n := by have := (List.getElem?_eq_some_iff.1 hu).1; simpa using this
    simp [hi] at hu hr'
    rw [← hu, ← hr']
    exact (hg i hi).2
end
end Go.Proofs.Ytjlnaiifegjneaa
