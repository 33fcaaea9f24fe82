/-
  Arguments that came in, read as rows of cells. Conditions: they can be read as data.
-/
import Derived.Test.YtooifghhgnlcoaaDoorRows
import Derived.Test.YtooifghhgnlcoaaDoorLib
import Derived.OpenShut
import Derived.ChangeOld
import Derived.Deep.Slices
import Derived.Lib.SmallJoins
namespace Go.Proofs.YtooifghhgnlcoaaDoor
set_option linter.unusedVariables false
set_option linter.unusedSimpArgs false
open Go Go.RowKit Go.ChangeShapes Go.WideShapes Go.Deep

theorem own : ownKnob Tryd.prog.godebug = none := by kernel_rfl
theorem laidOut : laidOutB Tryd.prog = true := by kernel_rfl

section
variable {H : Type} {enc : TypeId × Value → H} {W : World}

theorem flat_get {C : Nat → List Value} {sz : Nat} (hC : ∀ i, (C i).length = sz) : ∀ (n i j : Nat), i < n → j < sz → ((List.range n).flatMap C)[i * sz + j]? = (C i)[j]? := by
  intro n
  induction n with
  | zero => intro i j h; omega
  | succ n ih =>
    intro i j h hj
    have hlen : ((List.range n).flatMap C).length = n * sz := by
      clear ih h
      induction n with
      | zero => simp
      | succ n ih2 => rw [List.range_succ, List.flatMap_append, List.length_append, ih2]; simp [hC, Nat.succ_mul]
    rw [List.range_succ, List.flatMap_append]
    by_cases hin : i < n
    · rw [List.getElem?_append_left (by rw [hlen]; have := Nat.mul_le_mul_right sz (Nat.succ_le_of_lt hin); rw [Nat.succ_mul] at this; omega)]
      exact ih i j hin hj
    · obtain rfl : i = n := by omega
      rw [List.getElem?_append_right (by omega), hlen]
      simp

theorem flat_len {C : Nat → List Value} {sz : Nat} (hC : ∀ i, (C i).length = sz) (n : Nat) : ((List.range n).flatMap C).length = n * sz := by
  induction n with
  | zero => simp
  | succ n ih2 => rw [List.range_succ, List.flatMap_append, List.length_append, ih2]; simp [hC, Nat.succ_mul]

/-- A slice that reads as data: its row of cells; each element reads. -/
theorem row_of_trod {t e : TypeId} {fuel : Nat} {v : Value} {x : DataW H × List MemPlace} {sz : Nat} (ht : Tryd.prog.underlying t = some (.slice e)) (hc : Tryd.prog.cellsOf e = sz) (hsz : 0 < sz)
    (h : DataW.trod enc Tryd.prog W 0 (fun _ => true) true fuel t [v] = some x) :
    ∃ (n m : Nat) (C : Nat → List Value), Row W v n sz ((List.range n).flatMap C) ∧ (∀ i, (C i).length = sz) ∧ ∀ i, i < n → ∃ y, DataW.trod enc Tryd.prog W 0 (fun _ => true) true m e (C i) = some y := by
  rcases open_slice ht h with ⟨hcs, _⟩ | ⟨a, len, cap, m, k, D, Pl, hcs, _, hl, hm, hmm, _, hx⟩
  · cases hcs
    exact ⟨0, 0, fun _ => List.replicate sz undef, Row.nil _ _, by simp, fun i hi => by omega⟩
  · cases hcs
    rw [hc] at hx
    have hmc : len ≤ m := by rw [hmm]; simp; omega
    obtain ⟨C, hC⟩ := choose_lt (α := List Value) (n := len) (p := fun i cs => cs.length = sz ∧ (∀ j, j < sz → W.cell? (a.add (i * sz + j)) = cs[j]?) ∧ ∃ y, DataW.trod enc Tryd.prog W 0 (fun _ => true) true k e cs = some y) (fun i hi => by
      obtain ⟨cs', h1, h2⟩ := hx i (by omega)
      obtain ⟨_, hlen, hcell⟩ := World.cells?_some h1
      exact ⟨cs', hlen, fun j hj => by rw [← add_add]; exact hcell j hj, _, h2⟩)
    let C' : Nat → List Value := fun i => if i < len then C i else List.replicate sz undef
    have hC' : ∀ i, (C' i).length = sz := fun i => by
      by_cases hi : i < len
      · simp only [C', if_pos hi]; exact (hC i hi).1
      · simp [C', if_neg hi]
    refine ⟨len, k, C', ⟨flat_len hC' len, some a, cap, rfl, hl, hm, fun hn => ?_⟩, hC', fun i hi => ?_⟩
    · obtain ⟨b, off, spot⟩ := a
      have h00 := (hC 0 hn).2.1 0 hsz
      have hlen0 := (hC 0 hn).1
      rw [List.getElem?_eq_getElem (by omega)] at h00
      have hs : spot = none := by
        simpa [Addr.add] using World.cell?_spot h00
      subst hs
      have hb : b < W.heap.size := by simpa [Addr.add] using World.block_lt_of_cell? W _ h00
      refine ⟨b, off, rfl, hb, fun j u hj => ?_⟩
      have hjl : j < len * sz := by have := (List.getElem?_eq_some_iff.1 hj).1; rw [flat_len hC'] at this; exact this
      have hi : j / sz < len := Nat.div_lt_of_lt_mul (by rw [Nat.mul_comm]; exact hjl)
      have hr : j % sz < sz := Nat.mod_lt _ hsz
      have hjj : j / sz * sz + j % sz = j := Nat.div_add_mod' j sz
      have hg := flat_get hC' len (j / sz) (j % sz) hi hr
      rw [hjj, hj] at hg
      have hcc := (hC _ hi).2.1 _ hr
      simp only [C', if_pos hi] at hg
      rw [hjj, ← hg] at hcc
      have hadd : (⟨b, off, none⟩ : Addr).add j = ⟨b, off + j, none⟩ := by unfold Addr.add; split <;> simp_all
      rw [hadd] at hcc
      exact hcc
    · obtain ⟨y, hy⟩ := (hC i hi).2.2
      exact ⟨y, by simp only [C', if_pos hi]; exact hy⟩

theorem map_range_flat {α : Type} (n : Nat) (C : Nat → List Value) (f : α → Value) (g : Nat → α) (h : ∀ i, i < n → C i = [f (g i)]) : (List.range n).flatMap C = ((List.range n).map g).map f := by
  rw [List.map_map, List.flatMap_def]
  rw [List.map_congr_left (g := fun i => [f (g i)]) (fun i hi => h i (by simpa using hi))]
  induction n with
  | zero => simp
  | succ n ih =>
    rw [List.range_succ, List.map_append, List.flatten_append, List.map_append, ih (fun i hi => h i (by omega))]
    simp

/-- A slice of bools. -/
theorem bools_of_trod {fuel : Nat} {t : TypeId} {v : Value} {x : DataW H × List MemPlace} (ht : Tryd.prog.underlying t = some (.slice 4))
    (h : DataW.trod enc Tryd.prog W 0 (fun _ => true) true fuel t [v] = some x) : ∃ l : List Bool, Row W v l.length 1 (l.map Value.bool) := by
  obtain ⟨n, m, C, hr, hC, hx⟩ := row_of_trod ht (sz := 1) (by kernel_rfl) (by omega) h
  obtain ⟨g, hg⟩ := choose_lt (α := Bool) (n := n) (p := fun i b => C i = [.bool b]) (fun i hi => by
    obtain ⟨y, hy⟩ := hx i hi
    obtain ⟨b, hb, _⟩ := DataW.trod_bool Tryd.underlying4 hy
    exact ⟨b, hb⟩)
  refine ⟨(List.range n).map g, ?_⟩
  rw [List.length_map, List.length_range, ← map_range_flat n C Value.bool g hg]
  exact hr

end
end Go.Proofs.YtooifghhgnlcoaaDoor
