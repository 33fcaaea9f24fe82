/-
  ReachableCode of both sides. Conditions: the argument is code.
-/
import Derived.Test.YtjlnaiifegjneaaSpecCode2
import Derived.Test.YtjlnaiifegjneaaImplCode3
import Derived.Test.YtjlnaiifegjneaaReachS
import Derived.Test.YtjlnaiifegjneaaReachI
namespace Go.Proofs.Ytjlnaiifegjneaa
open Go Go.RowKit

noncomputable def reachR (c : LCode) : List Bool := if codeOk c = true then reachB c else []
theorem reachB_len (c : LCode) : (reachB c).length = c.list.length := by simp [reachB]
theorem reachR_len (c : LCode) : (reachR c).length ≤ c.list.length := by
  unfold reachR; split
  · rw [reachB_len]; exact Nat.le_refl _
  · simp

theorem spec_ReachableCode (v : Value) (c : LCode) (w : World) (h : CodeRow w v c) :
    Calls Try.prog 22 #[v] w fun e w' => ∃ u, e = .returned u ∧ Own w' w.heap.size w'.heap.size 4 1 u (reachR c).length (bools (reachR c)) ∧ Below w.heap.size w w' := by
  have hrow := h
  obtain ⟨v1, v2, v3, rfl, h1, h2, h3⟩ := h
  have HT : Hid (reachR c = if codeOk c = true then reachB c else []) := rfl
  obtain ⟨W, hW⟩ : ∃ W, W = w.alloc (.cells #[v1, v2, v3] 36) := ⟨_, rfl⟩
  have B0 : Below w.heap.size w W := by rw [hW]; go_grown
  have L1 : Blk W w.heap.size [v1, v2, v3] := by rw [hW]; exact (Blk.new w [v1, v2, v3] _)
  go_enter Try.func22, Try.ntmps22
  go_wp2_with fail
  rw [← hW]
  clear hW
  refine (spec_CodeValid _ c _ (hrow.below B0)).mono ?_
  rintro e w1 ⟨rfl, b1⟩
  replace L1 := L1.below b1 L1.lt
  have B1 := B0.trans (b1.mono B0.size)
  cases hh : codeOk c
  · have HH := show Hid (reachR c = []) from by unfold Hid; rw [HT.out, hh]; rfl
    clear hh
    go_wp2_with fail
    go_ret
    rw [HH.out]
    exact ⟨_, rfl, (own_built _ #[] 0 1 _ (by simp) rfl (by omega)).wide B1.size (by simp), B1.alloc B1.size _⟩
  · have HH := show Hid (reachR c = reachB c) from by unfold Hid; rw [HT.out, hh]; rfl
    have HO := show Hid _ from hh
    clear hh
    have x0 := L1.cell 0
    have x1 := L1.cell 1
    have x2 := L1.cell 2
    simp only [List.getElem?_cons_zero, List.getElem?_cons_succ] at x0 x1 x2
    go_wp2_with fail
    refine (spec_l8Reach _ c HO.out _ (hrow.below B1)).mono ?_
    rintro e w2 ⟨u, rfl, o2, b2⟩
    obtain ⟨a2, k2, rfl⟩ := o2.form
    go_wp2_with fail
    go_ret
    rw [HH.out, reachB_len]
    exact ⟨_, rfl, o2.wide B1.size (Nat.le_refl _), B1.trans (b2.mono B1.size)⟩

theorem impl_ReachableCode (v : Value) (c : LCode) (w : World) (h : CodeRow w v c) :
    Calls Try.prog 23 #[v] w fun e w' => ∃ u, e = .returned u ∧ Own w' w.heap.size w'.heap.size 4 1 u (reachR c).length (bools (reachR c)) ∧ Below w.heap.size w w' := by
  have hrow := h
  obtain ⟨v1, v2, v3, rfl, h1, h2, h3⟩ := h
  have HT : Hid (reachR c = if codeOk c = true then reachB c else []) := rfl
  obtain ⟨W, hW⟩ : ∃ W, W = w.alloc (.cells #[v1, v2, v3] 36) := ⟨_, rfl⟩
  have B0 : Below w.heap.size w W := by rw [hW]; go_grown
  have L1 : Blk W w.heap.size [v1, v2, v3] := by rw [hW]; exact (Blk.new w [v1, v2, v3] _)
  go_enter Try.func23, Try.ntmps23
  go_wp2_with fail
  rw [← hW]
  clear hW
  refine (impl_CodeValid _ c _ (hrow.below B0)).mono ?_
  rintro e w1 ⟨rfl, b1⟩
  replace L1 := L1.below b1 L1.lt
  have B1 := B0.trans (b1.mono B0.size)
  cases hh : codeOk c
  · have HH := show Hid (reachR c = []) from by unfold Hid; rw [HT.out, hh]; rfl
    clear hh
    go_wp2_with fail
    go_ret
    rw [HH.out]
    exact ⟨_, rfl, ⟨World.ownsRow_nil _ _ _ _, fun g hg => by cases hg⟩, B1⟩
  · have HH := show Hid (reachR c = reachB c) from by unfold Hid; rw [HT.out, hh]; rfl
    have HO := show Hid _ from hh
    clear hh
    have x0 := L1.cell 0
    have x1 := L1.cell 1
    have x2 := L1.cell 2
    simp only [List.getElem?_cons_zero, List.getElem?_cons_succ] at x0 x1 x2
    go_wp2_with fail
    refine (impl_reachable _ c HO.out _ (hrow.below B1)).mono ?_
    rintro e w2 ⟨u, rfl, o2, b2⟩
    obtain ⟨a2, k2, rfl⟩ := o2.form
    go_wp2_with fail
    go_ret
    rw [HH.out, reachB_len]
    exact ⟨_, rfl, o2.wide B1.size (Nat.le_refl _), B1.trans (b2.mono B1.size)⟩

theorem eqBoolS_b (v1 v2 : Value) (xs : List Bool) (w : World) (h1 : Row w v1 xs.length 1 (bools xs)) (h2 : Row w v2 xs.length 1 (bools xs)) :
    Calls Try.prog 24 #[v1, v2] w fun e w' => e = .returned (.bool true) ∧ Below w.heap.size w w' :=
  (eqBoolS_any v1 v2 xs xs w h1 h2).mono fun e w' ⟨he, n, hw⟩ => ⟨by rw [he, decide_eq_true rfl], by rw [hw]; exact below_drewN (Below.refl _ _) n⟩
theorem heldBoolS_b (v : Value) (n K : Nat) (w : World) (h : Row w v n 1 (bools (marksB K n))) (hK : K + n ≤ 9000000000000000000) :
    Calls Try.prog 27 #[v, .int .i64 K] w fun e w' => e = .returned (.int .i64 (K + n : Nat)) ∧ Below w.heap.size w w' :=
  (heldBoolS_any v n K w h hK).mono fun e w' ⟨he, m, hw⟩ => ⟨he, by rw [hw]; exact below_drewN (Below.refl _ _) m⟩

end Go.Proofs.Ytjlnaiifegjneaa
