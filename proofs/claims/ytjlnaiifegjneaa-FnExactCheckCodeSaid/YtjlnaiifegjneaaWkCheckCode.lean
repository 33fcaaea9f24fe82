/-
  CheckCode: the program's function returns what the reference's returns, whatever the arguments. Conditions: none beyond the statement's own.
-/
import Derived.Test.YtjlnaiifegjneaaInfer4
import Derived.Test.YtjlnaiifegjneaaBox
namespace Go.Proofs.Ytjlnaiifegjneaa.exCheckCode
open Go Go.RowKit Go.ChangeShapes Go.WideShapes Go.ChangeAt Go.Proofs.Ytjlnaiifegjneaa

set_option maxHeartbeats 1000000 in
theorem walk (v : Value) (c : LCode) (w : World) (h : CodeRow w v c) :
    Calls Try.prog 7 #[v] w fun e w' => e = .returned (.bool true) ∧ Below w.heap.size w w' := by
  have hrow := h
  obtain ⟨v1, v2, v3, rfl, h1, h2, h3⟩ := h
  obtain ⟨W, hW⟩ : ∃ W, W = w.alloc (.cells #[v1, v2, v3] 31) := ⟨_, rfl⟩
  have B0 : Below w.heap.size w W := by rw [hW]; go_grown
  have L1 : Blk W w.heap.size [v1, v2, v3] := by rw [hW]; exact (Blk.new w [v1, v2, v3] _)
  have s0 := B0.size
  go_enter Try.func7, Try.ntmps7
  go_wp2_with fail
  rw [← hW]
  clear hW
  refine (szCode_any _ _ _ _ _ _ _ _ _ 1048576 _ (h1.below B0) (h2.below B0) (h3.below B0) (by omega) (by omega)).mono ?_
  rintro e w1 ⟨rfl, b1⟩
  have B1 := B0.trans (b1.mono s0)
  have s1 := B1.size
  replace L1 := L1.below b1 L1.lt
  by_cases hs : (1048576 : Int) < ((c.vars.length + c.arrays.length + c.list.length : Nat) : Int)
  · rw [szRes_neg hs]
    go_wp2_with fail
    go_ret
    exact ⟨rfl, B1⟩
  rw [szRes_pos hs]
  have hcs : c.size ≤ 1048576 := by unfold LCode.size; omega
  have x0 := L1.cell 0
  have x1 := L1.cell 1
  have x2 := L1.cell 2
  simp only [List.getElem?_cons_zero, List.getElem?_cons_succ] at x0 x1 x2
  go_wp2_with fail
  refine (toCode_any _ c _ (hrow.below B1) hcs).mono ?_
  rintro e w2 ⟨u1, rfl, o1, b2⟩
  have B2 := B1.trans (b2.mono s1)
  have s2 := B2.size
  replace L1 := L1.below b2 L1.lt
  go_wp2_with fail
  refine (spec_CheckCode _ c _ o1.row).mono ?_
  rintro e w3 ⟨rfl, b3⟩
  have B3 := B2.trans (b3.mono s2)
  have s3 := B3.size
  replace L1 := L1.below b3 L1.lt
  clear x0 x1 x2
  have x0 := L1.cell 0
  have x1 := L1.cell 1
  have x2 := L1.cell 2
  simp only [List.getElem?_cons_zero, List.getElem?_cons_succ] at x0 x1 x2
  go_wp2_with fail
  refine (toCode_any _ c _ (hrow.below B3) hcs).mono ?_
  rintro e w4 ⟨u2, rfl, o2, b4⟩
  have B4 := B3.trans (b4.mono s3)
  have s4 := B4.size
  replace L1 := L1.below b4 L1.lt
  obtain ⟨y1, y2, y3, rfl, -⟩ := id o2
  obtain ⟨a1, k1, a2, k2, a3, k3, rfl, rfl, rfl⟩ := Code.rowOf o2
  go_wp2_with fail
  have lx := Blk.new w4 [.slice a1 c.vars.length k1, .slice a2 c.arrays.length k2, .slice a3 c.list.length k3] 36
  have bx : Below w4.heap.size w4 (w4.alloc (.cells #[.slice a1 c.vars.length k1, .slice a2 c.arrays.length k2, .slice a3 c.list.length k3] 36)) := by go_grown
  replace L1 := L1.below bx L1.lt
  have B5 := B4.trans (bx.mono s4)
  have r5 := o2.row.below bx
  generalize w4.alloc (.cells #[.slice a1 c.vars.length k1, .slice a2 c.arrays.length k2, .slice a3 c.list.length k3] 36) = w5 at *
  have s5 := B5.size
  clear o2 bx x0 x1 x2
  refine (impl_CheckCode _ c _ r5).mono ?_
  rintro e w6 ⟨rfl, b6⟩
  have B6 := B5.trans (b6.mono s5)
  have s6 := B6.size
  replace L1 := L1.below b6 L1.lt
  replace lx := lx.below b6 lx.lt
  replace r5 := r5.below b6
  have hS : ∀ W', Below w6.heap.size w6 W' → Below w6.heap.size w6 W' ∧ (W'.cell? ⟨w.heap.size, 0, none⟩ = some v1 ∧ W'.cell? ⟨w.heap.size, 1, none⟩ = some v2 ∧ W'.cell? ⟨w.heap.size, 2, none⟩ = some v3) ∧
      (W'.cell? ⟨w4.heap.size, 0, none⟩ = some (.slice a1 c.vars.length k1) ∧ W'.cell? ⟨w4.heap.size, 1, none⟩ = some (.slice a2 c.arrays.length k2) ∧ W'.cell? ⟨w4.heap.size, 2, none⟩ = some (.slice a3 c.list.length k3)) :=
    fun W' hb => ⟨hb, cells3 L1 W' hb, cells3 lx W' hb⟩
  have HS := show Hid _ from hS
  have hb0 := (Below.refl w6.heap.size w6).drew
  clear hS
  go_wp2_with fail
  go_region_held3 (fun W' => Below w6.heap.size w6 W' ∧ (W'.cell? ⟨w.heap.size, 0, none⟩ = some v1 ∧ W'.cell? ⟨w.heap.size, 1, none⟩ = some v2 ∧ W'.cell? ⟨w.heap.size, 2, none⟩ = some v3) ∧
      (W'.cell? ⟨w4.heap.size, 0, none⟩ = some (.slice a1 c.vars.length k1) ∧ W'.cell? ⟨w4.heap.size, 1, none⟩ = some (.slice a2 c.arrays.length k2) ∧ W'.cell? ⟨w4.heap.size, 2, none⟩ = some (.slice a3 c.list.length k3)))
    (exact HS.out _ (by assumption))
    (first | (go_at_call 19; refine (toCode_any _ c _ (hrow.below (below_step (by assumption) B6 (Nat.le_refl _))) hcs).mono ?_; rintro e w7 ⟨u3, rfl, o3, b7⟩; have q7 := below_step b7 hb0 (Nat.le_refl _)) | (go_at_call 21; refine (eqCode_any _ _ c c _ (r5.below q7) o3.row).mono ?_; intro e w8 h8; rw [LCode.same_eq.2 (rfl : c = c)] at h8; obtain ⟨rfl, b8⟩ := h8; have q8 := below_step b8 q7 (Nat.le_refl _)))
  have B8 := below_step q8 B6 (Nat.le_refl _)
  go_wp2_with fail
  go_ret
  exact ⟨rfl, B8⟩

end Go.Proofs.Ytjlnaiifegjneaa.exCheckCode
