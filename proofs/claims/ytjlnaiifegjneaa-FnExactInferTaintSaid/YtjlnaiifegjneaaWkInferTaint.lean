/-
  InferTaint: the program's function returns what the reference's returns, whatever the argument. Conditions: none beyond the statement's own.
-/
import Derived.Test.YtjlnaiifegjneaaInfer5
import Derived.Test.YtjlnaiifegjneaaLawMat2
import Derived.Test.YtjlnaiifegjneaaBox
namespace Go.Proofs.Ytjlnaiifegjneaa.exInferTaint
open Go Go.RowKit Go.ChangeShapes Go.WideShapes Go.ChangeAt Go.Proofs.Ytjlnaiifegjneaa

theorem eqMat_t (v1 v2 : Value) (m : List (List Bool)) (w : World) (h1 : MatRow w v1 m) (h2 : MatRow w v2 m) :
    Calls Try.prog 16 #[v1, v2] w fun e w' => e = .returned (.bool true) ∧ Below w.heap.size w w' := by
  have := eqBoolSS_any v1 v2 m m w h1 h2
  rwa [decide_eq_true (rfl : m = m)] at this

theorem matForm {w : World} {lo hi : Nat} {v : Value} {m : List (List Bool)} (h : MatOwn w lo hi v m) : ∃ a cap, v = .slice a m.length cap := by
  obtain ⟨a, cap, hv, _⟩ := h.row.open
  exact ⟨a, cap, hv⟩

set_option maxHeartbeats 1000000 in
theorem walk (v : Value) (c : LCode) (w : World) (h : CodeRow w v c) :
    Calls Try.prog 10 #[v] w fun e w' => e = .returned (.bool true) ∧ Below w.heap.size w w' := by
  have hrow := h
  obtain ⟨v1, v2, v3, rfl, h1, h2, h3⟩ := h
  obtain ⟨W, hW⟩ : ∃ W, W = w.alloc (.cells #[v1, v2, v3] 31) := ⟨_, rfl⟩
  have B0 : Below w.heap.size w W := by rw [hW]; go_grown
  have L1 : Blk W w.heap.size [v1, v2, v3] := by rw [hW]; exact (Blk.new w [v1, v2, v3] _)
  have s0 := B0.size
  go_enter Try.func10, Try.ntmps10
  go_wp2_with fail
  rw [← hW]
  clear hW
  refine (szCode_any _ _ _ _ _ _ _ _ _ 1048576 _ (h1.below B0) (h2.below B0) (h3.below B0) (by omega) (by omega)).mono ?_
  rintro e w1 ⟨rfl, b1⟩
  have B1 := B0.trans (b1.mono s0)
  have s1 := B1.size
  replace L1 := L1.below b1 L1.lt
  by_cases hs : (1048576 : Int) < ((c.vars.length + c.arrays.length + c.list.length : Nat) : Int)
  · rw [szRes_neg hs]
    go_wp2_with fail
    go_ret
    exact ⟨rfl, B1⟩
  · rw [szRes_pos hs]
    have hm : c.size ≤ 1048576 := by unfold LCode.size; omega
    have x0 := L1.cell 0
    have x1 := L1.cell 1
    have x2 := L1.cell 2
    simp only [List.getElem?_cons_zero, List.getElem?_cons_succ] at x0 x1 x2
    go_wp2_with fail
    refine (toCode_any _ c _ (hrow.below B1) hm).mono ?_
    rintro e w2 ⟨u1, rfl, o1, b2⟩
    have B2 := B1.trans (b2.mono s1)
    have s2 := B2.size
    replace L1 := L1.below b2 L1.lt
    go_wp2_with fail
    refine (spec_InferTaint _ c _ o1.row).mono ?_
    rintro e w3 ⟨us, rfl, os, b3⟩
    obtain ⟨aw, kw, rfl⟩ := matForm os
    have B3 := B2.trans (b3.mono s2)
    have s3 := B3.size
    replace L1 := L1.below b3 L1.lt
    have l3 : w.heap.size < w3.heap.size := L1.lt
    clear x0 x1 x2
    have x0 := L1.cell 0
    have x1 := L1.cell 1
    have x2 := L1.cell 2
    simp only [List.getElem?_cons_zero, List.getElem?_cons_succ] at x0 x1 x2
    go_wp2_with fail
    refine (toCode_any _ c _ (hrow.below B3) hm).mono ?_
    rintro e w4 ⟨u2, rfl, o2, b4⟩
    have B4 := B3.trans (b4.mono s3)
    have s4 := B4.size
    replace L1 := L1.below b4 L1.lt
    obtain ⟨y1, y2, y3, rfl, -⟩ := id o2
    obtain ⟨a1, k1, a2, k2, a3, k3, rfl, rfl, rfl⟩ := Code.rowOf o2
    go_wp2_with fail
    have lx := Blk.new w4 [.slice a1 c.vars.length k1, .slice a2 c.arrays.length k2, .slice a3 c.list.length k3] 36
    have bx : Below w4.heap.size w4 (w4.alloc (.cells #[.slice a1 c.vars.length k1, .slice a2 c.arrays.length k2, .slice a3 c.list.length k3] 36)) := by go_grown
    replace L1 := L1.below bx L1.lt
    have B5 := B4.trans (bx.mono s4)
    have r5 := o2.row.below bx
    generalize w4.alloc (.cells #[.slice a1 c.vars.length k1, .slice a2 c.arrays.length k2, .slice a3 c.list.length k3] 36) = w5 at *
    have s5 := B5.size
    have ox := o2.keep bx (Nat.le_refl _)
    replace os := (os.keep b4 (Nat.le_refl _)).keep bx b4.size
    clear o2 bx x0 x1 x2
    refine (impl_InferTaint _ c _ r5).mono ?_
    rintro e w6 ⟨ug, rfl, og, b6⟩
    obtain ⟨ag, kg, rfl⟩ := matForm og
    have B6 := B5.trans (b6.mono s5)
    have s6 := B6.size
    have t5 : w4.heap.size ≤ w5.heap.size := by have := lx.lt; omega
    have t4 := b4.size
    replace os := os.keep b6 (by omega)
    replace ox := ox.keep b6 t5
    replace L1 := L1.below b6 L1.lt
    replace lx := lx.below b6 lx.lt
    go_wp2_with fail
    refine (eqMat_t _ _ (infM c) _ og.row os.row).mono ?_
    rintro e w7 ⟨rfl, b7⟩
    have B7 := B6.trans (b7.mono s6)
    have s7 := B7.size
    have t6 := b6.size
    have t7 := b7.size
    replace os := os.keep b7 (by omega)
    replace ox := ox.keep b7 (by omega)
    replace og := og.keep b7 (by omega)
    replace L1 := L1.below b7 L1.lt
    replace lx := lx.below b7 lx.lt
    have hS : ∀ W', Below w7.heap.size w7 W' → Below w7.heap.size w7 W' ∧ (W'.cell? ⟨w.heap.size, 0, none⟩ = some v1 ∧ W'.cell? ⟨w.heap.size, 1, none⟩ = some v2 ∧ W'.cell? ⟨w.heap.size, 2, none⟩ = some v3) ∧
        (W'.cell? ⟨w4.heap.size, 0, none⟩ = some (.slice a1 c.vars.length k1) ∧ W'.cell? ⟨w4.heap.size, 1, none⟩ = some (.slice a2 c.arrays.length k2) ∧ W'.cell? ⟨w4.heap.size, 2, none⟩ = some (.slice a3 c.list.length k3)) :=
      fun W' hb => ⟨hb, cells3 L1 W' hb, cells3 lx W' hb⟩
    have HS := show Hid _ from hS
    have hb0 := (Below.refl w7.heap.size w7).drew
    have r7 := ox.row
    clear hS
    go_wp2_with fail
    go_region_held3 (fun W' => Below w7.heap.size w7 W' ∧ (W'.cell? ⟨w.heap.size, 0, none⟩ = some v1 ∧ W'.cell? ⟨w.heap.size, 1, none⟩ = some v2 ∧ W'.cell? ⟨w.heap.size, 2, none⟩ = some v3) ∧
        (W'.cell? ⟨w4.heap.size, 0, none⟩ = some (.slice a1 c.vars.length k1) ∧ W'.cell? ⟨w4.heap.size, 1, none⟩ = some (.slice a2 c.arrays.length k2) ∧ W'.cell? ⟨w4.heap.size, 2, none⟩ = some (.slice a3 c.list.length k3)))
      (exact HS.out _ (by assumption))
      (first | (go_at_call 19; refine (toCode_any _ c _ (hrow.below (below_step (by assumption) B7 (Nat.le_refl _))) hm).mono ?_; rintro e w8 ⟨u3, rfl, o3, b8⟩; have q8 := below_step b8 hb0 (Nat.le_refl _)) | (go_at_call 21; refine (eqCode_any _ _ c c _ (r7.below q8) o3.row).mono ?_; intro e w9 h9; rw [LCode.same_eq.2 (rfl : c = c)] at h9; obtain ⟨rfl, b9⟩ := h9; have q9 := below_step b9 q8 (Nat.le_refl _)))
    have B9 := B7.trans (q9.mono s7)
    have s9 := B9.size
    have t9 := q9.size
    replace os := os.keep q9 (by omega)
    replace ox := ox.keep q9 (by omega)
    replace og := og.keep q9 (by omega)
    replace L1 := L1.below q9 L1.lt
    replace lx := lx.below q9 lx.lt
    clear HS hb0 r7 o3 b8 b9 q8 r5
    have y0 := lx.cell 0
    have y1 := lx.cell 1
    have y2 := lx.cell 2
    simp only [List.getElem?_cons_zero, List.getElem?_cons_succ] at y0 y1 y2
    go_wp2_with fail
    refine (markCode_any _ c 1 _ _ _ ox (by omega) (by unfold LCode.size at hm; omega)).mono ?_
    rintro e w10 ⟨rfl, -, q10⟩
    have B10 := B9.trans (q10.below s3 s9)
    have s10 := B10.size
    have t10 := q10.size
    replace os := os.out q10 (by omega)
    replace og := og.out q10 (by omega)
    replace L1 := L1.out q10 (by omega)
    clear ox y0 y1 y2 lx
    obtain ⟨K1, hK1⟩ : ∃ K1 : Nat, K1 = 1 + c.vars.length + c.arrays.length + c.list.length * 5 := ⟨_, rfl⟩
    rw [← hK1]
    clear hK1
    go_wp2_with fail
    refine (eqMat_t _ _ (infM c) _ og.row os.row).mono ?_
    rintro e w11 ⟨rfl, b11⟩
    have B11 := B10.trans (b11.mono s10)
    have s11 := B11.size
    have t11 := b11.size
    replace os := os.keep b11 (by omega)
    replace og := og.keep b11 (by omega)
    replace L1 := L1.below b11 L1.lt
    have hrl := (infM_size (c := c)).2
    unfold LCode.size at hm
    go_wp2_with fail
    refine (markBoolSS_any _ (infM c) 1 _ _ _ og (by omega)).mono ?_
    rintro e w12 ⟨rfl, p12, q12⟩
    have B12 := B11.trans (q12.below (by omega) s11)
    have s12 := B12.size
    have t12 := q12.size
    replace os := os.out q12 (by omega)
    replace L1 := L1.out q12 (by omega)
    obtain ⟨K2, hK2⟩ : ∃ K2 : Nat, K2 = 1 + rowSum (infM c) := ⟨_, rfl⟩
    rw [← hK2]
    go_wp2_with fail
    refine (heldBoolSS_any _ (infM c) 1 _ p12.row (by omega)).mono ?_
    rintro e w13 ⟨rfl, b13⟩
    rw [← hK2]
    have B13 := B12.trans (b13.mono s12)
    have s13 := B13.size
    have t13 := b13.size
    replace os := os.keep b13 (by omega)
    replace p12 := p12.keep b13 (by omega)
    replace L1 := L1.below b13 L1.lt
    have x0 := L1.cell 0
    have x1 := L1.cell 1
    have x2 := L1.cell 2
    simp only [List.getElem?_cons_zero, List.getElem?_cons_succ] at x0 x1 x2
    go_wp2_with fail
    refine (toCode_any _ c _ (hrow.below B13) (by unfold LCode.size; omega)).mono ?_
    rintro e w14 ⟨u4, rfl, o4, b14⟩
    have B14 := B13.trans (b14.mono s13)
    have s14 := B14.size
    have t14 := b14.size
    replace os := os.keep b14 (by omega)
    replace p12 := p12.keep b14 (by omega)
    go_wp2_with fail
    refine (impl_InferTaint _ c _ o4.row).mono ?_
    rintro e w15 ⟨uh, rfl, oh, b15⟩
    obtain ⟨ah, kh, rfl⟩ := matForm oh
    have B15 := B14.trans (b15.mono s14)
    have s15 := B15.size
    have t15 := b15.size
    replace os := os.keep b15 (by omega)
    replace p12 := p12.keep b15 (by omega)
    clear x0 x1 x2
    go_wp2_with fail
    refine (eqMat_t _ _ (infM c) _ oh.row os.row).mono ?_
    rintro e w16 ⟨rfl, b16⟩
    have B16 := B15.trans (b16.mono s15)
    have s16 := B16.size
    replace p12 := p12.keep b16 (by omega)
    go_wp2_with fail
    refine (heldBoolSS_any _ (infM c) 1 _ p12.row (by omega)).mono ?_
    rintro e w17 ⟨rfl, b17⟩
    rw [← hK2]
    go_wp2_with fail
    go_ret
    exact ⟨rfl, B16.trans (b17.mono s16)⟩

end Go.Proofs.Ytjlnaiifegjneaa.exInferTaint
