/-
  OptimizeCode: the program's function returns what the reference's returns, whatever the argument. Conditions: none beyond the statement's own.
-/
import Derived.Test.YtjlnaiifegjneaaOpt2
import Derived.Test.YtjlnaiifegjneaaBox
namespace Go.Proofs.Ytjlnaiifegjneaa.exOptimizeCode
open Go Go.RowKit Go.ChangeShapes Go.WideShapes Go.ChangeAt Go.Proofs.Ytjlnaiifegjneaa

theorem eqC_t (v u : Value) (c : LCode) (w : World) (h : CodeRow w v c) (h' : CodeRow w u c) :
    Calls Try.prog 21 #[v, u] w fun e w' => e = .returned (.bool true) ∧ Below w.heap.size w w' := by
  have := eqCode_any v u c c w h h'
  rwa [LCode.same_refl] at this

set_option maxHeartbeats 4000000 in
theorem walk (v : Value) (c : LCode) (w : World) (h : CodeRow w v c) :
    Calls Try.prog 11 #[v] w fun e w' => e = .returned (.bool true) ∧ Below w.heap.size w w' := by
  have hrow := h
  obtain ⟨v1, v2, v3, rfl, h1, h2, h3⟩ := h
  obtain ⟨W, hW⟩ : ∃ W, W = w.alloc (.cells #[v1, v2, v3] 31) := ⟨_, rfl⟩
  have B0 : Below w.heap.size w W := by rw [hW]; go_grown
  have L1 : Blk W w.heap.size [v1, v2, v3] := by rw [hW]; exact (Blk.new w [v1, v2, v3] _)
  have s0 := B0.size
  go_enter Try.func11, Try.ntmps11
  go_wp2_with fail
  rw [← hW]
  clear hW
  refine (szCode_any _ _ _ _ _ _ _ _ _ 1048576 _ (h1.below B0) (h2.below B0) (h3.below B0) (by omega) (by omega)).mono ?_
  rintro e w1 ⟨rfl, b1⟩
  have B1 := B0.trans (b1.mono s0)
  have s1 := B1.size
  replace L1 := L1.below b1 L1.lt
  by_cases hs : (1048576 : Int) < ((c.vars.length + c.arrays.length + c.list.length : Nat) : Int)
  · rw [szRes_neg hs]
    go_wp2_with fail
    go_ret
    exact ⟨rfl, B1⟩
  rw [szRes_pos hs]
  have hm : c.size ≤ 1048576 := by unfold LCode.size; omega
  have hms : c.vars.length + c.arrays.length + c.list.length ≤ 1048576 := by omega
  have hR : (optC c).vars.length + (optC c).arrays.length + (optC c).list.length ≤ 1048576 := optC_size c
  have x0 := L1.cell 0
  have x1 := L1.cell 1
  have x2 := L1.cell 2
  simp only [List.getElem?_cons_zero, List.getElem?_cons_succ] at x0 x1 x2
  go_wp2_with fail
  refine (toCode_any _ c _ (hrow.below B1) hm).mono ?_
  rintro e w2 ⟨u1, rfl, o1, b2⟩
  have B2 := B1.trans (b2.mono s1)
  have s2 := B2.size
  replace L1 := L1.below b2 L1.lt
  go_wp2_with fail
  refine (spec_OptimizeCode _ c _ o1.row).mono ?_
  rintro e w3 ⟨us, rfl, os, b3⟩
  obtain ⟨d1, d2, d3, rfl, -⟩ := id os
  obtain ⟨e1, m1, e2, m2, e3, m3, rfl, rfl, rfl⟩ := CodeIn.rowOf os
  have HR := show Hid _ from hR
  clear hR x0 x1 x2
  obtain ⟨r, hr⟩ : ∃ r, r = optC c := ⟨_, rfl⟩
  obtain ⟨bo, hbo⟩ : ∃ bo, bo = codeOk c := ⟨_, rfl⟩
  have HRE := show Hid _ from hr
  have HBO := show Hid _ from hbo
  rw [← hr] at os HR ⊢
  rw [← hbo]
  clear hr hbo
  have B3 := B2.trans (b3.mono s2)
  have s3 := B3.size
  replace L1 := L1.below b3 L1.lt
  have l3 := L1.lt
  have lw := Blk.new w3 [.slice e1 r.vars.length m1, .slice e2 r.arrays.length m2, .slice e3 r.list.length m3] 36
  have bx : Below w3.heap.size w3 (w3.alloc (.cells #[.slice e1 r.vars.length m1, .slice e2 r.arrays.length m2, .slice e3 r.list.length m3] 36)) := by go_grown
  replace L1 := L1.below bx L1.lt
  replace os := os.keep bx (Nat.le_refl _)
  have B3' := B3.trans (bx.mono s3)
  have x0 := L1.cell 0
  have x1 := L1.cell 1
  have x2 := L1.cell 2
  simp only [List.getElem?_cons_zero, List.getElem?_cons_succ] at x0 x1 x2
  go_wp2_with fail
  have zx := bx.size
  have zw := lw.lt
  have zw3 : (w3.alloc (.cells #[.slice e1 r.vars.length m1, .slice e2 r.arrays.length m2, .slice e3 r.list.length m3] 36)).heap.size = w3.heap.size + 1 := by simp
  generalize w3.alloc (.cells #[.slice e1 r.vars.length m1, .slice e2 r.arrays.length m2, .slice e3 r.list.length m3] 36) = w3' at *
  obtain ⟨Bw, hBw⟩ : ∃ n, n = w3.heap.size := ⟨_, rfl⟩
  rw [← hBw] at lw zw zw3 zx os l3 ⊢
  clear hBw bx x0 x1 x2
  have s3' := B3'.size
  refine (toCode_any _ c _ (hrow.below B3') hm).mono ?_
  rintro e w4 ⟨u2, rfl, o2, b4⟩
  have B4 := B3'.trans (b4.mono s3')
  have s4 := B4.size
  have t4 := b4.size
  replace L1 := L1.below b4 L1.lt
  replace lw := lw.below b4 lw.lt
  replace os := os.keep b4 (by omega)
  obtain ⟨y1, y2, y3, rfl, -⟩ := id o2
  obtain ⟨a1, k1, a2, k2, a3, k3, rfl, rfl, rfl⟩ := Code.rowOf o2
  go_wp2_with fail
  have lx := Blk.new w4 [.slice a1 c.vars.length k1, .slice a2 c.arrays.length k2, .slice a3 c.list.length k3] 36
  have bx : Below w4.heap.size w4 (w4.alloc (.cells #[.slice a1 c.vars.length k1, .slice a2 c.arrays.length k2, .slice a3 c.list.length k3] 36)) := by go_grown
  have zx5 : (w4.alloc (.cells #[.slice a1 c.vars.length k1, .slice a2 c.arrays.length k2, .slice a3 c.list.length k3] 36)).heap.size = w4.heap.size + 1 := by simp
  replace L1 := L1.below bx L1.lt
  replace lw := lw.below bx lw.lt
  replace os := os.keep bx (by omega)
  have B5 := B4.trans (bx.mono s4)
  have ox := o2.keep bx (Nat.le_refl _)
  generalize w4.alloc (.cells #[.slice a1 c.vars.length k1, .slice a2 c.arrays.length k2, .slice a3 c.list.length k3] 36) = w5 at *
  obtain ⟨Bx, hBx⟩ : ∃ n, n = w4.heap.size := ⟨_, rfl⟩
  rw [← hBx] at lx zx5 ox s4 t4 ⊢
  clear o2 bx hBx
  have s5 := B5.size
  refine (impl_OptimizeCode _ c _ ox.row).mono ?_
  rintro e w6 ⟨ug, rfl, og, b6⟩
  rw [← HRE.out] at og
  rw [← HBO.out]
  obtain ⟨f1, f2, f3, rfl, -⟩ := id og
  obtain ⟨g1, n1, g2, n2, g3, n3, rfl, rfl, rfl⟩ := Code.rowOf og
  have B6 := B5.trans (b6.mono s5)
  have s6 := B6.size
  have t6 := b6.size
  replace os := os.keep b6 (by omega)
  replace ox := ox.keep b6 (by omega)
  replace L1 := L1.below b6 L1.lt
  replace lw := lw.below b6 lw.lt
  replace lx := lx.below b6 lx.lt
  have lg := Blk.new w6 [.slice g1 r.vars.length n1, .slice g2 r.arrays.length n2, .slice g3 r.list.length n3] 36
  have bx : Below w6.heap.size w6 (w6.alloc (.cells #[.slice g1 r.vars.length n1, .slice g2 r.arrays.length n2, .slice g3 r.list.length n3] 36)) := by go_grown
  have zx7 : (w6.alloc (.cells #[.slice g1 r.vars.length n1, .slice g2 r.arrays.length n2, .slice g3 r.list.length n3] 36)).heap.size = w6.heap.size + 1 := by simp
  replace L1 := L1.below bx L1.lt
  replace lw := lw.below bx lw.lt
  replace lx := lx.below bx lx.lt
  replace os := os.keep bx (by omega)
  replace ox := ox.keep bx (by omega)
  replace og := og.keep bx (by omega)
  have B7 := B6.trans (bx.mono s6)
  have y0 := lw.cell 0
  have y1 := lw.cell 1
  have y2 := lw.cell 2
  simp only [List.getElem?_cons_zero, List.getElem?_cons_succ] at y0 y1 y2
  go_wp2_with fail
  generalize w6.alloc (.cells #[.slice g1 r.vars.length n1, .slice g2 r.arrays.length n2, .slice g3 r.list.length n3] 36) = w7 at *
  obtain ⟨Bg, hBg⟩ : ∃ n, n = w6.heap.size := ⟨_, rfl⟩
  rw [← hBg] at lg zx7 og ⊢
  rw [← hBg] at s6 t6
  clear bx hBg y0 y1 y2
  have s7 := B7.size
  refine (eqC_t _ _ r _ og.row os.row).mono ?_
  rintro e w8 ⟨rfl, b8⟩
  have B8 := B7.trans (b8.mono s7)
  have s8 := B8.size
  have t8 := b8.size
  replace os := os.keep b8 (by omega)
  replace ox := ox.keep b8 (by omega)
  replace og := og.keep b8 (by omega)
  replace L1 := L1.below b8 L1.lt
  replace lw := lw.below b8 lw.lt
  replace lx := lx.below b8 lx.lt
  replace lg := lg.below b8 lg.lt
  have hS : ∀ W', Below w8.heap.size w8 W' → Below w8.heap.size w8 W' ∧ (W'.cell? ⟨w.heap.size, 0, none⟩ = some v1 ∧ W'.cell? ⟨w.heap.size, 1, none⟩ = some v2 ∧ W'.cell? ⟨w.heap.size, 2, none⟩ = some v3) ∧
      (W'.cell? ⟨Bx, 0, none⟩ = some (.slice a1 c.vars.length k1) ∧ W'.cell? ⟨Bx, 1, none⟩ = some (.slice a2 c.arrays.length k2) ∧ W'.cell? ⟨Bx, 2, none⟩ = some (.slice a3 c.list.length k3)) :=
    fun W' hb => ⟨hb, cells3 L1 W' hb, cells3 lx W' hb⟩
  have HS := show Hid _ from hS
  have hb0 := (Below.refl w8.heap.size w8).drew
  have r7 := ox.row
  clear hS
  go_wp2_with fail
  go_region_held3 (fun W' => Below w8.heap.size w8 W' ∧ (W'.cell? ⟨w.heap.size, 0, none⟩ = some v1 ∧ W'.cell? ⟨w.heap.size, 1, none⟩ = some v2 ∧ W'.cell? ⟨w.heap.size, 2, none⟩ = some v3) ∧
      (W'.cell? ⟨Bx, 0, none⟩ = some (.slice a1 c.vars.length k1) ∧ W'.cell? ⟨Bx, 1, none⟩ = some (.slice a2 c.arrays.length k2) ∧ W'.cell? ⟨Bx, 2, none⟩ = some (.slice a3 c.list.length k3)))
    (exact HS.out _ (by assumption))
    (first | (go_at_call 19; refine (toCode_any _ c _ (hrow.below (below_step (by assumption) B8 (Nat.le_refl _))) hm).mono ?_; rintro e w9a ⟨u3, rfl, o3, b9⟩; have q8 := below_step b9 hb0 (Nat.le_refl _)) | (go_at_call 21; refine (eqC_t _ _ c _ (r7.below q8) o3.row).mono ?_; rintro e w9 ⟨rfl, b9b⟩; have q9 := below_step b9b q8 (Nat.le_refl _)))
  have B9 := B8.trans (q9.mono s8)
  have s9 := B9.size
  have t9 := q9.size
  replace os := os.keep q9 (by omega)
  replace ox := ox.keep q9 (by omega)
  replace og := og.keep q9 (by omega)
  replace L1 := L1.below q9 L1.lt
  replace lw := lw.below q9 lw.lt
  replace lx := lx.below q9 lx.lt
  replace lg := lg.below q9 lg.lt
  clear HS hb0 r7 o3 b9 b9b q8
  have y0 := lx.cell 0
  have y1 := lx.cell 1
  have y2 := lx.cell 2
  simp only [List.getElem?_cons_zero, List.getElem?_cons_succ] at y0 y1 y2
  go_wp2_with fail
  refine (markCode_any _ c 1 _ _ _ ox (by omega) (by omega)).mono ?_
  rintro e w10 ⟨rfl, -, q10⟩
  have B10 := B9.trans (q10.below (by omega) s9)
  have s10 := B10.size
  have t10 := q10.size
  replace os := os.out q10 (by omega)
  replace og := og.out q10 (by omega)
  have zL1 := L1.lt
  replace L1 := L1.out q10 (by omega)
  replace lw := lw.out q10 (by omega)
  replace lg := lg.out q10 (by omega)
  clear ox y0 y1 y2 lx
  obtain ⟨K1, hK1⟩ : ∃ K1 : Nat, K1 = 1 + c.vars.length + c.arrays.length + c.list.length * 5 := ⟨_, rfl⟩
  rw [← hK1]
  clear hK1
  have y0 := lw.cell 0
  have y1 := lw.cell 1
  have y2 := lw.cell 2
  have g0' := lg.cell 0
  have g1' := lg.cell 1
  have g2' := lg.cell 2
  simp only [List.getElem?_cons_zero, List.getElem?_cons_succ] at y0 y1 y2 g0' g1' g2'
  go_wp2_with fail
  refine (eqC_t _ _ r _ og.row os.row).mono ?_
  rintro e w11 ⟨rfl, b11⟩
  have B11 := B10.trans (b11.mono s10)
  have s11 := B11.size
  have t11 := b11.size
  replace os := os.keep b11 (by omega)
  replace og := og.keep b11 (by omega)
  replace L1 := L1.below b11 L1.lt
  replace lw := lw.below b11 lw.lt
  replace lg := lg.below b11 lg.lt
  clear y0 y1 y2 g0' g1' g2'
  have g0' := lg.cell 0
  have g1' := lg.cell 1
  have g2' := lg.cell 2
  simp only [List.getElem?_cons_zero, List.getElem?_cons_succ] at g0' g1' g2'
  have hR := HR.out
  go_wp2_with fail
  refine (markCode_any _ r 1 _ _ _ og (by omega) (by omega)).mono ?_
  rintro e w12 ⟨rfl, p12, q12⟩
  have B12 := B11.trans (q12.below (by omega) s11)
  have s12 := B12.size
  have t12 := q12.size
  replace os := os.out q12 (by omega)
  replace L1 := L1.out q12 (by have := L1.lt; omega)
  replace lw := lw.out q12 (by omega)
  replace lg := lg.out q12 (by omega)
  clear og g0' g1' g2'
  obtain ⟨K2, hK2⟩ : ∃ K2 : Nat, K2 = 1 + r.vars.length + r.arrays.length + r.list.length * 5 := ⟨_, rfl⟩
  rw [← hK2]
  have HK2 := show Hid _ from hK2
  clear hK2
  have g0' := lg.cell 0
  have g1' := lg.cell 1
  have g2' := lg.cell 2
  simp only [List.getElem?_cons_zero, List.getElem?_cons_succ] at g0' g1' g2'
  go_wp2_with fail
  refine (heldCode_any _ 1 _ _ _ _ p12 (by omega)).mono ?_
  rintro e w13 ⟨rfl, b13⟩
  rw [← HK2.out]
  have B13 := B12.trans (b13.mono s12)
  have s13 := B13.size
  have t13 := b13.size
  replace os := os.keep b13 (by omega)
  replace p12 := p12.below b13
  replace L1 := L1.below b13 L1.lt
  replace lw := lw.below b13 lw.lt
  replace lg := lg.below b13 lg.lt
  clear g0' g1' g2'
  have x0 := L1.cell 0
  have x1 := L1.cell 1
  have x2 := L1.cell 2
  simp only [List.getElem?_cons_zero, List.getElem?_cons_succ] at x0 x1 x2
  go_wp2_with fail
  refine (toCode_any _ c _ (hrow.below B13) hm).mono ?_
  rintro e w14 ⟨u4, rfl, o4, b14⟩
  have B14 := B13.trans (b14.mono s13)
  have s14 := B14.size
  have t14 := b14.size
  replace os := os.keep b14 (by omega)
  replace p12 := p12.below b14
  replace lw := lw.below b14 lw.lt
  replace lg := lg.below b14 lg.lt
  clear L1 x0 x1 x2
  go_wp2_with fail
  refine (impl_OptimizeCode _ c _ o4.row).mono ?_
  rintro e w15 ⟨uh, rfl, oh, b15⟩
  rw [← HRE.out] at oh
  rw [← HBO.out]
  obtain ⟨f1, f2, f3, rfl, -⟩ := id oh
  obtain ⟨i1, j1, i2, j2, i3, j3, rfl, rfl, rfl⟩ := Code.rowOf oh
  have B15 := B14.trans (b15.mono s14)
  have s15 := B15.size
  have t15 := b15.size
  replace os := os.keep b15 (by omega)
  replace p12 := p12.below b15
  replace lw := lw.below b15 lw.lt
  replace lg := lg.below b15 lg.lt
  have bx : Below w15.heap.size w15 (w15.alloc (.cells #[.slice i1 r.vars.length j1, .slice i2 r.arrays.length j2, .slice i3 r.list.length j3] 36)) := by go_grown
  replace lw := lw.below bx lw.lt
  replace lg := lg.below bx lg.lt
  replace os := os.keep bx (by omega)
  replace oh := oh.keep bx (by omega)
  replace p12 := p12.below bx
  have B16 := B15.trans (bx.mono s15)
  have s16 := B16.size
  have y0 := lw.cell 0
  have y1 := lw.cell 1
  have y2 := lw.cell 2
  simp only [List.getElem?_cons_zero, List.getElem?_cons_succ] at y0 y1 y2
  go_wp2_with fail
  generalize w15.alloc (.cells #[.slice i1 r.vars.length j1, .slice i2 r.arrays.length j2, .slice i3 r.list.length j3] 36) = w16 at *
  refine (eqC_t _ _ r _ oh.row os.row).mono ?_
  rintro e w17 ⟨rfl, b17⟩
  have B17 := B16.trans (b17.mono s16)
  have s17 := B17.size
  replace p12 := p12.below b17
  replace lg := lg.below b17 lg.lt
  clear y0 y1 y2
  have g0' := lg.cell 0
  have g1' := lg.cell 1
  have g2' := lg.cell 2
  simp only [List.getElem?_cons_zero, List.getElem?_cons_succ] at g0' g1' g2'
  go_wp2_with fail
  refine (heldCode_any _ 1 _ _ _ _ p12 (by omega)).mono ?_
  rintro e w18 ⟨rfl, b18⟩
  rw [← HK2.out]
  go_wp2_with fail
  go_ret
  exact ⟨rfl, B17.trans (b18.mono s17)⟩

end Go.Proofs.Ytjlnaiifegjneaa.exOptimizeCode
