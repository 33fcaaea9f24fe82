/-
  InferTaint, the reference's and the program's. Conditions: the argument is code.
-/
import Derived.Test.YtjlnaiifegjneaaInfer4
namespace Go.Proofs.Ytjlnaiifegjneaa
open Go Go.RowKit

/-- What InferTaint hands back. -/
noncomputable def infB (c : LCode) : Bool := decide ((chkC c).1 = 0)
noncomputable def infM (c : LCode) : List (List Bool) := if (chkC c).1 = 0 then leastT c else []
theorem chkC_ok {c : LCode} (h : (chkC c).1 = 0) : codeOk c = true := by
  unfold chkC at h
  cases hc : codeOk c
  · rw [hc] at h; simp at h
  · rfl
theorem infM_size {c : LCode} : matSize (infM c) ≤ 1048576 ∧ rowSum (infM c) ≤ 1048576 := by
  unfold infM
  split
  · rename_i h
    by_cases hx : ∃ m, isLeast c m
    · obtain ⟨m, hm⟩ := hx
      rw [← least_eq hm]
      have h1 := hm.1.1
      have h2 := (codeOk_parts (chkC_ok h)).2.2.1
      have h3 : ∀ l : List (List Bool), l.all rowOk = true → rowSum l ≤ 14 * l.length := by
        intro l
        induction l with
        | nil => intro _; simp [rowSum]
        | cons r l ih =>
          intro hl
          simp only [List.all_cons, Bool.and_eq_true] at hl
          have := ih hl.2
          have h4 := hl.1
          simp only [rowOk, Bool.or_eq_true, decide_eq_true_eq] at h4
          simp only [rowSum, List.map_cons, List.sum_cons, List.length_cons] at this ⊢
          omega
      have := h3 m hm.1.2.1
      unfold matSize
      omega
    · unfold leastT
      rw [dif_neg hx]
      simp [matSize, rowSum]
  · simp [matSize, rowSum]

theorem matOwn_empty {w : World} {lo hi : Nat} {v : Value} (h : Own w lo hi 40 1 v 0 []) : MatOwn w lo hi v [] := ⟨[], h, fun i u r hu => by simp at hu, fun i j a b _ ha => by simp at ha, fun i u hu => by simp at hu⟩

set_option maxHeartbeats 2000000 in
theorem spec_InferTaint (v : Value) (c : LCode) (w : World) (h : CodeRow w v c) :
    Calls Try.prog 37 #[v] w fun e w' => ∃ u, e = .returned (.tuple #[u, .bool (infB c)]) ∧ MatOwn w' w.heap.size w'.heap.size u (infM c) ∧ Below w.heap.size w w' := by
  have hrow := h
  obtain ⟨v1, v2, v3, rfl, h1, h2, h3⟩ := h
  obtain ⟨W, hW⟩ : ∃ W, W = w.alloc (.cells #[v1, v2, v3] 36) := ⟨_, rfl⟩
  have B0 : Below w.heap.size w W := by rw [hW]; go_grown
  have L1 : Blk W w.heap.size [v1, v2, v3] := by rw [hW]; exact (Blk.new w [v1, v2, v3] _)
  have x0 := L1.cell 0
  have x1 := L1.cell 1
  have x2 := L1.cell 2
  simp only [List.getElem?_cons_zero, List.getElem?_cons_succ] at x0 x1 x2
  rw [hW] at x0 x1 x2
  go_enter Try.func37, Try.ntmps37
  go_wp2_with fail
  rw [← hW]
  clear hW x0 x1 x2
  refine (spec_CheckCode _ c _ (hrow.below B0)).mono ?_
  rintro e w1 ⟨rfl, b1⟩
  replace L1 := L1.below b1 L1.lt
  have B1 := B0.trans (b1.mono B0.size)
  have HO := show Hid ((chkC c).1 = 0 → codeOk c = true) from chkC_ok
  have HB : Hid (infB c = decide ((chkC c).1 = 0)) := rfl
  have HM : Hid (infM c = if (chkC c).1 = 0 then leastT c else []) := rfl
  clear b1 B0
  generalize chkC c = r at *
  obtain ⟨r1, r2⟩ := r
  have x0 := L1.cell 0
  have x1 := L1.cell 1
  have x2 := L1.cell 2
  simp only [List.getElem?_cons_zero, List.getElem?_cons_succ] at x0 x1 x2
  by_cases hr : r1 = 0
  · have HC := show Hid (codeOk c = true) from HO.out hr
    have HB' := show Hid (infB c = true) from by unfold Hid; rw [HB.out]; exact decide_eq_true hr
    have HM' := show Hid (infM c = leastT c) from by unfold Hid; rw [HM.out]; exact if_pos hr
    have q0 : (r1 != 0) = false := by simp [hr]
    clear HB HM HO hr
    go_wp2_with fail
    refine (spec_l9Infer _ c HC.out _ (hrow.below B1)).mono ?_
    rintro e w2 ⟨G, m, rfl, hlm, hS, b2⟩
    have HME := show Hid _ from least_eq hlm
    have hmo := hS.1
    go_wp2_with fail
    go_ret2
    exact ⟨_, by rw [HB'.out]; rfl, by rw [HM'.out, ← HME.out]; exact hmo.wide B1.size (Nat.le_refl _), B1.trans (b2.mono B1.size)⟩
  · have HB' := show Hid (infB c = false) from by unfold Hid; rw [HB.out]; exact decide_eq_false hr
    have HM' := show Hid (infM c = []) from by unfold Hid; rw [HM.out]; exact if_neg hr
    have q0 : (r1 != 0) = true := by simp [hr]
    clear HB HM HO hr
    go_wp2_with fail
    go_ret2
    refine ⟨_, by rw [HB'.out]; rfl, by rw [HM'.out]; exact matOwn_empty ((own_built w1 #[] 0 1 _ rfl rfl (by omega)).wide B1.size (by simp)), B1.trans (Below.mono (by go_grown : Below w1.heap.size w1 _) B1.size)⟩

set_option maxHeartbeats 2000000 in
theorem impl_InferTaint (v : Value) (c : LCode) (w : World) (h : CodeRow w v c) :
    Calls Try.prog 38 #[v] w fun e w' => ∃ u, e = .returned (.tuple #[u, .bool (infB c)]) ∧ MatOwn w' w.heap.size w'.heap.size u (infM c) ∧ Below w.heap.size w w' := by
  have hrow := h
  obtain ⟨v1, v2, v3, rfl, h1, h2, h3⟩ := h
  obtain ⟨W, hW⟩ : ∃ W, W = w.alloc (.cells #[v1, v2, v3] 36) := ⟨_, rfl⟩
  have B0 : Below w.heap.size w W := by rw [hW]; go_grown
  have L1 : Blk W w.heap.size [v1, v2, v3] := by rw [hW]; exact (Blk.new w [v1, v2, v3] _)
  have x0 := L1.cell 0
  have x1 := L1.cell 1
  have x2 := L1.cell 2
  simp only [List.getElem?_cons_zero, List.getElem?_cons_succ] at x0 x1 x2
  rw [hW] at x0 x1 x2
  go_enter Try.func38, Try.ntmps38
  go_wp2_with fail
  rw [← hW]
  clear hW x0 x1 x2
  refine (impl_CheckCode _ c _ (hrow.below B0)).mono ?_
  rintro e w1 ⟨rfl, b1⟩
  replace L1 := L1.below b1 L1.lt
  have B1 := B0.trans (b1.mono B0.size)
  have HO := show Hid ((chkC c).1 = 0 → codeOk c = true) from chkC_ok
  have HB : Hid (infB c = decide ((chkC c).1 = 0)) := rfl
  have HM : Hid (infM c = if (chkC c).1 = 0 then leastT c else []) := rfl
  clear b1 B0
  generalize chkC c = r at *
  obtain ⟨r1, r2⟩ := r
  have x0 := L1.cell 0
  have x1 := L1.cell 1
  have x2 := L1.cell 2
  simp only [List.getElem?_cons_zero, List.getElem?_cons_succ] at x0 x1 x2
  by_cases hr : r1 = 0
  · have HC := show Hid (codeOk c = true) from HO.out hr
    have HB' := show Hid (infB c = true) from by unfold Hid; rw [HB.out]; exact decide_eq_true hr
    have HM' := show Hid (infM c = leastT c) from by unfold Hid; rw [HM.out]; exact if_pos hr
    have q0 : (r1 != 0) = false := by simp [hr]
    clear HB HM HO hr
    go_wp2_with fail
    refine (impl_leastTaint _ c HC.out _ (hrow.below B1)).mono ?_
    rintro e w2 ⟨G, m, rfl, hlm, hS, b2⟩
    have HME := show Hid _ from least_eq hlm
    have hmo := hS.1
    go_wp2_with fail
    go_ret2
    exact ⟨_, by rw [HB'.out]; rfl, by rw [HM'.out, ← HME.out]; exact hmo.wide B1.size (Nat.le_refl _), B1.trans (b2.mono B1.size)⟩
  · have HB' := show Hid (infB c = false) from by unfold Hid; rw [HB.out]; exact decide_eq_false hr
    have HM' := show Hid (infM c = []) from by unfold Hid; rw [HM.out]; exact if_neg hr
    have q0 : (r1 != 0) = true := by simp [hr]
    clear HB HM HO hr
    go_wp2_with fail
    go_ret2
    exact ⟨_, by rw [HB'.out]; rfl, by rw [HM'.out]; exact matOwn_empty ⟨World.ownsRow_nil _ _ _ _, fun g hg => by cases hg⟩, B1⟩

end Go.Proofs.Ytjlnaiifegjneaa
