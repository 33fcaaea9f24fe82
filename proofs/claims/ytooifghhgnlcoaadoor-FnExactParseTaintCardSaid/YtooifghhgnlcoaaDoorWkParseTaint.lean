/-
  ParseTaint: the program's function returns what the reference's returns, whatever the argument. Conditions: none beyond the statement's own.
-/
import Derived.Test.YtooifghhgnlcoaaDoorImplParse
import Derived.Test.YtooifghhgnlcoaaDoorLawMat2
namespace Go.Proofs.YtooifghhgnlcoaaDoor.exParseTaint
set_option linter.unusedVariables false
set_option linter.unusedSimpArgs false
open Go Go.RowKit Go.ChangeShapes Go.WideShapes Go.ChangeAt Go.Proofs.YtooifghhgnlcoaaDoor

theorem eqMat_t (v1 v2 : Value) (m : List (List Bool)) (w : World) (h1 : MatRow w v1 m) (h2 : MatRow w v2 m) :
    Calls Tryd.prog 6 #[v1, v2] w fun e w' => e = .returned (.bool true) ∧ Below w.heap.size w w' := by
  have := eqBoolSS_any v1 v2 m m w h1 h2
  rwa [decide_eq_true (rfl : m = m)] at this

theorem matForm {w : World} {lo hi : Nat} {v : Value} {m : List (List Bool)} (h : MatOwn w lo hi v m) : ∃ a cap, v = .slice a m.length cap := by
  obtain ⟨a, cap, hv, _⟩ := h.row.open
  exact ⟨a, cap, hv⟩

set_option maxHeartbeats 1000000 in
theorem walk (s : ByteArray) (w : World) :
    Calls Tryd.prog 3 #[.string s] w fun e w' => e = .returned (.bool true) ∧ Below w.heap.size w w' := by
  obtain ⟨l, hl⟩ : ∃ l : List UInt8, l = s.data.toList := ⟨_, rfl⟩
  have hsl : strV l = .string s := by rw [hl]
  have hsz : s.size = l.length := by rw [hl]; exact (Array.length_toList).symm
  by_cases hb : 1048576 < s.size
  · clear hl hsl hsz
    go_enter Tryd.func3, Tryd.ntmps3
    go_wp2_with fail
    go_ret
    exact ⟨rfl, Below.refl _ _⟩
  · have hs := fun w => spec_ParseTaint l w (by omega)
    have hi := fun w => impl_ParseTaint l w (by omega)
    rw [hsl] at hs hi
    have hm : rowSum (ptV l) ≤ 1048576 := by
      have := ptV_size l
      unfold matSize at this
      omega
    obtain ⟨m, hM⟩ : ∃ m, m = ptV l := ⟨_, rfl⟩
    obtain ⟨bb, hB⟩ : ∃ b, b = ptB l := ⟨_, rfl⟩
    rw [← hM] at hm
    rw [← hM, ← hB] at hs hi
    have HI := show Hid _ from hi
    clear hM hB hi hl hsl hsz
    cases bb
    all_goals
      go_enter Tryd.func3, Tryd.ntmps3
      go_wp2_with fail
      refine (hs _).mono ?_
      clear hs
      rintro e w1 ⟨us, rfl, os, b1⟩
      obtain ⟨aw, kw, rfl⟩ := matForm os
      have s1 := b1.size
      go_wp2_with fail
      refine (HI.out _).mono ?_
      rintro e w2 ⟨ug, rfl, og, b2⟩
      obtain ⟨ag, kg, rfl⟩ := matForm og
      have B2 := b1.trans (b2.mono s1)
      have s2 := B2.size
      have t2 := b2.size
      replace os := os.keep b2 (by omega)
      go_wp2_with fail
      refine (eqMat_t _ _ m _ og.row os.row).mono ?_
      rintro e w3 ⟨rfl, b3⟩
      have B3 := B2.trans (b3.mono s2)
      have s3 := B3.size
      have t3 := b3.size
      replace os := os.keep b3 (by omega)
      replace og := og.keep b3 (by omega)
      go_wp2_with fail
      refine (markBoolSS_any _ m 1 _ _ _ og (by omega)).mono ?_
      rintro e w4 ⟨rfl, p4, q4⟩
      have B4 := B3.trans (q4.below (by omega) s3)
      have s4 := B4.size
      have t4 := q4.size
      replace os := os.out q4 (by omega)
      obtain ⟨K2, hK2⟩ : ∃ K2 : Nat, K2 = 1 + rowSum m := ⟨_, rfl⟩
      rw [← hK2]
      go_wp2_with fail
      refine (heldBoolSS_any _ m 1 _ p4.row (by omega)).mono ?_
      rintro e w5 ⟨rfl, b5⟩
      rw [← hK2]
      have B5 := B4.trans (b5.mono s4)
      have s5 := B5.size
      have t5 := b5.size
      replace os := os.keep b5 (by omega)
      replace p4 := p4.keep b5 (by omega)
      go_wp2_with fail
      refine (HI.out _).mono ?_
      rintro e w6 ⟨uh, rfl, oh, b6⟩
      obtain ⟨ah, kh, rfl⟩ := matForm oh
      have B6 := B5.trans (b6.mono s5)
      have s6 := B6.size
      have t6 := b6.size
      replace os := os.keep b6 (by omega)
      replace p4 := p4.keep b6 (by omega)
      go_wp2_with fail
      refine (eqMat_t _ _ m _ oh.row os.row).mono ?_
      rintro e w7 ⟨rfl, b7⟩
      have B7 := B6.trans (b7.mono s6)
      have s7 := B7.size
      replace p4 := p4.keep b7 (by omega)
      go_wp2_with fail
      refine (heldBoolSS_any _ m 1 _ p4.row (by omega)).mono ?_
      rintro e w8 ⟨rfl, b8⟩
      rw [← hK2]
      go_wp2_with fail
      go_ret
      exact ⟨rfl, B7.trans (b8.mono s7)⟩

end Go.Proofs.YtooifghhgnlcoaaDoor.exParseTaint
