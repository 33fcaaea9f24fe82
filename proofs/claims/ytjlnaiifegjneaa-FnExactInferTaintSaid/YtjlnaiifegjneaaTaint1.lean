/-
  Secret labels, rows that cover, both sides. Conditions: the arguments are rows.
-/
import Derived.Test.YtjlnaiifegjneaaSpecCode
import Derived.Test.YtjlnaiifegjneaaImplCode
import Derived.Test.YtjlnaiifegjneaaPure3
namespace Go.Proofs.Ytjlnaiifegjneaa
open Go Go.RowKit

theorem lab_cases {l : Int} (h : labOk l = true) : l = 0 ∨ l = 1 ∨ l = 2 ∨ l = 3 := by
  simp [labOk] at h; omega

theorem impl_LabelSecret (l : Int) (w : World) : Calls Try.prog 105 #[.int .i64 l] w fun e w' => e = .returned (.bool (secB l)) ∧ w = w' := by
  cases h : labOk l
  · have HT := show Hid (secB l = false) from by unfold Hid secB; rw [h]; rfl
    go_enter Try.func105, Try.ntmps105
    go_wp2_with fail
    refine (impl_LabelValid l _).mono ?_
    rintro e w1 ⟨rfl, rfl⟩
    rw [h]
    clear h
    go_wp2_with fail
    go_ret
    exact ⟨ret_bool HT.out.symm, rfl⟩
  · rcases lab_cases h with rfl | rfl | rfl | rfl
    all_goals
      clear h
      go_enter Try.func105, Try.ntmps105
      go_wp2_with fail
      refine (impl_LabelValid _ _).mono ?_
      rintro e w1 ⟨rfl, rfl⟩
      rw [show labOk _ = true from rfl]
      go_wp2_with fail
      go_ret
      exact ⟨by simp [go_sem, secB, labOk]; decide, rfl⟩

theorem spec_LabelSecret (l : Int) (w : World) : Calls Try.prog 101 #[.int .i64 l] w fun e w' => e = .returned (.bool (secB l)) ∧ w = w' := by
  cases h : labOk l
  · have HT := show Hid (secB l = false) from by unfold Hid secB; rw [h]; rfl
    go_enter Try.func101, Try.ntmps101
    go_wp2_with fail
    refine (spec_LabelValid l _).mono ?_
    rintro e w1 ⟨rfl, rfl⟩
    rw [h]
    clear h
    go_wp2_with fail
    go_ret
    exact ⟨ret_bool HT.out.symm, rfl⟩
  · rcases lab_cases h with rfl | rfl | rfl | rfl
    all_goals
      clear h
      go_enter Try.func101, Try.ntmps101
      go_wp2_with fail
      refine (spec_LabelValid _ _).mono ?_
      rintro e w1 ⟨rfl, rfl⟩
      rw [show labOk _ = true from rfl]
      go_wp2_with fail
      go_ret
      exact ⟨by simp [go_sem, secB, labOk]; decide, rfl⟩

end Go.Proofs.Ytjlnaiifegjneaa
