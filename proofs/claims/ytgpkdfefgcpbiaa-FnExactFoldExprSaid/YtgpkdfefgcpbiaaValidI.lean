/-
  Validity of expressions, the program's. Conditions: the arguments read as trees.
-/
import Derived.Test.YtgpkdfefgcpbiaaValidS
import Derived.Test.YtgpkdfefgcpbiaaImplCode
namespace Go.Proofs.Ytgpkdfefgcpbiaa
set_option linter.unusedVariables false
set_option linter.unusedSimpArgs false
open Go Go.RowKit

theorem impl_isPlain (k n : Int) (kv : Value) (w : World) : Calls Try.prog 193 #[.agg #[.int .i64 k, .int .i64 n, kv]] w fun e w' => e = .returned (.bool (decide (k = 1) || decide (k = 2))) ∧ Below w.heap.size w w' := by
  by_cases h1 : k = 1
  · have p1 : (k == 1) = true := by simp [h1]
    have Q := show Hid _ from h1
    clear h1
    go_enter Try.func193, Try.ntmps193
    go_wp2
    go_ret
    exact ⟨ret_bool (by simp [Q.out]), by go_grown⟩
  · have p1 : (k == 1) = false := by simp [h1]
    have Q := show Hid _ from h1
    clear h1
    by_cases h2 : k = 2
    · have p2 : (k == 2) = true := by simp [h2]
      have Q2 := show Hid _ from h2
      clear h2
      go_enter Try.func193, Try.ntmps193
      go_wp2
      go_ret
      exact ⟨ret_bool (by simp [Q2.out]), by go_grown⟩
    · have p2 : (k == 2) = false := by simp [h2]
      have Q2 := show Hid _ from h2
      clear h2
      go_enter Try.func193, Try.ntmps193
      go_wp2
      go_ret
      exact ⟨ret_bool (by rw [decide_eq_false Q.out, decide_eq_false Q2.out]; rfl), by go_grown⟩

end Go.Proofs.Ytgpkdfefgcpbiaa
