/-
  Validity of expressions, the reference's. Conditions: the arguments read as trees.
-/
import Derived.Test.YtgpkdfefgcpbiaaTree1
import Derived.Test.YtgpkdfefgcpbiaaValid0
import Derived.Test.YtgpkdfefgcpbiaaSpecCode
namespace Go.Proofs.Ytgpkdfefgcpbiaa
set_option linter.unusedVariables false
set_option linter.unusedSimpArgs false
open Go Go.RowKit

theorem spec_l2Arity (k : Int) (w : World) : Calls Try.prog 188 #[.int .i64 k] w fun e w' => e = .returned (.int .i64 (arity k)) ∧ w = w' := by
  go_enter Try.func188, Try.ntmps188
  go_wp2
  all_goals
    go_ret
    exact ⟨ret_int (by unfold arity; (repeat' split) <;> simp_all <;> omega), rfl⟩

theorem spec_l2Atom (k n : Int) (kv : Value) (w : World) : Calls Try.prog 190 #[.agg #[.int .i64 k, .int .i64 n, kv]] w fun e w' => e = .returned (.bool (decide (k = 1) || decide (k = 2))) ∧ Below w.heap.size w w' := by
  by_cases h1 : k = 1
  · have p1 : (k == 1) = true := by simp [h1]
    have Q := show Hid _ from h1
    clear h1
    go_enter Try.func190, Try.ntmps190
    go_wp2
    go_ret
    exact ⟨ret_bool (by simp [Q.out]), by go_grown⟩
  · have p1 : (k == 1) = false := by simp [h1]
    have Q := show Hid _ from h1
    clear h1
    by_cases h2 : k = 2
    · have p2 : (k == 2) = true := by simp [h2]
      have Q2 := show Hid _ from h2
      clear h2
      go_enter Try.func190, Try.ntmps190
      go_wp2
      go_ret
      exact ⟨ret_bool (by simp [Q2.out]), by go_grown⟩
    · have p2 : (k == 2) = false := by simp [h2]
      have Q2 := show Hid _ from h2
      clear h2
      go_enter Try.func190, Try.ntmps190
      go_wp2
      go_ret
      exact ⟨ret_bool (by rw [decide_eq_false Q.out, decide_eq_false Q2.out]; rfl), by go_grown⟩

theorem spec_l2Limit (a1 a2 : Option Addr) (nv c1 na c2 : Nat) (v3 : Value) (k : Int) (w : World) (h1 : nv ≤ 9223372036854775807) (h2 : na ≤ 9223372036854775807) :
    Calls Try.prog 189 #[.agg #[.slice a1 nv c1, .slice a2 na c2, v3], .int .i64 k] w fun e w' => e = .returned (.int .i64 (limit nv na k)) ∧ Below w.heap.size w w' := by
  go_enter Try.func189, Try.ntmps189
  go_wp2
  all_goals
    go_ret
    exact ⟨ret_int (by unfold limit; (repeat' split) <;> simp_all), by go_grown⟩

end Go.Proofs.Ytgpkdfefgcpbiaa
