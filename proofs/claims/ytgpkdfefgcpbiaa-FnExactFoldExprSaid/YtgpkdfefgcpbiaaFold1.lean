/-
  Folding, the reference's small functions: l3Bool, l3Bin, l8Quiet, l8Known, l5Const; the program's truth, operate, isNumber, number. Conditions: as stated.
-/
import Derived.Test.YtgpkdfefgcpbiaaFold0
import Derived.Test.YtgpkdfefgcpbiaaValidS3
namespace Go.Proofs.Ytgpkdfefgcpbiaa
set_option linter.unusedVariables false
set_option linter.unusedSimpArgs false
open Go Go.RowKit

theorem bits_and_nat (a b : Nat) (ha : a < 9223372036854775808) (hb : b < 9223372036854775808) : bits .and .i64 (a : Int) (b : Int) = ((a &&& b : Nat) : Int) := by
  have hx : a &&& b < 2 ^ 63 := Nat.and_lt_two_pow _ (by omega)
  have h1 : (BitVec.ofInt 64 (a : Int)).toNat = a := by
    rw [BitVec.ofInt_natCast, BitVec.toNat_ofNat]; exact Nat.mod_eq_of_lt (by omega)
  have h2 : (BitVec.ofInt 64 (b : Int)).toNat = b := by
    rw [BitVec.ofInt_natCast, BitVec.toNat_ofNat]; exact Nat.mod_eq_of_lt (by omega)
  show IntKind.i64.wrap ((BitVec.ofInt 64 (a : Int) &&& BitVec.ofInt 64 (b : Int)).toNat : Int) = _
  rw [BitVec.toNat_and, h1, h2, IntKind.wrap_i64]
  omega
theorem bits_xor_nat (a b : Nat) (ha : a < 9223372036854775808) (hb : b < 9223372036854775808) : bits .xor .i64 (a : Int) (b : Int) = ((a ^^^ b : Nat) : Int) := by
  have hx : a ^^^ b < 2 ^ 63 := Nat.xor_lt_two_pow (by omega) (by omega)
  have h1 : (BitVec.ofInt 64 (a : Int)).toNat = a := by
    rw [BitVec.ofInt_natCast, BitVec.toNat_ofNat]; exact Nat.mod_eq_of_lt (by omega)
  have h2 : (BitVec.ofInt 64 (b : Int)).toNat = b := by
    rw [BitVec.ofInt_natCast, BitVec.toNat_ofNat]; exact Nat.mod_eq_of_lt (by omega)
  show IntKind.i64.wrap ((BitVec.ofInt 64 (a : Int) ^^^ BitVec.ofInt 64 (b : Int)).toNat : Int) = _
  rw [BitVec.toNat_xor, h1, h2, IntKind.wrap_i64]
  omega
theorem bits_or_nat (a b : Nat) (ha : a < 9223372036854775808) (hb : b < 9223372036854775808) : bits .or .i64 (a : Int) (b : Int) = ((a ||| b : Nat) : Int) := by
  have hx : a ||| b < 2 ^ 63 := Nat.or_lt_two_pow (by omega) (by omega)
  have h1 : (BitVec.ofInt 64 (a : Int)).toNat = a := by
    rw [BitVec.ofInt_natCast, BitVec.toNat_ofNat]; exact Nat.mod_eq_of_lt (by omega)
  have h2 : (BitVec.ofInt 64 (b : Int)).toNat = b := by
    rw [BitVec.ofInt_natCast, BitVec.toNat_ofNat]; exact Nat.mod_eq_of_lt (by omega)
  show IntKind.i64.wrap ((BitVec.ofInt 64 (a : Int) ||| BitVec.ofInt 64 (b : Int)).toNat : Int) = _
  rw [BitVec.toNat_or, h1, h2, IntKind.wrap_i64]
  omega
theorem bits_and_int {a b : Int} (h1 : 0 ≤ a) (h2 : a ≤ 255) (h3 : 0 ≤ b) (h4 : b ≤ 255) : bits .and .i64 a b = ((a.toNat &&& b.toNat : Nat) : Int) := by
  rw [← bits_and_nat _ _ (by omega) (by omega), Int.toNat_of_nonneg h1, Int.toNat_of_nonneg h3]
theorem bits_xor_int {a b : Int} (h1 : 0 ≤ a) (h2 : a ≤ 255) (h3 : 0 ≤ b) (h4 : b ≤ 255) : bits .xor .i64 a b = ((a.toNat ^^^ b.toNat : Nat) : Int) := by
  rw [← bits_xor_nat _ _ (by omega) (by omega), Int.toNat_of_nonneg h1, Int.toNat_of_nonneg h3]

theorem spec_l3Bool (b : Bool) (w : World) : Calls Try.prog 191 #[.bool b] w fun e w' => e = .returned (.int .i64 (boolV b)) ∧ w = w' := by
  cases b
  all_goals
    go_enter Try.func191, Try.ntmps191
    go_wp2_with fail
    go_ret
    exact ⟨rfl, rfl⟩
theorem impl_truth (b : Bool) (w : World) : Calls Try.prog 179 #[.bool b] w fun e w' => e = .returned (.int .i64 (boolV b)) ∧ w = w' := by
  cases b
  all_goals
    go_enter Try.func179, Try.ntmps179
    go_wp2_with fail
    go_ret
    exact ⟨rfl, rfl⟩

-- OPERATORS
set_option maxHeartbeats 1000000 in
theorem spec_l3Bin (k a b : Int) (w : World) (h1 : 0 ≤ a) (h2 : a ≤ 255) (h3 : 0 ≤ b) (h4 : b ≤ 255) : Calls Try.prog 162 #[.int .i64 k, .int .i64 a, .int .i64 b] w fun e w' => e = .returned (.int .i64 (binV k a b)) ∧ w = w' := by
  have hm : 0 ≤ a * b := Int.mul_nonneg h1 h3
  have hm2 : a * b ≤ 65025 := by
    have := Int.mul_le_mul h2 h4 h3 (by omega : (0 : Int) ≤ 255)
    omega
  by_cases k4 : k = 4
  · subst k4
    have HV : Hid (binV 4 a b = (a + b).tmod 256) := by unfold Hid binV; simp
    go_enter Try.func162, Try.ntmps162
    go_wp2_with fail
    go_ret
    exact ⟨ret_int (by rw [HV.out]; exact (Int.tmod_eq_emod_of_nonneg (by first | assumption | omega)).symm), rfl⟩
  by_cases k5 : k = 5
  · subst k5
    have HV : Hid (binV 5 a b = (a - b + 256).tmod 256) := by unfold Hid binV; simp
    go_enter Try.func162, Try.ntmps162
    go_wp2_with fail
    go_ret
    exact ⟨ret_int (by rw [HV.out]; exact (Int.tmod_eq_emod_of_nonneg (by first | assumption | omega)).symm), rfl⟩
  by_cases k6 : k = 6
  · subst k6
    have HV : Hid (binV 6 a b = (a * b).tmod 256) := by unfold Hid binV; simp
    go_enter Try.func162, Try.ntmps162
    go_wp2_with fail
    go_ret
    exact ⟨ret_int (by rw [HV.out]; exact (Int.tmod_eq_emod_of_nonneg (by first | assumption | omega)).symm), rfl⟩
  by_cases k7 : k = 7
  · subst k7
    have HV : Hid (binV 7 a b = bits .and .i64 a b) := by unfold Hid; rw [bits_and_int h1 h2 h3 h4]; unfold binV; simp
    go_enter Try.func162, Try.ntmps162
    go_wp2_with fail
    go_ret
    exact ⟨ret_int (by rw [HV.out]), rfl⟩
  by_cases k8 : k = 8
  · subst k8
    have HV : Hid (binV 8 a b = bits .xor .i64 a b) := by unfold Hid; rw [bits_xor_int h1 h2 h3 h4]; unfold binV; simp
    go_enter Try.func162, Try.ntmps162
    go_wp2_with fail
    go_ret
    exact ⟨ret_int (by rw [HV.out]), rfl⟩
  have HK := show Hid _ from And.intro k4 (And.intro k5 (And.intro k6 (And.intro k7 k8)))
  have p4 : (k == 4) = false := by simp [k4]
  have p5 : (k == 5) = false := by simp [k5]
  have p6 : (k == 6) = false := by simp [k6]
  have p7 : (k == 7) = false := by simp [k7]
  have p8 : (k == 8) = false := by simp [k8]
  clear k4 k5 k6 k7 k8
  by_cases k9 : k = 9
  · subst k9
    have HV : Hid (binV 9 a b = boolV (decide (a = b))) := by unfold Hid binV; simp
    clear hm hm2
    go_enter Try.func162, Try.ntmps162
    go_wp2_with fail
    refine (spec_l3Bool _ _).mono ?_
    rintro x w1 ⟨rfl, rfl⟩
    go_wp2_with fail
    go_ret
    exact ⟨ret_int (by rw [HV.out]; congr 1), rfl⟩
  · have HV : Hid (binV k a b = boolV (decide (a < b))) := by
      obtain ⟨k4, k5, k6, k7, k8⟩ := HK.out
      unfold Hid binV; rw [if_neg k4, if_neg k5, if_neg k6, if_neg k7, if_neg k8, if_neg k9]
    have p9 : (k == 9) = false := by simp [k9]
    clear hm hm2 k9
    go_enter Try.func162, Try.ntmps162
    go_wp2_with fail
    refine (spec_l3Bool _ _).mono ?_
    rintro x w1 ⟨rfl, rfl⟩
    go_wp2_with fail
    go_ret
    exact ⟨ret_int (by rw [HV.out]), rfl⟩

set_option maxHeartbeats 1000000 in
theorem impl_operate (k a b : Int) (w : World) (h1 : 0 ≤ a) (h2 : a ≤ 255) (h3 : 0 ≤ b) (h4 : b ≤ 255) : Calls Try.prog 142 #[.int .i64 k, .int .i64 a, .int .i64 b] w fun e w' => e = .returned (.int .i64 (binV k a b)) ∧ w = w' := by
  have hm : 0 ≤ a * b := Int.mul_nonneg h1 h3
  have hm2 : a * b ≤ 65025 := by
    have := Int.mul_le_mul h2 h4 h3 (by omega : (0 : Int) ≤ 255)
    omega
  by_cases k4 : k = 4
  · subst k4
    have HV : Hid (binV 4 a b = (a + b).tmod 256) := by unfold Hid binV; simp
    go_enter Try.func142, Try.ntmps142
    go_wp2_with fail
    go_ret
    exact ⟨ret_int (by rw [HV.out]; exact (Int.tmod_eq_emod_of_nonneg (by first | assumption | omega)).symm), rfl⟩
  by_cases k5 : k = 5
  · subst k5
    have HV : Hid (binV 5 a b = (a - b + 256).tmod 256) := by unfold Hid binV; simp
    go_enter Try.func142, Try.ntmps142
    go_wp2_with fail
    go_ret
    exact ⟨ret_int (by rw [HV.out]; exact (Int.tmod_eq_emod_of_nonneg (by first | assumption | omega)).symm), rfl⟩
  by_cases k6 : k = 6
  · subst k6
    have HV : Hid (binV 6 a b = (a * b).tmod 256) := by unfold Hid binV; simp
    go_enter Try.func142, Try.ntmps142
    go_wp2_with fail
    go_ret
    exact ⟨ret_int (by rw [HV.out]; exact (Int.tmod_eq_emod_of_nonneg (by first | assumption | omega)).symm), rfl⟩
  by_cases k7 : k = 7
  · subst k7
    have HV : Hid (binV 7 a b = bits .and .i64 a b) := by unfold Hid; rw [bits_and_int h1 h2 h3 h4]; unfold binV; simp
    go_enter Try.func142, Try.ntmps142
    go_wp2_with fail
    go_ret
    exact ⟨ret_int (by rw [HV.out]), rfl⟩
  by_cases k8 : k = 8
  · subst k8
    have HV : Hid (binV 8 a b = bits .xor .i64 a b) := by unfold Hid; rw [bits_xor_int h1 h2 h3 h4]; unfold binV; simp
    go_enter Try.func142, Try.ntmps142
    go_wp2_with fail
    go_ret
    exact ⟨ret_int (by rw [HV.out]), rfl⟩
  have HK := show Hid _ from And.intro k4 (And.intro k5 (And.intro k6 (And.intro k7 k8)))
  have p4 : (k == 4) = false := by simp [k4]
  have p5 : (k == 5) = false := by simp [k5]
  have p6 : (k == 6) = false := by simp [k6]
  have p7 : (k == 7) = false := by simp [k7]
  have p8 : (k == 8) = false := by simp [k8]
  clear k4 k5 k6 k7 k8
  by_cases k9 : k = 9
  · subst k9
    have HV : Hid (binV 9 a b = boolV (decide (a = b))) := by unfold Hid binV; simp
    clear hm hm2
    go_enter Try.func142, Try.ntmps142
    go_wp2_with fail
    refine (impl_truth _ _).mono ?_
    rintro x w1 ⟨rfl, rfl⟩
    go_wp2_with fail
    go_ret
    exact ⟨ret_int (by rw [HV.out]; congr 1), rfl⟩
  · have HV : Hid (binV k a b = boolV (decide (a < b))) := by
      obtain ⟨k4, k5, k6, k7, k8⟩ := HK.out
      unfold Hid binV; rw [if_neg k4, if_neg k5, if_neg k6, if_neg k7, if_neg k8, if_neg k9]
    have p9 : (k == 9) = false := by simp [k9]
    clear hm hm2 k9
    go_enter Try.func142, Try.ntmps142
    go_wp2_with fail
    refine (impl_truth _ _).mono ?_
    rintro x w1 ⟨rfl, rfl⟩
    go_wp2_with fail
    go_ret
    exact ⟨ret_int (by rw [HV.out]), rfl⟩

set_option maxHeartbeats 400000 in
theorem spec_l8Known (k n m : Int) (kv : Value) (w : World) : Calls Try.prog 177 #[.agg #[.int .i64 k, .int .i64 n, kv], .int .i64 m] w fun e w' => e = .returned (.bool (decide (k = 1) && decide (n = m))) ∧ Below w.heap.size w w' := by
  by_cases q1 : k = 1
  · have p1 : (k == 1) = true := by simp [q1]
    have HQ := show Hid _ from q1
    clear q1
    by_cases q2 : n = m
    · have p2 : (n == m) = true := by simp [q2]
      have HQ2 := show Hid _ from q2
      clear q2
      go_enter Try.func177, Try.ntmps177
      go_wp2_with fail
      go_ret
      exact ⟨ret_bool (by rw [decide_eq_true HQ.out, decide_eq_true HQ2.out]; rfl), by go_grown⟩
    · have p2 : (n == m) = false := by simp [q2]
      have HQ2 := show Hid _ from q2
      clear q2
      go_enter Try.func177, Try.ntmps177
      go_wp2_with fail
      go_ret
      exact ⟨ret_bool (by rw [decide_eq_true HQ.out, decide_eq_false HQ2.out]; rfl), by go_grown⟩
  · have p1 : (k == 1) = false := by simp [q1]
    have HQ := show Hid _ from q1
    clear q1
    go_enter Try.func177, Try.ntmps177
    go_wp2_with fail
    go_ret
    exact ⟨ret_bool (by rw [decide_eq_false HQ.out]; rfl), by go_grown⟩

set_option maxHeartbeats 400000 in
theorem impl_isNumber (k n m : Int) (kv : Value) (w : World) : Calls Try.prog 143 #[.agg #[.int .i64 k, .int .i64 n, kv], .int .i64 m] w fun e w' => e = .returned (.bool (decide (k = 1) && decide (n = m))) ∧ Below w.heap.size w w' := by
  by_cases q1 : k = 1
  · have p1 : (k == 1) = true := by simp [q1]
    have HQ := show Hid _ from q1
    clear q1
    by_cases q2 : n = m
    · have p2 : (n == m) = true := by simp [q2]
      have HQ2 := show Hid _ from q2
      clear q2
      go_enter Try.func143, Try.ntmps143
      go_wp2_with fail
      go_ret
      exact ⟨ret_bool (by rw [decide_eq_true HQ.out, decide_eq_true HQ2.out]; rfl), by go_grown⟩
    · have p2 : (n == m) = false := by simp [q2]
      have HQ2 := show Hid _ from q2
      clear q2
      go_enter Try.func143, Try.ntmps143
      go_wp2_with fail
      go_ret
      exact ⟨ret_bool (by rw [decide_eq_true HQ.out, decide_eq_false HQ2.out]; rfl), by go_grown⟩
  · have p1 : (k == 1) = false := by simp [q1]
    have HQ := show Hid _ from q1
    clear q1
    go_enter Try.func143, Try.ntmps143
    go_wp2_with fail
    go_ret
    exact ⟨ret_bool (by rw [decide_eq_false HQ.out]; rfl), by go_grown⟩

set_option maxHeartbeats 400000 in
theorem spec_l5Const (n : Int) (w : World) : Calls Try.prog 176 #[.int .i64 n] w fun e w' => e = .returned (.agg #[.int .i64 1, .int .i64 n, .slice none 0 0]) ∧ Below w.heap.size w w' := by
  have HM : Hid (Mem (fun _ => True) (fun _ => True) w _ [.box w.heap.size [.int .i64 1, .int .i64 n, .slice none 0 0]]) := (Mem.start fun _ _ => trivial).box [.int .i64 1, .int .i64 n, .slice none 0 0] 41
  go_enter Try.func176, Try.ntmps176
  go_wp2_with fail
  have M2 := HM.out
  have r0 : World.cell? _ ⟨w.heap.size, 0, none⟩ = some (.int .i64 1) := M2.c 0 0 rfl rfl
  have r1 : World.cell? _ ⟨w.heap.size, 1, none⟩ = some (.int .i64 n) := M2.c 0 1 rfl rfl
  have r2 : World.cell? _ ⟨w.heap.size, 2, none⟩ = some (.slice none 0 0) := M2.c 0 2 rfl rfl
  exact bodyPost_ret (v := .agg #[.int .i64 1, .int .i64 n, .slice none 0 0]) (by simp [results, Try.results176, go_sem, r0, r1, r2]) rfl ⟨rfl, M2.below fun _ _ => trivial⟩

set_option maxHeartbeats 400000 in
theorem impl_number (n : Int) (w : World) : Calls Try.prog 141 #[.int .i64 n] w fun e w' => e = .returned (.agg #[.int .i64 1, .int .i64 n, .slice none 0 0]) ∧ Below w.heap.size w w' := by
  have HM : Hid (Mem (fun _ => True) (fun _ => True) w _ [.box w.heap.size [.int .i64 1, .int .i64 n, .slice none 0 0]]) := (Mem.start fun _ _ => trivial).box [.int .i64 1, .int .i64 n, .slice none 0 0] 41
  go_enter Try.func141, Try.ntmps141
  go_wp2_with fail
  have M2 := HM.out
  have r0 : World.cell? _ ⟨w.heap.size, 0, none⟩ = some (.int .i64 1) := M2.c 0 0 rfl rfl
  have r1 : World.cell? _ ⟨w.heap.size, 1, none⟩ = some (.int .i64 n) := M2.c 0 1 rfl rfl
  have r2 : World.cell? _ ⟨w.heap.size, 2, none⟩ = some (.slice none 0 0) := M2.c 0 2 rfl rfl
  exact bodyPost_ret (v := .agg #[.int .i64 1, .int .i64 n, .slice none 0 0]) (by simp [results, Try.results141, go_sem, r0, r1, r2]) rfl ⟨rfl, M2.below fun _ _ => trivial⟩

end Go.Proofs.Ytgpkdfefgcpbiaa
