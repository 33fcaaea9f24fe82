/-
  The reference's CodeValid and what it calls, a contract each. Conditions: the arguments are code.
-/
import Derived.Test.YtgpkdfefgcpbiaaLawCode
import Derived.Test.YtgpkdfefgcpbiaaPure1
namespace Go.Proofs.Ytgpkdfefgcpbiaa
set_option linter.unusedVariables false
set_option linter.unusedSimpArgs false
open Go Go.RowKit

theorem spec_LabelValid (l : Int) (w : World) : Calls Try.prog 83 #[.int .i64 l] w fun e w' => e = .returned (.bool (labOk l)) ∧ w = w' := by
  go_enter Try.func83, Try.ntmps83
  go_wp2
  all_goals go_ret
  all_goals exact ⟨ret_bool (by simp [labOk]; try omega), rfl⟩


set_option maxHeartbeats 1000000 in
theorem spec_l2Heads (v1 v2 v3 : Value) (vars arrays : List Int) (w : World) (h1 : Row w v1 vars.length 1 (ints vars)) (h2 : Row w v2 arrays.length 1 (ints arrays)) :
    Calls Try.prog 136 #[.agg #[v1, v2, v3]] w fun e w' => e = .returned (.bool (headsB vars arrays)) ∧ Below w.heap.size w w' := by
  have B0 : Below w.heap.size w (w.alloc (.cells #[v1, v2, v3] 31)) := by go_grown
  obtain ⟨a1, c1, rfl, -, hm1, -, hc1⟩ := (h1.below B0).open1
  obtain ⟨a2, c2, rfl, -, hm2, -, hc2⟩ := (h2.below B0).open1
  have HT : Hid (headsB vars arrays = (vars.all labOk && arrays.all labOk && decide (1 ≤ vars.length) && decide (vars.length ≤ 12) && decide (arrays.length ≤ 2))) := rfl
  clear h1 h2
  go_enter Try.func136, Try.ntmps136
  go_wp2_with fail
  go_loop [3] (fun i => ∃ k : Nat, k ≤ vars.length ∧ i = .int .i64 k ∧ (vars.take k).all labOk = true) (fun i => vars.length - (intOf i).toNat)
  case atStart => exact ⟨0, Nat.zero_le _, rfl, rfl⟩
  case round =>
    obtain ⟨k, hk, rfl, ha⟩ := hrel
    have HA := show Hid _ from ha
    clear ha
    by_cases hlt : k < vars.length
    · obtain ⟨b1, o1, rfl, hb1, hx⟩ := hc1 k hlt
      rw [ints_get _ _ hlt] at hx
      have HS := show Hid _ from all_take_succ labOk vars k hlt
      clear hc1 hc2
      cases hl : labOk vars[k]
      all_goals
        have HL := show Hid _ from hl
        clear hl
        go_wp2_with fail
        refine (spec_LabelValid _ _).mono ?_
        rintro e w1 ⟨rfl, rfl⟩
        rw [HL.out]
        go_wp2_with fail
      · go_ret
        exact ⟨ret_bool (by rw [HT.out, not_all hlt HL.out]; rfl), B0⟩
      · go_round
        case rel => exact ⟨k + 1, by omega, by go_num, by rw [HS.out, HA.out, HL.out]; rfl⟩
        case measure => simp [intOf]; omega
    · have HA' := show Hid (vars.all labOk = true) from by have := HA.out; rwa [List.take_of_length_le (by omega)] at this
      clear HA hc1
      go_wp2_with fail
      go_loop [4] (fun i => ∃ k : Nat, k ≤ arrays.length ∧ i = .int .i64 k ∧ (arrays.take k).all labOk = true) (fun i => arrays.length - (intOf i).toNat)
      case atStart => exact ⟨0, Nat.zero_le _, rfl, rfl⟩
      case round =>
        obtain ⟨j, hj, rfl, ha⟩ := hrel
        have HB := show Hid _ from ha
        clear ha
        by_cases hlj : j < arrays.length
        · obtain ⟨b1, o1, rfl, hb1, hx⟩ := hc2 j hlj
          rw [ints_get _ _ hlj] at hx
          have HS := show Hid _ from all_take_succ labOk arrays j hlj
          clear hc2
          cases hl : labOk arrays[j]
          all_goals
            have HL := show Hid _ from hl
            clear hl
            go_wp2_with fail
            refine (spec_LabelValid _ _).mono ?_
            rintro e w1 ⟨rfl, rfl⟩
            rw [HL.out]
            go_wp2_with fail
          · go_ret
            exact ⟨ret_bool (by rw [HT.out, not_all hlj HL.out]; simp), B0⟩
          · go_round
            case rel => exact ⟨j + 1, by omega, by go_num, by rw [HS.out, HB.out, HL.out]; rfl⟩
            case measure => simp [intOf]; omega
        · have HB' := show Hid (arrays.all labOk = true) from by have := HB.out; rwa [List.take_of_length_le (by omega)] at this
          clear HB hc2
          go_wp2_with fail
          all_goals go_ret
          all_goals refine ⟨ret_bool ?_, B0⟩
          all_goals rw [HT.out, HA'.out, HB'.out]
          all_goals rw [Bool.eq_iff_iff]
          all_goals simp
          all_goals omega


theorem bool_tri (c : Bool) : c = true ∨ c = false := by cases c <;> simp




end Go.Proofs.Ytgpkdfefgcpbiaa
