/-
  The reference's CodeValid and what it calls, a contract each. Conditions: the arguments are code.
-/
import Derived.Test.YtjlnaiifegjneaaLawCode
import Derived.Test.YtjlnaiifegjneaaPure1
namespace Go.Proofs.Ytjlnaiifegjneaa
open Go Go.RowKit

theorem spec_LabelValid (l : Int) (w : World) : Calls Try.prog 113 #[.int .i64 l] w fun e w' => e = .returned (.bool (labOk l)) ∧ w = w' := by
  go_enter Try.func113, Try.ntmps113
  go_wp2
  all_goals go_ret
  all_goals exact ⟨ret_bool (by simp [labOk]; try omega), rfl⟩

theorem spec_l6Heads (v1 v2 v3 : Value) (n1 n2 : Nat) (x1 x2 : List Value) (w : World) (h1 : Row w v1 n1 1 x1) (h2 : Row w v2 n2 1 x2) :
    Calls Try.prog 85 #[.agg #[v1, v2, v3]] w fun e w' => e = .returned (.agg #[v1, v2, .slice none 0 0]) ∧ Below w.heap.size w w' := by
  obtain ⟨a1, k1, rfl⟩ := h1.form
  obtain ⟨a2, k2, rfl⟩ := h2.form
  clear h1 h2
  go_enter Try.func85, Try.ntmps85
  go_wp2
  go_returns
  exact ⟨rfl, by go_grown⟩

set_option maxHeartbeats 1000000 in
theorem spec_l2Heads (v1 v2 v3 : Value) (vars arrays : List Int) (w : World) (h1 : Row w v1 vars.length 1 (ints vars)) (h2 : Row w v2 arrays.length 1 (ints arrays)) :
    Calls Try.prog 84 #[.agg #[v1, v2, v3]] w fun e w' => e = .returned (.bool (headsB vars arrays)) ∧ Below w.heap.size w w' := by
  have B0 : Below w.heap.size w (w.alloc (.cells #[v1, v2, v3] 91)) := by go_grown
  obtain ⟨a1, c1, rfl, -, hm1, -, hc1⟩ := (h1.below B0).open1
  obtain ⟨a2, c2, rfl, -, hm2, -, hc2⟩ := (h2.below B0).open1
  have HT : Hid (headsB vars arrays = (vars.all labOk && arrays.all labOk && decide (1 ≤ vars.length) && decide (vars.length ≤ 12) && decide (arrays.length ≤ 2))) := rfl
  clear h1 h2
  go_enter Try.func84, Try.ntmps84
  go_wp2_with fail
  go_loop [3] (fun i => ∃ k : Nat, k ≤ vars.length ∧ i = .int .i64 k ∧ (vars.take k).all labOk = true) (fun i => vars.length - (intOf i).toNat)
  case atStart => exact ⟨0, Nat.zero_le _, rfl, rfl⟩
  case round =>
    obtain ⟨k, hk, rfl, ha⟩ := hrel
    have HA := show Hid _ from ha
    clear ha
    by_cases hlt : k < vars.length
    · obtain ⟨b1, o1, rfl, hb1, hx⟩ := hc1 k hlt
      rw [ints_get _ _ hlt] at hx
      have HS := show Hid _ from all_take_succ labOk vars k hlt
      clear hc1 hc2
      cases hl : labOk vars[k]
      all_goals
        have HL := show Hid _ from hl
        clear hl
        go_wp2_with fail
        refine (spec_LabelValid _ _).mono ?_
        rintro e w1 ⟨rfl, rfl⟩
        rw [HL.out]
        go_wp2_with fail
      · go_ret
        exact ⟨ret_bool (by rw [HT.out, not_all hlt HL.out]; rfl), B0⟩
      · go_round
        case rel => exact ⟨k + 1, by omega, by go_num, by rw [HS.out, HA.out, HL.out]; rfl⟩
        case measure => simp [intOf]; omega
    · have HA' := show Hid (vars.all labOk = true) from by have := HA.out; rwa [List.take_of_length_le (by omega)] at this
      clear HA hc1
      go_wp2_with fail
      go_loop [4] (fun i => ∃ k : Nat, k ≤ arrays.length ∧ i = .int .i64 k ∧ (arrays.take k).all labOk = true) (fun i => arrays.length - (intOf i).toNat)
      case atStart => exact ⟨0, Nat.zero_le _, rfl, rfl⟩
      case round =>
        obtain ⟨j, hj, rfl, ha⟩ := hrel
        have HB := show Hid _ from ha
        clear ha
        by_cases hlj : j < arrays.length
        · obtain ⟨b1, o1, rfl, hb1, hx⟩ := hc2 j hlj
          rw [ints_get _ _ hlj] at hx
          have HS := show Hid _ from all_take_succ labOk arrays j hlj
          clear hc2
          cases hl : labOk arrays[j]
          all_goals
            have HL := show Hid _ from hl
            clear hl
            go_wp2_with fail
            refine (spec_LabelValid _ _).mono ?_
            rintro e w1 ⟨rfl, rfl⟩
            rw [HL.out]
            go_wp2_with fail
          · go_ret
            exact ⟨ret_bool (by rw [HT.out, not_all hlj HL.out]; simp), B0⟩
          · go_round
            case rel => exact ⟨j + 1, by omega, by go_num, by rw [HS.out, HB.out, HL.out]; rfl⟩
            case measure => simp [intOf]; omega
        · have HB' := show Hid (arrays.all labOk = true) from by have := HB.out; rwa [List.take_of_length_le (by omega)] at this
          clear HB hc2
          go_wp2_with fail
          all_goals go_ret
          all_goals refine ⟨ret_bool ?_, B0⟩
          all_goals rw [HT.out, HA'.out, HB'.out]
          all_goals rw [Bool.eq_iff_iff]
          all_goals simp
          all_goals omega


theorem bool_tri (c : Bool) : c = true ∨ c = false := by cases c <;> simp

set_option maxHeartbeats 2000000 in
theorem spec_l6Range (v1 v2 v3 : Value) (c : LCode) (kd : UInt8) (n : Int) (w : World) (h1 : Row w v1 c.vars.length 1 (ints c.vars)) (h2 : Row w v2 c.arrays.length 1 (ints c.arrays)) (h3 : InsRow w v3 c.list) :
    Calls Try.prog 116 #[.agg #[v1, v2, v3], .int .u8 kd.toNat, .int .i64 n] w fun e w' => e = .returned (.bool (rangeOk c kd n)) ∧ Below w.heap.size w w' := by
  obtain ⟨a1, k1, rfl, -, q1, -, -⟩ := h1.open1
  obtain ⟨a2, k2, rfl, -, q2, -, -⟩ := h2.open1
  obtain ⟨a3, k3, rfl, -, q3, -, -⟩ := h3.open
  have hk : kd.toNat < 256 := kd.toNat_lt
  have HK : ∀ m : UInt8, (kd = m) = ((kd.toNat : Int) = (m.toNat : Int)) := fun m => by
    rw [eq_iff_iff]
    constructor
    · rintro rfl; rfl
    · intro h; exact UInt8.toNat_inj.1 (by omega)
  have HK' := show Hid _ from HK
  clear HK h1 h2 h3
  obtain ⟨z, hz⟩ : ∃ z, z = kd.toNat := ⟨_, rfl⟩
  rw [← hz] at hk ⊢
  have HZ := show Hid _ from hz
  clear hz
  go_enter Try.func116, Try.ntmps116
  go_wp2_with fail
  all_goals go_ret
  all_goals refine ⟨ret_bool ?_, by go_grown⟩
  all_goals unfold rangeOk
  all_goals simp only [HK'.out, ← HZ.out, show (UInt8.toNat 114) = 114 from rfl, show (UInt8.toNat 99) = 99 from rfl, show (UInt8.toNat 118) = 118 from rfl, show (UInt8.toNat 97) = 97 from rfl, show (UInt8.toNat 111) = 111 from rfl]
  all_goals clear HK' HZ hk q1 q2 q3
  all_goals simp_all
  all_goals omega


set_option maxHeartbeats 4000000 in
theorem spec_l6Fields (op : Int) (w : World) (h1 : 1 ≤ op) (h2 : op ≤ 13) :
    Calls Try.prog 114 #[.int .i64 op] w fun e w' => e = .returned (.string ⟨(fldStr op).toArray⟩) ∧ Below w.heap.size w w' := by
  have h : op = 1 ∨ op = 2 ∨ op = 3 ∨ op = 4 ∨ op = 5 ∨ op = 6 ∨ op = 7 ∨ op = 8 ∨ op = 9 ∨ op = 10 ∨ op = 11 ∨ op = 12 ∨ op = 13 := by omega
  clear h1 h2
  rcases h with rfl | rfl | rfl | rfl | rfl | rfl | rfl | rfl | rfl | rfl | rfl | rfl | rfl
  all_goals
    go_enter Try.func114, Try.ntmps114
    go_wp2_with fail
    go_ret
    exact ⟨by simp [fldStr], by go_grown⟩

theorem spec_l6Parts (x : LIns) (w : World) :
    Calls Try.prog 115 #[x.v] w fun e w' => ∃ u, e = .returned u ∧ Own w' w.heap.size w'.heap.size 3 1 u 4 (ints [x.a, x.b, x.c, x.d]) ∧ Below w.heap.size w w' := by
  obtain ⟨x0, x1, x2, x3, x4⟩ := x
  go_enter Try.func115, Try.ntmps115
  go_wp2_with fail
  go_ret
  refine ⟨_, rfl, (own_built _ #[.int .i64 x1, .int .i64 x2, .int .i64 x3, .int .i64 x4] 4 1 _ (by simp) rfl (by omega)).wide (by simp) (by simp), by go_grown⟩

end Go.Proofs.Ytjlnaiifegjneaa
