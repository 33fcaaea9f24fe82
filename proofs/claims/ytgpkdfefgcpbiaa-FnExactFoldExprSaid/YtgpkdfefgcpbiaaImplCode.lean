/-
  The program's CodeValid and what it calls, a contract each. Conditions: the arguments are code.
-/
import Derived.Test.YtgpkdfefgcpbiaaLawCode
import Derived.Test.YtgpkdfefgcpbiaaPure1
import Derived.Test.YtgpkdfefgcpbiaaExt
namespace Go.Proofs.Ytgpkdfefgcpbiaa
set_option linter.unusedVariables false
set_option linter.unusedSimpArgs false
open Go Go.RowKit

theorem impl_within (n lo hi : Int) (w : World) : Calls Try.prog 140 #[.int .i64 n, .int .i64 lo, .int .i64 hi] w fun e w' => e = .returned (.bool (decide (lo ≤ n) && decide (n ≤ hi))) ∧ w = w' := by
  go_enter Try.func140, Try.ntmps140
  go_wp2
  all_goals go_ret
  all_goals exact ⟨ret_bool (by simp; try omega), rfl⟩

theorem impl_LabelValid (l : Int) (w : World) : Calls Try.prog 86 #[.int .i64 l] w fun e w' => e = .returned (.bool (labOk l)) ∧ w = w' := by
  go_enter Try.func86, Try.ntmps86
  go_wp2_with fail
  refine (impl_within l 0 3 _).mono ?_
  rintro e w1 ⟨rfl, rfl⟩
  go_wp2_with fail
  go_ret
  exact ⟨rfl, rfl⟩

theorem impl_areLabels1 (l : Int) (w : World) : Calls Try.prog 201 #[.int .i64 l] w fun e w' => e = .returned (.bool (!labOk l)) ∧ w = w' := by
  go_enter Try.func201, Try.ntmps201
  go_wp2_with fail
  refine (impl_LabelValid l _).mono ?_
  rintro e w1 ⟨rfl, rfl⟩
  go_wp2_with fail
  go_ret
  exact ⟨rfl, rfl⟩

set_option maxHeartbeats 1000000 in
/-- slices.IndexFunc over ints, the function capturing nothing. -/
theorem indexFunc_int (p : Int → Bool) (f : FuncId) (v : Value) (xs : List Int) (w : World) (h : Row w v xs.length 1 (ints xs)) (he : ∀ args w, (callFunc f args).run Try.prog w = .ok (.enter f args) w)
    (hf : ∀ x w', Calls Try.prog f #[.int .i64 x] w' fun e w'' => e = .returned (.bool (p x)) ∧ w' = w'') :
    Calls Try.prog 205 #[v, .func (.func f) #[] #[]] w fun e w' => ∃ r : Int, e = .returned (.int .i64 r) ∧ decide (0 ≤ r) = xs.any p ∧ w = w' := by
  obtain ⟨a1, c1, rfl, -, hm1, -, hc1⟩ := h.open1
  have HF := show Hid _ from hf
  clear h hf
  go_enter Try.func205, Try.ntmps205
  go_wp2_with fail
  go_loop [5, 8] (fun _ i => ∃ k : Nat, k ≤ xs.length ∧ i = .int .i64 k ∧ (xs.take k).any p = false) (fun _ i => xs.length - (intOf i).toNat)
  case atStart => exact ⟨0, Nat.zero_le _, rfl, rfl⟩
  case round =>
    obtain ⟨k, hk, rfl, ha⟩ := hrel
    have HA := show Hid _ from ha
    clear ha
    by_cases hlt : k < xs.length
    · obtain ⟨b1, o1, rfl, hb1, hx⟩ := hc1 k hlt
      rw [ints_get _ _ hlt] at hx
      clear hc1
      cases hp : p xs[k]
      all_goals
        have HP := show Hid _ from hp
        clear hp
        go_wp2_with fail
        refine (HF.out xs[k] _).mono ?_
        rintro e w1 ⟨rfl, rfl⟩
        rw [HP.out]
        go_wp2_with fail
      · go_round
        case rel => exact ⟨k + 1, by omega, by go_num, by rw [take_succ_get _ _ hlt, List.any_append, HA.out]; simp [HP.out]⟩
        case measure => simp [intOf]; omega
      · go_ret
        exact ⟨_, rfl, by rw [decide_eq_true (by omega)]; symm; rw [List.any_eq_true]; exact ⟨_, List.getElem_mem hlt, HP.out⟩, rfl⟩
    · go_wp2_with fail
      go_ret
      refine ⟨_, rfl, ?_, rfl⟩
      have := HA.out
      rw [List.take_of_length_le (by omega)] at this
      rw [this]; rfl

theorem containsFunc_int (p : Int → Bool) (f : FuncId) (v : Value) (xs : List Int) (w : World) (h : Row w v xs.length 1 (ints xs)) (he : ∀ args w, (callFunc f args).run Try.prog w = .ok (.enter f args) w)
    (hf : ∀ x w', Calls Try.prog f #[.int .i64 x] w' fun e w'' => e = .returned (.bool (p x)) ∧ w' = w'') :
    Calls Try.prog 185 #[v, .func (.func f) #[] #[]] w fun e w' => e = .returned (.bool (xs.any p)) ∧ w = w' := by
  obtain ⟨a1, c1, rfl, -⟩ := h.open1
  have HF := show Hid _ from hf
  have HE := show Hid _ from he
  clear hf he
  go_enter Try.func185, Try.ntmps185
  go_wp2_with fail
  refine (indexFunc_int p f _ xs _ h HE.out HF.out).mono ?_
  rintro e w1 ⟨r, rfl, hr, rfl⟩
  have HR := show Hid _ from hr
  clear hr
  go_wp2_with fail
  go_ret
  exact ⟨ret_bool HR.out, rfl⟩

theorem any_not_all (xs : List Int) : (!xs.any fun l => !labOk l) = xs.all labOk := by
  induction xs with
  | nil => rfl
  | cons x r ih => simp only [List.any_cons, List.all_cons, ← ih]; cases labOk x <;> simp

theorem impl_areLabels (v : Value) (xs : List Int) (w : World) (h : Row w v xs.length 1 (ints xs)) :
    Calls Try.prog 178 #[v] w fun e w' => e = .returned (.bool (xs.all labOk)) ∧ w = w' := by
  obtain ⟨a1, c1, rfl, -⟩ := h.open1
  go_enter Try.func178, Try.ntmps178
  go_wp2_with fail
  refine (containsFunc_int (fun l => !labOk l) 201 _ xs _ h (enters_of Try.func201 (by kernel_rfl) rfl) (fun x w' => impl_areLabels1 x w')).mono ?_
  rintro e w1 ⟨rfl, rfl⟩
  have HN := show Hid _ from any_not_all xs
  go_wp2_with fail
  go_ret
  exact ⟨ret_bool HN.out, rfl⟩

set_option maxHeartbeats 1000000 in
theorem impl_declared (v1 v2 : Value) (vars arrays : List Int) (w : World) (h1 : Row w v1 vars.length 1 (ints vars)) (h2 : Row w v2 arrays.length 1 (ints arrays)) :
    Calls Try.prog 138 #[v1, v2] w fun e w' => e = .returned (.bool (headsB vars arrays)) ∧ w = w' := by
  obtain ⟨a1, c1, rfl, -, q1, -⟩ := h1.open1
  obtain ⟨a2, c2, rfl, -, q2, -⟩ := h2.open1
  have HT : Hid (headsB vars arrays = (vars.all labOk && arrays.all labOk && decide (1 ≤ vars.length) && decide (vars.length ≤ 12) && decide (arrays.length ≤ 2))) := rfl
  by_cases hn : (1 : Int) ≤ (vars.length : Int) ∧ (vars.length : Int) ≤ 12
  · have hb : (decide ((1 : Int) ≤ vars.length) && decide ((vars.length : Int) ≤ 12)) = true := by simpa using hn
    have HB := show Hid _ from hb
    by_cases hm : (arrays.length : Int) ≤ 2
    · cases hv : vars.all labOk
      · have HV := show Hid _ from hv
        clear hv hb hn
        go_enter Try.func138, Try.ntmps138
        go_wp2_with fail
        refine (impl_within _ 1 12 _).mono ?_
        rintro e w1 ⟨rfl, rfl⟩
        rw [HB.out]
        go_wp2_with fail
        refine (impl_areLabels _ vars _ h1).mono ?_
        rintro e w1 ⟨rfl, rfl⟩
        rw [HV.out]
        go_wp2_with fail
        go_ret
        exact ⟨ret_bool (by rw [HT.out, HV.out]; rfl), rfl⟩
      · have HV := show Hid _ from hv
        have hn' := show Hid _ from hn
        have hm' := show Hid _ from hm
        clear hv hb hn
        go_enter Try.func138, Try.ntmps138
        go_wp2_with fail
        refine (impl_within _ 1 12 _).mono ?_
        rintro e w1 ⟨rfl, rfl⟩
        rw [HB.out]
        go_wp2_with fail
        refine (impl_areLabels _ vars _ h1).mono ?_
        rintro e w1 ⟨rfl, rfl⟩
        rw [HV.out]
        go_wp2_with fail
        refine (impl_areLabels _ arrays _ h2).mono ?_
        rintro e w1 ⟨rfl, rfl⟩
        go_wp2_with fail
        go_ret
        refine ⟨ret_bool ?_, rfl⟩
        have h3 := hn'.out
        have h4 := hm'.out
        rw [HT.out, HV.out, decide_eq_true (show 1 ≤ vars.length by omega), decide_eq_true (show vars.length ≤ 12 by omega), decide_eq_true (show arrays.length ≤ 2 by omega)]
        simp
    · have hF : Hid (headsB vars arrays = false) := by unfold Hid; rw [HT.out, decide_eq_false (show ¬ arrays.length ≤ 2 by omega)]; simp
      clear hb hn
      go_enter Try.func138, Try.ntmps138
      go_wp2_with fail
      refine (impl_within _ 1 12 _).mono ?_
      rintro e w1 ⟨rfl, rfl⟩
      rw [HB.out]
      go_wp2_with fail
      go_ret
      exact ⟨ret_bool hF.out.symm, rfl⟩
  · have hb : (decide ((1 : Int) ≤ vars.length) && decide ((vars.length : Int) ≤ 12)) = false := by
      rw [Bool.eq_false_iff]; simp only [ne_eq, Bool.and_eq_true, decide_eq_true_eq]; exact hn
    have HB := show Hid _ from hb
    have hF : Hid (headsB vars arrays = false) := by
      unfold Hid; rw [HT.out]
      rcases Classical.not_and_iff_not_or_not.1 hn with h | h
      · rw [decide_eq_false (show ¬ 1 ≤ vars.length by omega)]; simp
      · rw [decide_eq_false (show ¬ vars.length ≤ 12 by omega)]; simp
    clear hb hn
    go_enter Try.func138, Try.ntmps138
    go_wp2_with fail
    refine (impl_within _ 1 12 _).mono ?_
    rintro e w1 ⟨rfl, rfl⟩
    rw [HB.out]
    go_wp2_with fail
    go_ret
    exact ⟨ret_bool hF.out.symm, rfl⟩

end Go.Proofs.Ytgpkdfefgcpbiaa
