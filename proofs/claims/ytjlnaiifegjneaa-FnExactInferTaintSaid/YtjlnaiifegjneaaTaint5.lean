/-
  Taint: covering of rows, both sides; the search for a row of a wrong length. Conditions: rows of 14 bits, or empty.
-/
import Derived.Test.YtjlnaiifegjneaaTaint2
import Derived.Test.YtjlnaiifegjneaaPure4
import Derived.Test.YtjlnaiifegjneaaOpenMat
namespace Go.Proofs.Ytjlnaiifegjneaa
open Go Go.RowKit

set_option maxHeartbeats 1000000 in
theorem impl_covers (v u : Value) (row t : List Bool) (w : World) (h1 : Row w v row.length 1 (bools row)) (h2 : Row w u t.length 1 (bools t)) (hl : t.length ≤ row.length) :
    Calls Try.prog 77 #[v, u] w fun e w' => e = .returned (.bool (covUpto t row t.length)) ∧ w = w' := by
  obtain ⟨a1, c1, rfl, -, hm1, -, hc1⟩ := h1.open1
  obtain ⟨a2, c2, rfl, -, hm2, -, hc2⟩ := h2.open1
  clear h1 h2
  go_enter Try.func77, Try.ntmps77
  go_wp2_with fail
  go_loop [5, 6, 9] (fun _ _ i => ∃ k : Nat, k ≤ t.length ∧ i = .int .i64 k ∧ covUpto t row k = true) (fun _ _ i => t.length - (intOf i).toNat)
  case atStart => exact ⟨0, Nat.zero_le _, rfl, rfl⟩
  case round =>
    obtain ⟨k, hk, rfl, ha⟩ := hrel
    have HA := show Hid _ from ha
    clear ha
    by_cases hlt : k < t.length
    · obtain ⟨b1, o1, rfl, hb1, hx⟩ := hc1 k (by omega)
      obtain ⟨b2, o2, rfl, hb2, hy⟩ := hc2 k hlt
      rw [bools_get _ _ (by omega : k < row.length)] at hx
      rw [bools_get _ _ hlt] at hy
      clear hc1 hc2
      have hlr : k < row.length := by omega
      have g1 : row.getD k false = row[k]'hlr := by simp [hlr]
      have g2 : t.getD k false = t[k] := by simp [hlt]
      cases h2 : t[k]
      · have HS := show Hid (covUpto t row (k + 1) = true) from by unfold Hid; rw [covUpto_succ, HA.out, g2, h2]; rfl
        rw [h2] at hy
        clear g1 g2 h2
        go_wp2_with fail
        go_round
        case rel => exact ⟨k + 1, by omega, by go_num, HS.out⟩
        case measure => simp [intOf]; omega
      · cases h1 : row[k]
        · have HS := show Hid (covUpto t row t.length = false) from covUpto_not _ hlt (g2.trans h2) (g1.trans h1)
          rw [h2] at hy; rw [h1] at hx
          clear g1 g2 h2 h1
          go_wp2_with fail
          go_ret
          exact ⟨ret_bool HS.out.symm, rfl⟩
        · have HS := show Hid (covUpto t row (k + 1) = true) from by unfold Hid; rw [covUpto_succ, HA.out, g1, h1]; simp
          rw [h2] at hy; rw [h1] at hx
          clear g1 g2 h2 h1
          go_wp2_with fail
          go_round
          case rel => exact ⟨k + 1, by omega, by go_num, HS.out⟩
          case measure => simp [intOf]; omega
    · have e : k = t.length := by omega
      subst e
      go_wp2_with fail
      go_ret
      exact ⟨ret_bool HA.out.symm, rfl⟩

set_option maxHeartbeats 1000000 in
theorem spec_l9Below (v u : Value) (t row : List Bool) (w : World) (h1 : Row w v t.length 1 (bools t)) (h2 : Row w u row.length 1 (bools row)) (hl : row.length = 0 ∨ t.length ≤ row.length) :
    Calls Try.prog 72 #[v, u] w fun e w' => e = .returned (.bool (decide (0 < row.length) && covUpto t row t.length)) ∧ w = w' := by
  obtain ⟨a2, c2, rfl, -, hm2, -, hc2⟩ := h1.open1
  obtain ⟨a1, c1, rfl, -, hm1, -, hc1⟩ := h2.open1
  clear h1 h2
  go_enter Try.func72, Try.ntmps72
  by_cases h0 : row.length = 0
  · have q0 : ((row.length : Int) == 0) = true := by simp [h0]
    have HD := show Hid (decide (0 < row.length) = false) from by simp [Hid, h0]
    clear h0
    go_wp2_with fail
    go_ret
    exact ⟨ret_bool (by rw [HD.out]; rfl), rfl⟩
  · have q0 : ((row.length : Int) == 0) = false := by simp; intro e; rw [e] at h0; exact h0 rfl
    have HD := show Hid (decide (0 < row.length) = true) from by simp [Hid]; omega
    have hl' : t.length ≤ row.length := by omega
    clear h0 hl
    go_wp2_with fail
    go_loop [5] (fun i => ∃ k : Nat, k ≤ t.length ∧ i = .int .i64 k ∧ covUpto t row k = true) (fun i => t.length - (intOf i).toNat)
    case atStart => exact ⟨0, Nat.zero_le _, rfl, rfl⟩
    case round =>
      obtain ⟨k, hk, rfl, ha⟩ := hrel
      have HA := show Hid _ from ha
      clear ha
      by_cases hlt : k < t.length
      · obtain ⟨b1, o1, rfl, hb1, hx⟩ := hc1 k (by omega)
        obtain ⟨b2, o2, rfl, hb2, hy⟩ := hc2 k hlt
        rw [bools_get _ _ (by omega : k < row.length)] at hx
        rw [bools_get _ _ hlt] at hy
        clear hc1 hc2
        have hlr : k < row.length := by omega
        have g1 : row.getD k false = row[k]'hlr := by simp [hlr]
        have g2 : t.getD k false = t[k] := by simp [hlt]
        cases h2 : t[k]
        · have HS := show Hid (covUpto t row (k + 1) = true) from by unfold Hid; rw [covUpto_succ, HA.out, g2, h2]; rfl
          rw [h2] at hy
          clear g1 g2 h2
          go_wp2_with fail
          go_round
          case rel => exact ⟨k + 1, by omega, by go_num, HS.out⟩
          case measure => simp [intOf]; omega
        · cases h1 : row[k]
          · have HS := show Hid (covUpto t row t.length = false) from covUpto_not _ hlt (g2.trans h2) (g1.trans h1)
            rw [h2] at hy; rw [h1] at hx
            clear g1 g2 h2 h1
            go_wp2_with fail
            go_ret
            exact ⟨ret_bool (by rw [HS.out, HD.out]; rfl), rfl⟩
          · have HS := show Hid (covUpto t row (k + 1) = true) from by unfold Hid; rw [covUpto_succ, HA.out, g1, h1]; simp
            rw [h2] at hy; rw [h1] at hx
            clear g1 g2 h2 h1
            go_wp2_with fail
            go_round
            case rel => exact ⟨k + 1, by omega, by go_num, HS.out⟩
            case measure => simp [intOf]; omega
      · have e : k = t.length := by omega
        subst e
        go_wp2_with fail
        go_ret
        exact ⟨ret_bool (by rw [HA.out, HD.out]; rfl), rfl⟩

theorem impl_CheckTaint1 (v : Value) (r : List Bool) (w : World) (h : Row w v r.length 1 (bools r)) :
    Calls Try.prog 74 #[v] w fun e w' => e = .returned (.bool (!rowOk r)) ∧ w = w' := by
  obtain ⟨a2, c2, rfl, -, hm2, -, -⟩ := h.open1
  have hR : Hid (rowOk r = (decide (r.length = 0) || decide (r.length = 14))) := rfl
  clear h
  by_cases h0 : r.length = 0
  · have q0 : ((r.length : Int) != 0) = false := by simp [h0]
    go_enter Try.func74, Try.ntmps74
    go_wp2_with fail
    go_ret
    exact ⟨ret_bool (by rw [hR.out]; simp [h0]), rfl⟩
  · have q0 : ((r.length : Int) != 0) = true := by simp; intro e; rw [e] at h0; exact h0 rfl
    by_cases h14 : r.length = 14
    · have q1 : ((r.length : Int) != 14) = false := by simp [h14]
      go_enter Try.func74, Try.ntmps74
      go_wp2_with fail
      go_ret
      exact ⟨ret_bool (by rw [hR.out]; simp [h14]), rfl⟩
    · have q1 : ((r.length : Int) != 14) = true := by simp; omega
      go_enter Try.func74, Try.ntmps74
      go_wp2_with fail
      go_ret
      exact ⟨ret_bool (by rw [hR.out]; simp [h14]; intro e; rw [e] at h0; exact h0 rfl), rfl⟩

set_option maxHeartbeats 1000000 in
theorem indexFunc_rows (p : List Bool → Bool) (f : FuncId) (v : Value) (m : List (List Bool)) (w : World) (h : MatRow w v m) (he : ∀ args w, (callFunc f args).run Try.prog w = .ok (.enter f args) w)
    (hf : ∀ u r w', Row w' u r.length 1 (bools r) → Calls Try.prog f #[u] w' fun e w'' => e = .returned (.bool (p r)) ∧ w' = w'') :
    Calls Try.prog 103 #[v, .func (.func f) #[] #[]] w fun e w' => ∃ r : Int, e = .returned (.int .i64 r) ∧ decide (0 ≤ r) = m.any p ∧ w = w' := by
  obtain ⟨a1, c1, rfl, hm1, hc1⟩ := h.open
  have HF := show Hid _ from hf
  clear h hf
  go_enter Try.func103, Try.ntmps103
  go_wp2_with fail
  go_loop [5, 8] (fun _ i => ∃ k : Nat, k ≤ m.length ∧ i = .int .i64 k ∧ (m.take k).any p = false) (fun _ i => m.length - (intOf i).toNat)
  case atStart => exact ⟨0, Nat.zero_le _, rfl, rfl⟩
  case round =>
    obtain ⟨k, hk, rfl, ha⟩ := hrel
    have HA := show Hid _ from ha
    clear ha
    by_cases hlt : k < m.length
    · obtain ⟨b, off, a', c', rfl, hb1, hx, hr⟩ := hc1 k hlt
      clear hc1
      cases hp : p m[k]
      all_goals
        have HP := show Hid _ from hp
        clear hp
        go_wp2_with fail
        refine (HF.out _ m[k] _ hr).mono ?_
        rintro e w1 ⟨rfl, rfl⟩
        rw [HP.out]
        go_wp2_with fail
      · go_round
        case rel => exact ⟨k + 1, by omega, by go_num, by rw [take_succ_get _ _ hlt, List.any_append, HA.out]; simp [HP.out]⟩
        case measure => simp [intOf]; omega
      · go_ret
        exact ⟨_, rfl, by rw [decide_eq_true (by omega)]; symm; rw [List.any_eq_true]; exact ⟨_, List.getElem_mem hlt, HP.out⟩, rfl⟩
    · go_wp2_with fail
      go_ret
      refine ⟨_, rfl, ?_, rfl⟩
      have := HA.out
      rw [List.take_of_length_le (by omega)] at this
      rw [this]; rfl

theorem containsFunc_rows (p : List Bool → Bool) (f : FuncId) (v : Value) (m : List (List Bool)) (w : World) (h : MatRow w v m) (he : ∀ args w, (callFunc f args).run Try.prog w = .ok (.enter f args) w)
    (hf : ∀ u r w', Row w' u r.length 1 (bools r) → Calls Try.prog f #[u] w' fun e w'' => e = .returned (.bool (p r)) ∧ w' = w'') :
    Calls Try.prog 73 #[v, .func (.func f) #[] #[]] w fun e w' => e = .returned (.bool (m.any p)) ∧ w = w' := by
  obtain ⟨a1, c1, rfl, -⟩ := h.open
  have HF := show Hid _ from hf
  have HE := show Hid _ from he
  clear hf he
  go_enter Try.func73, Try.ntmps73
  go_wp2_with fail
  refine (indexFunc_rows p f _ m _ h HE.out HF.out).mono ?_
  rintro e w1 ⟨r, rfl, hr, rfl⟩
  have HR := show Hid _ from hr
  clear hr
  go_wp2_with fail
  go_ret
  exact ⟨ret_bool HR.out, rfl⟩

theorem impl_rowsBad (v : Value) (m : List (List Bool)) (w : World) (h : MatRow w v m) :
    Calls Try.prog 73 #[v, .func (.func 74) #[] #[]] w fun e w' => e = .returned (.bool (!m.all rowOk)) ∧ w = w' := by
  have e : (!m.all rowOk) = m.any fun r => !rowOk r := by simp [List.not_all_eq_any_not]
  rw [e]
  exact containsFunc_rows (fun r => !rowOk r) 74 v m w h (enters_of Try.func74 (by kernel_rfl) rfl) fun u r w' hr => impl_CheckTaint1 u r w' hr

end Go.Proofs.Ytjlnaiifegjneaa
