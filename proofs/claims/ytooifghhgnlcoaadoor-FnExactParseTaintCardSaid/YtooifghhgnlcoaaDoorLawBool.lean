/-
  The laws' helpers on slices of bools, a contract each. Conditions: the arguments are slices of bools.
-/
import Derived.Test.YtooifghhgnlcoaaDoorRows
import Derived.Test.YtooifghhgnlcoaaDoorLib
import Derived.Deep.QuietTactic
import Derived.BigQuiet
namespace Go.Proofs.YtooifghhgnlcoaaDoor
set_option linter.unusedVariables false
set_option linter.unusedSimpArgs false
open Go Go.RowKit

abbrev bools (l : List Bool) : List Value := l.map Value.bool

theorem bools_get (l : List Bool) (k : Nat) (h : k < l.length) : (bools l)[k]? = some (.bool l[k]) := by simp [bools, h]
theorem bools_len (l : List Bool) : (bools l).length = l.length := by simp [bools]
theorem infoB : (Tryd.prog.info? 4).map (fun i => (i.zero, i.size, i.bytes)) = some (some (.bool false), 1, 1) := by kernel_rfl

set_option maxHeartbeats 400000 in
theorem eqBoolS_any (v1 v2 : Value) (xs ys : List Bool) (w : World) (h1 : Row w v1 xs.length 1 (bools xs)) (h2 : Row w v2 ys.length 1 (bools ys)) :
    Calls Tryd.prog 14 #[v1, v2] w fun e w' => e = .returned (.bool (decide (xs = ys))) ∧ ∃ n, w' = w.drewN n := by
  obtain ⟨a1, c1, rfl, -, hm1, -, hc1⟩ := h1.open1
  obtain ⟨a2, c2, rfl, -, hm2, -, hc2⟩ := h2.open1
  by_cases hl : xs.length = ys.length
  · rw [← hl] at hc2 ⊢
    clear h1 h2 hm2
    go_enter Tryd.func14, Tryd.ntmps14
    go_wp2
    go_loopw [5] (fun i wr => ∃ k : Nat, k ≤ xs.length ∧ i = .int .i64 k ∧ xs.take k = ys.take k ∧ ∃ n, wr = w.drewN n) (fun i _ => xs.length - (intOf i).toNat)
    case atStart => exact ⟨0, Nat.zero_le _, rfl, rfl, 0, rfl⟩
    case round =>
      obtain ⟨k, hk, rfl, ht, nd, rfl⟩ := hrel
      have HT : Hid (xs.take k = ys.take k) := ht
      clear ht
      have HL : Hid (xs.length = ys.length) := hl
      clear hl
      by_cases hlt : k < xs.length
      · have hlt2 : k < ys.length := by have := HL.out; omega
        obtain ⟨b1, o1, rfl, hb1, hx⟩ := hc1 k hlt
        obtain ⟨b2, o2, rfl, hb2, hy⟩ := hc2 k hlt
        rw [bools_get _ _ hlt] at hx
        rw [bools_get _ _ hlt2] at hy
        clear hc1 hc2
        go_wp2
        go_quiet (fail)
        go_wp2
        · rename_i hd
          go_ret
          exact ⟨ret_bool (by symm; simp; intro h; subst h; simp at hd), _, by first | rfl | exact World.drewN_drewN _ _ _⟩
        · rename_i hd
          refine ⟨⟨k + 1, by omega, by go_num, take_eq_succ HT.out hlt hlt2 (by simpa using hd), _, by first | rfl | exact World.drewN_drewN _ _ _⟩, by simp [intOf]; omega⟩
      · go_wp2
        go_ret
        exact ⟨ret_bool (by symm; simp; exact take_eq_all HT.out (by omega) (by have := HL.out; omega)), _, rfl⟩
  · have hne : ((xs.length : Int) == (ys.length : Int)) = false := by simp; omega
    clear hc1 hc2
    go_enter Tryd.func14, Tryd.ntmps14
    go_wp2
    go_ret
    exact ⟨ret_bool (by symm; simp; intro h; exact hl (by rw [h])), 0, rfl⟩



/-- The marks from K on. -/
def marksB (K n : Nat) : List Bool := (List.range n).map fun (j : Nat) => (((K : Int) + (j : Int)) % 3 == 0)
theorem marksB_len (K n : Nat) : (marksB K n).length = n := by simp [marksB]
theorem marksB_get (K n j : Nat) (h : j < (marksB K n).length) : (marksB K n)[j] = (((K : Int) + (j : Int)) % 3 == 0) := by simp [marksB]

set_option maxHeartbeats 400000 in
theorem markBoolS_any (v : Value) (xs : List Bool) (K lo hi : Nat) (w : World) (h : Own w lo hi 4 1 v xs.length (bools xs)) (hK : K + xs.length ≤ 9000000000000000000) :
    Calls Tryd.prog 15 #[v, .int .i64 K] w fun e w' => e = .returned (.int .i64 (K + xs.length : Nat)) ∧ Own w' lo hi 4 1 v xs.length (bools (marksB K xs.length)) ∧ Out lo hi w w' := by
  obtain ⟨a1, c1, rfl, -, hm1, -, -⟩ := h.row.open1
  go_enter Tryd.func15, Tryd.ntmps15
  go_wp2
  go_loopw [1, 5] (fun q i wr => ∃ (k : Nat) (ys : List Value), k ≤ xs.length ∧ q = .int .i64 ((K + k : Nat) : Int) ∧ i = .int .i64 k ∧ Own wr lo hi 4 1 (.slice a1 xs.length c1) xs.length ys ∧ ys.take k = (bools (marksB K xs.length)).take k ∧ Out lo hi w wr) (fun _ i _ => xs.length - (intOf i).toNat)
  case atStart => exact ⟨0, _, Nat.zero_le _, rfl, rfl, h, rfl, Out.refl _ _ _⟩
  case round =>
    obtain ⟨k, ys, hk, rfl, rfl, ho, ht, hbw⟩ := hrel
    have HT : Hid (ys.take k = (bools (marksB K xs.length)).take k) := ht
    clear ht h
    by_cases hlt : k < xs.length
    · have hyl : ys.length = xs.length := by rw [ho.1.1, Nat.mul_one]
      obtain ⟨g, cap, hv, hg1, hg2, hg3, hf, u0, hc⟩ := ho.at (j := k) (by omega)
      cases hv
      have HY : Hid (ys.length = xs.length) := hyl
      clear hyl
      go_wp2
      go_roundw
      case rel =>
        refine ⟨k + 1, _, by omega, by go_num, by go_num, ho.setCell (by have := HY.out; omega) _, ?_, hbw.setCell hg1 hg2 _⟩
        rw [take_set_succ _ _ _ (by have := HY.out; omega), HT.out, take_succ_get (bools _) k (by simpa [marksB] using hlt)]
        simp [marksB]
      case measure => simp [intOf]; omega
    · go_wp2
      go_ret
      obtain rfl : k = xs.length := by omega
      have he : ys = bools (marksB K xs.length) := take_eq_all HT.out (by rw [ho.1.1]; omega) (by simp [marksB])
      subst he
      exact ⟨rfl, ho, hbw⟩

set_option maxHeartbeats 400000 in
theorem heldBoolS_any (v : Value) (n K : Nat) (w : World) (h : Row w v n 1 (bools (marksB K n))) (hK : K + n ≤ 9000000000000000000) :
    Calls Tryd.prog 16 #[v, .int .i64 K] w fun e w' => e = .returned (.int .i64 (K + n : Nat)) ∧ ∃ m, w' = w.drewN m := by
  obtain ⟨a1, c1, rfl, -, hm1, -, hc1⟩ := h.open1
  clear h
  go_enter Tryd.func16, Tryd.ntmps16
  go_wp2
  go_loopw [1, 5] (fun q i wr => ∃ (k : Nat), k ≤ n ∧ q = .int .i64 ((K + k : Nat) : Int) ∧ i = .int .i64 k ∧ ∃ m, wr = w.drewN m) (fun _ i _ => n - (intOf i).toNat)
  case atStart => exact ⟨0, Nat.zero_le _, rfl, rfl, 0, rfl⟩
  case round =>
    obtain ⟨k, hk, rfl, rfl, nd, rfl⟩ := hrel
    by_cases hlt : k < n
    · obtain ⟨b1, o1, rfl, hb1, hx⟩ := hc1 k hlt
      rw [bools_get _ _ (by simpa [marksB] using hlt), marksB_get] at hx
      clear hc1
      go_wp2
      go_roundw
      case rel => exact ⟨k + 1, by omega, by go_num, by go_num, _, rfl⟩
      case measure => simp [intOf]; omega
    · go_wp2
      go_ret
      obtain rfl : k = n := by omega
      exact ⟨rfl, _, rfl⟩

end Go.Proofs.YtooifghhgnlcoaaDoor
