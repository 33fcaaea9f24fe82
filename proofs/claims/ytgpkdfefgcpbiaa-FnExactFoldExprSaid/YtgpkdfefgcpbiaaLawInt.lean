/-
  The laws' helpers on slices of ints, a contract each. Conditions: the arguments are slices of ints.
-/
import Derived.Test.YtgpkdfefgcpbiaaRows
import Derived.Test.YtgpkdfefgcpbiaaLib
import Derived.Deep.QuietTactic
import Derived.BigQuiet
namespace Go.Proofs.Ytgpkdfefgcpbiaa
set_option linter.unusedVariables false
set_option linter.unusedSimpArgs false
open Go Go.RowKit

abbrev ints (l : List Int) : List Value := l.map (Value.int .i64)

theorem ints_get (l : List Int) (k : Nat) (h : k < l.length) : (ints l)[k]? = some (.int .i64 l[k]) := by simp [ints, h]
theorem ints_len (l : List Int) : (ints l).length = l.length := by simp [ints]
theorem infoI : (Try.prog.info? 3).map (fun i => (i.zero, i.size, i.bytes)) = some (some (.int .i64 0), 1, 8) := by kernel_rfl

set_option maxHeartbeats 400000 in
theorem eqIntS_any (v1 v2 : Value) (xs ys : List Int) (w : World) (h1 : Row w v1 xs.length 1 (ints xs)) (h2 : Row w v2 ys.length 1 (ints ys)) :
    Calls Try.prog 33 #[v1, v2] w fun e w' => e = .returned (.bool (decide (xs = ys))) ∧ ∃ n, w' = w.drewN n := by
  obtain ⟨a1, c1, rfl, -, hm1, -, hc1⟩ := h1.open1
  obtain ⟨a2, c2, rfl, -, hm2, -, hc2⟩ := h2.open1
  by_cases hl : xs.length = ys.length
  · rw [← hl] at hc2 ⊢
    clear h1 h2 hm2
    go_enter Try.func33, Try.ntmps33
    go_wp2
    go_loopw [5] (fun i wr => ∃ k : Nat, k ≤ xs.length ∧ i = .int .i64 k ∧ xs.take k = ys.take k ∧ ∃ n, wr = w.drewN n) (fun i _ => xs.length - (intOf i).toNat)
    case atStart => exact ⟨0, Nat.zero_le _, rfl, rfl, 0, rfl⟩
    case round =>
      obtain ⟨k, hk, rfl, ht, nd, rfl⟩ := hrel
      have HT : Hid (xs.take k = ys.take k) := ht
      clear ht
      have HL : Hid (xs.length = ys.length) := hl
      clear hl
      by_cases hlt : k < xs.length
      · have hlt2 : k < ys.length := by have := HL.out; omega
        obtain ⟨b1, o1, rfl, hb1, hx⟩ := hc1 k hlt
        obtain ⟨b2, o2, rfl, hb2, hy⟩ := hc2 k hlt
        rw [ints_get _ _ hlt] at hx
        rw [ints_get _ _ hlt2] at hy
        clear hc1 hc2
        go_wp2
        go_quiet (fail)
        go_wp2
        · rename_i hd
          go_ret
          exact ⟨ret_bool (by symm; simp; intro h; subst h; simp at hd), _, by first | rfl | exact World.drewN_drewN _ _ _⟩
        · rename_i hd
          refine ⟨⟨k + 1, by omega, by go_num, take_eq_succ HT.out hlt hlt2 (by simpa using hd), _, by first | rfl | exact World.drewN_drewN _ _ _⟩, by simp [intOf]; omega⟩
      · go_wp2
        go_ret
        exact ⟨ret_bool (by symm; simp; exact take_eq_all HT.out (by omega) (by have := HL.out; omega)), _, rfl⟩
  · have hne : ((xs.length : Int) == (ys.length : Int)) = false := by simp; omega
    clear hc1 hc2
    go_enter Try.func33, Try.ntmps33
    go_wp2
    go_ret
    exact ⟨ret_bool (by symm; simp; intro h; exact hl (by rw [h])), 0, rfl⟩

theorem szIntS_any (v : Value) (n : Nat) (xs : List Value) (m : Int) (w : World) (h : Row w v n 1 xs) (hm : 0 ≤ m) (hm2 : m ≤ 1048576) :
    Calls Try.prog 63 #[v, .int .i64 m] w fun e w' => e = .returned (.int .i64 (szRes m n)) ∧ w = w' := by
  obtain ⟨a1, c1, rfl, -, hm1, -, hc1⟩ := h.open1
  clear hc1 h
  by_cases hlt : m < n
  all_goals
    go_enter Try.func63, Try.ntmps63
    go_wp2
    go_ret
    exact ⟨ret_int (by unfold szRes; split <;> omega), rfl⟩

set_option maxHeartbeats 400000 in
theorem toIntS_any (v : Value) (xs : List Int) (w : World) (h : Row w v xs.length 1 (ints xs)) (hb : xs.length ≤ 17592186044416) :
    Calls Try.prog 66 #[v] w fun e w' => ∃ u, e = .returned u ∧ Own w' w.heap.size w'.heap.size 3 1 u xs.length (ints xs) ∧ Below w.heap.size w w' := by
  obtain ⟨a1, c1, rfl, -, hm1, -, hc1⟩ := h.open1
  clear h
  have hmk := make_run (P := Try.prog) (t := 22) Try.underlying22 infoI rfl (by omega) xs.length (by omega) hm1
  have hown := own_made w (Value.int .i64 0).cells.toList xs.length 1 3 rfl hm1
  go_enter Try.func66, Try.ntmps66
  go_wp2
  clear hmk
  go_loopw [4] (fun i wr => ∃ (k : Nat) (ys : List Value), k ≤ xs.length ∧ i = .int .i64 k ∧ Own wr w.heap.size (w.heap.size + 1) 3 1 (.slice (some ⟨w.heap.size, 0, none⟩) xs.length xs.length) xs.length ys ∧ ys.take k = (ints xs).take k ∧ Below w.heap.size w wr) (fun i _ => xs.length - (intOf i).toNat)
  case atStart => exact ⟨0, _, Nat.zero_le _, rfl, hown, rfl, (Below.refl _ _).alloc (Nat.le_refl _) _⟩
  case round =>
    obtain ⟨k, ys, hk, rfl, ho, ht, hbw⟩ := hrel
    have HT : Hid (ys.take k = (ints xs).take k) := ht
    clear ht hown
    by_cases hlt : k < xs.length
    · obtain ⟨b1, o1, rfl, hb1, hx⟩ := hc1 k hlt
      rw [ints_get _ _ hlt, ← (bcell hbw).1 _ _ hb1] at hx
      have hyl : ys.length = xs.length := by rw [ho.1.1, Nat.mul_one]
      obtain ⟨g, cap, hv, hg1, hg2, hg3, hf, u0, hc⟩ := ho.at (j := k) (by omega)
      cases hv
      have HY : Hid (ys.length = xs.length) := hyl
      clear hc1 hyl
      go_wp2
      go_roundw
      case rel =>
        refine ⟨k + 1, ys.set k (.int .i64 xs[k]), by omega, by go_num, ho.setCell (by have := HY.out; omega) _, ?_, hbw.setCell (Nat.le_refl _) _⟩
        rw [take_set_succ _ _ _ (by have := HY.out; omega), HT.out, take_succ_get (ints xs) k (by simpa using hlt)]
        simp
      case measure => simp [intOf]; omega
    · go_wp2
      go_ret
      have he : ys = ints xs := take_eq_all HT.out (by rw [ho.1.1]; omega) (by simp; omega)
      subst he
      exact ⟨_, rfl, ho.wide (Nat.le_refl _) (by have := ho.lt _ rfl; omega), hbw⟩

/-- The marks from K on. -/
def marksI (K n : Nat) : List Int := (List.range n).map fun (j : Nat) => ((K : Int) + (j : Int))
theorem marksI_len (K n : Nat) : (marksI K n).length = n := by simp [marksI]
theorem marksI_get (K n j : Nat) (h : j < (marksI K n).length) : (marksI K n)[j] = (K : Int) + (j : Int) := by simp [marksI]

set_option maxHeartbeats 400000 in
theorem markIntS_any (v : Value) (xs : List Int) (K lo hi : Nat) (w : World) (h : Own w lo hi 3 1 v xs.length (ints xs)) (hK : K + xs.length ≤ 9000000000000000000) :
    Calls Try.prog 34 #[v, .int .i64 K] w fun e w' => e = .returned (.int .i64 (K + xs.length : Nat)) ∧ Own w' lo hi 3 1 v xs.length (ints (marksI K xs.length)) ∧ Out lo hi w w' := by
  obtain ⟨a1, c1, rfl, -, hm1, -, -⟩ := h.row.open1
  go_enter Try.func34, Try.ntmps34
  go_wp2
  go_loopw [1, 5] (fun q i wr => ∃ (k : Nat) (ys : List Value), k ≤ xs.length ∧ q = .int .i64 ((K + k : Nat) : Int) ∧ i = .int .i64 k ∧ Own wr lo hi 3 1 (.slice a1 xs.length c1) xs.length ys ∧ ys.take k = (ints (marksI K xs.length)).take k ∧ Out lo hi w wr) (fun _ i _ => xs.length - (intOf i).toNat)
  case atStart => exact ⟨0, _, Nat.zero_le _, rfl, rfl, h, rfl, Out.refl _ _ _⟩
  case round =>
    obtain ⟨k, ys, hk, rfl, rfl, ho, ht, hbw⟩ := hrel
    have HT : Hid (ys.take k = (ints (marksI K xs.length)).take k) := ht
    clear ht h
    by_cases hlt : k < xs.length
    · have hyl : ys.length = xs.length := by rw [ho.1.1, Nat.mul_one]
      obtain ⟨g, cap, hv, hg1, hg2, hg3, hf, u0, hc⟩ := ho.at (j := k) (by omega)
      cases hv
      have HY : Hid (ys.length = xs.length) := hyl
      clear hyl
      go_wp2
      go_roundw
      case rel =>
        refine ⟨k + 1, _, by omega, by go_num, by go_num, ho.setCell (by have := HY.out; omega) _, ?_, hbw.setCell hg1 hg2 _⟩
        rw [take_set_succ _ _ _ (by have := HY.out; omega), HT.out, take_succ_get (ints _) k (by simpa [marksI] using hlt)]
        simp [marksI]
      case measure => simp [intOf]; omega
    · go_wp2
      go_ret
      obtain rfl : k = xs.length := by omega
      have he : ys = ints (marksI K xs.length) := take_eq_all HT.out (by rw [ho.1.1]; omega) (by simp [marksI])
      subst he
      exact ⟨rfl, ho, hbw⟩

set_option maxHeartbeats 400000 in
theorem heldIntS_any (v : Value) (n K : Nat) (w : World) (h : Row w v n 1 (ints (marksI K n))) (hK : K + n ≤ 9000000000000000000) :
    Calls Try.prog 35 #[v, .int .i64 K] w fun e w' => e = .returned (.int .i64 (K + n : Nat)) ∧ ∃ m, w' = w.drewN m := by
  obtain ⟨a1, c1, rfl, -, hm1, -, hc1⟩ := h.open1
  clear h
  go_enter Try.func35, Try.ntmps35
  go_wp2
  go_loopw [1, 5] (fun q i wr => ∃ (k : Nat), k ≤ n ∧ q = .int .i64 ((K + k : Nat) : Int) ∧ i = .int .i64 k ∧ ∃ m, wr = w.drewN m) (fun _ i _ => n - (intOf i).toNat)
  case atStart => exact ⟨0, Nat.zero_le _, rfl, rfl, 0, rfl⟩
  case round =>
    obtain ⟨k, hk, rfl, rfl, nd, rfl⟩ := hrel
    by_cases hlt : k < n
    · obtain ⟨b1, o1, rfl, hb1, hx⟩ := hc1 k hlt
      rw [ints_get _ _ (by simpa [marksI] using hlt), marksI_get] at hx
      clear hc1
      go_wp2
      go_roundw
      case rel => exact ⟨k + 1, by omega, by go_num, by go_num, _, rfl⟩
      case measure => simp [intOf]; omega
    · go_wp2
      go_ret
      obtain rfl : k = n := by omega
      exact ⟨rfl, _, rfl⟩

end Go.Proofs.Ytgpkdfefgcpbiaa
