/-
  Threading of jumps: an instruction's target, an instruction with another target, the end of a chain. Conditions: valid code.
-/
import Derived.Test.YtjlnaiifegjneaaReach
import Derived.Test.YtjlnaiifegjneaaPure8
namespace Go.Proofs.Ytjlnaiifegjneaa
open Go Go.RowKit

theorem spec_l8Target (x : LIns) (w : World) :
    Calls Try.prog 95 #[x.v] w fun e w' => e = .returned (.int .i64 (tgtOf x)) ∧ Below w.heap.size w w' := by
  obtain ⟨x0, x1, x2, x3, x4⟩ := x
  by_cases h8 : x0 = 8
  · have HN := show Hid (tgtOf ⟨x0, x1, x2, x3, x4⟩ = x1) from by simp [Hid, tgtOf, h8]
    have q8 : (x0 == 8) = true := by simp [h8]
    clear h8
    go_enter Try.func95, Try.ntmps95
    go_wp2_with fail
    go_ret
    exact ⟨ret_int HN.out.symm, by go_grown⟩
  · have q8 : (x0 == 8) = false := by simp [h8]
    by_cases h9 : x0 = 9 ∨ x0 = 10
    · have HN := show Hid (tgtOf ⟨x0, x1, x2, x3, x4⟩ = x2) from by simp [Hid, tgtOf, h8, h9]
      have h9' : (x0 == 9) = true ∨ ((x0 == 9) = false ∧ (x0 == 10) = true) := by
        rcases h9 with h9 | h9
        · left; simp [h9]
        · right; simp [h9]
      clear h8 h9
      rcases h9' with q9 | ⟨q9, q10⟩
      all_goals
        go_enter Try.func95, Try.ntmps95
        go_wp2_with fail
        go_ret
        exact ⟨ret_int HN.out.symm, by go_grown⟩
    · have HN := show Hid (tgtOf ⟨x0, x1, x2, x3, x4⟩ = -1) from by simp [Hid, tgtOf, h8, h9]
      have q9 : (x0 == 9) = false := by simp; omega
      have q10 : (x0 == 10) = false := by simp; omega
      clear h8 h9
      go_enter Try.func95, Try.ntmps95
      go_wp2_with fail
      go_ret
      exact ⟨ret_int HN.out.symm, by go_grown⟩

theorem spec_l8Aim (x : LIns) (t : Int) (w : World) :
    Calls Try.prog 96 #[x.v, .int .i64 t] w fun e w' => e = .returned (aimF x t).v ∧ Below w.heap.size w w' := by
  obtain ⟨x0, x1, x2, x3, x4⟩ := x
  by_cases h8 : x0 = 8
  · have HN := show Hid (aimF ⟨x0, x1, x2, x3, x4⟩ t = ⟨x0, t, x2, x3, x4⟩) from by simp [Hid, aimF, h8]
    have q8 : (x0 == 8) = true := by simp [h8]
    have q9 : (x0 == 9) = false := by simp [h8]
    have q10 : (x0 == 10) = false := by simp [h8]
    clear h8
    go_enter Try.func96, Try.ntmps96
    go_wp2_with fail
    refine bodyPost_ret (v := .agg #[.int .i64 x0, .int .i64 t, .int .i64 x2, .int .i64 x3, .int .i64 x4]) (by simp [results, Try.results96, go_sem]) rfl ⟨by rw [HN.out], by go_grown⟩
  · have q8 : (x0 == 8) = false := by simp [h8]
    by_cases h9 : x0 = 9 ∨ x0 = 10
    · have HN := show Hid (aimF ⟨x0, x1, x2, x3, x4⟩ t = ⟨x0, x1, t, x3, x4⟩) from by simp [Hid, aimF, h8, h9]
      have h9' : (x0 == 9) = true ∨ ((x0 == 9) = false ∧ (x0 == 10) = true) := by
        rcases h9 with h9 | h9
        · left; simp [h9]
        · right; simp [h9]
      clear h8 h9
      rcases h9' with q9 | ⟨q9, q10⟩
      all_goals
        go_enter Try.func96, Try.ntmps96
        go_wp2_with fail
        refine bodyPost_ret (v := .agg #[.int .i64 x0, .int .i64 x1, .int .i64 t, .int .i64 x3, .int .i64 x4]) (by simp [results, Try.results96, go_sem]) rfl ⟨by rw [HN.out], by go_grown⟩
    · have HN := show Hid (aimF ⟨x0, x1, x2, x3, x4⟩ t = ⟨x0, x1, x2, x3, x4⟩) from by simp [Hid, aimF, h8, h9]
      have q9 : (x0 == 9) = false := by simp; omega
      have q10 : (x0 == 10) = false := by simp; omega
      clear h8 h9
      go_enter Try.func96, Try.ntmps96
      go_wp2_with fail
      refine bodyPost_ret (v := .agg #[.int .i64 x0, .int .i64 x1, .int .i64 x2, .int .i64 x3, .int .i64 x4]) (by simp [results, Try.results96, go_sem]) rfl ⟨by rw [HN.out], by go_grown⟩

theorem impl_to (x : LIns) (t : Int) (w : World) (h : 0 ≤ tgtOf x) :
    Calls Try.prog 99 #[x.v, .int .i64 t] w fun e w' => e = .returned (aimF x t).v ∧ Below w.heap.size w w' := by
  obtain ⟨x0, x1, x2, x3, x4⟩ := x
  by_cases h8 : x0 = 8
  · have HN := show Hid (aimF ⟨x0, x1, x2, x3, x4⟩ t = ⟨x0, t, x2, x3, x4⟩) from by simp [Hid, aimF, h8]
    have q8 : (x0 == 8) = true := by simp [h8]
    clear h8 h
    go_enter Try.func99, Try.ntmps99
    go_wp2_with fail
    refine bodyPost_ret (v := .agg #[.int .i64 x0, .int .i64 t, .int .i64 x2, .int .i64 x3, .int .i64 x4]) (by simp [results, Try.results99, go_sem]) rfl ⟨by rw [HN.out], by go_grown⟩
  · have q8 : (x0 == 8) = false := by simp [h8]
    have h9 : x0 = 9 ∨ x0 = 10 := by
      unfold tgtOf at h
      simp only at h
      rw [if_neg h8] at h
      split at h
      · assumption
      · omega
    have HN := show Hid (aimF ⟨x0, x1, x2, x3, x4⟩ t = ⟨x0, x1, t, x3, x4⟩) from by simp [Hid, aimF, h8, h9]
    clear h8 h9 h
    go_enter Try.func99, Try.ntmps99
    go_wp2_with fail
    refine bodyPost_ret (v := .agg #[.int .i64 x0, .int .i64 x1, .int .i64 t, .int .i64 x3, .int .i64 x4]) (by simp [results, Try.results99, go_sem]) rfl ⟨by rw [HN.out], by go_grown⟩

set_option maxHeartbeats 2000000 in
theorem spec_l8Final (v : Value) (c : LCode) (hc : codeOk c = true) (t : Int) (ht : placeOk c t) (w : World) (h : CodeRow w v c) :
    Calls Try.prog 97 #[v, .int .i64 t] w fun e w' => e = .returned (.int .i64 (finalT c t)) ∧ Below w.heap.size w w' := by
  obtain ⟨v1, v2, v3, rfl, h1, h2, h3⟩ := h
  obtain ⟨a3, k3, rfl, hk3, hm3, -, hc3⟩ := h3.ins
  obtain ⟨W, hW⟩ : ∃ W, W = w.alloc (.cells #[v1, v2, .slice a3 c.list.length k3] 36) := ⟨_, rfl⟩
  have B0 : Below w.heap.size w W := by rw [hW]; go_grown
  have L1 : Blk W w.heap.size [v1, v2, .slice a3 c.list.length k3] := by rw [hW]; exact (Blk.new w [v1, v2, .slice a3 c.list.length k3] _)
  have hn4 := (codeOk_parts hc).2.2.1
  have HF : Hid (finalT c t = if isJ c (chase c c.list.length t) = true then t else chase c c.list.length t) := rfl
  have hcell : ∀ i, i < c.list.length → ∃ b off, a3 = some ⟨b, off, none⟩ ∧ W.cell? ⟨b, off + i * 5, none⟩ = some (.int .i64 (insAt c i).op) ∧ W.cell? ⟨b, off + i * 5 + 1, none⟩ = some (.int .i64 (insAt c i).a) := by
    intro i hi
    obtain ⟨b, off, e, hb, i0, i1, -⟩ := hc3 i hi
    rw [← (bcell B0).1 _ _ hb] at i0 i1
    rw [insAt_get hi]
    exact ⟨b, off, e, i0, i1⟩
  have HCELL := show Hid _ from hcell
  have x2 := L1.cell 2
  simp only [List.getElem?_cons_zero, List.getElem?_cons_succ] at x2
  clear hcell hc3 h1 h2 h3
  go_enter Try.func97, Try.ntmps97
  go_wp2_with fail
  rw [← hW]
  clear hW
  go_loop [5, 6] (fun x i => ∃ (y : Nat) (k : Nat), x = .int .i64 y ∧ i = .int .i64 k ∧ k ≤ c.list.length ∧ y < c.list.length ∧ chase c (c.list.length - k) y = chase c c.list.length t) (fun _ i => c.list.length - (intOf i).toNat)
  case atStart => exact ⟨t.toNat, 0, by rw [Int.toNat_of_nonneg ht.1], rfl, Nat.zero_le _, by have := ht.1; have := ht.2; omega, by rw [Int.toNat_of_nonneg ht.1]; rfl⟩
  case round =>
    obtain ⟨y, k, rfl, rfl, hk, hy, hch⟩ := hrel
    have HCH := show Hid _ from hch
    clear hch
    obtain ⟨b, off, rfl, i0, i1⟩ := HCELL.out y hy
    have HJ : Hid (isJ c y = decide ((insAt c y).op = 8)) := by unfold Hid isJ; rw [Int.toNat_natCast]
    have HST : Hid (∀ k, isJ c y = true → chase c (k + 1) y = chase c k (insAt c y).a) := fun k h => by have := chase_step (k := k) h; rw [Int.toNat_natCast] at this; exact this
    have HPL := show Hid (isJ c y = true → placeOk c (insAt c y).a) from fun h => by have := jump_ok hc (x := (y : Int)) ⟨by omega, by omega⟩ h; rw [Int.toNat_natCast] at this; exact this
    have hyi : (y : Int) < c.list.length := by omega
    generalize insAt c y = z at *
    by_cases h8 : z.op = 8
    · have q8 : (z.op == 8) = true := by simp [h8]
      have hj : isJ c y = true := by rw [HJ.out]; exact decide_eq_true h8
      by_cases hlt : k < c.list.length
      · obtain ⟨hp0, hp1⟩ := HPL.out hj
        have hst := HST.out (c.list.length - (k + 1)) hj
        rw [show c.list.length - (k + 1) + 1 = c.list.length - k by omega, HCH.out] at hst
        have HS := show Hid _ from hst
        clear hst h8 hj
        go_wp2_with fail
        go_round
        case rel => exact ⟨z.a.toNat, k + 1, by rw [Int.toNat_of_nonneg hp0], by go_num, by omega, by omega, by rw [Int.toNat_of_nonneg hp0]; exact HS.out.symm⟩
        case measure => simp [intOf]; omega
      · have hkn : k = c.list.length := by omega
        have hch := HCH.out
        rw [hkn, Nat.sub_self, show chase c 0 (y : Int) = y from rfl] at hch
        have HR := show Hid (finalT c t = t) from by unfold Hid; rw [HF.out, ← hch, hj]; rfl
        subst hkn
        clear hch h8 hj
        go_wp2_with fail
        go_ret
        exact ⟨ret_int HR.out.symm, B0⟩
    · have q8 : (z.op == 8) = false := by simp [h8]
      have hj : isJ c y = false := by rw [HJ.out]; exact decide_eq_false h8
      have hch := HCH.out
      rw [chase_stop hj] at hch
      have HR := show Hid (finalT c t = y) from by unfold Hid; rw [HF.out, ← hch, hj]; rfl
      clear hch h8 hj
      by_cases hlt : k < c.list.length
      · go_wp2_with fail
        go_ret
        exact ⟨ret_int HR.out.symm, B0⟩
      · go_wp2_with fail
        go_ret
        exact ⟨ret_int HR.out.symm, B0⟩

end Go.Proofs.Ytjlnaiifegjneaa
