/-
  The laws' helpers on code (two slices of ints, a slice of instructions), a contract each. Conditions: the arguments are code.
-/
import Derived.Test.YtgpkdfefgcpbiaaLawIns
namespace Go.Proofs.Ytgpkdfefgcpbiaa
set_option linter.unusedVariables false
set_option linter.unusedSimpArgs false
open Go Go.RowKit

def CodeRow (w : World) (v : Value) (c : LCode) : Prop :=
  ∃ v1 v2 v3, v = .agg #[v1, v2, v3] ∧ Row w v1 c.vars.length 1 (ints c.vars) ∧ Row w v2 c.arrays.length 1 (ints c.arrays) ∧ InsRow w v3 c.list

def CodeOwn (w : World) (lo hi : Nat) (v : Value) (c : LCode) : Prop :=
  ∃ v1 v2 v3, v = .agg #[v1, v2, v3] ∧ Own w lo hi 3 1 v1 c.vars.length (ints c.vars) ∧ Own w lo hi 3 1 v2 c.arrays.length (ints c.arrays) ∧ Own w lo hi 153 5 v3 c.list.length (ints (insF c.list)) ∧
    Disj v1 v2 ∧ Disj v1 v3 ∧ Disj v2 v3

theorem CodeRow.below {w w' : World} {v : Value} {c : LCode} (h : CodeRow w v c) (hb : Below w.heap.size w w') : CodeRow w' v c := by
  obtain ⟨v1, v2, v3, rfl, h1, h2, h3⟩ := h
  exact ⟨v1, v2, v3, rfl, h1.below hb, h2.below hb, h3.below hb⟩
theorem CodeOwn.row {w : World} {lo hi : Nat} {v : Value} {c : LCode} (h : CodeOwn w lo hi v c) : CodeRow w v c := by
  obtain ⟨v1, v2, v3, rfl, h1, h2, h3, _⟩ := h
  exact ⟨v1, v2, v3, rfl, h1.row, h2.row, h3.row⟩
theorem CodeOwn.keep {w w' : World} {lo hi B : Nat} {v : Value} {c : LCode} (h : CodeOwn w lo hi v c) (hb : Below B w w') (hB : hi ≤ B) : CodeOwn w' lo hi v c := by
  obtain ⟨v1, v2, v3, rfl, h1, h2, h3, hd⟩ := h
  exact ⟨v1, v2, v3, rfl, h1.keep hb hB, h2.keep hb hB, h3.keep hb hB, hd⟩
theorem CodeOwn.out {w w' : World} {lo hi lo' hi' : Nat} {v : Value} {c : LCode} (h : CodeOwn w lo hi v c) (hb : Out lo' hi' w w') (hB : hi ≤ lo' ∨ hi' ≤ lo) : CodeOwn w' lo hi v c := by
  obtain ⟨v1, v2, v3, rfl, h1, h2, h3, hd⟩ := h
  exact ⟨v1, v2, v3, rfl, h1.out hb hB, h2.out hb hB, h3.out hb hB, hd⟩
theorem CodeOwn.wide {w : World} {lo hi lo' hi' : Nat} {v : Value} {c : LCode} (h : CodeOwn w lo hi v c) (h1 : lo' ≤ lo) (h2 : hi ≤ hi') : CodeOwn w lo' hi' v c := by
  obtain ⟨v1, v2, v3, rfl, g1, g2, g3, hd⟩ := h
  exact ⟨v1, v2, v3, rfl, g1.wide h1 h2, g2.wide h1 h2, g3.wide h1 h2, hd⟩



set_option maxHeartbeats 1000000 in
theorem eqCode_any (v u : Value) (c d : LCode) (w : World) (h : CodeRow w v c) (h' : CodeRow w u d) :
    Calls Try.prog 56 #[v, u] w fun e w' => e = .returned (.bool (c.same d)) ∧ Below w.heap.size w w' := by
  obtain ⟨v1, v2, v3, rfl, h1, h2, h3⟩ := h
  obtain ⟨u1, u2, u3, rfl, g1, g2, g3⟩ := h'
  obtain ⟨W, hW⟩ : ∃ W, W = ((w.alloc (.cells #[v1, v2, v3] 77)).alloc (.cells #[u1, u2, u3] 77)) := ⟨_, rfl⟩
  have B0 : Below w.heap.size w W := by rw [hW]; go_grown
  have L1 : Blk W w.heap.size [v1, v2, v3] := by rw [hW]; exact (Blk.new w [v1, v2, v3] _).alloc _
  have L2 : Blk W (w.heap.size + 1) [u1, u2, u3] := by rw [hW]; exact Blk.new' (w.alloc _) [u1, u2, u3] _ (by simp)
  have hs : Hid (c.same d = (decide (c.vars = d.vars) && decide (c.arrays = d.arrays) && decide (insF c.list = insF d.list))) := rfl
  go_enter Try.func56, Try.ntmps56
  go_wp2_with fail
  rw [← hW]
  clear hW
  refine (eqIntS_any v1 u1 _ _ _ (h1.below B0) (g1.below B0)).mono ?_
  rintro e w1 ⟨rfl, n1, rfl⟩
  by_cases q1 : c.vars = d.vars
  · rw [decide_eq_true q1]
    have x1 := L1.cell 1
    have x2 := L1.cell 2
    have y1 := L2.cell 1
    have y2 := L2.cell 2
    simp at x1 x2 y1 y2
    go_wp2_with fail
    refine (eqIntS_any v2 u2 _ _ _ (h2.below (below_drewN B0 n1)) (g2.below (below_drewN B0 n1))).mono ?_
    rintro e w1 ⟨rfl, n2, rfl⟩
    by_cases q2 : c.arrays = d.arrays
    · rw [decide_eq_true q2]
      go_wp2_with fail
      refine (eqInstrS_any v3 u3 _ _ _ (h3.below (below_drewN B0 (n1 + n2))) (g3.below (below_drewN B0 (n1 + n2)))).mono ?_
      rintro e w1 ⟨rfl, b1⟩
      have BF := (below_drewN B0 (n1 + n2)).trans (b1.mono B0.size)
      by_cases q3 : insF c.list = insF d.list
      · rw [decide_eq_true q3]
        go_wp2_with fail
        go_ret
        exact ⟨ret_bool (by rw [hs.out, decide_eq_true q1, decide_eq_true q2, decide_eq_true q3]; rfl), BF⟩
      · rw [decide_eq_false q3]
        go_wp2_with fail
        go_ret
        exact ⟨ret_bool (by rw [hs.out, decide_eq_false q3]; simp), BF⟩
    · rw [decide_eq_false q2]
      go_wp2_with fail
      go_ret
      exact ⟨ret_bool (by rw [hs.out, decide_eq_false q2]; simp), below_drewN B0 (n1 + n2)⟩
  · rw [decide_eq_false q1]
    go_wp2_with fail
    go_ret
    exact ⟨ret_bool (by rw [hs.out, decide_eq_false q1]; simp), below_drewN B0 n1⟩


/-- Two values do not lie in one block. -/
def CodeMarks (w : World) (v : Value) (K nv na nl : Nat) : Prop :=
  ∃ v1 v2 v3, v = .agg #[v1, v2, v3] ∧ Row w v1 nv 1 (ints (marksI K nv)) ∧ Row w v2 na 1 (ints (marksI (K + nv) na)) ∧ Row w v3 nl 5 (ints (marksI (K + nv + na) (nl * 5)))
theorem CodeMarks.below {w w' : World} {v : Value} {K nv na nl : Nat} (h : CodeMarks w v K nv na nl) (hb : Below w.heap.size w w') : CodeMarks w' v K nv na nl := by
  obtain ⟨v1, v2, v3, rfl, h1, h2, h3⟩ := h
  exact ⟨v1, v2, v3, rfl, h1.below hb, h2.below hb, h3.below hb⟩

set_option maxHeartbeats 1000000 in
theorem markCode_any (v : Value) (c : LCode) (K lo hi : Nat) (w : World) (h : CodeOwn w lo hi v c) (hh : hi ≤ w.heap.size) (hK : K + c.vars.length + c.arrays.length + c.list.length * 5 ≤ 9000000000000000000) :
    Calls Try.prog 57 #[v, .int .i64 K] w fun e w' => e = .returned (.int .i64 (K + c.vars.length + c.arrays.length + c.list.length * 5 : Nat)) ∧ CodeMarks w' v K c.vars.length c.arrays.length c.list.length ∧ Out lo hi w w' := by
  obtain ⟨v1, v2, v3, rfl, h1, h2, h3, d1, d2, d3⟩ := h
  obtain ⟨W, hW⟩ : ∃ W, W = (w.alloc (.cells #[v1, v2, v3] 77)) := ⟨_, rfl⟩
  have B0 : Below w.heap.size w W := by rw [hW]; go_grown
  have L1 : Blk W w.heap.size [v1, v2, v3] := by rw [hW]; exact (Blk.new w [v1, v2, v3] _)
  have O0 : Out lo hi w W := Out.of_below B0 (Nat.le_refl _)
  replace h1 := h1.keep B0 hh
  replace h2 := h2.keep B0 hh
  replace h3 := h3.keep B0 hh
  obtain ⟨l1, k1, i1, j1, t1, m1⟩ := h1.tight
  obtain ⟨l2, k2, i2, j2, t2, m2⟩ := h2.tight
  obtain ⟨l3, k3, i3, j3, t3, m3⟩ := h3.tight
  have e1 := (rfl : K = K)
  clear e1
  go_enter Try.func57, Try.ntmps57
  go_wp2_with fail
  rw [← hW]
  clear hW
  refine (markIntS_any v1 c.vars K l1 k1 _ t1 (by omega)).mono ?_
  rintro e w1 ⟨rfl, p1, q1⟩
  replace t2 := t2.disj q1 m1 d1
  replace t3 := t3.disj q1 m1 d2
  replace L1 := L1.out q1 (by omega)
  have x1 := L1.cell 1
  have x2 := L1.cell 2
  have f0 := L1.free
  simp at x1 x2
  have O1 := O0.trans (q1.wide i1 j1)
  go_wp2_with fail
  refine (markIntS_any v2 c.arrays (K + c.vars.length) l2 k2 _ t2 (by omega)).mono ?_
  rintro e w2 ⟨rfl, p2, q2⟩
  replace t3 := t3.disj q2 m2 d3
  replace p1 := p1.disj q2 m2 d1.symm
  replace L1 := L1.out q2 (by omega)
  clear x1 x2 f0
  have x2 := L1.cell 2
  have f0 := L1.free
  simp at x2
  have O2 := O1.trans (q2.wide i2 j2)
  go_wp2_with fail
  refine (markInstrS_any v3 c.list.length _ (K + c.vars.length + c.arrays.length) l3 k3 _ t3 (by omega)).mono ?_
  rintro e w3 ⟨rfl, p3, q3⟩
  replace p1 := p1.disj q3 m3 d2.symm
  replace p2 := p2.disj q3 m3 d3.symm
  have O3 := O2.trans (q3.wide i3 j3)
  go_wp2_with fail
  go_ret
  exact ⟨rfl, ⟨_, _, _, rfl, p1.row, p2.row, p3.row⟩, O3⟩

set_option maxHeartbeats 1000000 in
theorem heldCode_any (v : Value) (K nv na nl : Nat) (w : World) (h : CodeMarks w v K nv na nl) (hK : K + nv + na + nl * 5 ≤ 9000000000000000000) :
    Calls Try.prog 58 #[v, .int .i64 K] w fun e w' => e = .returned (.int .i64 (K + nv + na + nl * 5 : Nat)) ∧ Below w.heap.size w w' := by
  obtain ⟨v1, v2, v3, rfl, h1, h2, h3⟩ := h
  obtain ⟨W, hW⟩ : ∃ W, W = (w.alloc (.cells #[v1, v2, v3] 77)) := ⟨_, rfl⟩
  have B0 : Below w.heap.size w W := by rw [hW]; go_grown
  have L1 : Blk W w.heap.size [v1, v2, v3] := by rw [hW]; exact (Blk.new w [v1, v2, v3] _)
  have x1 := L1.cell 1
  have x2 := L1.cell 2
  simp at x1 x2
  go_enter Try.func58, Try.ntmps58
  go_wp2_with fail
  rw [← hW]
  clear hW
  refine (heldIntS_any v1 nv K _ (h1.below B0) (by omega)).mono ?_
  rintro e w1 ⟨rfl, n1, rfl⟩
  go_wp2_with fail
  refine (heldIntS_any v2 na (K + nv) _ (h2.below (below_drewN B0 n1)) (by omega)).mono ?_
  rintro e w1 ⟨rfl, n2, rfl⟩
  go_wp2_with fail
  refine (heldInstrS_any v3 nl (K + nv + na) _ (h3.below (below_drewN B0 (n1 + n2))) (by omega)).mono ?_
  rintro e w1 ⟨rfl, n3, rfl⟩
  go_wp2_with fail
  go_ret
  exact ⟨rfl, below_drewN B0 _⟩

end Go.Proofs.Ytgpkdfefgcpbiaa
