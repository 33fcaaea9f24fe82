/-
  The laws' helpers on code (two slices of ints, a slice of instructions), a contract each. Conditions: the arguments are code.
-/
import Derived.Test.YtjlnaiifegjneaaLawIns
namespace Go.Proofs.Ytjlnaiifegjneaa
open Go Go.RowKit

def CodeRow (w : World) (v : Value) (c : LCode) : Prop :=
  ∃ v1 v2 v3, v = .agg #[v1, v2, v3] ∧ Row w v1 c.vars.length 1 (ints c.vars) ∧ Row w v2 c.arrays.length 1 (ints c.arrays) ∧ InsRow w v3 c.list

def CodeOwn (w : World) (lo hi : Nat) (v : Value) (c : LCode) : Prop :=
  ∃ v1 v2 v3, v = .agg #[v1, v2, v3] ∧ Own w lo hi 3 1 v1 c.vars.length (ints c.vars) ∧ Own w lo hi 3 1 v2 c.arrays.length (ints c.arrays) ∧ Own w lo hi 66 5 v3 c.list.length (ints (insF c.list)) ∧
    Disj v1 v2 ∧ Disj v1 v3 ∧ Disj v2 v3

theorem CodeRow.below {w w' : World} {v : Value} {c : LCode} (h : CodeRow w v c) (hb : Below w.heap.size w w') : CodeRow w' v c := by
  obtain ⟨v1, v2, v3, rfl, h1, h2, h3⟩ := h
  exact ⟨v1, v2, v3, rfl, h1.below hb, h2.below hb, h3.below hb⟩
theorem CodeOwn.row {w : World} {lo hi : Nat} {v : Value} {c : LCode} (h : CodeOwn w lo hi v c) : CodeRow w v c := by
  obtain ⟨v1, v2, v3, rfl, h1, h2, h3, _⟩ := h
  exact ⟨v1, v2, v3, rfl, h1.row, h2.row, h3.row⟩
theorem CodeOwn.keep {w w' : World} {lo hi B : Nat} {v : Value} {c : LCode} (h : CodeOwn w lo hi v c) (hb : Below B w w') (hB : hi ≤ B) : CodeOwn w' lo hi v c := by
  obtain ⟨v1, v2, v3, rfl, h1, h2, h3, hd⟩ := h
  exact ⟨v1, v2, v3, rfl, h1.keep hb hB, h2.keep hb hB, h3.keep hb hB, hd⟩
theorem CodeOwn.out {w w' : World} {lo hi lo' hi' : Nat} {v : Value} {c : LCode} (h : CodeOwn w lo hi v c) (hb : Out lo' hi' w w') (hB : hi ≤ lo' ∨ hi' ≤ lo) : CodeOwn w' lo hi v c := by
  obtain ⟨v1, v2, v3, rfl, h1, h2, h3, hd⟩ := h
  exact ⟨v1, v2, v3, rfl, h1.out hb hB, h2.out hb hB, h3.out hb hB, hd⟩
theorem CodeOwn.wide {w : World} {lo hi lo' hi' : Nat} {v : Value} {c : LCode} (h : CodeOwn w lo hi v c) (h1 : lo' ≤ lo) (h2 : hi ≤ hi') : CodeOwn w lo' hi' v c := by
  obtain ⟨v1, v2, v3, rfl, g1, g2, g3, hd⟩ := h
  exact ⟨v1, v2, v3, rfl, g1.wide h1 h2, g2.wide h1 h2, g3.wide h1 h2, hd⟩

set_option maxHeartbeats 1000000 in
theorem szCode_any (v1 v2 v3 : Value) (n1 n2 n3 : Nat) (x1 x2 x3 : List Value) (m : Int) (w : World) (h1 : Row w v1 n1 1 x1) (h2 : Row w v2 n2 1 x2) (h3 : Row w v3 n3 5 x3) (hm : 0 ≤ m) (hm2 : m ≤ 1048576) :
    Calls Try.prog 17 #[.agg #[v1, v2, v3], .int .i64 m] w fun e w' => e = .returned (.int .i64 (szRes m (n1 + n2 + n3))) ∧ Below w.heap.size w w' := by
  have g1 := h1.below ((Below.refl _ _).alloc (Nat.le_refl _) (.cells #[v1, v2, v3] 31))
  have g2 := h2.below ((Below.refl _ _).alloc (Nat.le_refl _) (.cells #[v1, v2, v3] 31))
  have g3 := h3.below ((Below.refl _ _).alloc (Nat.le_refl _) (.cells #[v1, v2, v3] 31))
  go_enter Try.func17, Try.ntmps17
  go_wp2_with fail
  refine (szIntS_any v1 n1 x1 m _ g1 hm hm2).mono ?_
  rintro e w1 ⟨rfl, rfl⟩
  by_cases c1 : m < (n1 : Int)
  · rw [szRes_neg c1]
    go_wp2_with fail
    go_ret
    exact ⟨ret_int (szRes_neg (by omega)).symm, by go_grown⟩
  · rw [szRes_pos c1]
    go_wp2_with fail
    refine (szIntS_any v2 n2 x2 _ _ g2 (by omega) (by omega)).mono ?_
    rintro e w1 ⟨rfl, rfl⟩
    by_cases c2 : m - n1 < (n2 : Int)
    · rw [szRes_neg c2]
      go_wp2_with fail
      go_ret
      exact ⟨ret_int (szRes_neg (by omega)).symm, by go_grown⟩
    · rw [szRes_pos c2]
      go_wp2_with fail
      refine (szInstrS_any v3 n3 x3 _ _ g3 (by omega) (by omega)).mono ?_
      rintro e w1 ⟨rfl, rfl⟩
      by_cases c3 : m - n1 - n2 < (n3 : Int)
      · rw [szRes_neg c3]
        go_wp2_with fail
        go_ret
        exact ⟨ret_int (szRes_neg (by omega)).symm, by go_grown⟩
      · rw [szRes_pos c3]
        go_wp2_with fail
        go_ret
        exact ⟨ret_int (by rw [szRes_pos (by omega)]; omega), by go_grown⟩

set_option maxHeartbeats 1000000 in
theorem toCode_any (v : Value) (c : LCode) (w : World) (h : CodeRow w v c) (hb : c.size ≤ 1048576) :
    Calls Try.prog 19 #[v] w fun e w' => ∃ u, e = .returned u ∧ CodeOwn w' w.heap.size w'.heap.size u c ∧ Below w.heap.size w w' := by
  obtain ⟨v1, v2, v3, rfl, h1, h2, h3⟩ := h
  unfold LCode.size at hb
  obtain ⟨W, hW⟩ : ∃ W, W = (((w.alloc (.cells #[v1, v2, v3] 31)).alloc (.cells #[.slice none 0 0, .slice none 0 0, .slice none 0 0] 36)).alloc (.cells #[.slice none 0 0, .slice none 0 0, .slice none 0 0] 36)) := ⟨_, rfl⟩
  have B0 : Below w.heap.size w W := by rw [hW]; go_grown
  have L1 : Blk W w.heap.size [v1, v2, v3] := by rw [hW]; exact ((Blk.new w [v1, v2, v3] _).alloc _).alloc _
  have L2 : Blk W (w.heap.size + 1) [.slice none 0 0, .slice none 0 0, .slice none 0 0] := by rw [hW]; exact (Blk.new' (w.alloc _) [.slice none 0 0, .slice none 0 0, .slice none 0 0] _ (by simp)).alloc _
  have L3 : Blk W (w.heap.size + 1 + 1) [.slice none 0 0, .slice none 0 0, .slice none 0 0] := by rw [hW]; exact Blk.new' ((w.alloc _).alloc _) [.slice none 0 0, .slice none 0 0, .slice none 0 0] _ (by simp)
  have hz : W.heap.size = w.heap.size + 1 + 1 + 1 := by rw [hW]; simp
  go_enter Try.func19, Try.ntmps19
  go_wp2_with fail
  rw [← hW]
  clear hW
  refine (toIntS_any v1 c.vars _ (h1.below B0) (by omega)).mono ?_
  rintro e w1 ⟨u1, rfl, o1, b1⟩
  have s1 := b1.size
  obtain ⟨a1, k1, rfl⟩ := o1.form
  replace L1 := L1.below b1 L1.lt
  replace L2 := L2.below b1 L2.lt
  replace L3 := L3.below b1 L3.lt
  have x1 := L1.cell 1
  have x2 := L1.cell 2
  have y0 := L3.cell 0
  have f0 := L3.free
  go_wp2_with fail
  clear x1 x2 y0 f0
  have B1 := (B0.trans (b1.mono (by omega))).setCell (p := ⟨w.heap.size + 1 + 1, 0, none⟩) (by show w.heap.size ≤ w.heap.size + 1 + 1; omega) (.slice a1 c.vars.length k1)
  replace L1 := L1.other (p := ⟨w.heap.size + 1 + 1, 0, none⟩) (by show w.heap.size ≠ w.heap.size + 1 + 1; omega) (.slice a1 c.vars.length k1)
  replace L2 := L2.other (p := ⟨w.heap.size + 1 + 1, 0, none⟩) (by show w.heap.size + 1 ≠ w.heap.size + 1 + 1; omega) (.slice a1 c.vars.length k1)
  replace L3 := L3.set (j := 0) (.slice a1 c.vars.length k1)
  replace o1 := o1.other (b := w.heap.size + 1 + 1) (by omega) 0 (.slice a1 c.vars.length k1)
  have z1 : (w1.setCell ⟨w.heap.size + 1 + 1, 0, none⟩ (.slice a1 c.vars.length k1)).heap.size = w1.heap.size := by simp
  generalize w1.setCell ⟨w.heap.size + 1 + 1, 0, none⟩ (.slice a1 c.vars.length k1) = W1 at *
  refine (toIntS_any v2 c.arrays _ (h2.below B1) (by omega)).mono ?_
  rintro e w2 ⟨u2, rfl, o2, b2⟩
  have s2 := b2.size
  obtain ⟨a2, k2, rfl⟩ := o2.form
  replace L1 := L1.below b2 L1.lt
  replace L2 := L2.below b2 L2.lt
  replace L3 := L3.below b2 L3.lt
  replace o1 := o1.keep b2 (by omega)
  have x2 := L1.cell 2
  have y1 := L3.cell 1
  have f0 := L3.free
  go_wp2_with fail
  clear x2 y1 f0
  have B2 := (B1.trans (b2.mono (by omega))).setCell (p := ⟨w.heap.size + 1 + 1, 1, none⟩) (by show w.heap.size ≤ w.heap.size + 1 + 1; omega) (.slice a2 c.arrays.length k2)
  replace L2 := L2.other (p := ⟨w.heap.size + 1 + 1, 1, none⟩) (by show w.heap.size + 1 ≠ w.heap.size + 1 + 1; omega) (.slice a2 c.arrays.length k2)
  replace L3 := L3.set (j := 1) (.slice a2 c.arrays.length k2)
  replace o1 := o1.other (b := w.heap.size + 1 + 1) (by omega) 1 (.slice a2 c.arrays.length k2)
  replace o2 := o2.other (b := w.heap.size + 1 + 1) (by omega) 1 (.slice a2 c.arrays.length k2)
  have z2 : (w2.setCell ⟨w.heap.size + 1 + 1, 1, none⟩ (.slice a2 c.arrays.length k2)).heap.size = w2.heap.size := by simp
  generalize w2.setCell ⟨w.heap.size + 1 + 1, 1, none⟩ (.slice a2 c.arrays.length k2) = W2 at *
  refine (toInstrS_any v3 c.list _ (h3.below B2) (by omega)).mono ?_
  rintro e w3 ⟨u3, rfl, o3, b3⟩
  have s3 := b3.size
  obtain ⟨a3, k3, rfl⟩ := o3.form
  replace L2 := L2.below b3 L2.lt
  replace L3 := L3.below b3 L3.lt
  replace o1 := o1.keep b3 (by omega)
  replace o2 := o2.keep b3 (by omega)
  have y0 := L3.cell 0
  have y1 := L3.cell 1
  have y2 := L3.cell 2
  have f0 := L3.free
  have r0 := L2.cell 0
  have r1 := L2.cell 1
  have r2 := L2.cell 2
  have f1 := L2.free
  simp at y0 y1 y2 r0 r1 r2
  go_wp2_with fail
  have hb1 : w.heap.size ≤ w.heap.size + 1 := by omega
  have BF := ((((B2.trans (b3.mono (by omega))).setCell (p := ⟨w.heap.size + 1 + 1, 2, none⟩) (by show w.heap.size ≤ w.heap.size + 1 + 1; omega) (.slice a3 c.list.length k3)).setCell (p := ⟨w.heap.size + 1, 0, none⟩) hb1 (.slice a1 c.vars.length k1)).setCell (p := ⟨w.heap.size + 1, 1, none⟩) hb1 (.slice a2 c.arrays.length k2)).setCell (p := ⟨w.heap.size + 1, 2, none⟩) hb1 (.slice a3 c.list.length k3)
  replace L2 := (((L2.other (p := ⟨w.heap.size + 1 + 1, 2, none⟩) (by show w.heap.size + 1 ≠ w.heap.size + 1 + 1; omega) (.slice a3 c.list.length k3)).set (j := 0) (.slice a1 c.vars.length k1)).set (j := 1) (.slice a2 c.arrays.length k2)).set (j := 2) (.slice a3 c.list.length k3)
  replace o1 := (((o1.other (b := w.heap.size + 1 + 1) (by omega) 2 (.slice a3 c.list.length k3)).other (b := w.heap.size + 1) (by omega) 0 (.slice a1 c.vars.length k1)).other (b := w.heap.size + 1) (by omega) 1 (.slice a2 c.arrays.length k2)).other (b := w.heap.size + 1) (by omega) 2 (.slice a3 c.list.length k3)
  replace o2 := (((o2.other (b := w.heap.size + 1 + 1) (by omega) 2 (.slice a3 c.list.length k3)).other (b := w.heap.size + 1) (by omega) 0 (.slice a1 c.vars.length k1)).other (b := w.heap.size + 1) (by omega) 1 (.slice a2 c.arrays.length k2)).other (b := w.heap.size + 1) (by omega) 2 (.slice a3 c.list.length k3)
  replace o3 := (((o3.other (b := w.heap.size + 1 + 1) (by omega) 2 (.slice a3 c.list.length k3)).other (b := w.heap.size + 1) (by omega) 0 (.slice a1 c.vars.length k1)).other (b := w.heap.size + 1) (by omega) 1 (.slice a2 c.arrays.length k2)).other (b := w.heap.size + 1) (by omega) 2 (.slice a3 c.list.length k3)
  have zF : ((((w3.setCell ⟨w.heap.size + 1 + 1, 2, none⟩ (.slice a3 c.list.length k3)).setCell ⟨w.heap.size + 1, 0, none⟩ (.slice a1 c.vars.length k1)).setCell ⟨w.heap.size + 1, 1, none⟩ (.slice a2 c.arrays.length k2)).setCell ⟨w.heap.size + 1, 2, none⟩ (.slice a3 c.list.length k3)).heap.size = w3.heap.size := by simp
  generalize (((w3.setCell ⟨w.heap.size + 1 + 1, 2, none⟩ (.slice a3 c.list.length k3)).setCell ⟨w.heap.size + 1, 0, none⟩ (.slice a1 c.vars.length k1)).setCell ⟨w.heap.size + 1, 1, none⟩ (.slice a2 c.arrays.length k2)).setCell ⟨w.heap.size + 1, 2, none⟩ (.slice a3 c.list.length k3) = WF at *
  have q0 := L2.cell 0
  have q1 := L2.cell 1
  have q2 := L2.cell 2
  simp at q0 q1 q2
  refine bodyPost_ret (v := .agg #[.slice a1 c.vars.length k1, .slice a2 c.arrays.length k2, .slice a3 c.list.length k3]) (by simp [results, Try.results19, go_sem, q0, q1, q2]) rfl ⟨_, rfl, ⟨_, _, _, rfl, o1.wide (by omega) (by omega), o2.wide (by omega) (by omega), o3.wide (by omega) (by omega), disj_of o1 o2 (by omega), disj_of o1 o3 (by omega), disj_of o2 o3 (by omega)⟩, BF⟩

set_option maxHeartbeats 1000000 in
theorem eqCode_any (v u : Value) (c d : LCode) (w : World) (h : CodeRow w v c) (h' : CodeRow w u d) :
    Calls Try.prog 21 #[v, u] w fun e w' => e = .returned (.bool (c.same d)) ∧ Below w.heap.size w w' := by
  obtain ⟨v1, v2, v3, rfl, h1, h2, h3⟩ := h
  obtain ⟨u1, u2, u3, rfl, g1, g2, g3⟩ := h'
  obtain ⟨W, hW⟩ : ∃ W, W = ((w.alloc (.cells #[v1, v2, v3] 36)).alloc (.cells #[u1, u2, u3] 36)) := ⟨_, rfl⟩
  have B0 : Below w.heap.size w W := by rw [hW]; go_grown
  have L1 : Blk W w.heap.size [v1, v2, v3] := by rw [hW]; exact (Blk.new w [v1, v2, v3] _).alloc _
  have L2 : Blk W (w.heap.size + 1) [u1, u2, u3] := by rw [hW]; exact Blk.new' (w.alloc _) [u1, u2, u3] _ (by simp)
  have hs : Hid (c.same d = (decide (c.vars = d.vars) && decide (c.arrays = d.arrays) && decide (insF c.list = insF d.list))) := rfl
  go_enter Try.func21, Try.ntmps21
  go_wp2_with fail
  rw [← hW]
  clear hW
  refine (eqIntS_any v1 u1 _ _ _ (h1.below B0) (g1.below B0)).mono ?_
  rintro e w1 ⟨rfl, n1, rfl⟩
  by_cases q1 : c.vars = d.vars
  · rw [decide_eq_true q1]
    have x1 := L1.cell 1
    have x2 := L1.cell 2
    have y1 := L2.cell 1
    have y2 := L2.cell 2
    simp at x1 x2 y1 y2
    go_wp2_with fail
    refine (eqIntS_any v2 u2 _ _ _ (h2.below (below_drewN B0 n1)) (g2.below (below_drewN B0 n1))).mono ?_
    rintro e w1 ⟨rfl, n2, rfl⟩
    by_cases q2 : c.arrays = d.arrays
    · rw [decide_eq_true q2]
      go_wp2_with fail
      refine (eqInstrS_any v3 u3 _ _ _ (h3.below (below_drewN B0 (n1 + n2))) (g3.below (below_drewN B0 (n1 + n2)))).mono ?_
      rintro e w1 ⟨rfl, b1⟩
      have BF := (below_drewN B0 (n1 + n2)).trans (b1.mono B0.size)
      by_cases q3 : insF c.list = insF d.list
      · rw [decide_eq_true q3]
        go_wp2_with fail
        go_ret
        exact ⟨ret_bool (by rw [hs.out, decide_eq_true q1, decide_eq_true q2, decide_eq_true q3]; rfl), BF⟩
      · rw [decide_eq_false q3]
        go_wp2_with fail
        go_ret
        exact ⟨ret_bool (by rw [hs.out, decide_eq_false q3]; simp), BF⟩
    · rw [decide_eq_false q2]
      go_wp2_with fail
      go_ret
      exact ⟨ret_bool (by rw [hs.out, decide_eq_false q2]; simp), below_drewN B0 (n1 + n2)⟩
  · rw [decide_eq_false q1]
    go_wp2_with fail
    go_ret
    exact ⟨ret_bool (by rw [hs.out, decide_eq_false q1]; simp), below_drewN B0 n1⟩


/-- Two values do not lie in one block. -/
def CodeMarks (w : World) (v : Value) (K nv na nl : Nat) : Prop :=
  ∃ v1 v2 v3, v = .agg #[v1, v2, v3] ∧ Row w v1 nv 1 (ints (marksI K nv)) ∧ Row w v2 na 1 (ints (marksI (K + nv) na)) ∧ Row w v3 nl 5 (ints (marksI (K + nv + na) (nl * 5)))
theorem CodeMarks.below {w w' : World} {v : Value} {K nv na nl : Nat} (h : CodeMarks w v K nv na nl) (hb : Below w.heap.size w w') : CodeMarks w' v K nv na nl := by
  obtain ⟨v1, v2, v3, rfl, h1, h2, h3⟩ := h
  exact ⟨v1, v2, v3, rfl, h1.below hb, h2.below hb, h3.below hb⟩

set_option maxHeartbeats 1000000 in
theorem markCode_any (v : Value) (c : LCode) (K lo hi : Nat) (w : World) (h : CodeOwn w lo hi v c) (hh : hi ≤ w.heap.size) (hK : K + c.vars.length + c.arrays.length + c.list.length * 5 ≤ 9000000000000000000) :
    Calls Try.prog 25 #[v, .int .i64 K] w fun e w' => e = .returned (.int .i64 (K + c.vars.length + c.arrays.length + c.list.length * 5 : Nat)) ∧ CodeMarks w' v K c.vars.length c.arrays.length c.list.length ∧ Out lo hi w w' := by
  obtain ⟨v1, v2, v3, rfl, h1, h2, h3, d1, d2, d3⟩ := h
  obtain ⟨W, hW⟩ : ∃ W, W = (w.alloc (.cells #[v1, v2, v3] 36)) := ⟨_, rfl⟩
  have B0 : Below w.heap.size w W := by rw [hW]; go_grown
  have L1 : Blk W w.heap.size [v1, v2, v3] := by rw [hW]; exact (Blk.new w [v1, v2, v3] _)
  have O0 : Out lo hi w W := Out.of_below B0 (Nat.le_refl _)
  replace h1 := h1.keep B0 hh
  replace h2 := h2.keep B0 hh
  replace h3 := h3.keep B0 hh
  obtain ⟨l1, k1, i1, j1, t1, m1⟩ := h1.tight
  obtain ⟨l2, k2, i2, j2, t2, m2⟩ := h2.tight
  obtain ⟨l3, k3, i3, j3, t3, m3⟩ := h3.tight
  have e1 := (rfl : K = K)
  clear e1
  go_enter Try.func25, Try.ntmps25
  go_wp2_with fail
  rw [← hW]
  clear hW
  refine (markIntS_any v1 c.vars K l1 k1 _ t1 (by omega)).mono ?_
  rintro e w1 ⟨rfl, p1, q1⟩
  replace t2 := t2.disj q1 m1 d1
  replace t3 := t3.disj q1 m1 d2
  replace L1 := L1.out q1 (by omega)
  have x1 := L1.cell 1
  have x2 := L1.cell 2
  have f0 := L1.free
  simp at x1 x2
  have O1 := O0.trans (q1.wide i1 j1)
  go_wp2_with fail
  refine (markIntS_any v2 c.arrays (K + c.vars.length) l2 k2 _ t2 (by omega)).mono ?_
  rintro e w2 ⟨rfl, p2, q2⟩
  replace t3 := t3.disj q2 m2 d3
  replace p1 := p1.disj q2 m2 d1.symm
  replace L1 := L1.out q2 (by omega)
  clear x1 x2 f0
  have x2 := L1.cell 2
  have f0 := L1.free
  simp at x2
  have O2 := O1.trans (q2.wide i2 j2)
  go_wp2_with fail
  refine (markInstrS_any v3 c.list.length _ (K + c.vars.length + c.arrays.length) l3 k3 _ t3 (by omega)).mono ?_
  rintro e w3 ⟨rfl, p3, q3⟩
  replace p1 := p1.disj q3 m3 d2.symm
  replace p2 := p2.disj q3 m3 d3.symm
  have O3 := O2.trans (q3.wide i3 j3)
  go_wp2_with fail
  go_ret
  exact ⟨rfl, ⟨_, _, _, rfl, p1.row, p2.row, p3.row⟩, O3⟩

set_option maxHeartbeats 1000000 in
theorem heldCode_any (v : Value) (K nv na nl : Nat) (w : World) (h : CodeMarks w v K nv na nl) (hK : K + nv + na + nl * 5 ≤ 9000000000000000000) :
    Calls Try.prog 30 #[v, .int .i64 K] w fun e w' => e = .returned (.int .i64 (K + nv + na + nl * 5 : Nat)) ∧ Below w.heap.size w w' := by
  obtain ⟨v1, v2, v3, rfl, h1, h2, h3⟩ := h
  obtain ⟨W, hW⟩ : ∃ W, W = (w.alloc (.cells #[v1, v2, v3] 36)) := ⟨_, rfl⟩
  have B0 : Below w.heap.size w W := by rw [hW]; go_grown
  have L1 : Blk W w.heap.size [v1, v2, v3] := by rw [hW]; exact (Blk.new w [v1, v2, v3] _)
  have x1 := L1.cell 1
  have x2 := L1.cell 2
  simp at x1 x2
  go_enter Try.func30, Try.ntmps30
  go_wp2_with fail
  rw [← hW]
  clear hW
  refine (heldIntS_any v1 nv K _ (h1.below B0) (by omega)).mono ?_
  rintro e w1 ⟨rfl, n1, rfl⟩
  go_wp2_with fail
  refine (heldIntS_any v2 na (K + nv) _ (h2.below (below_drewN B0 n1)) (by omega)).mono ?_
  rintro e w1 ⟨rfl, n2, rfl⟩
  go_wp2_with fail
  refine (heldInstrS_any v3 nl (K + nv + na) _ (h3.below (below_drewN B0 (n1 + n2))) (by omega)).mono ?_
  rintro e w1 ⟨rfl, n3, rfl⟩
  go_wp2_with fail
  go_ret
  exact ⟨rfl, below_drewN B0 _⟩

end Go.Proofs.Ytjlnaiifegjneaa
