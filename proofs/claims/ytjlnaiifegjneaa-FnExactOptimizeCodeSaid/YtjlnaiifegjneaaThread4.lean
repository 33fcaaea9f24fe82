/-
  ThreadJumps, the reference's and the program's. Conditions: the argument is code.
-/
import Derived.Test.YtjlnaiifegjneaaThread3
import Derived.Test.YtjlnaiifegjneaaSpecCode2
import Derived.Test.YtjlnaiifegjneaaImplCode3
namespace Go.Proofs.Ytjlnaiifegjneaa
open Go Go.RowKit

def thrC (c : LCode) : LCode := if codeOk c = true then thrF c else ⟨[], [], []⟩
theorem code_zero (w : World) (lo hi : Nat) : CodeOwn w lo hi (.agg #[.slice none 0 0, .slice none 0 0, .slice none 0 0]) ⟨[], [], []⟩ :=
  ⟨_, _, _, rfl, ⟨World.ownsRow_nil _ _ _ _, (fun g hg => by cases hg)⟩, ⟨World.ownsRow_nil _ _ _ _, (fun g hg => by cases hg)⟩, ⟨World.ownsRow_nil _ _ _ _, (fun g hg => by cases hg)⟩, (fun g hg => by cases hg), (fun g hg => by cases hg), (fun g hg => by cases hg)⟩

theorem thrC_size (c : LCode) : (thrC c).size ≤ 1048576 := by
  unfold thrC
  split
  · rename_i h
    have := codeOk_size h
    unfold LCode.size thrF at *
    simpa using this
  · simp [LCode.size]

set_option maxHeartbeats 2000000 in
theorem spec_ThreadJumps (v : Value) (c : LCode) (w : World) (h : CodeRow w v c) :
    Calls Try.prog 28 #[v] w fun e w' => ∃ u, e = .returned (.tuple #[u, .bool (codeOk c)]) ∧ CodeOwn w' w.heap.size w'.heap.size u (thrC c) ∧ Below w.heap.size w w' := by
  have hrow := h
  obtain ⟨v1, v2, v3, rfl, h1, h2, h3⟩ := h
  obtain ⟨n, hn⟩ : ∃ n, n = w.heap.size := ⟨_, rfl⟩
  obtain ⟨W, hW⟩ : ∃ W, W = (w.alloc (.cells #[v1, v2, v3] 36)).alloc (.cells #[.slice none 0 0, .slice none 0 0, .slice none 0 0] 36) := ⟨_, rfl⟩
  have B0 : Below w.heap.size w W := by rw [hW]; go_grown
  have sW : W.heap.size = n + 1 + 1 := by rw [hW, hn]; simp
  have L1 : Blk W n [v1, v2, v3] := by rw [hW, hn]; exact (Blk.new w [v1, v2, v3] _).alloc _
  have L2 : Blk W (n + 1) [.slice none 0 0, .slice none 0 0, .slice none 0 0] := by rw [hW, hn]; exact Blk.new' (w.alloc _) [.slice none 0 0, .slice none 0 0, .slice none 0 0] _ (by simp)
  have HT : Hid (thrC c = if codeOk c = true then thrF c else ⟨[], [], []⟩) := rfl
  have x0 := L1.cell 0
  have x1 := L1.cell 1
  have x2 := L1.cell 2
  simp only [List.getElem?_cons_zero, List.getElem?_cons_succ] at x0 x1 x2
  rw [hW, hn] at x0 x1 x2
  go_enter Try.func28, Try.ntmps28
  go_wp2_with fail
  rw [← hW, ← hn]
  clear hW x0 x1 x2
  refine (spec_CodeValid _ c _ (hrow.below B0)).mono ?_
  rintro e w1 ⟨rfl, b1⟩
  replace L1 := L1.below b1 L1.lt
  replace L2 := L2.below b1 L2.lt
  have B1 := B0.trans (b1.mono B0.size)
  have s1 := b1.size
  have HN := show Hid (n = w.heap.size) from hn
  clear b1 B0 hn
  have x0 := L1.cell 0
  have x1 := L1.cell 1
  have x2 := L1.cell 2
  simp only [List.getElem?_cons_zero, List.getElem?_cons_succ] at x0 x1 x2
  cases hc : codeOk c
  · have HC := show Hid (thrC c = ⟨[], [], []⟩) from by unfold Hid; rw [HT.out, hc]; simp
    have z0 := L2.cell 0
    have z1 := L2.cell 1
    have z2 := L2.cell 2
    simp only [List.getElem?_cons_zero, List.getElem?_cons_succ] at z0 z1 z2
    have f0 := L2.free 0
    have f1 := L2.free 1
    have f2 := L2.free 2
    have HO := show Hid _ from hc
    clear hc
    go_wp2_with fail
    have hn := HN.out
    have L3 := ((L2.set (j := 0) (.slice none 0 0)).set (j := 1) (.slice none 0 0)).set (j := 2) (.slice none 0 0)
    have BF := ((B1.setCell (p := ⟨n + 1, 0, none⟩) (by show w.heap.size ≤ n + 1; omega) (.slice none 0 0)).setCell (p := ⟨n + 1, 1, none⟩) (by show w.heap.size ≤ n + 1; omega) (.slice none 0 0)).setCell (p := ⟨n + 1, 2, none⟩) (by show w.heap.size ≤ n + 1; omega) (.slice none 0 0)
    have r0 := L3.cell 0
    have r1 := L3.cell 1
    have r2 := L3.cell 2
    simp only [List.getElem?_cons_zero, List.getElem?_cons_succ, List.set_cons_zero, List.set_cons_succ] at r0 r1 r2
    generalize ((w1.setCell ⟨n + 1, 0, none⟩ (.slice none 0 0)).setCell ⟨n + 1, 1, none⟩ (.slice none 0 0)).setCell ⟨n + 1, 2, none⟩ (.slice none 0 0) = WF at *
    exact bodyPost_ret (v := .tuple #[.agg #[.slice none 0 0, .slice none 0 0, .slice none 0 0], .bool false]) (by simp [results, Try.results28, go_sem, r0, r1, r2]) rfl ⟨_, by rw [HO.out], by rw [HC.out]; exact code_zero _ _ _, BF⟩
  · have HC := show Hid (thrC c = thrF c) from by unfold Hid; rw [HT.out, hc]; simp
    have HO := show Hid _ from hc
    clear hc
    go_wp2_with fail
    refine (spec_l8Thread _ c HO.out _ (hrow.below B1)).mono ?_
    rintro e w2 ⟨u, rfl, ou, b2⟩
    obtain ⟨y1, y2, y3, rfl, -⟩ := id ou
    obtain ⟨p1, q1, p2, q2, p3, q3, rfl, rfl, rfl⟩ := Code.rowOf ou
    have B2 := B1.trans (b2.mono B1.size)
    replace L2 := L2.below b2 L2.lt
    have s2 := b2.size
    clear x0 x1 x2
    have z0 := L2.cell 0
    have z1 := L2.cell 1
    have z2 := L2.cell 2
    simp only [List.getElem?_cons_zero, List.getElem?_cons_succ] at z0 z1 z2
    have f0 := L2.free 0
    have f1 := L2.free 1
    have f2 := L2.free 2
    go_wp2_with fail
    have hn := HN.out
    have L3 := ((L2.set (j := 0) (.slice p1 (thrF c).vars.length q1)).set (j := 1) (.slice p2 (thrF c).arrays.length q2)).set (j := 2) (.slice p3 (thrF c).list.length q3)
    have hO : Out (n + 1) (n + 1 + 1) w2 (((w2.setCell ⟨n + 1, 0, none⟩ (.slice p1 (thrF c).vars.length q1)).setCell ⟨n + 1, 1, none⟩ (.slice p2 (thrF c).arrays.length q2)).setCell ⟨n + 1, 2, none⟩ (.slice p3 (thrF c).list.length q3)) :=
      (((Out.refl (n + 1) (n + 1 + 1) w2).setCell (p := ⟨n + 1, 0, none⟩) (Nat.le_refl _) (Nat.lt_succ_self _) _).setCell (p := ⟨n + 1, 1, none⟩) (Nat.le_refl _) (Nat.lt_succ_self _) _).setCell (p := ⟨n + 1, 2, none⟩) (Nat.le_refl _) (Nat.lt_succ_self _) _
    have oF := ou.out hO (.inr (by omega))
    have zF : (((w2.setCell ⟨n + 1, 0, none⟩ (.slice p1 (thrF c).vars.length q1)).setCell ⟨n + 1, 1, none⟩ (.slice p2 (thrF c).arrays.length q2)).setCell ⟨n + 1, 2, none⟩ (.slice p3 (thrF c).list.length q3)).heap.size = w2.heap.size := by simp
    have BF := ((B2.setCell (p := ⟨n + 1, 0, none⟩) (by show w.heap.size ≤ n + 1; omega) (.slice p1 (thrF c).vars.length q1)).setCell (p := ⟨n + 1, 1, none⟩) (by show w.heap.size ≤ n + 1; omega) (.slice p2 (thrF c).arrays.length q2)).setCell (p := ⟨n + 1, 2, none⟩) (by show w.heap.size ≤ n + 1; omega) (.slice p3 (thrF c).list.length q3)
    have r0 := L3.cell 0
    have r1 := L3.cell 1
    have r2 := L3.cell 2
    simp only [List.getElem?_cons_zero, List.getElem?_cons_succ, List.set_cons_zero, List.set_cons_succ] at r0 r1 r2
    generalize ((w2.setCell ⟨n + 1, 0, none⟩ (.slice p1 (thrF c).vars.length q1)).setCell ⟨n + 1, 1, none⟩ (.slice p2 (thrF c).arrays.length q2)).setCell ⟨n + 1, 2, none⟩ (.slice p3 (thrF c).list.length q3) = WF at *
    exact bodyPost_ret (v := .tuple #[.agg #[.slice p1 (thrF c).vars.length q1, .slice p2 (thrF c).arrays.length q2, .slice p3 (thrF c).list.length q3], .bool true]) (by simp [results, Try.results28, go_sem, r0, r1, r2]) rfl ⟨_, by rw [HO.out], by rw [HC.out]; exact oF.wide (by omega) (by omega), BF⟩

set_option maxHeartbeats 2000000 in
theorem impl_ThreadJumps (v : Value) (c : LCode) (w : World) (h : CodeRow w v c) :
    Calls Try.prog 29 #[v] w fun e w' => ∃ u, e = .returned (.tuple #[u, .bool (codeOk c)]) ∧ CodeOwn w' w.heap.size w'.heap.size u (thrC c) ∧ Below w.heap.size w w' := by
  have hrow := h
  obtain ⟨v1, v2, v3, rfl, h1, h2, h3⟩ := h
  obtain ⟨n, hn⟩ : ∃ n, n = w.heap.size := ⟨_, rfl⟩
  obtain ⟨W, hW⟩ : ∃ W, W = (w.alloc (.cells #[v1, v2, v3] 36)).alloc (.cells #[.slice none 0 0, .slice none 0 0, .slice none 0 0] 36) := ⟨_, rfl⟩
  have B0 : Below w.heap.size w W := by rw [hW]; go_grown
  have sW : W.heap.size = n + 1 + 1 := by rw [hW, hn]; simp
  have L1 : Blk W n [v1, v2, v3] := by rw [hW, hn]; exact (Blk.new w [v1, v2, v3] _).alloc _
  have L2 : Blk W (n + 1) [.slice none 0 0, .slice none 0 0, .slice none 0 0] := by rw [hW, hn]; exact Blk.new' (w.alloc _) [.slice none 0 0, .slice none 0 0, .slice none 0 0] _ (by simp)
  have HT : Hid (thrC c = if codeOk c = true then thrF c else ⟨[], [], []⟩) := rfl
  have x0 := L1.cell 0
  have x1 := L1.cell 1
  have x2 := L1.cell 2
  simp only [List.getElem?_cons_zero, List.getElem?_cons_succ] at x0 x1 x2
  rw [hW, hn] at x0 x1 x2
  go_enter Try.func29, Try.ntmps29
  go_wp2_with fail
  rw [← hW, ← hn]
  clear hW x0 x1 x2
  refine (impl_CodeValid _ c _ (hrow.below B0)).mono ?_
  rintro e w1 ⟨rfl, b1⟩
  replace L1 := L1.below b1 L1.lt
  replace L2 := L2.below b1 L2.lt
  have B1 := B0.trans (b1.mono B0.size)
  have s1 := b1.size
  have HN := show Hid (n = w.heap.size) from hn
  clear b1 B0 hn
  have x0 := L1.cell 0
  have x1 := L1.cell 1
  have x2 := L1.cell 2
  simp only [List.getElem?_cons_zero, List.getElem?_cons_succ] at x0 x1 x2
  cases hc : codeOk c
  · have HC := show Hid (thrC c = ⟨[], [], []⟩) from by unfold Hid; rw [HT.out, hc]; simp
    have z0 := L2.cell 0
    have z1 := L2.cell 1
    have z2 := L2.cell 2
    simp only [List.getElem?_cons_zero, List.getElem?_cons_succ] at z0 z1 z2
    have f0 := L2.free 0
    have f1 := L2.free 1
    have f2 := L2.free 2
    have HO := show Hid _ from hc
    clear hc
    go_wp2_with fail
    have hn := HN.out
    have L3 := ((L2.set (j := 0) (.slice none 0 0)).set (j := 1) (.slice none 0 0)).set (j := 2) (.slice none 0 0)
    have BF := ((B1.setCell (p := ⟨n + 1, 0, none⟩) (by show w.heap.size ≤ n + 1; omega) (.slice none 0 0)).setCell (p := ⟨n + 1, 1, none⟩) (by show w.heap.size ≤ n + 1; omega) (.slice none 0 0)).setCell (p := ⟨n + 1, 2, none⟩) (by show w.heap.size ≤ n + 1; omega) (.slice none 0 0)
    have r0 := L3.cell 0
    have r1 := L3.cell 1
    have r2 := L3.cell 2
    simp only [List.getElem?_cons_zero, List.getElem?_cons_succ, List.set_cons_zero, List.set_cons_succ] at r0 r1 r2
    generalize ((w1.setCell ⟨n + 1, 0, none⟩ (.slice none 0 0)).setCell ⟨n + 1, 1, none⟩ (.slice none 0 0)).setCell ⟨n + 1, 2, none⟩ (.slice none 0 0) = WF at *
    exact bodyPost_ret (v := .tuple #[.agg #[.slice none 0 0, .slice none 0 0, .slice none 0 0], .bool false]) (by simp [results, Try.results29, go_sem, r0, r1, r2]) rfl ⟨_, by rw [HO.out], by rw [HC.out]; exact code_zero _ _ _, BF⟩
  · have HC := show Hid (thrC c = thrF c) from by unfold Hid; rw [HT.out, hc]; simp
    have HO := show Hid _ from hc
    clear hc
    go_wp2_with fail
    refine (impl_threaded _ c HO.out _ (hrow.below B1)).mono ?_
    rintro e w2 ⟨u, rfl, ou, b2⟩
    obtain ⟨y1, y2, y3, rfl, -⟩ := id ou
    obtain ⟨p1, q1, p2, q2, p3, q3, rfl, rfl, rfl⟩ := Code.rowOf ou
    have B2 := B1.trans (b2.mono B1.size)
    replace L2 := L2.below b2 L2.lt
    have s2 := b2.size
    clear x0 x1 x2
    have z0 := L2.cell 0
    have z1 := L2.cell 1
    have z2 := L2.cell 2
    simp only [List.getElem?_cons_zero, List.getElem?_cons_succ] at z0 z1 z2
    have f0 := L2.free 0
    have f1 := L2.free 1
    have f2 := L2.free 2
    go_wp2_with fail
    have hn := HN.out
    have L3 := ((L2.set (j := 0) (.slice p1 (thrF c).vars.length q1)).set (j := 1) (.slice p2 (thrF c).arrays.length q2)).set (j := 2) (.slice p3 (thrF c).list.length q3)
    have hO : Out (n + 1) (n + 1 + 1) w2 (((w2.setCell ⟨n + 1, 0, none⟩ (.slice p1 (thrF c).vars.length q1)).setCell ⟨n + 1, 1, none⟩ (.slice p2 (thrF c).arrays.length q2)).setCell ⟨n + 1, 2, none⟩ (.slice p3 (thrF c).list.length q3)) :=
      (((Out.refl (n + 1) (n + 1 + 1) w2).setCell (p := ⟨n + 1, 0, none⟩) (Nat.le_refl _) (Nat.lt_succ_self _) _).setCell (p := ⟨n + 1, 1, none⟩) (Nat.le_refl _) (Nat.lt_succ_self _) _).setCell (p := ⟨n + 1, 2, none⟩) (Nat.le_refl _) (Nat.lt_succ_self _) _
    have oF := ou.out hO (.inr (by omega))
    have zF : (((w2.setCell ⟨n + 1, 0, none⟩ (.slice p1 (thrF c).vars.length q1)).setCell ⟨n + 1, 1, none⟩ (.slice p2 (thrF c).arrays.length q2)).setCell ⟨n + 1, 2, none⟩ (.slice p3 (thrF c).list.length q3)).heap.size = w2.heap.size := by simp
    have BF := ((B2.setCell (p := ⟨n + 1, 0, none⟩) (by show w.heap.size ≤ n + 1; omega) (.slice p1 (thrF c).vars.length q1)).setCell (p := ⟨n + 1, 1, none⟩) (by show w.heap.size ≤ n + 1; omega) (.slice p2 (thrF c).arrays.length q2)).setCell (p := ⟨n + 1, 2, none⟩) (by show w.heap.size ≤ n + 1; omega) (.slice p3 (thrF c).list.length q3)
    have r0 := L3.cell 0
    have r1 := L3.cell 1
    have r2 := L3.cell 2
    simp only [List.getElem?_cons_zero, List.getElem?_cons_succ, List.set_cons_zero, List.set_cons_succ] at r0 r1 r2
    generalize ((w2.setCell ⟨n + 1, 0, none⟩ (.slice p1 (thrF c).vars.length q1)).setCell ⟨n + 1, 1, none⟩ (.slice p2 (thrF c).arrays.length q2)).setCell ⟨n + 1, 2, none⟩ (.slice p3 (thrF c).list.length q3) = WF at *
    exact bodyPost_ret (v := .tuple #[.agg #[.slice p1 (thrF c).vars.length q1, .slice p2 (thrF c).arrays.length q2, .slice p3 (thrF c).list.length q3], .bool true]) (by simp [results, Try.results29, go_sem, r0, r1, r2]) rfl ⟨_, by rw [HO.out], by rw [HC.out]; exact oF.wide (by omega) (by omega), BF⟩

end Go.Proofs.Ytjlnaiifegjneaa
