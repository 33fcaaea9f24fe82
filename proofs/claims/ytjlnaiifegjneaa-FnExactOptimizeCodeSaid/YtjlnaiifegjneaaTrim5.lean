/-
  TrimCode, the reference's and the program's. Conditions: the argument is code.
-/
import Derived.Test.YtjlnaiifegjneaaTrim4
import Derived.Test.YtjlnaiifegjneaaThread4
import Derived.Test.YtjlnaiifegjneaaPure11
namespace Go.Proofs.Ytjlnaiifegjneaa
open Go Go.RowKit

/-- Code in blocks from lo on and below hi. -/
def CodeIn (w : World) (lo hi : Nat) (v : Value) (c : LCode) : Prop := CodeF w (fun b => lo ≤ b ∧ b < hi) v c
theorem CodeIn.row {w : World} {lo hi : Nat} {v : Value} {c : LCode} (h : CodeIn w lo hi v c) : CodeRow w v c := CodeF.row h
theorem CodeF.in {w : World} {φ : Nat → Prop} {lo : Nat} {v : Value} {c : LCode} (h : CodeF w φ v c) (hf : ∀ b, φ b → lo ≤ b) : CodeIn w lo w.heap.size v c := CodeF.nice v c _ _ _ _ (Agr.mono fun b hb hp => ⟨hf b hp, hb⟩) h
theorem CodeIn.wide {w : World} {lo hi lo' hi' : Nat} {v : Value} {c : LCode} (h : CodeIn w lo hi v c) (h1 : lo' ≤ lo) (h2 : hi ≤ hi') : CodeIn w lo' hi' v c := CodeF.nice v c _ _ _ _ (Agr.mono fun _ _ hp => ⟨Nat.le_trans h1 hp.1, Nat.lt_of_lt_of_le hp.2 h2⟩) h
theorem CodeIn.keep {w w' : World} {lo hi B : Nat} {v : Value} {c : LCode} (h : CodeIn w lo hi v c) (hb : Below B w w') (hB : hi ≤ B) : CodeIn w' lo hi v c := CodeF.nice v c _ _ _ _ ⟨hb.size, fun b _ hp => ⟨hp, hb.block b (by omega)⟩⟩ h
theorem CodeIn.out {w w' : World} {lo hi lo' hi' : Nat} {v : Value} {c : LCode} (h : CodeIn w lo hi v c) (ho : Out lo' hi' w w') (hd : hi ≤ lo' ∨ hi' ≤ lo) : CodeIn w' lo hi v c := CodeF.nice v c _ _ _ _ ⟨ho.size, fun b hb hp => ⟨hp, ho.block b hb (by omega)⟩⟩ h
theorem CodeIn.rowOf {w : World} {lo hi : Nat} {v1 v2 v3 : Value} {c : LCode} (h : CodeIn w lo hi (.agg #[v1, v2, v3]) c) : ∃ a1 k1 a2 k2 a3 k3, v1 = .slice a1 c.vars.length k1 ∧ v2 = .slice a2 c.arrays.length k2 ∧ v3 = .slice a3 c.list.length k3 := by
  obtain ⟨u1, u2, u3, he, h1, h2, h3⟩ := h
  simp only [Value.agg.injEq, Array.mk.injEq, List.cons.injEq, and_true] at he
  obtain ⟨rfl, rfl, rfl⟩ := he
  obtain ⟨a1, k1, e1⟩ := h1.row.form
  obtain ⟨a2, k2, e2⟩ := h2.row.form
  obtain ⟨a3, k3, e3⟩ := h3.row.form
  exact ⟨a1, k1, a2, k2, a3, k3, e1, e2, e3⟩
theorem codeIn_zero (w : World) (lo hi : Nat) : CodeIn w lo hi (.agg #[.slice none 0 0, .slice none 0 0, .slice none 0 0]) ⟨[], [], []⟩ := ⟨_, _, _, rfl, RowF.nil _ _ _, RowF.nil _ _ _, RowF.nil _ _ _⟩

noncomputable def trimC (c : LCode) : LCode := if codeOk c = true then trimF c else ⟨[], [], []⟩
theorem trimC_size (c : LCode) : (trimC c).size ≤ 1048576 := by
  unfold trimC
  split
  · rename_i h
    exact codeOk_size (trim_ok h)
  · simp [LCode.size]
theorem spec_l8TrimIn (v : Value) (c : LCode) (hc : codeOk c = true) (w : World) (h : CodeRow w v c) :
    Calls Try.prog 78 #[v] w fun e w' => ∃ z, e = .returned z ∧ CodeIn w' w.heap.size w'.heap.size z (trimF c) ∧ Below w.heap.size w w' :=
  (spec_l8Trim v c hc w h).mono fun _ _ ⟨z, h1, h2, h3⟩ => ⟨z, h1, h2.in fun _ h => h, h3⟩

set_option maxHeartbeats 2000000 in
theorem spec_TrimCode (v : Value) (c : LCode) (w : World) (h : CodeRow w v c) :
    Calls Try.prog 35 #[v] w fun e w' => ∃ u, e = .returned (.tuple #[u, .bool (codeOk c)]) ∧ CodeIn w' w.heap.size w'.heap.size u (trimC c) ∧ Below w.heap.size w w' := by
  have hrow := h
  obtain ⟨v1, v2, v3, rfl, h1, h2, h3⟩ := h
  obtain ⟨n, hn⟩ : ∃ n, n = w.heap.size := ⟨_, rfl⟩
  obtain ⟨W, hW⟩ : ∃ W, W = (w.alloc (.cells #[v1, v2, v3] 36)).alloc (.cells #[.slice none 0 0, .slice none 0 0, .slice none 0 0] 36) := ⟨_, rfl⟩
  have B0 : Below w.heap.size w W := by rw [hW]; go_grown
  have sW : W.heap.size = n + 1 + 1 := by rw [hW, hn]; simp
  have L1 : Blk W n [v1, v2, v3] := by rw [hW, hn]; exact (Blk.new w [v1, v2, v3] _).alloc _
  have L2 : Blk W (n + 1) [.slice none 0 0, .slice none 0 0, .slice none 0 0] := by rw [hW, hn]; exact Blk.new' (w.alloc _) [.slice none 0 0, .slice none 0 0, .slice none 0 0] _ (by simp)
  have HT : Hid (trimC c = if codeOk c = true then trimF c else ⟨[], [], []⟩) := rfl
  have x0 := L1.cell 0
  have x1 := L1.cell 1
  have x2 := L1.cell 2
  simp only [List.getElem?_cons_zero, List.getElem?_cons_succ] at x0 x1 x2
  rw [hW, hn] at x0 x1 x2
  go_enter Try.func35, Try.ntmps35
  go_wp2_with fail
  rw [← hW, ← hn]
  clear hW x0 x1 x2
  refine (spec_CodeValid _ c _ (hrow.below B0)).mono ?_
  rintro e w1 ⟨rfl, b1⟩
  replace L1 := L1.below b1 L1.lt
  replace L2 := L2.below b1 L2.lt
  have B1 := B0.trans (b1.mono B0.size)
  have s1 := b1.size
  have HN := show Hid (n = w.heap.size) from hn
  clear b1 B0 hn
  have x0 := L1.cell 0
  have x1 := L1.cell 1
  have x2 := L1.cell 2
  simp only [List.getElem?_cons_zero, List.getElem?_cons_succ] at x0 x1 x2
  cases hc : codeOk c
  · have HC := show Hid (trimC c = ⟨[], [], []⟩) from by unfold Hid; rw [HT.out, hc]; simp
    have z0 := L2.cell 0
    have z1 := L2.cell 1
    have z2 := L2.cell 2
    simp only [List.getElem?_cons_zero, List.getElem?_cons_succ] at z0 z1 z2
    have f0 := L2.free 0
    have f1 := L2.free 1
    have f2 := L2.free 2
    have HO := show Hid _ from hc
    clear hc
    go_wp2_with fail
    have hn := HN.out
    have L3 := ((L2.set (j := 0) (.slice none 0 0)).set (j := 1) (.slice none 0 0)).set (j := 2) (.slice none 0 0)
    have BF := ((B1.setCell (p := ⟨n + 1, 0, none⟩) (by show w.heap.size ≤ n + 1; omega) (.slice none 0 0)).setCell (p := ⟨n + 1, 1, none⟩) (by show w.heap.size ≤ n + 1; omega) (.slice none 0 0)).setCell (p := ⟨n + 1, 2, none⟩) (by show w.heap.size ≤ n + 1; omega) (.slice none 0 0)
    have r0 := L3.cell 0
    have r1 := L3.cell 1
    have r2 := L3.cell 2
    simp only [List.getElem?_cons_zero, List.getElem?_cons_succ, List.set_cons_zero, List.set_cons_succ] at r0 r1 r2
    generalize ((w1.setCell ⟨n + 1, 0, none⟩ (.slice none 0 0)).setCell ⟨n + 1, 1, none⟩ (.slice none 0 0)).setCell ⟨n + 1, 2, none⟩ (.slice none 0 0) = WF at *
    exact bodyPost_ret (v := .tuple #[.agg #[.slice none 0 0, .slice none 0 0, .slice none 0 0], .bool false]) (by simp [results, Try.results35, go_sem, r0, r1, r2]) rfl ⟨_, by rw [HO.out], by rw [HC.out]; exact codeIn_zero _ _ _, BF⟩
  · have HC := show Hid (trimC c = trimF c) from by unfold Hid; rw [HT.out, hc]; simp
    have HO := show Hid _ from hc
    clear hc
    go_wp2_with fail
    refine (spec_l8TrimIn _ c HO.out _ (hrow.below B1)).mono ?_
    rintro e w2 ⟨u, rfl, ou, b2⟩
    obtain ⟨y1, y2, y3, rfl, -⟩ := id ou
    obtain ⟨p1, q1, p2, q2, p3, q3, rfl, rfl, rfl⟩ := CodeIn.rowOf ou
    have B2 := B1.trans (b2.mono B1.size)
    replace L2 := L2.below b2 L2.lt
    have s2 := b2.size
    clear x0 x1 x2
    have z0 := L2.cell 0
    have z1 := L2.cell 1
    have z2 := L2.cell 2
    simp only [List.getElem?_cons_zero, List.getElem?_cons_succ] at z0 z1 z2
    have f0 := L2.free 0
    have f1 := L2.free 1
    have f2 := L2.free 2
    go_wp2_with fail
    have hn := HN.out
    have L3 := ((L2.set (j := 0) (.slice p1 (trimF c).vars.length q1)).set (j := 1) (.slice p2 (trimF c).arrays.length q2)).set (j := 2) (.slice p3 (trimF c).list.length q3)
    have hO : Out (n + 1) (n + 1 + 1) w2 (((w2.setCell ⟨n + 1, 0, none⟩ (.slice p1 (trimF c).vars.length q1)).setCell ⟨n + 1, 1, none⟩ (.slice p2 (trimF c).arrays.length q2)).setCell ⟨n + 1, 2, none⟩ (.slice p3 (trimF c).list.length q3)) :=
      (((Out.refl (n + 1) (n + 1 + 1) w2).setCell (p := ⟨n + 1, 0, none⟩) (Nat.le_refl _) (Nat.lt_succ_self _) _).setCell (p := ⟨n + 1, 1, none⟩) (Nat.le_refl _) (Nat.lt_succ_self _) _).setCell (p := ⟨n + 1, 2, none⟩) (Nat.le_refl _) (Nat.lt_succ_self _) _
    have oF := ou.out hO (.inr (by omega))
    have zF : (((w2.setCell ⟨n + 1, 0, none⟩ (.slice p1 (trimF c).vars.length q1)).setCell ⟨n + 1, 1, none⟩ (.slice p2 (trimF c).arrays.length q2)).setCell ⟨n + 1, 2, none⟩ (.slice p3 (trimF c).list.length q3)).heap.size = w2.heap.size := by simp
    have BF := ((B2.setCell (p := ⟨n + 1, 0, none⟩) (by show w.heap.size ≤ n + 1; omega) (.slice p1 (trimF c).vars.length q1)).setCell (p := ⟨n + 1, 1, none⟩) (by show w.heap.size ≤ n + 1; omega) (.slice p2 (trimF c).arrays.length q2)).setCell (p := ⟨n + 1, 2, none⟩) (by show w.heap.size ≤ n + 1; omega) (.slice p3 (trimF c).list.length q3)
    have r0 := L3.cell 0
    have r1 := L3.cell 1
    have r2 := L3.cell 2
    simp only [List.getElem?_cons_zero, List.getElem?_cons_succ, List.set_cons_zero, List.set_cons_succ] at r0 r1 r2
    generalize ((w2.setCell ⟨n + 1, 0, none⟩ (.slice p1 (trimF c).vars.length q1)).setCell ⟨n + 1, 1, none⟩ (.slice p2 (trimF c).arrays.length q2)).setCell ⟨n + 1, 2, none⟩ (.slice p3 (trimF c).list.length q3) = WF at *
    exact bodyPost_ret (v := .tuple #[.agg #[.slice p1 (trimF c).vars.length q1, .slice p2 (trimF c).arrays.length q2, .slice p3 (trimF c).list.length q3], .bool true]) (by simp [results, Try.results35, go_sem, r0, r1, r2]) rfl ⟨_, by rw [HO.out], by rw [HC.out]; exact oF.wide (by omega) (by omega), BF⟩

set_option maxHeartbeats 2000000 in
theorem impl_TrimCode (v : Value) (c : LCode) (w : World) (h : CodeRow w v c) :
    Calls Try.prog 36 #[v] w fun e w' => ∃ u, e = .returned (.tuple #[u, .bool (codeOk c)]) ∧ CodeOwn w' w.heap.size w'.heap.size u (trimC c) ∧ Below w.heap.size w w' := by
  have hrow := h
  obtain ⟨v1, v2, v3, rfl, h1, h2, h3⟩ := h
  obtain ⟨n, hn⟩ : ∃ n, n = w.heap.size := ⟨_, rfl⟩
  obtain ⟨W, hW⟩ : ∃ W, W = (w.alloc (.cells #[v1, v2, v3] 36)).alloc (.cells #[.slice none 0 0, .slice none 0 0, .slice none 0 0] 36) := ⟨_, rfl⟩
  have B0 : Below w.heap.size w W := by rw [hW]; go_grown
  have sW : W.heap.size = n + 1 + 1 := by rw [hW, hn]; simp
  have L1 : Blk W n [v1, v2, v3] := by rw [hW, hn]; exact (Blk.new w [v1, v2, v3] _).alloc _
  have L2 : Blk W (n + 1) [.slice none 0 0, .slice none 0 0, .slice none 0 0] := by rw [hW, hn]; exact Blk.new' (w.alloc _) [.slice none 0 0, .slice none 0 0, .slice none 0 0] _ (by simp)
  have HT : Hid (trimC c = if codeOk c = true then trimF c else ⟨[], [], []⟩) := rfl
  have x0 := L1.cell 0
  have x1 := L1.cell 1
  have x2 := L1.cell 2
  simp only [List.getElem?_cons_zero, List.getElem?_cons_succ] at x0 x1 x2
  rw [hW, hn] at x0 x1 x2
  go_enter Try.func36, Try.ntmps36
  go_wp2_with fail
  rw [← hW, ← hn]
  clear hW x0 x1 x2
  refine (impl_CodeValid _ c _ (hrow.below B0)).mono ?_
  rintro e w1 ⟨rfl, b1⟩
  replace L1 := L1.below b1 L1.lt
  replace L2 := L2.below b1 L2.lt
  have B1 := B0.trans (b1.mono B0.size)
  have s1 := b1.size
  have HN := show Hid (n = w.heap.size) from hn
  clear b1 B0 hn
  have x0 := L1.cell 0
  have x1 := L1.cell 1
  have x2 := L1.cell 2
  simp only [List.getElem?_cons_zero, List.getElem?_cons_succ] at x0 x1 x2
  cases hc : codeOk c
  · have HC := show Hid (trimC c = ⟨[], [], []⟩) from by unfold Hid; rw [HT.out, hc]; simp
    have z0 := L2.cell 0
    have z1 := L2.cell 1
    have z2 := L2.cell 2
    simp only [List.getElem?_cons_zero, List.getElem?_cons_succ] at z0 z1 z2
    have f0 := L2.free 0
    have f1 := L2.free 1
    have f2 := L2.free 2
    have HO := show Hid _ from hc
    clear hc
    go_wp2_with fail
    have hn := HN.out
    have L3 := ((L2.set (j := 0) (.slice none 0 0)).set (j := 1) (.slice none 0 0)).set (j := 2) (.slice none 0 0)
    have BF := ((B1.setCell (p := ⟨n + 1, 0, none⟩) (by show w.heap.size ≤ n + 1; omega) (.slice none 0 0)).setCell (p := ⟨n + 1, 1, none⟩) (by show w.heap.size ≤ n + 1; omega) (.slice none 0 0)).setCell (p := ⟨n + 1, 2, none⟩) (by show w.heap.size ≤ n + 1; omega) (.slice none 0 0)
    have r0 := L3.cell 0
    have r1 := L3.cell 1
    have r2 := L3.cell 2
    simp only [List.getElem?_cons_zero, List.getElem?_cons_succ, List.set_cons_zero, List.set_cons_succ] at r0 r1 r2
    generalize ((w1.setCell ⟨n + 1, 0, none⟩ (.slice none 0 0)).setCell ⟨n + 1, 1, none⟩ (.slice none 0 0)).setCell ⟨n + 1, 2, none⟩ (.slice none 0 0) = WF at *
    exact bodyPost_ret (v := .tuple #[.agg #[.slice none 0 0, .slice none 0 0, .slice none 0 0], .bool false]) (by simp [results, Try.results36, go_sem, r0, r1, r2]) rfl ⟨_, by rw [HO.out], by rw [HC.out]; exact code_zero _ _ _, BF⟩
  · have HC := show Hid (trimC c = trimF c) from by unfold Hid; rw [HT.out, hc]; simp
    have HO := show Hid _ from hc
    clear hc
    go_wp2_with fail
    refine (impl_trimmed _ c HO.out _ (hrow.below B1)).mono ?_
    rintro e w2 ⟨u, rfl, ou, b2⟩
    obtain ⟨y1, y2, y3, rfl, -⟩ := id ou
    obtain ⟨p1, q1, p2, q2, p3, q3, rfl, rfl, rfl⟩ := Code.rowOf ou
    have B2 := B1.trans (b2.mono B1.size)
    replace L2 := L2.below b2 L2.lt
    have s2 := b2.size
    clear x0 x1 x2
    have z0 := L2.cell 0
    have z1 := L2.cell 1
    have z2 := L2.cell 2
    simp only [List.getElem?_cons_zero, List.getElem?_cons_succ] at z0 z1 z2
    have f0 := L2.free 0
    have f1 := L2.free 1
    have f2 := L2.free 2
    go_wp2_with fail
    have hn := HN.out
    have L3 := ((L2.set (j := 0) (.slice p1 (trimF c).vars.length q1)).set (j := 1) (.slice p2 (trimF c).arrays.length q2)).set (j := 2) (.slice p3 (trimF c).list.length q3)
    have hO : Out (n + 1) (n + 1 + 1) w2 (((w2.setCell ⟨n + 1, 0, none⟩ (.slice p1 (trimF c).vars.length q1)).setCell ⟨n + 1, 1, none⟩ (.slice p2 (trimF c).arrays.length q2)).setCell ⟨n + 1, 2, none⟩ (.slice p3 (trimF c).list.length q3)) :=
      (((Out.refl (n + 1) (n + 1 + 1) w2).setCell (p := ⟨n + 1, 0, none⟩) (Nat.le_refl _) (Nat.lt_succ_self _) _).setCell (p := ⟨n + 1, 1, none⟩) (Nat.le_refl _) (Nat.lt_succ_self _) _).setCell (p := ⟨n + 1, 2, none⟩) (Nat.le_refl _) (Nat.lt_succ_self _) _
    have oF := ou.out hO (.inr (by omega))
    have zF : (((w2.setCell ⟨n + 1, 0, none⟩ (.slice p1 (trimF c).vars.length q1)).setCell ⟨n + 1, 1, none⟩ (.slice p2 (trimF c).arrays.length q2)).setCell ⟨n + 1, 2, none⟩ (.slice p3 (trimF c).list.length q3)).heap.size = w2.heap.size := by simp
    have BF := ((B2.setCell (p := ⟨n + 1, 0, none⟩) (by show w.heap.size ≤ n + 1; omega) (.slice p1 (trimF c).vars.length q1)).setCell (p := ⟨n + 1, 1, none⟩) (by show w.heap.size ≤ n + 1; omega) (.slice p2 (trimF c).arrays.length q2)).setCell (p := ⟨n + 1, 2, none⟩) (by show w.heap.size ≤ n + 1; omega) (.slice p3 (trimF c).list.length q3)
    have r0 := L3.cell 0
    have r1 := L3.cell 1
    have r2 := L3.cell 2
    simp only [List.getElem?_cons_zero, List.getElem?_cons_succ, List.set_cons_zero, List.set_cons_succ] at r0 r1 r2
    generalize ((w2.setCell ⟨n + 1, 0, none⟩ (.slice p1 (trimF c).vars.length q1)).setCell ⟨n + 1, 1, none⟩ (.slice p2 (trimF c).arrays.length q2)).setCell ⟨n + 1, 2, none⟩ (.slice p3 (trimF c).list.length q3) = WF at *
    exact bodyPost_ret (v := .tuple #[.agg #[.slice p1 (trimF c).vars.length q1, .slice p2 (trimF c).arrays.length q2, .slice p3 (trimF c).list.length q3], .bool true]) (by simp [results, Try.results36, go_sem, r0, r1, r2]) rfl ⟨_, by rw [HO.out], by rw [HC.out]; exact oF.wide (by omega) (by omega), BF⟩

end Go.Proofs.Ytjlnaiifegjneaa
