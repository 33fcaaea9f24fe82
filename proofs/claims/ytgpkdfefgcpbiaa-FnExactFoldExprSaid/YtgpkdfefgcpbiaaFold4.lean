/-
  One node simplified, the reference's l8Node: a select, a leaf, any node. Conditions: the node's operands are owned trees of as many operands as their kinds have.
-/
import Derived.Test.YtgpkdfefgcpbiaaFold3
namespace Go.Proofs.Ytgpkdfefgcpbiaa
set_option linter.unusedVariables false
set_option linter.unusedSimpArgs false
open Go Go.RowKit

set_option maxRecDepth 100000 in
set_option maxHeartbeats 8000000 in
theorem spec_l8Node3 (n : Int) (a b c : LExpr) (v : Value) (S : Nat → Prop) (w : World) (h : KidsO w v [a, b, c] S) :
    Calls Try.prog 137 #[.agg #[.int .i64 11, .int .i64 n, v]] w fun x w' => NodeQ w S (nodeE ⟨11, n, [a, b, c]⟩) x w' := by
  have hh := h
  obtain ⟨g, off, cap, av, ac, bv, bc, cv, cc, rfl, hg, hs, hcell, k0, k1, k2⟩ := h.three
  have HCELL : Hid (∀ W, Below w.heap.size w W → W.cell? ⟨g, off, none⟩ = some (.int .i64 a.kind) ∧ W.cell? ⟨g, off + 1, none⟩ = some (.int .i64 a.value) ∧ W.cell? ⟨g, off + 2, none⟩ = some (.slice av a.kids.length ac) ∧
      W.cell? ⟨g, off + 3, none⟩ = some (.int .i64 b.kind) ∧ W.cell? ⟨g, off + 4, none⟩ = some (.int .i64 b.value) ∧ W.cell? ⟨g, off + 5, none⟩ = some (.slice bv b.kids.length bc) ∧
      W.cell? ⟨g, off + 6, none⟩ = some (.int .i64 c.kind) ∧ W.cell? ⟨g, off + 7, none⟩ = some (.int .i64 c.value) ∧ W.cell? ⟨g, off + 8, none⟩ = some (.slice cv c.kids.length cc)) := fun W hW => by
    have hc := fun o => (bcell hW).1 g o hg
    simp only [hc]; exact hcell
  have HKK : Hid (∀ W, Below w.heap.size w W → KidsO W (.slice av a.kids.length ac) a.kids S ∧ KidsO W (.slice bv b.kids.length bc) b.kids S ∧ KidsO W (.slice cv c.kids.length cc) c.kids S ∧ KidsO W (.slice (some ⟨g, off, none⟩) 3 cap) [a, b, c] S) := fun W hW =>
    ⟨KidsO.same k0 fun b _ hl => hW.block b hl, KidsO.same k1 fun b _ hl => hW.block b hl, KidsO.same k2 fun b _ hl => hW.block b hl, KidsO.same hh fun b _ hl => hW.block b hl⟩
  clear hcell k0 k1 k2 h hh hs
  obtain ⟨W, hW, M⟩ : ∃ W, W = (w.alloc (.cells #[.int .i64 11, .int .i64 n, .slice (some ⟨g, off, none⟩) 3 cap] 41)).alloc (.cells #[.int .i64 0, .int .i64 0, .slice none 0 0] 41) ∧ Mem (fun _ => True) (fun _ => True) w W [.box w.heap.size [.int .i64 11, .int .i64 n, .slice (some ⟨g, off, none⟩) 3 cap], .box (w.heap.size + 1) [.int .i64 0, .int .i64 0, .slice none 0 0]] :=
    ⟨_, rfl, ((Mem.start fun _ _ => trivial).box _ _).box' _ _ (by simp)⟩
  by_cases qa : a.kind = 1
  case neg =>
    have pa : (a.kind != 1) = true := by simp [qa]
    have HN : Hid (nodeE ⟨11, n, [a, b, c]⟩ = ⟨11, n, [a, b, c]⟩) := by rw [Hid, node3, if_neg (fun h => qa h.1)]
    clear qa
    have y0 := M.c 0 0 rfl rfl
    have y1 := M.c 0 1 rfl rfl
    have y2 := M.c 0 2 rfl rfl
    have d0 := M.c 1 0 rfl rfl
    have d1 := M.c 1 1 rfl rfl
    have d2 := M.c 1 2 rfl rfl
    have ff := M.f 1 rfl
    obtain ⟨c0, c1, c2, c3, c4, c5, c6, c7, c8⟩ := HCELL.out _ (M.below fun _ _ => trivial)
    rw [hW] at y0 y1 y2 d0 d1 d2 ff c0 c1 c2 c3 c4 c5 c6 c7 c8
    have HM : Hid (Mem (fun _ => True) (fun _ => True) w _ [.box w.heap.size [.int .i64 11, .int .i64 n, .slice (some ⟨g, off, none⟩) 3 cap], .box (w.heap.size + 1) [.int .i64 11, .int .i64 n, .slice (some ⟨g, off, none⟩) 3 cap]]) := ((Mem.start fun _ _ => trivial).box [.int .i64 11, .int .i64 n, .slice (some ⟨g, off, none⟩) 3 cap] 41).box' [.int .i64 11, .int .i64 n, .slice (some ⟨g, off, none⟩) 3 cap] 41 (by simp)
    clear M
    go_enter Try.func137, Try.ntmps137
    go_wp2_with fail
    have M2 := HM.out
    have r0 : World.cell? _ ⟨w.heap.size + 1, 0, none⟩ = some (.int .i64 11) := M2.c 1 0 rfl rfl
    have r1 : World.cell? _ ⟨w.heap.size + 1, 1, none⟩ = some (.int .i64 n) := M2.c 1 1 rfl rfl
    have r2 : World.cell? _ ⟨w.heap.size + 1, 2, none⟩ = some (.slice (some ⟨g, off, none⟩) 3 cap) := M2.c 1 2 rfl rfl
    refine bodyPost_ret (v := .agg #[.int .i64 11, .int .i64 n, .slice (some ⟨g, off, none⟩) 3 cap]) (by simp [results, Try.results137, go_sem, r0, r1, r2]) rfl ?_
    rw [HN.out]
    exact ⟨_, _, rfl, HKK.out _ (M2.below fun _ _ => trivial) |>.2.2.2, M2.below fun _ _ => trivial⟩
  have pa : (a.kind != 1) = false := by simp [qa]
  have HQA := show Hid _ from qa
  clear qa
  have y0 := M.c 0 0 rfl rfl
  have y1 := M.c 0 1 rfl rfl
  have y2 := M.c 0 2 rfl rfl
  have d0 := M.c 1 0 rfl rfl
  have d1 := M.c 1 1 rfl rfl
  have d2 := M.c 1 2 rfl rfl
  have ff := M.f 1 rfl
  obtain ⟨c0, c1, c2, c3, c4, c5, c6, c7, c8⟩ := HCELL.out _ (M.below fun _ _ => trivial)
  have HM := show Hid _ from M
  rw [hW] at y0 y1 y2 d0 d1 d2 ff c0 c1 c2 c3 c4 c5 c6 c7 c8
  clear M
  go_enter Try.func137, Try.ntmps137
  go_wp2_with fail
  rw [← hW]
  clear hW
  have M := HM.out
  clear HM y0 y1 y2 d0 d1 d2 ff c0 c1 c2 c3 c4 c5 c6 c7 c8
  refine (spec_l8Quiet b S _ _ ⟨_, rfl, KidsO.read (HKK.out _ (M.below fun _ _ => trivial) |>.2.1) fun _ h => h⟩).mono ?_
  rintro x w1 ⟨rfl, b1⟩
  replace M := M.call b1
  clear b1
  cases hb : quietE b
  · have HN : Hid (nodeE ⟨11, n, [a, b, c]⟩ = ⟨11, n, [a, b, c]⟩) := by rw [Hid, node3, if_neg (fun h => by rw [hb] at h; exact absurd h.2.1 (by simp))]
    clear hb
    have y0 := M.c 0 0 rfl rfl
    have y1 := M.c 0 1 rfl rfl
    have y2 := M.c 0 2 rfl rfl
    have d0 := M.c 1 0 rfl rfl
    have d1 := M.c 1 1 rfl rfl
    have d2 := M.c 1 2 rfl rfl
    have ff := M.f 1 rfl
    obtain ⟨c0, c1, c2, c3, c4, c5, c6, c7, c8⟩ := HCELL.out _ (M.below fun _ _ => trivial)
    have HM := show Hid _ from ((M.set 1 rfl 0 (.int .i64 11)).set 1 rfl 1 (.int .i64 n)).set 1 rfl 2 (.slice (some ⟨g, off, none⟩) 3 cap)
    clear M
    go_wp2_with fail
    have M2 := HM.out
    have r0 : World.cell? _ ⟨w.heap.size + 1, 0, none⟩ = some (.int .i64 11) := M2.c 1 0 rfl rfl
    have r1 : World.cell? _ ⟨w.heap.size + 1, 1, none⟩ = some (.int .i64 n) := M2.c 1 1 rfl rfl
    have r2 : World.cell? _ ⟨w.heap.size + 1, 2, none⟩ = some (.slice (some ⟨g, off, none⟩) 3 cap) := M2.c 1 2 rfl rfl
    refine bodyPost_ret (v := .agg #[.int .i64 11, .int .i64 n, .slice (some ⟨g, off, none⟩) 3 cap]) (by simp [results, Try.results137, go_sem, r0, r1, r2]) rfl ?_
    rw [HN.out]
    exact ⟨_, _, rfl, HKK.out _ (M2.below fun _ _ => trivial) |>.2.2.2, M2.below fun _ _ => trivial⟩
  · have y0 := M.c 0 0 rfl rfl
    have y1 := M.c 0 1 rfl rfl
    have y2 := M.c 0 2 rfl rfl
    have d0 := M.c 1 0 rfl rfl
    have d1 := M.c 1 1 rfl rfl
    have d2 := M.c 1 2 rfl rfl
    have ff := M.f 1 rfl
    obtain ⟨c0, c1, c2, c3, c4, c5, c6, c7, c8⟩ := HCELL.out _ (M.below fun _ _ => trivial)
    have HM := show Hid _ from M
    clear M
    go_wp2_with fail
    have M := HM.out
    clear HM y0 y1 y2 d0 d1 d2 ff c0 c1 c2 c3 c4 c5 c6 c7 c8
    refine (spec_l8Quiet c S _ _ ⟨_, rfl, KidsO.read (HKK.out _ (M.below fun _ _ => trivial) |>.2.2.1) fun _ h => h⟩).mono ?_
    rintro x w1 ⟨rfl, b1⟩
    replace M := M.call b1
    clear b1
    cases hc : quietE c
    · have HN : Hid (nodeE ⟨11, n, [a, b, c]⟩ = ⟨11, n, [a, b, c]⟩) := by rw [Hid, node3, if_neg (fun h => by rw [hc] at h; exact absurd h.2.2 (by simp))]
      clear hb hc
      have y0 := M.c 0 0 rfl rfl
      have y1 := M.c 0 1 rfl rfl
      have y2 := M.c 0 2 rfl rfl
      have d0 := M.c 1 0 rfl rfl
      have d1 := M.c 1 1 rfl rfl
      have d2 := M.c 1 2 rfl rfl
      have ff := M.f 1 rfl
      obtain ⟨c0, c1, c2, c3, c4, c5, c6, c7, c8⟩ := HCELL.out _ (M.below fun _ _ => trivial)
      have HM := show Hid _ from ((M.set 1 rfl 0 (.int .i64 11)).set 1 rfl 1 (.int .i64 n)).set 1 rfl 2 (.slice (some ⟨g, off, none⟩) 3 cap)
      clear M
      go_wp2_with fail
      have M2 := HM.out
      have r0 : World.cell? _ ⟨w.heap.size + 1, 0, none⟩ = some (.int .i64 11) := M2.c 1 0 rfl rfl
      have r1 : World.cell? _ ⟨w.heap.size + 1, 1, none⟩ = some (.int .i64 n) := M2.c 1 1 rfl rfl
      have r2 : World.cell? _ ⟨w.heap.size + 1, 2, none⟩ = some (.slice (some ⟨g, off, none⟩) 3 cap) := M2.c 1 2 rfl rfl
      refine bodyPost_ret (v := .agg #[.int .i64 11, .int .i64 n, .slice (some ⟨g, off, none⟩) 3 cap]) (by simp [results, Try.results137, go_sem, r0, r1, r2]) rfl ?_
      rw [HN.out]
      exact ⟨_, _, rfl, HKK.out _ (M2.below fun _ _ => trivial) |>.2.2.2, M2.below fun _ _ => trivial⟩
    · by_cases qv : a.value = 0
      · have pv : (a.value != 0) = false := by simp [qv]
        have HN : Hid (nodeE ⟨11, n, [a, b, c]⟩ = c) := by rw [Hid, node3, if_pos ⟨HQA.out, hb, hc⟩, if_neg (by simp [qv])]
        clear qv hb hc
        have y0 := M.c 0 0 rfl rfl
        have y1 := M.c 0 1 rfl rfl
        have y2 := M.c 0 2 rfl rfl
        have d0 := M.c 1 0 rfl rfl
        have d1 := M.c 1 1 rfl rfl
        have d2 := M.c 1 2 rfl rfl
        have ff := M.f 1 rfl
        obtain ⟨c0, c1, c2, c3, c4, c5, c6, c7, c8⟩ := HCELL.out _ (M.below fun _ _ => trivial)
        have HM := show Hid _ from ((M.set 1 rfl 0 (.int .i64 c.kind)).set 1 rfl 1 (.int .i64 c.value)).set 1 rfl 2 (.slice cv c.kids.length cc)
        clear M
        go_wp2_with fail
        have M2 := HM.out
        have r0 : World.cell? _ ⟨w.heap.size + 1, 0, none⟩ = some (.int .i64 c.kind) := M2.c 1 0 rfl rfl
        have r1 : World.cell? _ ⟨w.heap.size + 1, 1, none⟩ = some (.int .i64 c.value) := M2.c 1 1 rfl rfl
        have r2 : World.cell? _ ⟨w.heap.size + 1, 2, none⟩ = some (.slice cv c.kids.length cc) := M2.c 1 2 rfl rfl
        refine bodyPost_ret (v := .agg #[.int .i64 c.kind, .int .i64 c.value, .slice cv c.kids.length cc]) (by simp [results, Try.results137, go_sem, r0, r1, r2]) rfl ?_
        rw [HN.out]
        exact ⟨_, _, rfl, HKK.out _ (M2.below fun _ _ => trivial) |>.2.2.1, M2.below fun _ _ => trivial⟩
      · have pv : (a.value != 0) = true := by simp [qv]
        have HN : Hid (nodeE ⟨11, n, [a, b, c]⟩ = b) := by rw [Hid, node3, if_pos ⟨HQA.out, hb, hc⟩, if_pos qv]
        clear qv hb hc
        have y0 := M.c 0 0 rfl rfl
        have y1 := M.c 0 1 rfl rfl
        have y2 := M.c 0 2 rfl rfl
        have d0 := M.c 1 0 rfl rfl
        have d1 := M.c 1 1 rfl rfl
        have d2 := M.c 1 2 rfl rfl
        have ff := M.f 1 rfl
        obtain ⟨c0, c1, c2, c3, c4, c5, c6, c7, c8⟩ := HCELL.out _ (M.below fun _ _ => trivial)
        have HM := show Hid _ from ((M.set 1 rfl 0 (.int .i64 b.kind)).set 1 rfl 1 (.int .i64 b.value)).set 1 rfl 2 (.slice bv b.kids.length bc)
        clear M
        go_wp2_with fail
        have M2 := HM.out
        have r0 : World.cell? _ ⟨w.heap.size + 1, 0, none⟩ = some (.int .i64 b.kind) := M2.c 1 0 rfl rfl
        have r1 : World.cell? _ ⟨w.heap.size + 1, 1, none⟩ = some (.int .i64 b.value) := M2.c 1 1 rfl rfl
        have r2 : World.cell? _ ⟨w.heap.size + 1, 2, none⟩ = some (.slice bv b.kids.length bc) := M2.c 1 2 rfl rfl
        refine bodyPost_ret (v := .agg #[.int .i64 b.kind, .int .i64 b.value, .slice bv b.kids.length bc]) (by simp [results, Try.results137, go_sem, r0, r1, r2]) rfl ?_
        rw [HN.out]
        exact ⟨_, _, rfl, HKK.out _ (M2.below fun _ _ => trivial) |>.2.1, M2.below fun _ _ => trivial⟩

set_option maxRecDepth 100000 in
set_option maxHeartbeats 8000000 in
theorem spec_l8Node_low (k n : Int) (ks : List LExpr) (v : Value) (S : Nat → Prop) (w : World) (h : KidsO w v ks S) (hk : k < 4) (hN : nodeE ⟨k, n, ks⟩ = ⟨k, n, ks⟩) :
    Calls Try.prog 137 #[.agg #[.int .i64 k, .int .i64 n, v]] w fun x w' => NodeQ w S (nodeE ⟨k, n, ks⟩) x w' := by
  have HN := show Hid _ from hN
  obtain ⟨ad, cap, rfl, -⟩ := h.open
  have HKK : Hid (∀ W, Below w.heap.size w W → KidsO W (.slice ad ks.length cap) ks S) := fun W hW => KidsO.same h fun b _ hl => hW.block b hl
  have p11 : (k == 11) = false := by simp; omega
  clear h hN
  obtain ⟨W, hW, M⟩ : ∃ W, W = (w.alloc (.cells #[.int .i64 k, .int .i64 n, .slice ad ks.length cap] 41)).alloc (.cells #[.int .i64 0, .int .i64 0, .slice none 0 0] 41) ∧ Mem (fun _ => True) (fun _ => True) w W [.box w.heap.size [.int .i64 k, .int .i64 n, .slice ad ks.length cap], .box (w.heap.size + 1) [.int .i64 0, .int .i64 0, .slice none 0 0]] :=
    ⟨_, rfl, ((Mem.start fun _ _ => trivial).box _ _).box' _ _ (by simp)⟩
  have y0 := M.c 0 0 rfl rfl
  have y1 := M.c 0 1 rfl rfl
  have y2 := M.c 0 2 rfl rfl
  have d0 := M.c 1 0 rfl rfl
  have d1 := M.c 1 1 rfl rfl
  have d2 := M.c 1 2 rfl rfl
  have ff := M.f 1 rfl
  rw [hW] at y0 y1 y2 d0 d1 d2 ff
  have HM : Hid (Mem (fun _ => True) (fun _ => True) w _ [.box w.heap.size [.int .i64 k, .int .i64 n, .slice ad ks.length cap], .box (w.heap.size + 1) [.int .i64 k, .int .i64 n, .slice ad ks.length cap]]) := ((Mem.start fun _ _ => trivial).box [.int .i64 k, .int .i64 n, .slice ad ks.length cap] 41).box' [.int .i64 k, .int .i64 n, .slice ad ks.length cap] 41 (by simp)
  clear M
  go_enter Try.func137, Try.ntmps137
  go_wp2_with fail
  have M2 := HM.out
  have r0 : World.cell? _ ⟨w.heap.size + 1, 0, none⟩ = some (.int .i64 k) := M2.c 1 0 rfl rfl
  have r1 : World.cell? _ ⟨w.heap.size + 1, 1, none⟩ = some (.int .i64 n) := M2.c 1 1 rfl rfl
  have r2 : World.cell? _ ⟨w.heap.size + 1, 2, none⟩ = some (.slice ad ks.length cap) := M2.c 1 2 rfl rfl
  refine bodyPost_ret (v := .agg #[.int .i64 k, .int .i64 n, .slice ad ks.length cap]) (by simp [results, Try.results137, go_sem, r0, r1, r2]) rfl ?_
  rw [HN.out]
  exact ⟨_, _, rfl, HKK.out _ (M2.below fun _ _ => trivial), M2.below fun _ _ => trivial⟩

theorem good_kinds {e : LExpr} (h : goodE e = true) : (e.kind = 11 ∧ e.kids.length = 3) ∨ (4 ≤ e.kind ∧ e.kind ≤ 10 ∧ e.kids.length = 2) ∨ (e.kind < 4 ∧ 1 ≤ e.kind ∧ e.kids.length ≤ 1) := by
  have h1 := goodE_len h
  unfold arity at h1
  split at h1
  · right; right; omega
  split at h1
  · right; right; omega
  split at h1
  · right; left; omega
  split at h1
  · left; omega
  · omega
theorem spec_l8Node (e : LExpr) (hg : goodE e = true) (v : Value) (S : Nat → Prop) (w : World) (h : KidsO w v e.kids S) :
    Calls Try.prog 137 #[.agg #[.int .i64 e.kind, .int .i64 e.value, v]] w fun x w' => NodeQ w S (nodeE e) x w' := by
  rcases e with ⟨k, n, ks⟩
  have hk := (goodEs_iff _).1 (goodE_kids hg)
  rcases good_kinds hg with ⟨h1, h2⟩ | ⟨h1, h2, h3⟩ | ⟨h1, h2, h3⟩
  · have h1' : k = 11 := h1
    subst h1'
    match ks, h2, h with
    | [a, b, c], _, h => exact spec_l8Node3 n a b c v S w h
  · match ks, h3, h, hk with
    | [a, b], _, h, hk => exact spec_l8Node2 k n a b v S w h h1 h2 (goodE_val (hk a (by simp [LExpr.kids]))) (goodE_val (hk b (by simp [LExpr.kids])))
  · match ks, h3, h with
    | [], _, h => exact spec_l8Node_low k n _ v S w h h1 rfl
    | [a], _, h => exact spec_l8Node_low k n _ v S w h h1 rfl

end Go.Proofs.Ytgpkdfefgcpbiaa
