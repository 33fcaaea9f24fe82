/-
  Texts of this claim, part 6: what the functions on the way do, and plain laws. Conditions: as each statement says.
-/
import Derived.Test.YtgpkdfefgcpbiaaK5

namespace Go.Proofs.Ytgpkdfefgcpbiaa
set_option linter.unusedVariables false
set_option linter.unusedSimpArgs false
open Go Go.RowKit

set_option maxRecDepth 100000 in
set_option maxHeartbeats 8000000 in
theorem spec_l8Node3 (n : Int) (a b c : LExpr) (v : Value) (S : Nat → Prop) (w : World) (h : KidsO w v [a, b, c] S) :
    Calls Try.prog 137 #[.agg #[.int .i64 11, .int .i64 n, v]] w fun x w' => NodeQ w S (nodeE ⟨11, n, [a, b, c]⟩) x w' := by
  have hh := h
  obtain ⟨g, off, cap, av, ac, bv, bc, cv, cc, rfl, hg, hs, hcell, k0, k1, k2⟩ := h.three
  have HCELL : Hid (∀ W, Below w.heap.size w W → W.cell? ⟨g, off, none⟩ = some (.int .i64 a.kind) ∧ W.cell? ⟨g, off + 1, none⟩ = some (.int .i64 a.value) ∧ W.cell? ⟨g, off + 2, none⟩ = some (.slice av a.kids.length ac) ∧
      W.cell? ⟨g, off + 3, none⟩ = some (.int .i64 b.kind) ∧ W.cell? ⟨g, off + 4, none⟩ = some (.int .i64 b.value) ∧ W.cell? ⟨g, off + 5, none⟩ = some (.slice bv b.kids.length bc) ∧
      W.cell? ⟨g, off + 6, none⟩ = some (.int .i64 c.kind) ∧ W.cell? ⟨g, off + 7, none⟩ = some (.int .i64 c.value) ∧ W.cell? ⟨g, off + 8, none⟩ = some (.slice cv c.kids.length cc)) := fun W hW => by
    have hc := fun o => (bcell hW).1 g o hg
    simp only [hc]; exact hcell
  have HKK : Hid (∀ W, Below w.heap.size w W → KidsO W (.slice av a.kids.length ac) a.kids S ∧ KidsO W (.slice bv b.kids.length bc) b.kids S ∧ KidsO W (.slice cv c.kids.length cc) c.kids S ∧ KidsO W (.slice (some ⟨g, off, none⟩) 3 cap) [a, b, c] S) := fun W hW =>
    ⟨KidsO.same k0 fun b _ hl => hW.block b hl, KidsO.same k1 fun b _ hl => hW.block b hl, KidsO.same k2 fun b _ hl => hW.block b hl, KidsO.same hh fun b _ hl => hW.block b hl⟩
  clear hcell k0 k1 k2 h hh hs
  obtain ⟨W, hW, M⟩ : ∃ W, W = (w.alloc (.cells #[.int .i64 11, .int .i64 n, .slice (some ⟨g, off, none⟩) 3 cap] 41)).alloc (.cells #[.int .i64 0, .int .i64 0, .slice none 0 0] 41) ∧ Mem (fun _ => True) (fun _ => True) w W [.box w.heap.size [.int .i64 11, .int .i64 n, .slice (some ⟨g, off, none⟩) 3 cap], .box (w.heap.size + 1) [.int .i64 0, .int .i64 0, .slice none 0 0]] :=
    ⟨_, rfl, ((Mem.start fun _ _ => trivial).box _ _).box' _ _ (by simp)⟩
  by_cases qa : a.kind = 1
  case neg =>
    have pa : (a.kind != 1) = true := by simp [qa]
    have HN : Hid (nodeE ⟨11, n, [a, b, c]⟩ = ⟨11, n, [a, b, c]⟩) := by rw [Hid, node3, if_neg (fun h => qa h.1)]
    clear qa
    have y0 := M.c 0 0 rfl rfl
    have y1 := M.c 0 1 rfl rfl
    have y2 := M.c 0 2 rfl rfl
    have d0 := M.c 1 0 rfl rfl
    have d1 := M.c 1 1 rfl rfl
    have d2 := M.c 1 2 rfl rfl
    have ff := M.f 1 rfl
    obtain ⟨c0, c1, c2, c3, c4, c5, c6, c7, c8⟩ := HCELL.out _ (M.below fun _ _ => trivial)
    rw [hW] at y0 y1 y2 d0 d1 d2 ff c0 c1 c2 c3 c4 c5 c6 c7 c8
    have HM : Hid (Mem (fun _ => True) (fun _ => True) w _ [.box w.heap.size [.int .i64 11, .int .i64 n, .slice (some ⟨g, off, none⟩) 3 cap], .box (w.heap.size + 1) [.int .i64 11, .int .i64 n, .slice (some ⟨g, off, none⟩) 3 cap]]) := ((Mem.start fun _ _ => trivial).box [.int .i64 11, .int .i64 n, .slice (some ⟨g, off, none⟩) 3 cap] 41).box' [.int .i64 11, .int .i64 n, .slice (some ⟨g, off, none⟩) 3 cap] 41 (by simp)
    clear M
    go_enter Try.func137, Try.ntmps137
    go_wp2_with fail
    have M2 := HM.out
    have r0 : World.cell? _ ⟨w.heap.size + 1, 0, none⟩ = some (.int .i64 11) := M2.c 1 0 rfl rfl
    have r1 : World.cell? _ ⟨w.heap.size + 1, 1, none⟩ = some (.int .i64 n) := M2.c 1 1 rfl rfl
    have r2 : World.cell? _ ⟨w.heap.size + 1, 2, none⟩ = some (.slice (some ⟨g, off, none⟩) 3 cap) := M2.c 1 2 rfl rfl
    refine bodyPost_ret (v := .agg #[.int .i64 11, .int .i64 n, .slice (some ⟨g, off, none⟩) 3 cap]) (by simp [results, Try.results137, go_sem, r0, r1, r2]) rfl ?_
    rw [HN.out]
    exact ⟨_, _, rfl, HKK.out _ (M2.below fun _ _ => trivial) |>.2.2.2, M2.below fun _ _ => trivial⟩
  have pa : (a.kind != 1) = false := by simp [qa]
  have HQA := show Hid _ from qa
  clear qa
  have y0 := M.c 0 0 rfl rfl
  have y1 := M.c 0 1 rfl rfl
  have y2 := M.c 0 2 rfl rfl
  have d0 := M.c 1 0 rfl rfl
  have d1 := M.c 1 1 rfl rfl
  have d2 := M.c 1 2 rfl rfl
  have ff := M.f 1 rfl
  obtain ⟨c0, c1, c2, c3, c4, c5, c6, c7, c8⟩ := HCELL.out _ (M.below fun _ _ => trivial)
  have HM := show Hid _ from M
  rw [hW] at y0 y1 y2 d0 d1 d2 ff c0 c1 c2 c3 c4 c5 c6 c7 c8
  clear M
  go_enter Try.func137, Try.ntmps137
  go_wp2_with fail
  rw [← hW]
  clear hW
  have M := HM.out
  clear HM y0 y1 y2 d0 d1 d2 ff c0 c1 c2 c3 c4 c5 c6 c7 c8
  refine (spec_l8Quiet b S _ _ ⟨_, rfl, KidsO.read (HKK.out _ (M.below fun _ _ => trivial) |>.2.1) fun _ h => h⟩).mono ?_
  rintro x w1 ⟨rfl, b1⟩
  replace M := M.call b1
  clear b1
  cases hb : quietE b
  · have HN : Hid (nodeE ⟨11, n, [a, b, c]⟩ = ⟨11, n, [a, b, c]⟩) := by rw [Hid, node3, if_neg (fun h => by rw [hb] at h; exact absurd h.2.1 (by simp))]
    clear hb
    have y0 := M.c 0 0 rfl rfl
    have y1 := M.c 0 1 rfl rfl
    have y2 := M.c 0 2 rfl rfl
    have d0 := M.c 1 0 rfl rfl
    have d1 := M.c 1 1 rfl rfl
    have d2 := M.c 1 2 rfl rfl
    have ff := M.f 1 rfl
    obtain ⟨c0, c1, c2, c3, c4, c5, c6, c7, c8⟩ := HCELL.out _ (M.below fun _ _ => trivial)
    have HM := show Hid _ from ((M.set 1 rfl 0 (.int .i64 11)).set 1 rfl 1 (.int .i64 n)).set 1 rfl 2 (.slice (some ⟨g, off, none⟩) 3 cap)
    clear M
    go_wp2_with fail
    have M2 := HM.out
    have r0 : World.cell? _ ⟨w.heap.size + 1, 0, none⟩ = some (.int .i64 11) := M2.c 1 0 rfl rfl
    have r1 : World.cell? _ ⟨w.heap.size + 1, 1, none⟩ = some (.int .i64 n) := M2.c 1 1 rfl rfl
    have r2 : World.cell? _ ⟨w.heap.size + 1, 2, none⟩ = some (.slice (some ⟨g, off, none⟩) 3 cap) := M2.c 1 2 rfl rfl
    refine bodyPost_ret (v := .agg #[.int .i64 11, .int .i64 n, .slice (some ⟨g, off, none⟩) 3 cap]) (by simp [results, Try.results137, go_sem, r0, r1, r2]) rfl ?_
    rw [HN.out]
    exact ⟨_, _, rfl, HKK.out _ (M2.below fun _ _ => trivial) |>.2.2.2, M2.below fun _ _ => trivial⟩
  · have y0 := M.c 0 0 rfl rfl
    have y1 := M.c 0 1 rfl rfl
    have y2 := M.c 0 2 rfl rfl
    have d0 := M.c 1 0 rfl rfl
    have d1 := M.c 1 1 rfl rfl
    have d2 := M.c 1 2 rfl rfl
    have ff := M.f 1 rfl
    obtain ⟨c0, c1, c2, c3, c4, c5, c6, c7, c8⟩ := HCELL.out _ (M.below fun _ _ => trivial)
    have HM := show Hid _ from M
    clear M
    go_wp2_with fail
    have M := HM.out
    clear HM y0 y1 y2 d0 d1 d2 ff c0 c1 c2 c3 c4 c5 c6 c7 c8
    refine (spec_l8Quiet c S _ _ ⟨_, rfl, KidsO.read (HKK.out _ (M.below fun _ _ => trivial) |>.2.2.1) fun _ h => h⟩).mono ?_
    rintro x w1 ⟨rfl, b1⟩
    replace M := M.call b1
    clear b1
    cases hc : quietE c
    · have HN : Hid (nodeE ⟨11, n, [a, b, c]⟩ = ⟨11, n, [a, b, c]⟩) := by rw [Hid, node3, if_neg (fun h => by rw [hc] at h; exact absurd h.2.2 (by simp))]
      clear hb hc
      have y0 := M.c 0 0 rfl rfl
      have y1 := M.c 0 1 rfl rfl
      have y2 := M.c 0 2 rfl rfl
      have d0 := M.c 1 0 rfl rfl
      have d1 := M.c 1 1 rfl rfl
      have d2 := M.c 1 2 rfl rfl
      have ff := M.f 1 rfl
      obtain ⟨c0, c1, c2, c3, c4, c5, c6, c7, c8⟩ := HCELL.out _ (M.below fun _ _ => trivial)
      have HM := show Hid _ from ((M.set 1 rfl 0 (.int .i64 11)).set 1 rfl 1 (.int .i64 n)).set 1 rfl 2 (.slice (some ⟨g, off, none⟩) 3 cap)
      clear M
      go_wp2_with fail
      have M2 := HM.out
      have r0 : World.cell? _ ⟨w.heap.size + 1, 0, none⟩ = some (.int .i64 11) := M2.c 1 0 rfl rfl
      have r1 : World.cell? _ ⟨w.heap.size + 1, 1, none⟩ = some (.int .i64 n) := M2.c 1 1 rfl rfl
      have r2 : World.cell? _ ⟨w.heap.size + 1, 2, none⟩ = some (.slice (some ⟨g, off, none⟩) 3 cap) := M2.c 1 2 rfl rfl
      refine bodyPost_ret (v := .agg #[.int .i64 11, .int .i64 n, .slice (some ⟨g, off, none⟩) 3 cap]) (by simp [results, Try.results137, go_sem, r0, r1, r2]) rfl ?_
      rw [HN.out]
      exact ⟨_, _, rfl, HKK.out _ (M2.below fun _ _ => trivial) |>.2.2.2, M2.below fun _ _ => trivial⟩
    · by_cases qv : a.value = 0
      · have pv : (a.value != 0) = false := by simp [qv]
        have HN : Hid (nodeE ⟨11, n, [a, b, c]⟩ = c) := by rw [Hid, node3, if_pos ⟨HQA.out, hb, hc⟩, if_neg (by simp [qv])]
        clear qv hb hc
        have y0 := M.c 0 0 rfl rfl
        have y1 := M.c 0 1 rfl rfl
        have y2 := M.c 0 2 rfl rfl
        have d0 := M.c 1 0 rfl rfl
        have d1 := M.c 1 1 rfl rfl
        have d2 := M.c 1 2 rfl rfl
        have ff := M.f 1 rfl
        obtain ⟨c0, c1, c2, c3, c4, c5, c6, c7, c8⟩ := HCELL.out _ (M.below fun _ _ => trivial)
        have HM := show Hid _ from ((M.set 1 rfl 0 (.int .i64 c.kind)).set 1 rfl 1 (.int .i64 c.value)).set 1 rfl 2 (.slice cv c.kids.length cc)
        clear M
        go_wp2_with fail
        have M2 := HM.out
        have r0 : World.cell? _ ⟨w.heap.size + 1, 0, none⟩ = some (.int .i64 c.kind) := M2.c 1 0 rfl rfl
        have r1 : World.cell? _ ⟨w.heap.size + 1, 1, none⟩ = some (.int .i64 c.value) := M2.c 1 1 rfl rfl
        have r2 : World.cell? _ ⟨w.heap.size + 1, 2, none⟩ = some (.slice cv c.kids.length cc) := M2.c 1 2 rfl rfl
        refine bodyPost_ret (v := .agg #[.int .i64 c.kind, .int .i64 c.value, .slice cv c.kids.length cc]) (by simp [results, Try.results137, go_sem, r0, r1, r2]) rfl ?_
        rw [HN.out]
        exact ⟨_, _, rfl, HKK.out _ (M2.below fun _ _ => trivial) |>.2.2.1, M2.below fun _ _ => trivial⟩
      · have pv : (a.value != 0) = true := by simp [qv]
        have HN : Hid (nodeE ⟨11, n, [a, b, c]⟩ = b) := by rw [Hid, node3, if_pos ⟨HQA.out, hb, hc⟩, if_pos qv]
        clear qv hb hc
        have y0 := M.c 0 0 rfl rfl
        have y1 := M.c 0 1 rfl rfl
        have y2 := M.c 0 2 rfl rfl
        have d0 := M.c 1 0 rfl rfl
        have d1 := M.c 1 1 rfl rfl
        have d2 := M.c 1 2 rfl rfl
        have ff := M.f 1 rfl
        obtain ⟨c0, c1, c2, c3, c4, c5, c6, c7, c8⟩ := HCELL.out _ (M.below fun _ _ => trivial)
        have HM := show Hid _ from ((M.set 1 rfl 0 (.int .i64 b.kind)).set 1 rfl 1 (.int .i64 b.value)).set 1 rfl 2 (.slice bv b.kids.length bc)
        clear M
        go_wp2_with fail
        have M2 := HM.out
        have r0 : World.cell? _ ⟨w.heap.size + 1, 0, none⟩ = some (.int .i64 b.kind) := M2.c 1 0 rfl rfl
        have r1 : World.cell? _ ⟨w.heap.size + 1, 1, none⟩ = some (.int .i64 b.value) := M2.c 1 1 rfl rfl
        have r2 : World.cell? _ ⟨w.heap.size + 1, 2, none⟩ = some (.slice bv b.kids.length bc) := M2.c 1 2 rfl rfl
        refine bodyPost_ret (v := .agg #[.int .i64 b.kind, .int .i64 b.value, .slice bv b.kids.length bc]) (by simp [results, Try.results137, go_sem, r0, r1, r2]) rfl ?_
        rw [HN.out]
        exact ⟨_, _, rfl, HKK.out _ (M2.below fun _ _ => trivial) |>.2.1, M2.below fun _ _ => trivial⟩

set_option maxRecDepth 100000 in
set_option maxHeartbeats 8000000 in
theorem spec_l8Node_low (k n : Int) (ks : List LExpr) (v : Value) (S : Nat → Prop) (w : World) (h : KidsO w v ks S) (hk : k < 4) (hN : nodeE ⟨k, n, ks⟩ = ⟨k, n, ks⟩) :
    Calls Try.prog 137 #[.agg #[.int .i64 k, .int .i64 n, v]] w fun x w' => NodeQ w S (nodeE ⟨k, n, ks⟩) x w' := by
  have HN := show Hid _ from hN
  obtain ⟨ad, cap, rfl, -⟩ := h.open
  have HKK : Hid (∀ W, Below w.heap.size w W → KidsO W (.slice ad ks.length cap) ks S) := fun W hW => KidsO.same h fun b _ hl => hW.block b hl
  have p11 : (k == 11) = false := by simp; omega
  clear h hN
  obtain ⟨W, hW, M⟩ : ∃ W, W = (w.alloc (.cells #[.int .i64 k, .int .i64 n, .slice ad ks.length cap] 41)).alloc (.cells #[.int .i64 0, .int .i64 0, .slice none 0 0] 41) ∧ Mem (fun _ => True) (fun _ => True) w W [.box w.heap.size [.int .i64 k, .int .i64 n, .slice ad ks.length cap], .box (w.heap.size + 1) [.int .i64 0, .int .i64 0, .slice none 0 0]] :=
    ⟨_, rfl, ((Mem.start fun _ _ => trivial).box _ _).box' _ _ (by simp)⟩
  have y0 := M.c 0 0 rfl rfl
  have y1 := M.c 0 1 rfl rfl
  have y2 := M.c 0 2 rfl rfl
  have d0 := M.c 1 0 rfl rfl
  have d1 := M.c 1 1 rfl rfl
  have d2 := M.c 1 2 rfl rfl
  have ff := M.f 1 rfl
  rw [hW] at y0 y1 y2 d0 d1 d2 ff
  have HM : Hid (Mem (fun _ => True) (fun _ => True) w _ [.box w.heap.size [.int .i64 k, .int .i64 n, .slice ad ks.length cap], .box (w.heap.size + 1) [.int .i64 k, .int .i64 n, .slice ad ks.length cap]]) := ((Mem.start fun _ _ => trivial).box [.int .i64 k, .int .i64 n, .slice ad ks.length cap] 41).box' [.int .i64 k, .int .i64 n, .slice ad ks.length cap] 41 (by simp)
  clear M
  go_enter Try.func137, Try.ntmps137
  go_wp2_with fail
  have M2 := HM.out
  have r0 : World.cell? _ ⟨w.heap.size + 1, 0, none⟩ = some (.int .i64 k) := M2.c 1 0 rfl rfl
  have r1 : World.cell? _ ⟨w.heap.size + 1, 1, none⟩ = some (.int .i64 n) := M2.c 1 1 rfl rfl
  have r2 : World.cell? _ ⟨w.heap.size + 1, 2, none⟩ = some (.slice ad ks.length cap) := M2.c 1 2 rfl rfl
  refine bodyPost_ret (v := .agg #[.int .i64 k, .int .i64 n, .slice ad ks.length cap]) (by simp [results, Try.results137, go_sem, r0, r1, r2]) rfl ?_
  rw [HN.out]
  exact ⟨_, _, rfl, HKK.out _ (M2.below fun _ _ => trivial), M2.below fun _ _ => trivial⟩

theorem good_kinds {e : LExpr} (h : goodE e = true) : (e.kind = 11 ∧ e.kids.length = 3) ∨ (4 ≤ e.kind ∧ e.kind ≤ 10 ∧ e.kids.length = 2) ∨ (e.kind < 4 ∧ 1 ≤ e.kind ∧ e.kids.length ≤ 1) := by
  have h1 := goodE_len h
  unfold arity at h1
  split at h1
  · right; right; omega
  split at h1
  · right; right; omega
  split at h1
  · right; left; omega
  split at h1
  · left; omega
  · omega
theorem spec_l8Node (e : LExpr) (hg : goodE e = true) (v : Value) (S : Nat → Prop) (w : World) (h : KidsO w v e.kids S) :
    Calls Try.prog 137 #[.agg #[.int .i64 e.kind, .int .i64 e.value, v]] w fun x w' => NodeQ w S (nodeE e) x w' := by
  rcases e with ⟨k, n, ks⟩
  have hk := (goodEs_iff _).1 (goodE_kids hg)
  rcases good_kinds hg with ⟨h1, h2⟩ | ⟨h1, h2, h3⟩ | ⟨h1, h2, h3⟩
  · have h1' : k = 11 := h1
    subst h1'
    match ks, h2, h with
    | [a, b, c], _, h => exact spec_l8Node3 n a b c v S w h
  · match ks, h3, h, hk with
    | [a, b], _, h, hk => exact spec_l8Node2 k n a b v S w h h1 h2 (goodE_val (hk a (by simp [LExpr.kids]))) (goodE_val (hk b (by simp [LExpr.kids])))
  · match ks, h3, h with
    | [], _, h => exact spec_l8Node_low k n _ v S w h h1 rfl
    | [a], _, h => exact spec_l8Node_low k n _ v S w h h1 rfl

end Go.Proofs.Ytgpkdfefgcpbiaa

namespace Go.Proofs.Ytgpkdfefgcpbiaa
set_option linter.unusedVariables false
set_option linter.unusedSimpArgs false
open Go Go.RowKit

theorem blk_row {w : World} {g : Nat} {cs : List Value} (h : Blk w g cs) : Row w (.slice (some ⟨g, 0, none⟩) 1 1) 1 cs.length cs := by
  refine ⟨by simp, _, _, rfl, Nat.le_refl _, by unfold maxLen; omega, fun _ => ⟨_, _, rfl, h.lt, fun j u hj => ?_⟩⟩
  rw [Nat.zero_add, h.cell j]; exact hj

theorem good_map {e : LExpr} (h : goodE e = true) : goodE ⟨e.kind, e.value, e.kids.map foldE⟩ = true := by
  rw [goodE_def] at h ⊢
  simp only [LExpr.kids, LExpr.kind, LExpr.value, List.length_map, Bool.and_eq_true] at h ⊢
  refine ⟨h.1, (goodEs_iff _).2 fun x hx => ?_⟩
  obtain ⟨y, hy, rfl⟩ := List.mem_map.1 hx
  exact foldE_good y ((goodEs_iff _).1 h.2 y hy)

def FoE (e : LExpr) : Prop := goodE e = true → ∀ (φ : Nat → Prop) (v : Value) (w : World), ExprV w φ v e →
  Calls Try.prog 74 #[v] w fun x w' => ∃ a c S, x = .returned (.agg #[.int .i64 (foldE e).kind, .int .i64 (foldE e).value, .slice a (foldE e).kids.length c]) ∧ KidsO w' (.slice a (foldE e).kids.length c) (foldE e).kids S ∧ (∀ b, S b → w.heap.size ≤ b ∧ b < w'.heap.size) ∧ Below w.heap.size w w'

set_option maxRecDepth 100000 in
set_option maxHeartbeats 8000000 in
theorem spec_l8Fold (e : LExpr) : FoE e := by
  refine LExpr.ind (P := FoE) (fun k0 n0 ks ih => ?_) e
  obtain ⟨e, he⟩ : ∃ e : LExpr, e = ⟨k0, n0, ks⟩ := ⟨_, rfl⟩
  have hks : ks = e.kids := by rw [he]; rfl
  rw [← he]
  subst hks
  clear he
  intro hgood φ v w h
  obtain ⟨kv, rfl, hk⟩ := h
  obtain ⟨ak, ck, rfl, -, hn, -, hc⟩ := hk.open
  have hl3 : e.kids.length ≤ 3 := by have h1 := goodE_len hgood; have h2 := arity_le e.kind; omega
  obtain ⟨W, hW, M⟩ : ∃ W, W = ((w.alloc (.cells #[.int .i64 e.kind, .int .i64 e.value, .slice ak e.kids.length ck] 41)).alloc (.cells #[.int .i64 0, .int .i64 0, .slice none 0 0] 41)).alloc (.cells #[.int .i64 e.kind, .int .i64 e.value, .slice none 0 0] 41) ∧
      Mem (fun _ => True) (fun _ => True) w W [.box w.heap.size [.int .i64 e.kind, .int .i64 e.value, .slice ak e.kids.length ck], .box (w.heap.size + 1) [.int .i64 0, .int .i64 0, .slice none 0 0], .box (w.heap.size + 1 + 1) [.int .i64 e.kind, .int .i64 e.value, .slice none 0 0], .row 41 3 (.slice none 0 0) 0 [], .own (fun _ => False) (fun w => ExprsO w [] (fun _ => False) [])] :=
    ⟨_, rfl, (((((Mem.start fun _ _ => trivial).box _ _).box' _ _ (by simp)).box' _ _ (by simp)).nil 41 3).noneE⟩
  have HC0 := show Hid _ from hc
  have HGK := show Hid (∀ x ∈ e.kids, goodE x = true) from (goodEs_iff _).1 (goodE_kids hgood)
  have HM := show Hid _ from M
  clear hk hc M
  go_enter Try.func74, Try.ntmps74
  go_wp2_with fail
  rw [← hW]
  clear hW
  go_loopw [4] (fun i wr => ∃ (k : Nat) (a : Option Addr) (c : Nat) (S : Nat → Prop) (ys : List Value), k ≤ e.kids.length ∧ i = .int .i64 k ∧ Mem (fun _ => True) (fun _ => True) w wr [.box w.heap.size [.int .i64 e.kind, .int .i64 e.value, .slice ak e.kids.length ck], .box (w.heap.size + 1) [.int .i64 0, .int .i64 0, .slice none 0 0], .box (w.heap.size + 1 + 1) [.int .i64 e.kind, .int .i64 e.value, .slice a k c], .row 41 3 (.slice a k c) k ys, .own S (fun w => ExprsO w ((e.kids.take k).map foldE) S ys)]) (fun i _ => e.kids.length - (intOf i).toNat)
  case atStart => exact ⟨0, none, 0, fun _ => False, [], Nat.zero_le _, rfl, HM.out⟩
  case round =>
    clear HM
    obtain ⟨k, a, c, S, ys, hk, rfl, M⟩ := hrel
    by_cases hlt : k < e.kids.length
    · obtain ⟨b, off, kv, rfl, hbk, hf, c0, c1, c2, hkv⟩ := HC0.out k hlt
      obtain ⟨ka, kc, rfl, -⟩ := hkv.open
      have HE : Hid (∀ w', Below w.heap.size w w' → Calls Try.prog 74 #[.agg #[.int .i64 e.kids[k].kind, .int .i64 e.kids[k].value, .slice ka e.kids[k].kids.length kc]] w' fun x w'' => ∃ a c S, x = .returned (.agg #[.int .i64 (foldE e.kids[k]).kind, .int .i64 (foldE e.kids[k]).value, .slice a (foldE e.kids[k]).kids.length c]) ∧ KidsO w'' (.slice a (foldE e.kids[k]).kids.length c) (foldE e.kids[k]).kids S ∧ (∀ b, S b → w'.heap.size ≤ b ∧ b < w''.heap.size) ∧ Below w'.heap.size w' w'') := fun w' hw =>
        ih _ (List.getElem_mem hlt) (HGK.out _ (List.getElem_mem hlt)) φ _ _ ⟨_, rfl, KidsV.nice _ _ _ _ _ _ (Agr.below hw) hkv⟩
      have HC : Hid (∀ (s : Nat) (g : Nat → Value) (w' : World), (fun (s : Nat) (g : Nat → Value) (w' : World) => match s with
  | 0 => Mem (fun _ => True) (fun _ => True) w w' ([.box w.heap.size [.int .i64 e.kind, .int .i64 e.value, .slice (some ⟨b, off, none⟩) e.kids.length ck], .box (w.heap.size + 1) [.int .i64 0, .int .i64 0, .slice none 0 0], .box (w.heap.size + 1 + 1) [.int .i64 e.kind, .int .i64 e.value, .slice a k c], .row 41 3 (.slice a k c) k ys, .own S (fun w => ExprsO w ((e.kids.take k).map foldE) S ys)])
  | 1 => ∃ a7 c7 T, g 0 = .agg #[.int .i64 (foldE e.kids[k]).kind, .int .i64 (foldE e.kids[k]).value, .slice a7 (foldE e.kids[k]).kids.length c7] ∧ Mem (fun _ => True) (fun _ => True) w w' ([.box w.heap.size [.int .i64 e.kind, .int .i64 e.value, .slice (some ⟨b, off, none⟩) e.kids.length ck], .box (w.heap.size + 1) [.int .i64 0, .int .i64 0, .slice none 0 0], .box (w.heap.size + 1 + 1) [.int .i64 e.kind, .int .i64 e.value, .slice a k c], .row 41 3 (.slice a k c) k ys, .own S (fun w => ExprsO w ((e.kids.take k).map foldE) S ys), .own T (fun w => KidsO w (.slice a7 (foldE e.kids[k]).kids.length c7) (foldE e.kids[k]).kids T)])
  | 2 => ∃ a7 c7 T gb, g 1 = .slice (some ⟨gb, 0, none⟩) 1 1 ∧ Mem (fun _ => True) (fun _ => True) w w' ([.box w.heap.size [.int .i64 e.kind, .int .i64 e.value, .slice (some ⟨b, off, none⟩) e.kids.length ck], .box (w.heap.size + 1) [.int .i64 0, .int .i64 0, .slice none 0 0], .box (w.heap.size + 1 + 1) [.int .i64 e.kind, .int .i64 e.value, .slice a k c], .row 41 3 (.slice a k c) k ys, .own S (fun w => ExprsO w ((e.kids.take k).map foldE) S ys), .own T (fun w => KidsO w (.slice a7 (foldE e.kids[k]).kids.length c7) (foldE e.kids[k]).kids T), .box gb [.int .i64 (foldE e.kids[k]).kind, .int .i64 (foldE e.kids[k]).value, .slice a7 (foldE e.kids[k]).kids.length c7]])
  | 3 => ∃ a7 c7 T gb a9 c9, g 2 = .slice a9 (k + 1) c9 ∧ Mem (fun _ => True) (fun _ => True) w w' ([.box w.heap.size [.int .i64 e.kind, .int .i64 e.value, .slice (some ⟨b, off, none⟩) e.kids.length ck], .box (w.heap.size + 1) [.int .i64 0, .int .i64 0, .slice none 0 0], .box (w.heap.size + 1 + 1) [.int .i64 e.kind, .int .i64 e.value, .slice a k c], .row 41 3 (.slice a9 (k + 1) c9) (k + 1) (ys ++ [.int .i64 (foldE e.kids[k]).kind, .int .i64 (foldE e.kids[k]).value, .slice a7 (foldE e.kids[k]).kids.length c7]), .own S (fun w => ExprsO w ((e.kids.take k).map foldE) S ys), .own T (fun w => KidsO w (.slice a7 (foldE e.kids[k]).kids.length c7) (foldE e.kids[k]).kids T), .box gb [.int .i64 (foldE e.kids[k]).kind, .int .i64 (foldE e.kids[k]).value, .slice a7 (foldE e.kids[k]).kids.length c7]])
  | _ => False : Nat → (Nat → Value) → World → Prop) s g w' → w'.cell? ⟨w.heap.size + 1 + 1, 2, none⟩ = some (.slice a k c) ∧ w'.cell? ⟨w.heap.size, 2, none⟩ = some (.slice (some ⟨b, off, none⟩) e.kids.length ck) ∧ w'.cell? ⟨b, off + k * 3, none⟩ = some (.int .i64 e.kids[k].kind) ∧ w'.cell? ⟨b, off + k * 3 + 1, none⟩ = some (.int .i64 e.kids[k].value) ∧ w'.cell? ⟨b, off + k * 3 + 2, none⟩ = some (.slice ka e.kids[k].kids.length kc)) := by
        intro s g w' h
        have key : ∀ (L : List Res), Mem (fun _ => True) (fun _ => True) w w' L → L[0]? = some (.box w.heap.size [.int .i64 e.kind, .int .i64 e.value, .slice (some ⟨b, off, none⟩) e.kids.length ck]) → L[2]? = some (.box (w.heap.size + 1 + 1) [.int .i64 e.kind, .int .i64 e.value, .slice a k c]) → w'.cell? ⟨w.heap.size + 1 + 1, 2, none⟩ = some (.slice a k c) ∧ w'.cell? ⟨w.heap.size, 2, none⟩ = some (.slice (some ⟨b, off, none⟩) e.kids.length ck) ∧ w'.cell? ⟨b, off + k * 3, none⟩ = some (.int .i64 e.kids[k].kind) ∧ w'.cell? ⟨b, off + k * 3 + 1, none⟩ = some (.int .i64 e.kids[k].value) ∧ w'.cell? ⟨b, off + k * 3 + 2, none⟩ = some (.slice ka e.kids[k].kids.length kc) := fun L M h0 h2 => by
          have bb := M.below fun _ _ => trivial
          refine ⟨M.c 2 2 h2 rfl, M.c 0 2 h0 rfl, ?_, ?_, ?_⟩
          · rw [(bcell bb).1 _ _ hbk]; exact c0
          · rw [(bcell bb).1 _ _ hbk]; exact c1
          · rw [(bcell bb).1 _ _ hbk]; exact c2
        match s, h with
        | 0, h => exact key _ h rfl rfl
        | 1, ⟨_, _, _, _, h⟩ => exact key _ h rfl rfl
        | 2, ⟨_, _, _, _, _, h⟩ => exact key _ h rfl rfl
        | 3, ⟨_, _, _, _, _, _, _, h⟩ => exact key _ h rfl rfl
      have x2 := M.c 0 2 rfl rfl
      have hlt' : (k : Int) < e.kids.length := by omega
      have HM := show Hid _ from M
      clear M hkv c0 c1 c2
      go_wp2_with fail
      clear x2
      refine wp_region_chain 11 [7, 8, 9] (fun i => [.pointer (some ⟨w.heap.size + 1 + 1, 2, none⟩), .slice a k c, .pointer (some ⟨w.heap.size, 2, none⟩), .slice (some ⟨b, off, none⟩) e.kids.length ck, .int .i64 k, .pointer (some ⟨b, off + k * 3, none⟩), .agg #[.int .i64 e.kids[k].kind, .int .i64 e.kids[k].value, .slice ka e.kids[k].kids.length kc], undef, undef, undef, .pointer (some ⟨w.heap.size + 1 + 1, 2, none⟩)].getD i undef) (fun (s : Nat) (g : Nat → Value) (w' : World) => match s with
        | 0 => Mem (fun _ => True) (fun _ => True) w w' ([.box w.heap.size [.int .i64 e.kind, .int .i64 e.value, .slice (some ⟨b, off, none⟩) e.kids.length ck], .box (w.heap.size + 1) [.int .i64 0, .int .i64 0, .slice none 0 0], .box (w.heap.size + 1 + 1) [.int .i64 e.kind, .int .i64 e.value, .slice a k c], .row 41 3 (.slice a k c) k ys, .own S (fun w => ExprsO w ((e.kids.take k).map foldE) S ys)])
        | 1 => ∃ a7 c7 T, g 0 = .agg #[.int .i64 (foldE e.kids[k]).kind, .int .i64 (foldE e.kids[k]).value, .slice a7 (foldE e.kids[k]).kids.length c7] ∧ Mem (fun _ => True) (fun _ => True) w w' ([.box w.heap.size [.int .i64 e.kind, .int .i64 e.value, .slice (some ⟨b, off, none⟩) e.kids.length ck], .box (w.heap.size + 1) [.int .i64 0, .int .i64 0, .slice none 0 0], .box (w.heap.size + 1 + 1) [.int .i64 e.kind, .int .i64 e.value, .slice a k c], .row 41 3 (.slice a k c) k ys, .own S (fun w => ExprsO w ((e.kids.take k).map foldE) S ys), .own T (fun w => KidsO w (.slice a7 (foldE e.kids[k]).kids.length c7) (foldE e.kids[k]).kids T)])
        | 2 => ∃ a7 c7 T gb, g 1 = .slice (some ⟨gb, 0, none⟩) 1 1 ∧ Mem (fun _ => True) (fun _ => True) w w' ([.box w.heap.size [.int .i64 e.kind, .int .i64 e.value, .slice (some ⟨b, off, none⟩) e.kids.length ck], .box (w.heap.size + 1) [.int .i64 0, .int .i64 0, .slice none 0 0], .box (w.heap.size + 1 + 1) [.int .i64 e.kind, .int .i64 e.value, .slice a k c], .row 41 3 (.slice a k c) k ys, .own S (fun w => ExprsO w ((e.kids.take k).map foldE) S ys), .own T (fun w => KidsO w (.slice a7 (foldE e.kids[k]).kids.length c7) (foldE e.kids[k]).kids T), .box gb [.int .i64 (foldE e.kids[k]).kind, .int .i64 (foldE e.kids[k]).value, .slice a7 (foldE e.kids[k]).kids.length c7]])
        | 3 => ∃ a7 c7 T gb a9 c9, g 2 = .slice a9 (k + 1) c9 ∧ Mem (fun _ => True) (fun _ => True) w w' ([.box w.heap.size [.int .i64 e.kind, .int .i64 e.value, .slice (some ⟨b, off, none⟩) e.kids.length ck], .box (w.heap.size + 1) [.int .i64 0, .int .i64 0, .slice none 0 0], .box (w.heap.size + 1 + 1) [.int .i64 e.kind, .int .i64 e.value, .slice a k c], .row 41 3 (.slice a9 (k + 1) c9) (k + 1) (ys ++ [.int .i64 (foldE e.kids[k]).kind, .int .i64 (foldE e.kids[k]).value, .slice a7 (foldE e.kids[k]).kids.length c7]), .own S (fun w => ExprsO w ((e.kids.take k).map foldE) S ys), .own T (fun w => KidsO w (.slice a7 (foldE e.kids[k]).kids.length c7) (foldE e.kids[k]).kids T), .box gb [.int .i64 (foldE e.kids[k]).kind, .int .i64 (foldE e.kids[k]).value, .slice a7 (foldE e.kids[k]).kids.length c7]])
        | _ => False) (by kernel_rfl) (by kernel_rfl) (by kernel_rfl) (by kernel_rfl) (by decide) (by decide) ?_ ?_ ?_ ?_ ?_
      · intro s g g' w' hg h
        match s, h with
        | 0, h => exact h
        | 1, ⟨a7, c7, T, h1, h2⟩ => exact ⟨a7, c7, T, (hg 0 (by omega)).symm.trans h1, h2⟩
        | 2, ⟨a7, c7, T, gb, h1, h2⟩ => exact ⟨a7, c7, T, gb, (hg 1 (by omega)).symm.trans h1, h2⟩
        | 3, ⟨a7, c7, T, gb, a9, c9, h1, h2⟩ => exact ⟨a7, c7, T, gb, a9, c9, (hg 2 (by omega)).symm.trans h1, h2⟩
      · intro g
        exact HM.out.drew
      · intro i o hi hn ho s f w' hst hdep Q' hQ
        have HQ := show Hid _ from hQ
        clear hQ
        have hc : i = 0 ∨ i = 1 ∨ i = 2 ∨ i = 3 ∨ i = 4 ∨ i = 5 ∨ i = 6 ∨ i = 10 := by simp at hn; omega
        clear hn
        rcases hc with rfl | rfl | rfl | rfl | rfl | rfl | rfl | rfl
        all_goals
          simp only [List.getElem?_cons_zero, List.getElem?_cons_succ, Option.some.injEq] at ho
          subst ho
        · clear hdep hst
          simp only [putAll]
          go_wp2_with fail
          exact use_act HQ.out (by kernel_rfl)
        · have e0 : f 0 = .pointer (some ⟨w.heap.size + 1 + 1, 2, none⟩) := hdep { on := 0, ground := .data } (by simp) (by kernel_rfl) (by simp)
          obtain ⟨x0, x1, x2, x3, x4⟩ := HC.out _ _ _ hst
          clear hdep hst
          obtain ⟨f', rfl⟩ := upd_self e0
          clear e0
          simp only [putAll, upd, ↓reduceIte, Nat.reduceEqDiff]
          go_wp2_with fail
          exact use_act HQ.out (by kernel_rfl)
        · clear hdep hst
          simp only [putAll]
          go_wp2_with fail
          exact use_act HQ.out (by kernel_rfl)
        · have e2 : f 2 = .pointer (some ⟨w.heap.size, 2, none⟩) := hdep { on := 2, ground := .data } (by simp) (by kernel_rfl) (by simp)
          obtain ⟨x0, x1, x2, x3, x4⟩ := HC.out _ _ _ hst
          clear hdep hst
          obtain ⟨f', rfl⟩ := upd_self e2
          clear e2
          simp only [putAll, upd, ↓reduceIte, Nat.reduceEqDiff]
          go_wp2_with fail
          exact use_act HQ.out (by kernel_rfl)
        · clear hdep hst
          simp only [putAll]
          go_wp2_with fail
          exact use_act HQ.out (by kernel_rfl)
        · have e3 : f 3 = .slice (some ⟨b, off, none⟩) e.kids.length ck := hdep { on := 3, ground := .data } (by simp) (by kernel_rfl) (by simp)
          have e4 : f 4 = .int .i64 k := hdep { on := 4, ground := .data } (by simp) (by kernel_rfl) (by simp)
          obtain ⟨x0, x1, x2, x3, x4⟩ := HC.out _ _ _ hst
          clear hdep hst
          obtain ⟨f', rfl⟩ := upd_self e3
          clear e3
          simp only [upd, ↓reduceIte, Nat.reduceEqDiff] at e4
          obtain ⟨f'', rfl⟩ := upd_self e4
          clear e4
          simp only [putAll, upd, ↓reduceIte, Nat.reduceEqDiff]
          go_wp2_with fail
          exact use_act HQ.out (by kernel_rfl)
        · have e5 : f 5 = .pointer (some ⟨b, off + k * 3, none⟩) := hdep { on := 5, ground := .data } (by simp) (by kernel_rfl) (by simp)
          obtain ⟨x0, x1, x2, x3, x4⟩ := HC.out _ _ _ hst
          clear hdep hst
          obtain ⟨f', rfl⟩ := upd_self e5
          clear e5
          simp only [putAll, upd, ↓reduceIte, Nat.reduceEqDiff]
          go_wp2_with fail
          exact use_act HQ.out (by kernel_rfl)
        · clear hdep hst
          simp only [putAll]
          go_wp2_with fail
          exact use_act HQ.out (by kernel_rfl)
      · intro s j o hs ho f w' hst hdep Q' hQ
        have HQ := show Hid _ from hQ
        clear hQ
        match s, hs, hst, HQ with
        | 0, hs, hst, HQ =>
          simp only [List.getElem?_cons_zero, Option.some.injEq] at hs
          subst hs
          simp only [List.getElem?_cons_zero, List.getElem?_cons_succ, Option.some.injEq] at ho
          subst ho
          have M : Mem (fun _ => True) (fun _ => True) w w' ([.box w.heap.size [.int .i64 e.kind, .int .i64 e.value, .slice (some ⟨b, off, none⟩) e.kids.length ck], .box (w.heap.size + 1) [.int .i64 0, .int .i64 0, .slice none 0 0], .box (w.heap.size + 1 + 1) [.int .i64 e.kind, .int .i64 e.value, .slice a k c], .row 41 3 (.slice a k c) k ys, .own S (fun w => ExprsO w ((e.kids.take k).map foldE) S ys)]) := hst
          have HM7 := show Hid _ from M
          have e6 : f 6 = .agg #[.int .i64 e.kids[k].kind, .int .i64 e.kids[k].value, .slice ka e.kids[k].kids.length kc] := hdep { on := 6, ground := .data } (by simp) (by kernel_rfl) (by simp)
          clear hdep hst M
          obtain ⟨f', rfl⟩ := upd_self e6
          clear e6
          simp only [putAll, upd, ↓reduceIte, Nat.reduceEqDiff]
          go_wp2_with fail
          refine (HE.out w' (HM7.out.below fun _ _ => trivial)).mono ?_
          rintro x w7 ⟨a7, c7, T, rfl, hO, hT, b7⟩
          have HM8 := show Hid _ from HM7.out.callO b7 (S := T) (R := fun w => KidsO w (.slice a7 (foldE e.kids[k]).kids.length c7) (foldE e.kids[k]).kids T) (fun _ _ h hs => KidsO.same h hs) hO hT
          clear hO hT b7
          go_wp2_with fail
          exact use_act (HQ.out (.agg #[.int .i64 (foldE e.kids[k]).kind, .int .i64 (foldE e.kids[k]).value, .slice a7 (foldE e.kids[k]).kids.length c7]) _ ⟨a7, c7, T, rfl, HM8.out⟩) (by kernel_rfl)
        | 1, hs, hst, HQ =>
          simp only [List.getElem?_cons_zero, List.getElem?_cons_succ, Option.some.injEq] at hs
          subst hs
          simp only [List.getElem?_cons_zero, List.getElem?_cons_succ, Option.some.injEq] at ho
          subst ho
          obtain ⟨a7, c7, T, e7, M⟩ := hst
          have e7 : f 7 = .agg #[.int .i64 (foldE e.kids[k]).kind, .int .i64 (foldE e.kids[k]).value, .slice a7 (foldE e.kids[k]).kids.length c7] := e7
          have HM7 := show Hid _ from M.box [.int .i64 (foldE e.kids[k]).kind, .int .i64 (foldE e.kids[k]).value, .slice a7 (foldE e.kids[k]).kids.length c7] 41
          clear hdep M
          obtain ⟨f', rfl⟩ := upd_self e7
          clear e7
          simp only [putAll, upd, ↓reduceIte, Nat.reduceEqDiff]
          go_wp2_with fail
          exact use_act (HQ.out (.slice (some ⟨w'.heap.size, 0, none⟩) 1 1) _ ⟨a7, c7, T, w'.heap.size, rfl, HM7.out⟩) (by kernel_rfl)
        | 2, hs, hst, HQ =>
          simp only [List.getElem?_cons_zero, List.getElem?_cons_succ, Option.some.injEq] at hs
          subst hs
          simp only [List.getElem?_cons_zero, List.getElem?_cons_succ, Option.some.injEq] at ho
          subst ho
          obtain ⟨a7, c7, T, gb, e8, M⟩ := hst
          have e8 : f 8 = .slice (some ⟨gb, 0, none⟩) 1 1 := e8
          have e1 : f 1 = .slice a k c := hdep { on := 1, ground := .data } (by simp) (by kernel_rfl) (by simp)
          clear hdep
          refine wpList_app rfl _ _ rfl Try.underlying39 infoE rfl (by omega) (Eq.trans (by kernel_rfl) e1) (M.r 3 rfl) (Eq.trans (by kernel_rfl) e8) (blk_row (M.blk 6 rfl)) (fun u hu => by simp at hu; rcases hu with rfl | rfl | rfl <;> rfl) (by omega) (by omega) (Nat.zero_le _) ?_
          intro a9 c9 w9 o9 _ g9 n9
          exact wpList_nil (HQ.out _ _ ⟨a7, c7, T, gb, a9, c9, rfl, M.app 3 rfl o9 g9 n9⟩)
        | s + 3, hs, _, _ => simp at hs
      · intro o ho f w' hst hall
        simp only [List.getElem?_cons_zero, List.getElem?_cons_succ, Option.some.injEq] at ho
        subst ho
        obtain ⟨a7, c7, T, gb, a9, c9, e9, M⟩ := hst
        have e9 : f 9 = .slice a9 (k + 1) c9 := e9
        have e10 : f 10 = .pointer (some ⟨w.heap.size + 1 + 1, 2, none⟩) := hall 10 (by omega) (by simp)
        have x0 := M.c 2 2 rfl rfl
        have f0 := M.f 2 rfl
        have M9 : Mem (fun _ => True) (fun _ => True) w _ ([.box w.heap.size [.int .i64 e.kind, .int .i64 e.value, .slice (some ⟨b, off, none⟩) e.kids.length ck], .box (w.heap.size + 1) [.int .i64 0, .int .i64 0, .slice none 0 0], .box (w.heap.size + 1 + 1) [.int .i64 e.kind, .int .i64 e.value, .slice a9 (k + 1) c9], .row 41 3 (.slice a9 (k + 1) c9) (k + 1) (ys ++ [.int .i64 (foldE e.kids[k]).kind, .int .i64 (foldE e.kids[k]).value, .slice a7 (foldE e.kids[k]).kids.length c7])] ++ [.own S (fun w => ExprsO w ((e.kids.take k).map foldE) S ys), .own T (fun w => KidsO w (.slice a7 (foldE e.kids[k]).kids.length c7) (foldE e.kids[k]).kids T)]) := (M.set 2 rfl 2 (.slice a9 (k + 1) c9)).take 6
        have HM9 := show Hid _ from Mem.joinE (e := foldE e.kids[k]) M9
        clear M9
        clear hall M HM HC
        obtain ⟨f', rfl⟩ := upd_self e9
        clear e9
        simp only [upd, ↓reduceIte, Nat.reduceEqDiff] at e10
        obtain ⟨f'', rfl⟩ := upd_self e10
        clear e10
        simp only [putAll, upd, ↓reduceIte, Nat.reduceEqDiff]
        go_wp2_with fail
        refine ⟨⟨k + 1, a9, c9, _, _, by omega, by go_num, by rw [take_succ_get _ _ hlt, List.map_append]; exact HM9.out⟩, by simp [intOf]; omega⟩
    · have hkn : k = e.kids.length := by omega
      subst hkn
      have x0 := M.c 2 0 rfl rfl
      have x1 := M.c 2 1 rfl rfl
      have x2 := M.c 2 2 rfl rfl
      have x3 := M.c 0 2 rfl rfl
      rw [List.take_of_length_le (Nat.le_refl _)] at M
      have M3 : Mem (fun _ => True) (fun _ => True) w wr ([.box w.heap.size [.int .i64 e.kind, .int .i64 e.value, .slice ak e.kids.length ck], .box (w.heap.size + 1) [.int .i64 0, .int .i64 0, .slice none 0 0], .box (w.heap.size + 1 + 1) [.int .i64 e.kind, .int .i64 e.value, .slice a e.kids.length c]] ++ [.row 41 3 (.slice a e.kids.length c) e.kids.length ys, .own S (fun w => ExprsO w (e.kids.map foldE) S ys)]) := M
      have M4 := Mem.joinK M3 (by simp)
      have HG2 := show Hid (goodE ⟨e.kind, e.value, e.kids.map foldE⟩ = true) from good_map hgood
      have HM4 := show Hid _ from M4
      clear M M3 M4
      go_wp2_with fail
      clear x0 x1 x2 x3
      refine (spec_l8Node ⟨e.kind, e.value, e.kids.map foldE⟩ HG2.out _ _ _ (HM4.out.o 3 rfl)).mono ?_
      rintro x w2 ⟨a2, c2, rfl, hO, b2⟩
      rw [← foldE_def] at hO ⊢
      have M5 := (HM4.out.call b2).turn 3 rfl (Kept.refl _ _) (fun _ _ h hs => KidsO.same h hs) hO
      have d0 := M5.c 1 0 rfl rfl
      have d1 := M5.c 1 1 rfl rfl
      have d2 := M5.c 1 2 rfl rfl
      have ff := M5.f 1 rfl
      have HM6 := show Hid _ from ((M5.set 1 rfl 0 (.int .i64 (foldE e).kind)).set 1 rfl 1 (.int .i64 (foldE e).value)).set 1 rfl 2 (.slice a2 (foldE e).kids.length c2)
      clear M5 hO b2 HM4
      go_wp2_with fail
      have M2 := HM6.out
      have r0 : World.cell? _ ⟨w.heap.size + 1, 0, none⟩ = some (.int .i64 (foldE e).kind) := M2.c 1 0 rfl rfl
      have r1 : World.cell? _ ⟨w.heap.size + 1, 1, none⟩ = some (.int .i64 (foldE e).value) := M2.c 1 1 rfl rfl
      have r2 : World.cell? _ ⟨w.heap.size + 1, 2, none⟩ = some (.slice a2 (foldE e).kids.length c2) := M2.c 1 2 rfl rfl
      refine bodyPost_ret (v := .agg #[.int .i64 (foldE e).kind, .int .i64 (foldE e).value, .slice a2 (foldE e).kids.length c2]) (by simp [results, Try.results74, go_sem, r0, r1, r2]) rfl ⟨a2, c2, _, rfl, M2.o 3 rfl, fun b hb => ⟨?_, M2.lt (List.mem_of_getElem? (i := 3) rfl) hb⟩, M2.below fun _ _ => trivial⟩
      exact (M2.ge _ b (List.mem_of_getElem? (i := 3) rfl) hb).elim (fun h => h) fun h => absurd trivial h

end Go.Proofs.Ytgpkdfefgcpbiaa

namespace Go.Proofs.Ytgpkdfefgcpbiaa
set_option linter.unusedVariables false
set_option linter.unusedSimpArgs false
open Go Go.RowKit

theorem cell_own {w w' : World} {S : Nat → Prop} {g o : Nat} {u : Value} (hs : S g) (h : w.cell? ⟨g, o, none⟩ = some u) (hk : ∀ b, S b → b < w.heap.size → w'.heap[b]? = w.heap[b]?) : w'.cell? ⟨g, o, none⟩ = some u := by
  have := hk g hs (World.block_lt_of_cell? w _ h)
  simp only [World.cell?, this] at h ⊢
  exact h
/-- Two operands, opened. -/
def TwoO (w : World) (S : Nat → Prop) (g off cap : Nat) (av : Option Addr) (ac : Nat) (bv : Option Addr) (bc : Nat) (a b : LExpr) : Prop :=
  S g ∧ w.cell? ⟨g, off, none⟩ = some (.int .i64 a.kind) ∧ w.cell? ⟨g, off + 1, none⟩ = some (.int .i64 a.value) ∧ w.cell? ⟨g, off + 2, none⟩ = some (.slice av a.kids.length ac) ∧
      w.cell? ⟨g, off + 3, none⟩ = some (.int .i64 b.kind) ∧ w.cell? ⟨g, off + 4, none⟩ = some (.int .i64 b.value) ∧ w.cell? ⟨g, off + 5, none⟩ = some (.slice bv b.kids.length bc) ∧
    KidsO w (.slice av a.kids.length ac) a.kids S ∧ KidsO w (.slice bv b.kids.length bc) b.kids S ∧ KidsO w (.slice (some ⟨g, off, none⟩) 2 cap) [a, b] S
theorem TwoO.same {w w' : World} {S : Nat → Prop} {g off cap : Nat} {av : Option Addr} {ac : Nat} {bv : Option Addr} {bc : Nat} {a b : LExpr} (h : TwoO w S g off cap av ac bv bc a b) (hk : ∀ b, S b → b < w.heap.size → w'.heap[b]? = w.heap[b]?) : TwoO w' S g off cap av ac bv bc a b :=
  ⟨h.1, cell_own h.1 h.2.1 hk, cell_own h.1 h.2.2.1 hk, cell_own h.1 h.2.2.2.1 hk, cell_own h.1 h.2.2.2.2.1 hk, cell_own h.1 h.2.2.2.2.2.1 hk, cell_own h.1 h.2.2.2.2.2.2.1 hk, h.2.2.2.2.2.2.2.1.same hk, h.2.2.2.2.2.2.2.2.1.same hk, h.2.2.2.2.2.2.2.2.2.same hk⟩
/-- Three operands, opened. -/
def ThreeO (w : World) (S : Nat → Prop) (g off cap : Nat) (av : Option Addr) (ac : Nat) (bv : Option Addr) (bc : Nat) (cv : Option Addr) (cc : Nat) (a b c : LExpr) : Prop :=
  S g ∧ (w.cell? ⟨g, off, none⟩ = some (.int .i64 a.kind) ∧ w.cell? ⟨g, off + 1, none⟩ = some (.int .i64 a.value) ∧ w.cell? ⟨g, off + 2, none⟩ = some (.slice av a.kids.length ac) ∧
      w.cell? ⟨g, off + 3, none⟩ = some (.int .i64 b.kind) ∧ w.cell? ⟨g, off + 4, none⟩ = some (.int .i64 b.value) ∧ w.cell? ⟨g, off + 5, none⟩ = some (.slice bv b.kids.length bc) ∧
      w.cell? ⟨g, off + 6, none⟩ = some (.int .i64 c.kind) ∧ w.cell? ⟨g, off + 7, none⟩ = some (.int .i64 c.value) ∧ w.cell? ⟨g, off + 8, none⟩ = some (.slice cv c.kids.length cc)) ∧
    KidsO w (.slice av a.kids.length ac) a.kids S ∧ KidsO w (.slice bv b.kids.length bc) b.kids S ∧ KidsO w (.slice cv c.kids.length cc) c.kids S ∧ KidsO w (.slice (some ⟨g, off, none⟩) 3 cap) [a, b, c] S
theorem ThreeO.same {w w' : World} {S : Nat → Prop} {g off cap : Nat} {av : Option Addr} {ac : Nat} {bv : Option Addr} {bc : Nat} {cv : Option Addr} {cc : Nat} {a b c : LExpr} (h : ThreeO w S g off cap av ac bv bc cv cc a b c) (hk : ∀ b, S b → b < w.heap.size → w'.heap[b]? = w.heap[b]?) : ThreeO w' S g off cap av ac bv bc cv cc a b c := by
  obtain ⟨h1, ⟨k0, k1, k2, k3, k4, k5, k6, k7, k8⟩, h2, h3, h4, h5⟩ := h
  exact ⟨h1, ⟨cell_own h1 k0 hk, cell_own h1 k1 hk, cell_own h1 k2 hk, cell_own h1 k3 hk, cell_own h1 k4 hk, cell_own h1 k5 hk, cell_own h1 k6 hk, cell_own h1 k7 hk, cell_own h1 k8 hk⟩, h2.same hk, h3.same hk, h4.same hk, h5.same hk⟩

/-- What folding gives, in memory. -/
def FoQ (w : World) (e : LExpr) (x : Ending) (w' : World) : Prop :=
  ∃ a c S, x = .returned (.agg #[.int .i64 (foldE e).kind, .int .i64 (foldE e).value, .slice a (foldE e).kids.length c]) ∧ KidsO w' (.slice a (foldE e).kids.length c) (foldE e).kids S ∧ (∀ b, S b → w.heap.size ≤ b ∧ b < w'.heap.size) ∧ Below w.heap.size w w'
def FoI (e : LExpr) : Prop := goodE e = true → ∀ (φ : Nat → Prop) (v : Value) (w : World), ExprV w φ v e →
  Calls Try.prog 77 #[v] w fun x w' => FoQ w e x w'

set_option maxRecDepth 100000 in
set_option maxHeartbeats 32000000 in
theorem impl_fold (e : LExpr) : FoI e := by
  refine LExpr.ind (P := FoI) (fun k0 n0 ks ih => ?_) e
  obtain ⟨e, he⟩ : ∃ e : LExpr, e = ⟨k0, n0, ks⟩ := ⟨_, rfl⟩
  have hks : ks = e.kids := by rw [he]; rfl
  rw [← he]
  subst hks
  clear he
  intro hgood φ v w h
  obtain ⟨kv, rfl, hk⟩ := h
  obtain ⟨ak, ck, rfl, -, hn, -, hc⟩ := hk.open
  have hl3 : e.kids.length ≤ 3 := by have h1 := goodE_len hgood; have h2 := arity_le e.kind; omega
  obtain ⟨m, hm⟩ : ∃ m, m = e.kids.length := ⟨_, rfl⟩
  rw [← hm] at hn hl3 ⊢
  obtain ⟨W, hW, M⟩ : ∃ W, W = ((w.alloc (.cells #[.int .i64 e.kind, .int .i64 e.value, .slice ak m ck] 41)).alloc (.cells #[.int .i64 0, .int .i64 0, .slice none 0 0] 41)).alloc (.cells #[.int .i64 e.kind, .int .i64 e.value, .slice none 0 0] 41) ∧
      Mem (fun _ => True) (fun _ => True) w W [.box w.heap.size [.int .i64 e.kind, .int .i64 e.value, .slice ak m ck], .box (w.heap.size + 1) [.int .i64 0, .int .i64 0, .slice none 0 0], .box (w.heap.size + 1 + 1) [.int .i64 e.kind, .int .i64 e.value, .slice none 0 0], .row 41 3 (.slice none 0 0) 0 [], .own (fun _ => False) (fun w => ExprsO w [] (fun _ => False) [])] :=
    ⟨_, rfl, (((((Mem.start fun _ _ => trivial).box _ _).box' _ _ (by simp)).box' _ _ (by simp)).nil 41 3).noneE⟩
  have HC0 := show Hid _ from hc
  have HGK := show Hid (∀ x ∈ e.kids, goodE x = true) from (goodEs_iff _).1 (goodE_kids hgood)
  have HM := show Hid _ from M
  have HMM := show Hid _ from hm
  have y2 := M.c 0 2 rfl rfl
  rw [hW] at y2
  clear hk hc M hm
  go_enter Try.func77, Try.ntmps77
  go_wp2_with fail
  rw [← hW]
  clear hW y2
  go_loopw [17] (fun i wr => ∃ (k : Nat) (a : Option Addr) (c : Nat) (S : Nat → Prop) (ys : List Value), k ≤ m ∧ i = .int .i64 k ∧ Mem (fun _ => True) (fun _ => True) w wr [.box w.heap.size [.int .i64 e.kind, .int .i64 e.value, .slice ak m ck], .box (w.heap.size + 1) [.int .i64 0, .int .i64 0, .slice none 0 0], .box (w.heap.size + 1 + 1) [.int .i64 e.kind, .int .i64 e.value, .slice a k c], .row 41 3 (.slice a k c) k ys, .own S (fun w => ExprsO w ((e.kids.take k).map foldE) S ys)]) (fun i _ => m - (intOf i).toNat)
  case atStart => exact ⟨0, none, 0, fun _ => False, [], Nat.zero_le _, rfl, HM.out⟩
  case round =>
    clear HM
    obtain ⟨k, a, c, S, ys, hk, rfl, M⟩ := hrel
    by_cases hltm : k < m
    · have hlt : k < e.kids.length := by have := HMM.out; omega
      obtain ⟨b, off, kv, rfl, hbk, hf, c0, c1, c2, hkv⟩ := HC0.out k hlt
      obtain ⟨ka, kc, rfl, -⟩ := hkv.open
      rw [← (bcell (M.below fun _ _ => trivial)).1 _ _ hbk] at c0 c1 c2
      have HE : Hid (∀ w', Below w.heap.size w w' → Calls Try.prog 77 #[.agg #[.int .i64 e.kids[k].kind, .int .i64 e.kids[k].value, .slice ka e.kids[k].kids.length kc]] w' fun x w'' => FoQ w' e.kids[k] x w'') := fun w' hw =>
        ih _ (List.getElem_mem hlt) (HGK.out _ (List.getElem_mem hlt)) φ _ _ ⟨_, rfl, KidsV.nice _ _ _ _ _ _ (Agr.below hw) hkv⟩
      have HM := show Hid _ from M.box [.int .i64 e.kids[k].kind, .int .i64 e.kids[k].value, .slice ka e.kids[k].kids.length kc] 41
      clear M hkv
      go_wp2_with fail
      clear c0 c1 c2
      obtain ⟨g5, hg5⟩ : ∃ g5, g5 = wr.heap.size := ⟨_, rfl⟩
      replace HM : Hid (Mem (fun _ => True) (fun _ => True) w (wr.alloc (.cells #[.int .i64 e.kids[k].kind, .int .i64 e.kids[k].value, .slice ka e.kids[k].kids.length kc] 41)) ([.box w.heap.size [.int .i64 e.kind, .int .i64 e.value, .slice (some ⟨b, off, none⟩) m ck], .box (w.heap.size + 1) [.int .i64 0, .int .i64 0, .slice none 0 0], .box (w.heap.size + 1 + 1) [.int .i64 e.kind, .int .i64 e.value, .slice a k c], .row 41 3 (.slice a k c) k ys, .own S (fun w => ExprsO w ((e.kids.take k).map foldE) S ys), .box g5 [.int .i64 e.kids[k].kind, .int .i64 e.kids[k].value, .slice ka e.kids[k].kids.length kc]])) := by rw [hg5]; exact HM
      rw [← hg5]
      clear hg5
      generalize wr.alloc (.cells #[.int .i64 e.kids[k].kind, .int .i64 e.kids[k].value, .slice ka e.kids[k].kids.length kc] 41) = w5 at *
      have HC : Hid (∀ (s : Nat) (g : Nat → Value) (w' : World), (fun (s : Nat) (g : Nat → Value) (w' : World) => match s with
  | 0 => Mem (fun _ => True) (fun _ => True) w w' ([.box w.heap.size [.int .i64 e.kind, .int .i64 e.value, .slice (some ⟨b, off, none⟩) m ck], .box (w.heap.size + 1) [.int .i64 0, .int .i64 0, .slice none 0 0], .box (w.heap.size + 1 + 1) [.int .i64 e.kind, .int .i64 e.value, .slice a k c], .row 41 3 (.slice a k c) k ys, .own S (fun w => ExprsO w ((e.kids.take k).map foldE) S ys), .box g5 [.int .i64 e.kids[k].kind, .int .i64 e.kids[k].value, .slice ka e.kids[k].kids.length kc]])
  | 1 => ∃ a7 c7 T, g 0 = .agg #[.int .i64 (foldE e.kids[k]).kind, .int .i64 (foldE e.kids[k]).value, .slice a7 (foldE e.kids[k]).kids.length c7] ∧ Mem (fun _ => True) (fun _ => True) w w' ([.box w.heap.size [.int .i64 e.kind, .int .i64 e.value, .slice (some ⟨b, off, none⟩) m ck], .box (w.heap.size + 1) [.int .i64 0, .int .i64 0, .slice none 0 0], .box (w.heap.size + 1 + 1) [.int .i64 e.kind, .int .i64 e.value, .slice a k c], .row 41 3 (.slice a k c) k ys, .own S (fun w => ExprsO w ((e.kids.take k).map foldE) S ys), .box g5 [.int .i64 e.kids[k].kind, .int .i64 e.kids[k].value, .slice ka e.kids[k].kids.length kc], .own T (fun w => KidsO w (.slice a7 (foldE e.kids[k]).kids.length c7) (foldE e.kids[k]).kids T)])
  | 2 => ∃ a7 c7 T gb, g 1 = .slice (some ⟨gb, 0, none⟩) 1 1 ∧ Mem (fun _ => True) (fun _ => True) w w' ([.box w.heap.size [.int .i64 e.kind, .int .i64 e.value, .slice (some ⟨b, off, none⟩) m ck], .box (w.heap.size + 1) [.int .i64 0, .int .i64 0, .slice none 0 0], .box (w.heap.size + 1 + 1) [.int .i64 e.kind, .int .i64 e.value, .slice a k c], .row 41 3 (.slice a k c) k ys, .own S (fun w => ExprsO w ((e.kids.take k).map foldE) S ys), .box g5 [.int .i64 e.kids[k].kind, .int .i64 e.kids[k].value, .slice ka e.kids[k].kids.length kc], .own T (fun w => KidsO w (.slice a7 (foldE e.kids[k]).kids.length c7) (foldE e.kids[k]).kids T), .box gb [.int .i64 (foldE e.kids[k]).kind, .int .i64 (foldE e.kids[k]).value, .slice a7 (foldE e.kids[k]).kids.length c7]])
  | 3 => ∃ a7 c7 T gb a9 c9, g 2 = .slice a9 (k + 1) c9 ∧ Mem (fun _ => True) (fun _ => True) w w' ([.box w.heap.size [.int .i64 e.kind, .int .i64 e.value, .slice (some ⟨b, off, none⟩) m ck], .box (w.heap.size + 1) [.int .i64 0, .int .i64 0, .slice none 0 0], .box (w.heap.size + 1 + 1) [.int .i64 e.kind, .int .i64 e.value, .slice a k c], .row 41 3 (.slice a9 (k + 1) c9) (k + 1) (ys ++ [.int .i64 (foldE e.kids[k]).kind, .int .i64 (foldE e.kids[k]).value, .slice a7 (foldE e.kids[k]).kids.length c7]), .own S (fun w => ExprsO w ((e.kids.take k).map foldE) S ys), .box g5 [.int .i64 e.kids[k].kind, .int .i64 e.kids[k].value, .slice ka e.kids[k].kids.length kc], .own T (fun w => KidsO w (.slice a7 (foldE e.kids[k]).kids.length c7) (foldE e.kids[k]).kids T), .box gb [.int .i64 (foldE e.kids[k]).kind, .int .i64 (foldE e.kids[k]).value, .slice a7 (foldE e.kids[k]).kids.length c7]])
  | _ => False : Nat → (Nat → Value) → World → Prop) s g w' → w'.cell? ⟨w.heap.size + 1 + 1, 2, none⟩ = some (.slice a k c) ∧ w'.cell? ⟨g5, 0, none⟩ = some (.int .i64 e.kids[k].kind) ∧ w'.cell? ⟨g5, 1, none⟩ = some (.int .i64 e.kids[k].value) ∧ w'.cell? ⟨g5, 2, none⟩ = some (.slice ka e.kids[k].kids.length kc)) := by
        intro s g w' h
        have key : ∀ (L : List Res), Mem (fun _ => True) (fun _ => True) w w' L → L[5]? = some (.box g5 [.int .i64 e.kids[k].kind, .int .i64 e.kids[k].value, .slice ka e.kids[k].kids.length kc]) → L[2]? = some (.box (w.heap.size + 1 + 1) [.int .i64 e.kind, .int .i64 e.value, .slice a k c]) → w'.cell? ⟨w.heap.size + 1 + 1, 2, none⟩ = some (.slice a k c) ∧ w'.cell? ⟨g5, 0, none⟩ = some (.int .i64 e.kids[k].kind) ∧ w'.cell? ⟨g5, 1, none⟩ = some (.int .i64 e.kids[k].value) ∧ w'.cell? ⟨g5, 2, none⟩ = some (.slice ka e.kids[k].kids.length kc) := fun L M h0 h2 =>
          ⟨M.c 2 2 h2 rfl, M.c 5 0 h0 rfl, M.c 5 1 h0 rfl, M.c 5 2 h0 rfl⟩
        match s, h with
        | 0, h => exact key _ h rfl rfl
        | 1, ⟨_, _, _, _, h⟩ => exact key _ h rfl rfl
        | 2, ⟨_, _, _, _, _, h⟩ => exact key _ h rfl rfl
        | 3, ⟨_, _, _, _, _, _, _, h⟩ => exact key _ h rfl rfl
      refine wp_region_chain 7 [3, 4, 5] (fun i => [.pointer (some ⟨w.heap.size + 1 + 1, 2, none⟩), .slice a k c, .agg #[.int .i64 e.kids[k].kind, .int .i64 e.kids[k].value, .slice ka e.kids[k].kids.length kc], undef, undef, undef, .pointer (some ⟨w.heap.size + 1 + 1, 2, none⟩)].getD i undef) (fun (s : Nat) (g : Nat → Value) (w' : World) => match s with
        | 0 => Mem (fun _ => True) (fun _ => True) w w' ([.box w.heap.size [.int .i64 e.kind, .int .i64 e.value, .slice (some ⟨b, off, none⟩) m ck], .box (w.heap.size + 1) [.int .i64 0, .int .i64 0, .slice none 0 0], .box (w.heap.size + 1 + 1) [.int .i64 e.kind, .int .i64 e.value, .slice a k c], .row 41 3 (.slice a k c) k ys, .own S (fun w => ExprsO w ((e.kids.take k).map foldE) S ys), .box g5 [.int .i64 e.kids[k].kind, .int .i64 e.kids[k].value, .slice ka e.kids[k].kids.length kc]])
        | 1 => ∃ a7 c7 T, g 0 = .agg #[.int .i64 (foldE e.kids[k]).kind, .int .i64 (foldE e.kids[k]).value, .slice a7 (foldE e.kids[k]).kids.length c7] ∧ Mem (fun _ => True) (fun _ => True) w w' ([.box w.heap.size [.int .i64 e.kind, .int .i64 e.value, .slice (some ⟨b, off, none⟩) m ck], .box (w.heap.size + 1) [.int .i64 0, .int .i64 0, .slice none 0 0], .box (w.heap.size + 1 + 1) [.int .i64 e.kind, .int .i64 e.value, .slice a k c], .row 41 3 (.slice a k c) k ys, .own S (fun w => ExprsO w ((e.kids.take k).map foldE) S ys), .box g5 [.int .i64 e.kids[k].kind, .int .i64 e.kids[k].value, .slice ka e.kids[k].kids.length kc], .own T (fun w => KidsO w (.slice a7 (foldE e.kids[k]).kids.length c7) (foldE e.kids[k]).kids T)])
        | 2 => ∃ a7 c7 T gb, g 1 = .slice (some ⟨gb, 0, none⟩) 1 1 ∧ Mem (fun _ => True) (fun _ => True) w w' ([.box w.heap.size [.int .i64 e.kind, .int .i64 e.value, .slice (some ⟨b, off, none⟩) m ck], .box (w.heap.size + 1) [.int .i64 0, .int .i64 0, .slice none 0 0], .box (w.heap.size + 1 + 1) [.int .i64 e.kind, .int .i64 e.value, .slice a k c], .row 41 3 (.slice a k c) k ys, .own S (fun w => ExprsO w ((e.kids.take k).map foldE) S ys), .box g5 [.int .i64 e.kids[k].kind, .int .i64 e.kids[k].value, .slice ka e.kids[k].kids.length kc], .own T (fun w => KidsO w (.slice a7 (foldE e.kids[k]).kids.length c7) (foldE e.kids[k]).kids T), .box gb [.int .i64 (foldE e.kids[k]).kind, .int .i64 (foldE e.kids[k]).value, .slice a7 (foldE e.kids[k]).kids.length c7]])
        | 3 => ∃ a7 c7 T gb a9 c9, g 2 = .slice a9 (k + 1) c9 ∧ Mem (fun _ => True) (fun _ => True) w w' ([.box w.heap.size [.int .i64 e.kind, .int .i64 e.value, .slice (some ⟨b, off, none⟩) m ck], .box (w.heap.size + 1) [.int .i64 0, .int .i64 0, .slice none 0 0], .box (w.heap.size + 1 + 1) [.int .i64 e.kind, .int .i64 e.value, .slice a k c], .row 41 3 (.slice a9 (k + 1) c9) (k + 1) (ys ++ [.int .i64 (foldE e.kids[k]).kind, .int .i64 (foldE e.kids[k]).value, .slice a7 (foldE e.kids[k]).kids.length c7]), .own S (fun w => ExprsO w ((e.kids.take k).map foldE) S ys), .box g5 [.int .i64 e.kids[k].kind, .int .i64 e.kids[k].value, .slice ka e.kids[k].kids.length kc], .own T (fun w => KidsO w (.slice a7 (foldE e.kids[k]).kids.length c7) (foldE e.kids[k]).kids T), .box gb [.int .i64 (foldE e.kids[k]).kind, .int .i64 (foldE e.kids[k]).value, .slice a7 (foldE e.kids[k]).kids.length c7]])
        | _ => False) (by kernel_rfl) (by kernel_rfl) (by kernel_rfl) (by kernel_rfl) (by decide) (by decide) ?_ ?_ ?_ ?_ ?_
      · intro s g g' w' hg h
        match s, h with
        | 0, h => exact h
        | 1, ⟨a7, c7, T, h1, h2⟩ => exact ⟨a7, c7, T, (hg 0 (by omega)).symm.trans h1, h2⟩
        | 2, ⟨a7, c7, T, gb, h1, h2⟩ => exact ⟨a7, c7, T, gb, (hg 1 (by omega)).symm.trans h1, h2⟩
        | 3, ⟨a7, c7, T, gb, a9, c9, h1, h2⟩ => exact ⟨a7, c7, T, gb, a9, c9, (hg 2 (by omega)).symm.trans h1, h2⟩
      · intro g
        exact HM.out.drew
      · intro i o hi hn ho s f w' hst hdep Q' hQ
        have HQ := show Hid _ from hQ
        clear hQ
        have hc : i = 0 ∨ i = 1 ∨ i = 2 ∨ i = 6 := by simp at hn; omega
        clear hn
        rcases hc with rfl | rfl | rfl | rfl
        all_goals
          simp only [List.getElem?_cons_zero, List.getElem?_cons_succ, Option.some.injEq] at ho
          subst ho
        · clear hdep hst
          simp only [putAll]
          go_wp2_with fail
          exact use_act HQ.out (by kernel_rfl)
        · have e0 : f 0 = .pointer (some ⟨w.heap.size + 1 + 1, 2, none⟩) := hdep { on := 0, ground := .data } (by simp) (by kernel_rfl) (by simp)
          obtain ⟨x0, x1, x2, x3⟩ := HC.out _ _ _ hst
          clear hdep hst
          obtain ⟨f', rfl⟩ := upd_self e0
          clear e0
          simp only [putAll, upd, ↓reduceIte, Nat.reduceEqDiff]
          go_wp2_with fail
          exact use_act HQ.out (by kernel_rfl)
        · obtain ⟨x0, x1, x2, x3⟩ := HC.out _ _ _ hst
          clear hdep hst
          simp only [putAll]
          go_wp2_with fail
          exact use_act HQ.out (by kernel_rfl)
        · clear hdep hst
          simp only [putAll]
          go_wp2_with fail
          exact use_act HQ.out (by kernel_rfl)
      · intro s j o hs ho f w' hst hdep Q' hQ
        have HQ := show Hid _ from hQ
        clear hQ
        match s, hs, hst, HQ with
        | 0, hs, hst, HQ =>
          simp only [List.getElem?_cons_zero, Option.some.injEq] at hs
          subst hs
          simp only [List.getElem?_cons_zero, List.getElem?_cons_succ, Option.some.injEq] at ho
          subst ho
          have M : Mem (fun _ => True) (fun _ => True) w w' ([.box w.heap.size [.int .i64 e.kind, .int .i64 e.value, .slice (some ⟨b, off, none⟩) m ck], .box (w.heap.size + 1) [.int .i64 0, .int .i64 0, .slice none 0 0], .box (w.heap.size + 1 + 1) [.int .i64 e.kind, .int .i64 e.value, .slice a k c], .row 41 3 (.slice a k c) k ys, .own S (fun w => ExprsO w ((e.kids.take k).map foldE) S ys), .box g5 [.int .i64 e.kids[k].kind, .int .i64 e.kids[k].value, .slice ka e.kids[k].kids.length kc]]) := hst
          have HM7 := show Hid _ from M
          have e2 : f 2 = .agg #[.int .i64 e.kids[k].kind, .int .i64 e.kids[k].value, .slice ka e.kids[k].kids.length kc] := hdep { on := 2, ground := .data } (by simp) (by kernel_rfl) (by simp)
          clear hdep hst M
          obtain ⟨f', rfl⟩ := upd_self e2
          clear e2
          simp only [putAll, upd, ↓reduceIte, Nat.reduceEqDiff]
          go_wp2_with fail
          refine (HE.out w' (HM7.out.below fun _ _ => trivial)).mono ?_
          rintro x w7 ⟨a7, c7, T, rfl, hO, hT, b7⟩
          have HM8 := show Hid _ from HM7.out.callO b7 (S := T) (R := fun w => KidsO w (.slice a7 (foldE e.kids[k]).kids.length c7) (foldE e.kids[k]).kids T) (fun _ _ h hs => KidsO.same h hs) hO hT
          clear hO hT b7
          go_wp2_with fail
          exact use_act (HQ.out (.agg #[.int .i64 (foldE e.kids[k]).kind, .int .i64 (foldE e.kids[k]).value, .slice a7 (foldE e.kids[k]).kids.length c7]) _ ⟨a7, c7, T, rfl, HM8.out⟩) (by kernel_rfl)
        | 1, hs, hst, HQ =>
          simp only [List.getElem?_cons_zero, List.getElem?_cons_succ, Option.some.injEq] at hs
          subst hs
          simp only [List.getElem?_cons_zero, List.getElem?_cons_succ, Option.some.injEq] at ho
          subst ho
          obtain ⟨a7, c7, T, e3, M⟩ := hst
          have e3 : f 3 = .agg #[.int .i64 (foldE e.kids[k]).kind, .int .i64 (foldE e.kids[k]).value, .slice a7 (foldE e.kids[k]).kids.length c7] := e3
          have HM7 := show Hid _ from M.box [.int .i64 (foldE e.kids[k]).kind, .int .i64 (foldE e.kids[k]).value, .slice a7 (foldE e.kids[k]).kids.length c7] 41
          clear hdep M
          obtain ⟨f', rfl⟩ := upd_self e3
          clear e3
          simp only [putAll, upd, ↓reduceIte, Nat.reduceEqDiff]
          go_wp2_with fail
          exact use_act (HQ.out (.slice (some ⟨w'.heap.size, 0, none⟩) 1 1) _ ⟨a7, c7, T, w'.heap.size, rfl, HM7.out⟩) (by kernel_rfl)
        | 2, hs, hst, HQ =>
          simp only [List.getElem?_cons_zero, List.getElem?_cons_succ, Option.some.injEq] at hs
          subst hs
          simp only [List.getElem?_cons_zero, List.getElem?_cons_succ, Option.some.injEq] at ho
          subst ho
          obtain ⟨a7, c7, T, gb, e4, M⟩ := hst
          have e4 : f 4 = .slice (some ⟨gb, 0, none⟩) 1 1 := e4
          have e1 : f 1 = .slice a k c := hdep { on := 1, ground := .data } (by simp) (by kernel_rfl) (by simp)
          clear hdep
          refine wpList_app rfl _ _ rfl Try.underlying39 infoE rfl (by omega) (Eq.trans (by kernel_rfl) e1) (M.r 3 rfl) (Eq.trans (by kernel_rfl) e4) (blk_row (M.blk 7 rfl)) (fun u hu => by simp at hu; rcases hu with rfl | rfl | rfl <;> rfl) (by omega) (by omega) (Nat.zero_le _) ?_
          intro a9 c9 w9 o9 _ g9 n9
          exact wpList_nil (HQ.out _ _ ⟨a7, c7, T, gb, a9, c9, rfl, M.app 3 rfl o9 g9 n9⟩)
        | s + 3, hs, _, _ => simp at hs
      · intro o ho f w' hst hall
        simp only [List.getElem?_cons_zero, List.getElem?_cons_succ, Option.some.injEq] at ho
        subst ho
        obtain ⟨a7, c7, T, gb, a9, c9, e5, M⟩ := hst
        have e5 : f 5 = .slice a9 (k + 1) c9 := e5
        have e6 : f 6 = .pointer (some ⟨w.heap.size + 1 + 1, 2, none⟩) := hall 6 (by omega) (by simp)
        have x0 := M.c 2 2 rfl rfl
        have f0 := M.f 2 rfl
        have M9 : Mem (fun _ => True) (fun _ => True) w _ ([.box w.heap.size [.int .i64 e.kind, .int .i64 e.value, .slice (some ⟨b, off, none⟩) m ck], .box (w.heap.size + 1) [.int .i64 0, .int .i64 0, .slice none 0 0], .box (w.heap.size + 1 + 1) [.int .i64 e.kind, .int .i64 e.value, .slice a9 (k + 1) c9], .row 41 3 (.slice a9 (k + 1) c9) (k + 1) (ys ++ [.int .i64 (foldE e.kids[k]).kind, .int .i64 (foldE e.kids[k]).value, .slice a7 (foldE e.kids[k]).kids.length c7])] ++ [.own S (fun w => ExprsO w ((e.kids.take k).map foldE) S ys), .own T (fun w => KidsO w (.slice a7 (foldE e.kids[k]).kids.length c7) (foldE e.kids[k]).kids T)]) := (M.set 2 rfl 2 (.slice a9 (k + 1) c9)).sel [0, 1, 2, 3, 4, 6] _ rfl (by decide)
        have HM9 := show Hid _ from Mem.joinE (e := foldE e.kids[k]) M9
        clear M9
        clear hall M HM HC
        obtain ⟨f', rfl⟩ := upd_self e5
        clear e5
        simp only [upd, ↓reduceIte, Nat.reduceEqDiff] at e6
        obtain ⟨f'', rfl⟩ := upd_self e6
        clear e6
        simp only [putAll, upd, ↓reduceIte, Nat.reduceEqDiff]
        go_wp2_with fail
        refine ⟨⟨k + 1, a9, c9, _, _, by omega, by go_num, by rw [take_succ_get _ _ hlt, List.map_append]; exact HM9.out⟩, by simp [intOf]; omega⟩
    · have hkn : k = m := by omega
      subst hkn
      -- TAIL
      rw [List.take_of_length_le (by have := HMM.out; omega)] at M
      obtain ⟨ks', hks'⟩ : ∃ ks', ks' = e.kids.map foldE := ⟨_, rfl⟩
      have HND := show Hid (foldE e = nodeE ⟨e.kind, e.value, ks'⟩) from by rw [hks']; exact foldE_def e
      have HG2 := show Hid (goodE ⟨e.kind, e.value, ks'⟩ = true) from by rw [hks']; exact good_map hgood
      have hkl : k = ks'.length := by rw [hks', List.length_map]; exact HMM.out
      rw [← hks'] at M
      clear hks' HMM HC0 HGK
      have M3 : Mem (fun _ => True) (fun _ => True) w wr ([.box w.heap.size [.int .i64 e.kind, .int .i64 e.value, .slice ak k ck], .box (w.heap.size + 1) [.int .i64 0, .int .i64 0, .slice none 0 0], .box (w.heap.size + 1 + 1) [.int .i64 e.kind, .int .i64 e.value, .slice a k c]] ++ [.row 41 3 (.slice a k c) k ys, .own S (fun w => ExprsO w ks' S ys)]) := M
      have M4 := Mem.joinK M3 hkl
      obtain ⟨S', hS'⟩ : ∃ S' : Nat → Prop, S' = fun b => (Value.slice a k c).ownBlock = some b ∨ S b := ⟨_, rfl⟩
      rw [← hS'] at M4
      clear M M3 hS'
      have M : Mem (fun _ => True) (fun _ => True) w wr [.box w.heap.size [.int .i64 e.kind, .int .i64 e.value, .slice ak k ck], .box (w.heap.size + 1) [.int .i64 0, .int .i64 0, .slice none 0 0], .box (w.heap.size + 1 + 1) [.int .i64 e.kind, .int .i64 e.value, .slice a k c], .own S' (fun w => KidsO w (.slice a k c) ks' S')] := M4
      clear M4
      have hkind : (e.kind = 11 ∧ ks'.length = 3) ∨ (4 ≤ e.kind ∧ e.kind ≤ 10 ∧ ks'.length = 2) ∨ (e.kind < 4 ∧ 1 ≤ e.kind ∧ ks'.length ≤ 1) := good_kinds HG2.out
      rcases hkind with ⟨h1, h2⟩ | ⟨h1, h2, h3⟩ | ⟨h1, h2, h3⟩
      · obtain ⟨p, q, r, rfl⟩ : ∃ p q r, ks' = [p, q, r] := by
          match ks', h2 with
          | [p, q, r], _ => exact ⟨p, q, r, rfl⟩
        clear h2
        have hkl2 : k = 3 := hkl
        clear hkl
        subst hkl2
        obtain ⟨g, off, cap, av, ac, bv, bc, cv, cc, hv, hg, hs, hcell, k0, k1, k2⟩ := (show KidsO _ _ [p, q, r] S' from M.o 3 rfl).three
        have e1 : a = some ⟨g, off, none⟩ := by cases hv; rfl
        have e2 : cap = c := by cases hv; rfl
        subst e1 e2
        clear hv
        replace M := M.turn 3 rfl (Kept.refl _ _) (R' := fun w => ThreeO w S' g off cap av ac bv bc cv cc p q r) (fun _ _ h hs => ThreeO.same h hs) ⟨hs, hcell, k0, k1, k2, M.o 3 rfl⟩
        replace M : Mem (fun _ => True) (fun _ => True) w wr [.box w.heap.size [.int .i64 e.kind, .int .i64 e.value, .slice ak 3 ck], .box (w.heap.size + 1) [.int .i64 0, .int .i64 0, .slice none 0 0], .box (w.heap.size + 1 + 1) [.int .i64 e.kind, .int .i64 e.value, .slice (some ⟨g, off, none⟩) 3 cap], .own S' (fun w => ThreeO w S' g off cap av ac bv bc cv cc p q r)] := M
        clear hcell k0 k1 k2 hs
        have pk : (e.kind == 11) = true := by simp [h1]
        have HN0 := show Hid (nodeE ⟨e.kind, e.value, [p, q, r]⟩ = (if p.kind = 1 ∧ quietE q = true ∧ quietE r = true then (if p.value ≠ 0 then q else r) else ⟨e.kind, e.value, [p, q, r]⟩)) from node3 _ _ _ _ _
        clear h1
        by_cases qa : p.kind = 1
        case neg =>
          have pa : (p.kind != 1) = true := by simp [qa]
          have HN : Hid (nodeE ⟨e.kind, e.value, [p, q, r]⟩ = ⟨e.kind, e.value, [p, q, r]⟩) := by rw [Hid, HN0.out, if_neg (fun h => qa h.1)]
          clear qa HN0
          have y0 := M.c 0 0 rfl rfl
          have d0 := M.c 1 0 rfl rfl
          have d1 := M.c 1 1 rfl rfl
          have d2 := M.c 1 2 rfl rfl
          have ff := M.f 1 rfl
          have o0 := M.c 2 0 rfl rfl
          have o1 := M.c 2 1 rfl rfl
          have o2 := M.c 2 2 rfl rfl
          obtain ⟨-, ⟨c0, c1, c2, c3, c4, c5, c6, c7, c8⟩, -⟩ := M.o 3 rfl
          have HM := show Hid _ from ((M.set 1 rfl 0 (.int .i64 e.kind)).set 1 rfl 1 (.int .i64 e.value)).set 1 rfl 2 (.slice (some ⟨g, off, none⟩) 3 cap)
          clear M
          go_wp2_with fail
          have M2 := HM.out
          have r0 : World.cell? _ ⟨w.heap.size + 1, 0, none⟩ = some (.int .i64 e.kind) := M2.c 1 0 rfl rfl
          have r1 : World.cell? _ ⟨w.heap.size + 1, 1, none⟩ = some (.int .i64 e.value) := M2.c 1 1 rfl rfl
          have r2 : World.cell? _ ⟨w.heap.size + 1, 2, none⟩ = some (.slice (some ⟨g, off, none⟩) 3 cap) := M2.c 1 2 rfl rfl
          refine bodyPost_ret (v := .agg #[.int .i64 e.kind, .int .i64 e.value, .slice (some ⟨g, off, none⟩) 3 cap]) (by simp [results, Try.results77, go_sem, r0, r1, r2]) rfl ?_
          show FoQ w e _ _
          unfold FoQ
          rw [HND.out, HN.out]
          exact ⟨_, _, S', rfl, (M2.o 3 rfl).2.2.2.2.2, fun b hb => ⟨(M2.ge _ b (List.mem_of_getElem? (i := 3) rfl) hb).elim (fun h => h) fun h => absurd trivial h, M2.lt (List.mem_of_getElem? (i := 3) rfl) hb⟩, M2.below fun _ _ => trivial⟩
        have pa : (p.kind != 1) = false := by simp [qa]
        have HQA := show Hid _ from qa
        clear qa
        have y0 := M.c 0 0 rfl rfl
        have d0 := M.c 1 0 rfl rfl
        have d1 := M.c 1 1 rfl rfl
        have d2 := M.c 1 2 rfl rfl
        have ff := M.f 1 rfl
        have o0 := M.c 2 0 rfl rfl
        have o1 := M.c 2 1 rfl rfl
        have o2 := M.c 2 2 rfl rfl
        obtain ⟨-, ⟨c0, c1, c2, c3, c4, c5, c6, c7, c8⟩, -⟩ := M.o 3 rfl
        have HM := show Hid _ from M
        clear M
        go_wp2_with fail
        have M := HM.out
        clear HM y0 d0 d1 d2 ff o0 o1 o2 c0 c1 c2 c3 c4 c5 c6 c7 c8
        refine (impl_reads q S' _ _ ⟨_, rfl, KidsO.read (M.o 3 rfl).2.2.2.1 fun _ h => h⟩).mono ?_
        rintro x w1 ⟨rfl, b1⟩
        replace M := M.call b1
        clear b1
        cases hb : quietE q
        · have HN : Hid (nodeE ⟨e.kind, e.value, [p, q, r]⟩ = ⟨e.kind, e.value, [p, q, r]⟩) := by rw [Hid, HN0.out, if_neg (fun h => by rw [hb] at h; exact absurd h.2.1 (by simp))]
          clear hb HN0
          have y0 := M.c 0 0 rfl rfl
          have d0 := M.c 1 0 rfl rfl
          have d1 := M.c 1 1 rfl rfl
          have d2 := M.c 1 2 rfl rfl
          have ff := M.f 1 rfl
          have o0 := M.c 2 0 rfl rfl
          have o1 := M.c 2 1 rfl rfl
          have o2 := M.c 2 2 rfl rfl
          obtain ⟨-, ⟨c0, c1, c2, c3, c4, c5, c6, c7, c8⟩, -⟩ := M.o 3 rfl
          have HM := show Hid _ from ((M.set 1 rfl 0 (.int .i64 e.kind)).set 1 rfl 1 (.int .i64 e.value)).set 1 rfl 2 (.slice (some ⟨g, off, none⟩) 3 cap)
          clear M
          go_wp2_with fail
          have M2 := HM.out
          have r0 : World.cell? _ ⟨w.heap.size + 1, 0, none⟩ = some (.int .i64 e.kind) := M2.c 1 0 rfl rfl
          have r1 : World.cell? _ ⟨w.heap.size + 1, 1, none⟩ = some (.int .i64 e.value) := M2.c 1 1 rfl rfl
          have r2 : World.cell? _ ⟨w.heap.size + 1, 2, none⟩ = some (.slice (some ⟨g, off, none⟩) 3 cap) := M2.c 1 2 rfl rfl
          refine bodyPost_ret (v := .agg #[.int .i64 e.kind, .int .i64 e.value, .slice (some ⟨g, off, none⟩) 3 cap]) (by simp [results, Try.results77, go_sem, r0, r1, r2]) rfl ?_
          show FoQ w e _ _
          unfold FoQ
          rw [HND.out, HN.out]
          exact ⟨_, _, S', rfl, (M2.o 3 rfl).2.2.2.2.2, fun b hb => ⟨(M2.ge _ b (List.mem_of_getElem? (i := 3) rfl) hb).elim (fun h => h) fun h => absurd trivial h, M2.lt (List.mem_of_getElem? (i := 3) rfl) hb⟩, M2.below fun _ _ => trivial⟩
        · have y0 := M.c 0 0 rfl rfl
          have d0 := M.c 1 0 rfl rfl
          have d1 := M.c 1 1 rfl rfl
          have d2 := M.c 1 2 rfl rfl
          have ff := M.f 1 rfl
          have o0 := M.c 2 0 rfl rfl
          have o1 := M.c 2 1 rfl rfl
          have o2 := M.c 2 2 rfl rfl
          obtain ⟨-, ⟨c0, c1, c2, c3, c4, c5, c6, c7, c8⟩, -⟩ := M.o 3 rfl
          have HM := show Hid _ from M
          clear M
          go_wp2_with fail
          have M := HM.out
          clear HM y0 d0 d1 d2 ff o0 o1 o2 c0 c1 c2 c3 c4 c5 c6 c7 c8
          refine (impl_reads r S' _ _ ⟨_, rfl, KidsO.read (M.o 3 rfl).2.2.2.2.1 fun _ h => h⟩).mono ?_
          rintro x w1 ⟨rfl, b1⟩
          replace M := M.call b1
          clear b1
          cases hc : quietE r
          · have HN : Hid (nodeE ⟨e.kind, e.value, [p, q, r]⟩ = ⟨e.kind, e.value, [p, q, r]⟩) := by rw [Hid, HN0.out, if_neg (fun h => by rw [hc] at h; exact absurd h.2.2 (by simp))]
            clear hb hc HN0
            have y0 := M.c 0 0 rfl rfl
            have d0 := M.c 1 0 rfl rfl
            have d1 := M.c 1 1 rfl rfl
            have d2 := M.c 1 2 rfl rfl
            have ff := M.f 1 rfl
            have o0 := M.c 2 0 rfl rfl
            have o1 := M.c 2 1 rfl rfl
            have o2 := M.c 2 2 rfl rfl
            obtain ⟨-, ⟨c0, c1, c2, c3, c4, c5, c6, c7, c8⟩, -⟩ := M.o 3 rfl
            have HM := show Hid _ from ((M.set 1 rfl 0 (.int .i64 e.kind)).set 1 rfl 1 (.int .i64 e.value)).set 1 rfl 2 (.slice (some ⟨g, off, none⟩) 3 cap)
            clear M
            go_wp2_with fail
            have M2 := HM.out
            have r0 : World.cell? _ ⟨w.heap.size + 1, 0, none⟩ = some (.int .i64 e.kind) := M2.c 1 0 rfl rfl
            have r1 : World.cell? _ ⟨w.heap.size + 1, 1, none⟩ = some (.int .i64 e.value) := M2.c 1 1 rfl rfl
            have r2 : World.cell? _ ⟨w.heap.size + 1, 2, none⟩ = some (.slice (some ⟨g, off, none⟩) 3 cap) := M2.c 1 2 rfl rfl
            refine bodyPost_ret (v := .agg #[.int .i64 e.kind, .int .i64 e.value, .slice (some ⟨g, off, none⟩) 3 cap]) (by simp [results, Try.results77, go_sem, r0, r1, r2]) rfl ?_
            show FoQ w e _ _
            unfold FoQ
            rw [HND.out, HN.out]
            exact ⟨_, _, S', rfl, (M2.o 3 rfl).2.2.2.2.2, fun b hb => ⟨(M2.ge _ b (List.mem_of_getElem? (i := 3) rfl) hb).elim (fun h => h) fun h => absurd trivial h, M2.lt (List.mem_of_getElem? (i := 3) rfl) hb⟩, M2.below fun _ _ => trivial⟩
          · by_cases qv : p.value = 0
            · have pv : (p.value != 0) = false := by simp [qv]
              have HN : Hid (nodeE ⟨e.kind, e.value, [p, q, r]⟩ = r) := by rw [Hid, HN0.out, if_pos ⟨HQA.out, hb, hc⟩, if_neg (by simp [qv])]
              clear qv hb hc HN0
              have y0 := M.c 0 0 rfl rfl
              have d0 := M.c 1 0 rfl rfl
              have d1 := M.c 1 1 rfl rfl
              have d2 := M.c 1 2 rfl rfl
              have ff := M.f 1 rfl
              have o0 := M.c 2 0 rfl rfl
              have o1 := M.c 2 1 rfl rfl
              have o2 := M.c 2 2 rfl rfl
              obtain ⟨-, ⟨c0, c1, c2, c3, c4, c5, c6, c7, c8⟩, -⟩ := M.o 3 rfl
              have HM := show Hid _ from ((M.set 1 rfl 0 (.int .i64 r.kind)).set 1 rfl 1 (.int .i64 r.value)).set 1 rfl 2 (.slice cv r.kids.length cc)
              clear M
              go_wp2_with fail
              have M2 := HM.out
              have r0 : World.cell? _ ⟨w.heap.size + 1, 0, none⟩ = some (.int .i64 r.kind) := M2.c 1 0 rfl rfl
              have r1 : World.cell? _ ⟨w.heap.size + 1, 1, none⟩ = some (.int .i64 r.value) := M2.c 1 1 rfl rfl
              have r2 : World.cell? _ ⟨w.heap.size + 1, 2, none⟩ = some (.slice cv r.kids.length cc) := M2.c 1 2 rfl rfl
              refine bodyPost_ret (v := .agg #[.int .i64 r.kind, .int .i64 r.value, .slice cv r.kids.length cc]) (by simp [results, Try.results77, go_sem, r0, r1, r2]) rfl ?_
              show FoQ w e _ _
              unfold FoQ
              rw [HND.out, HN.out]
              exact ⟨_, _, S', rfl, (M2.o 3 rfl).2.2.2.2.1, fun b hb => ⟨(M2.ge _ b (List.mem_of_getElem? (i := 3) rfl) hb).elim (fun h => h) fun h => absurd trivial h, M2.lt (List.mem_of_getElem? (i := 3) rfl) hb⟩, M2.below fun _ _ => trivial⟩
            · have pv : (p.value != 0) = true := by simp [qv]
              have HN : Hid (nodeE ⟨e.kind, e.value, [p, q, r]⟩ = q) := by rw [Hid, HN0.out, if_pos ⟨HQA.out, hb, hc⟩, if_pos qv]
              clear qv hb hc HN0
              have y0 := M.c 0 0 rfl rfl
              have d0 := M.c 1 0 rfl rfl
              have d1 := M.c 1 1 rfl rfl
              have d2 := M.c 1 2 rfl rfl
              have ff := M.f 1 rfl
              have o0 := M.c 2 0 rfl rfl
              have o1 := M.c 2 1 rfl rfl
              have o2 := M.c 2 2 rfl rfl
              obtain ⟨-, ⟨c0, c1, c2, c3, c4, c5, c6, c7, c8⟩, -⟩ := M.o 3 rfl
              have HM := show Hid _ from ((M.set 1 rfl 0 (.int .i64 q.kind)).set 1 rfl 1 (.int .i64 q.value)).set 1 rfl 2 (.slice bv q.kids.length bc)
              clear M
              go_wp2_with fail
              have M2 := HM.out
              have r0 : World.cell? _ ⟨w.heap.size + 1, 0, none⟩ = some (.int .i64 q.kind) := M2.c 1 0 rfl rfl
              have r1 : World.cell? _ ⟨w.heap.size + 1, 1, none⟩ = some (.int .i64 q.value) := M2.c 1 1 rfl rfl
              have r2 : World.cell? _ ⟨w.heap.size + 1, 2, none⟩ = some (.slice bv q.kids.length bc) := M2.c 1 2 rfl rfl
              refine bodyPost_ret (v := .agg #[.int .i64 q.kind, .int .i64 q.value, .slice bv q.kids.length bc]) (by simp [results, Try.results77, go_sem, r0, r1, r2]) rfl ?_
              show FoQ w e _ _
              unfold FoQ
              rw [HND.out, HN.out]
              exact ⟨_, _, S', rfl, (M2.o 3 rfl).2.2.2.1, fun b hb => ⟨(M2.ge _ b (List.mem_of_getElem? (i := 3) rfl) hb).elim (fun h => h) fun h => absurd trivial h, M2.lt (List.mem_of_getElem? (i := 3) rfl) hb⟩, M2.below fun _ _ => trivial⟩
      · obtain ⟨p, q, rfl⟩ : ∃ p q, ks' = [p, q] := by
          match ks', h3 with
          | [p, q], _ => exact ⟨p, q, rfl⟩
        clear h3
        have hkl2 : k = 2 := hkl
        clear hkl
        subst hkl2
        have HPV : Hid (p.kind = 1 → 0 ≤ p.value ∧ p.value ≤ 255) := goodE_val ((goodEs_iff _).1 (goodE_kids HG2.out) p (by simp [LExpr.kids]))
        have HQV : Hid (q.kind = 1 → 0 ≤ q.value ∧ q.value ≤ 255) := goodE_val ((goodEs_iff _).1 (goodE_kids HG2.out) q (by simp [LExpr.kids]))
        obtain ⟨g, off, cap, av, ac, bv, bc, hv, hg, hs, hcell, k0, k1⟩ := (show KidsO _ _ [p, q] S' from M.o 3 rfl).two
        have e1 : a = some ⟨g, off, none⟩ := by cases hv; rfl
        have e2 : cap = c := by cases hv; rfl
        subst e1 e2
        clear hv
        replace M := M.turn 3 rfl (Kept.refl _ _) (R' := fun w => TwoO w S' g off cap av ac bv bc p q) (fun _ _ h hs => TwoO.same h hs) ⟨hs, hcell.1, hcell.2.1, hcell.2.2.1, hcell.2.2.2.1, hcell.2.2.2.2.1, hcell.2.2.2.2.2, k0, k1, M.o 3 rfl⟩
        replace M : Mem (fun _ => True) (fun _ => True) w wr [.box w.heap.size [.int .i64 e.kind, .int .i64 e.value, .slice ak 2 ck], .box (w.heap.size + 1) [.int .i64 0, .int .i64 0, .slice none 0 0], .box (w.heap.size + 1 + 1) [.int .i64 e.kind, .int .i64 e.value, .slice (some ⟨g, off, none⟩) 2 cap], .own S' (fun w => TwoO w S' g off cap av ac bv bc p q)] := M
        clear hcell k0 k1 hs
        have pk : (e.kind == 11) = false := by simp; omega
        have pw : (decide (4 ≤ e.kind) && decide (e.kind ≤ 10)) = true := by simp; omega
        have HN0 := show Hid (nodeE ⟨e.kind, e.value, [p, q]⟩ = _) from node2 _ _ _ _
        clear h1 h2
        have y0 := M.c 0 0 rfl rfl
        have d0 := M.c 1 0 rfl rfl
        have d1 := M.c 1 1 rfl rfl
        have d2 := M.c 1 2 rfl rfl
        have ff := M.f 1 rfl
        have o0 := M.c 2 0 rfl rfl
        have o1 := M.c 2 1 rfl rfl
        have o2 := M.c 2 2 rfl rfl
        obtain ⟨-, c0, c1, c2, c3, c4, c5, -, -, -⟩ := M.o 3 rfl
        have HM := show Hid _ from M
        clear M
        go_wp2_with fail
        have M := HM.out
        clear HM y0 d0 d1 d2 ff o0 o1 o2 c0 c1 c2 c3 c4 c5
        refine (impl_within e.kind 4 10 _).mono ?_
        rintro x w1 ⟨rfl, rfl⟩
        rw [pw]
        clear pw
        have y0 := M.c 0 0 rfl rfl
        have d0 := M.c 1 0 rfl rfl
        have d1 := M.c 1 1 rfl rfl
        have d2 := M.c 1 2 rfl rfl
        have ff := M.f 1 rfl
        have o0 := M.c 2 0 rfl rfl
        have o1 := M.c 2 1 rfl rfl
        have o2 := M.c 2 2 rfl rfl
        obtain ⟨-, c0, c1, c2, c3, c4, c5, -, -, -⟩ := M.o 3 rfl
        have HM := show Hid _ from M
        clear M
        go_wp2_with fail
        have M := HM.out
        clear HM y0 d0 d1 d2 ff o0 o1 o2 c0 c1 c2 c3 c4 c5
        have HC : Hid (∀ (b : Nat → Bool) (gg : Nat → Value) (w' : World), (fun (b : Nat → Bool) (gg : Nat → Value) (w' : World) => Fl3 (b 0) (b 1) (b 2) (Mem (fun _ => True) (fun _ => True) w w' [.box w.heap.size [.int .i64 e.kind, .int .i64 e.value, .slice ak 2 ck], .box (w.heap.size + 1) [.int .i64 0, .int .i64 0, .slice none 0 0], .box (w.heap.size + 1 + 1) [.int .i64 e.kind, .int .i64 e.value, .slice (some ⟨g, off, none⟩) 2 cap], .own S' (fun w => TwoO w S' g off cap av ac bv bc p q)]) (∃ g6, gg 0 = .pointer (some ⟨g6, 0, none⟩) ∧ Mem (fun _ => True) (fun _ => True) w w' [.box w.heap.size [.int .i64 e.kind, .int .i64 e.value, .slice ak 2 ck], .box (w.heap.size + 1) [.int .i64 0, .int .i64 0, .slice none 0 0], .box (w.heap.size + 1 + 1) [.int .i64 e.kind, .int .i64 e.value, .slice (some ⟨g, off, none⟩) 2 cap], .own S' (fun w => TwoO w S' g off cap av ac bv bc p q), .box g6 [.int .i64 0, .int .i64 0, .slice none 0 0]]) (∃ g7, gg 1 = .pointer (some ⟨g7, 0, none⟩) ∧ Mem (fun _ => True) (fun _ => True) w w' [.box w.heap.size [.int .i64 e.kind, .int .i64 e.value, .slice ak 2 ck], .box (w.heap.size + 1) [.int .i64 0, .int .i64 0, .slice none 0 0], .box (w.heap.size + 1 + 1) [.int .i64 e.kind, .int .i64 e.value, .slice (some ⟨g, off, none⟩) 2 cap], .own S' (fun w => TwoO w S' g off cap av ac bv bc p q), .box g7 [.int .i64 0, .int .i64 0, .slice none 0 0]]) (∃ g6 g7, gg 0 = .pointer (some ⟨g6, 0, none⟩) ∧ gg 1 = .pointer (some ⟨g7, 0, none⟩) ∧ Mem (fun _ => True) (fun _ => True) w w' [.box w.heap.size [.int .i64 e.kind, .int .i64 e.value, .slice ak 2 ck], .box (w.heap.size + 1) [.int .i64 0, .int .i64 0, .slice none 0 0], .box (w.heap.size + 1 + 1) [.int .i64 e.kind, .int .i64 e.value, .slice (some ⟨g, off, none⟩) 2 cap], .own S' (fun w => TwoO w S' g off cap av ac bv bc p q), .box g6 [.int .i64 0, .int .i64 0, .slice none 0 0], .box g7 [.int .i64 0, .int .i64 0, .slice none 0 0]]) (∃ g6, gg 0 = .pointer (some ⟨g6, 0, none⟩) ∧ Mem (fun _ => True) (fun _ => True) w w' [.box w.heap.size [.int .i64 e.kind, .int .i64 e.value, .slice ak 2 ck], .box (w.heap.size + 1) [.int .i64 0, .int .i64 0, .slice none 0 0], .box (w.heap.size + 1 + 1) [.int .i64 e.kind, .int .i64 e.value, .slice (some ⟨g, off, none⟩) 2 cap], .own S' (fun w => TwoO w S' g off cap av ac bv bc p q), .box g6 [.int .i64 p.kind, .int .i64 p.value, .slice av p.kids.length ac]]) (∃ g6 g7, gg 0 = .pointer (some ⟨g6, 0, none⟩) ∧ gg 1 = .pointer (some ⟨g7, 0, none⟩) ∧ Mem (fun _ => True) (fun _ => True) w w' [.box w.heap.size [.int .i64 e.kind, .int .i64 e.value, .slice ak 2 ck], .box (w.heap.size + 1) [.int .i64 0, .int .i64 0, .slice none 0 0], .box (w.heap.size + 1 + 1) [.int .i64 e.kind, .int .i64 e.value, .slice (some ⟨g, off, none⟩) 2 cap], .own S' (fun w => TwoO w S' g off cap av ac bv bc p q), .box g6 [.int .i64 p.kind, .int .i64 p.value, .slice av p.kids.length ac], .box g7 [.int .i64 0, .int .i64 0, .slice none 0 0]]) : (Nat → Bool) → (Nat → Value) → World → Prop) b gg w' → w'.cell? ⟨w.heap.size + 1 + 1, 2, none⟩ = some (.slice (some ⟨g, off, none⟩) 2 cap) ∧ w'.cell? ⟨g, off, none⟩ = some (.int .i64 p.kind) ∧ w'.cell? ⟨g, off + 1, none⟩ = some (.int .i64 p.value) ∧ w'.cell? ⟨g, off + 2, none⟩ = some (.slice av p.kids.length ac) ∧ w'.cell? ⟨g, off + 3, none⟩ = some (.int .i64 q.kind) ∧ w'.cell? ⟨g, off + 4, none⟩ = some (.int .i64 q.value) ∧ w'.cell? ⟨g, off + 5, none⟩ = some (.slice bv q.kids.length bc)) := by
          intro b gg w' h
          have key : ∀ (L : List Res), Mem (fun _ => True) (fun _ => True) w w' L → L[2]? = some (.box (w.heap.size + 1 + 1) [.int .i64 e.kind, .int .i64 e.value, .slice (some ⟨g, off, none⟩) 2 cap]) → L[3]? = some (.own S' (fun w => TwoO w S' g off cap av ac bv bc p q)) → w'.cell? ⟨w.heap.size + 1 + 1, 2, none⟩ = some (.slice (some ⟨g, off, none⟩) 2 cap) ∧ w'.cell? ⟨g, off, none⟩ = some (.int .i64 p.kind) ∧ w'.cell? ⟨g, off + 1, none⟩ = some (.int .i64 p.value) ∧ w'.cell? ⟨g, off + 2, none⟩ = some (.slice av p.kids.length ac) ∧ w'.cell? ⟨g, off + 3, none⟩ = some (.int .i64 q.kind) ∧ w'.cell? ⟨g, off + 4, none⟩ = some (.int .i64 q.value) ∧ w'.cell? ⟨g, off + 5, none⟩ = some (.slice bv q.kids.length bc) := fun L M h2 h3 => by
            obtain ⟨-, c0, c1, c2, c3, c4, c5, -, -, -⟩ := M.o 3 h3
            exact ⟨M.c 2 2 h2 rfl, c0, c1, c2, c3, c4, c5⟩
          cases h0 : b 0 <;> cases h1 : b 1 <;> cases h2 : b 2 <;> simp only [h0, h1, h2, Fl3] at h
          · exact key _ h rfl rfl
          · obtain ⟨_, _, h⟩ := h; exact key _ h rfl rfl
          · obtain ⟨_, _, h⟩ := h; exact key _ h rfl rfl
          · obtain ⟨_, _, h⟩ := h; exact key _ h rfl rfl
          · obtain ⟨_, _, _, _, h⟩ := h; exact key _ h rfl rfl
          · obtain ⟨_, _, _, _, h⟩ := h; exact key _ h rfl rfl
        have HM := show Hid _ from M
        clear M
        refine wp_region_flags 11 [8, 9, 10] (fun i => [.pointer (some ⟨w.heap.size + 1 + 1, 2, none⟩), .slice (some ⟨g, off, none⟩) 2 cap, .pointer (some ⟨g, off, none⟩), .agg #[.int .i64 p.kind, .int .i64 p.value, .slice av p.kids.length ac], .pointer (some ⟨w.heap.size + 1 + 1, 2, none⟩), .slice (some ⟨g, off, none⟩) 2 cap, .pointer (some ⟨g, off + 3, none⟩), .agg #[.int .i64 q.kind, .int .i64 q.value, .slice bv q.kids.length bc]].getD i undef) (fun (b : Nat → Bool) (gg : Nat → Value) (w' : World) => Fl3 (b 0) (b 1) (b 2) (Mem (fun _ => True) (fun _ => True) w w' [.box w.heap.size [.int .i64 e.kind, .int .i64 e.value, .slice ak 2 ck], .box (w.heap.size + 1) [.int .i64 0, .int .i64 0, .slice none 0 0], .box (w.heap.size + 1 + 1) [.int .i64 e.kind, .int .i64 e.value, .slice (some ⟨g, off, none⟩) 2 cap], .own S' (fun w => TwoO w S' g off cap av ac bv bc p q)]) (∃ g6, gg 0 = .pointer (some ⟨g6, 0, none⟩) ∧ Mem (fun _ => True) (fun _ => True) w w' [.box w.heap.size [.int .i64 e.kind, .int .i64 e.value, .slice ak 2 ck], .box (w.heap.size + 1) [.int .i64 0, .int .i64 0, .slice none 0 0], .box (w.heap.size + 1 + 1) [.int .i64 e.kind, .int .i64 e.value, .slice (some ⟨g, off, none⟩) 2 cap], .own S' (fun w => TwoO w S' g off cap av ac bv bc p q), .box g6 [.int .i64 0, .int .i64 0, .slice none 0 0]]) (∃ g7, gg 1 = .pointer (some ⟨g7, 0, none⟩) ∧ Mem (fun _ => True) (fun _ => True) w w' [.box w.heap.size [.int .i64 e.kind, .int .i64 e.value, .slice ak 2 ck], .box (w.heap.size + 1) [.int .i64 0, .int .i64 0, .slice none 0 0], .box (w.heap.size + 1 + 1) [.int .i64 e.kind, .int .i64 e.value, .slice (some ⟨g, off, none⟩) 2 cap], .own S' (fun w => TwoO w S' g off cap av ac bv bc p q), .box g7 [.int .i64 0, .int .i64 0, .slice none 0 0]]) (∃ g6 g7, gg 0 = .pointer (some ⟨g6, 0, none⟩) ∧ gg 1 = .pointer (some ⟨g7, 0, none⟩) ∧ Mem (fun _ => True) (fun _ => True) w w' [.box w.heap.size [.int .i64 e.kind, .int .i64 e.value, .slice ak 2 ck], .box (w.heap.size + 1) [.int .i64 0, .int .i64 0, .slice none 0 0], .box (w.heap.size + 1 + 1) [.int .i64 e.kind, .int .i64 e.value, .slice (some ⟨g, off, none⟩) 2 cap], .own S' (fun w => TwoO w S' g off cap av ac bv bc p q), .box g6 [.int .i64 0, .int .i64 0, .slice none 0 0], .box g7 [.int .i64 0, .int .i64 0, .slice none 0 0]]) (∃ g6, gg 0 = .pointer (some ⟨g6, 0, none⟩) ∧ Mem (fun _ => True) (fun _ => True) w w' [.box w.heap.size [.int .i64 e.kind, .int .i64 e.value, .slice ak 2 ck], .box (w.heap.size + 1) [.int .i64 0, .int .i64 0, .slice none 0 0], .box (w.heap.size + 1 + 1) [.int .i64 e.kind, .int .i64 e.value, .slice (some ⟨g, off, none⟩) 2 cap], .own S' (fun w => TwoO w S' g off cap av ac bv bc p q), .box g6 [.int .i64 p.kind, .int .i64 p.value, .slice av p.kids.length ac]]) (∃ g6 g7, gg 0 = .pointer (some ⟨g6, 0, none⟩) ∧ gg 1 = .pointer (some ⟨g7, 0, none⟩) ∧ Mem (fun _ => True) (fun _ => True) w w' [.box w.heap.size [.int .i64 e.kind, .int .i64 e.value, .slice ak 2 ck], .box (w.heap.size + 1) [.int .i64 0, .int .i64 0, .slice none 0 0], .box (w.heap.size + 1 + 1) [.int .i64 e.kind, .int .i64 e.value, .slice (some ⟨g, off, none⟩) 2 cap], .own S' (fun w => TwoO w S' g off cap av ac bv bc p q), .box g6 [.int .i64 p.kind, .int .i64 p.value, .slice av p.kids.length ac], .box g7 [.int .i64 0, .int .i64 0, .slice none 0 0]])) (by kernel_rfl) (by kernel_rfl) (by kernel_rfl) (by decide) (by decide) ?_ ?_ ?_ ?_ ?_
        · intro b b' gg gg' w' hb hg h
          have e0 := hb 0 (by decide)
          have e1 := hb 1 (by decide)
          have e2 := hb 2 (by decide)
          have i0 := hg 0 (by decide)
          have i1 := hg 1 (by decide)
          clear hb hg HC HM
          show Fl3 (b' 0) (b' 1) (b' 2) _ _ _ _ _ _
          rw [← e0, ← e1, ← e2]
          replace h : Fl3 (b 0) (b 1) (b 2) _ _ _ _ _ _ := h
          cases h0 : b 0 <;> cases h1 : b 1 <;> cases h2 : b 2 <;> simp only [h0, h1, h2, Fl3] at h i0 i1 ⊢
          · exact h
          · obtain ⟨g7, k0, M⟩ := h; exact ⟨g7, (i1 trivial).symm.trans k0, M⟩
          · obtain ⟨g6, k0, M⟩ := h; exact ⟨g6, (i0 trivial).symm.trans k0, M⟩
          · obtain ⟨g6, k0, M⟩ := h; exact ⟨g6, (i0 trivial).symm.trans k0, M⟩
          · obtain ⟨g6, g7, k0, k1, M⟩ := h; exact ⟨g6, g7, (i0 trivial).symm.trans k0, (i1 trivial).symm.trans k1, M⟩
          · obtain ⟨g6, g7, k0, k1, M⟩ := h; exact ⟨g6, g7, (i0 trivial).symm.trans k0, (i1 trivial).symm.trans k1, M⟩
        · intro gg
          exact HM.out.drew
        · intro i o hi hn ho b f w' hst hdep Q' hQ
          have HQ := show Hid _ from hQ
          clear hQ
          have hc : i = 0 ∨ i = 1 ∨ i = 2 ∨ i = 3 ∨ i = 4 ∨ i = 5 ∨ i = 6 ∨ i = 7 := by simp at hn; omega
          clear hn
          rcases hc with rfl | rfl | rfl | rfl | rfl | rfl | rfl | rfl
          all_goals
            simp only [List.getElem?_cons_zero, List.getElem?_cons_succ, Option.some.injEq] at ho
            subst ho
          · clear hdep hst
            simp only [putAll]
            go_wp2_with fail
            exact use_act HQ.out (by kernel_rfl)
          · have e0 : f 0 = .pointer (some ⟨w.heap.size + 1 + 1, 2, none⟩) := hdep { on := 0, ground := .data } (by simp) (by kernel_rfl) (by simp)
            obtain ⟨x0, x1, x2, x3, x4, x5, x6⟩ := HC.out _ _ _ hst
            clear hdep hst
            obtain ⟨f', rfl⟩ := upd_self e0
            clear e0
            simp only [putAll, upd, ↓reduceIte, Nat.reduceEqDiff]
            go_wp2_with fail
            exact use_act HQ.out (by kernel_rfl)
          · have e1 : f 1 = .slice (some ⟨g, off, none⟩) 2 cap := hdep { on := 1, ground := .data } (by simp) (by kernel_rfl) (by simp)
            clear hdep hst
            obtain ⟨f', rfl⟩ := upd_self e1
            clear e1
            simp only [putAll, upd, ↓reduceIte, Nat.reduceEqDiff]
            go_wp2_with fail
            exact use_act HQ.out (by kernel_rfl)
          · have e2 : f 2 = .pointer (some ⟨g, off, none⟩) := hdep { on := 2, ground := .data } (by simp) (by kernel_rfl) (by simp)
            obtain ⟨x0, x1, x2, x3, x4, x5, x6⟩ := HC.out _ _ _ hst
            clear hdep hst
            obtain ⟨f', rfl⟩ := upd_self e2
            clear e2
            simp only [putAll, upd, ↓reduceIte, Nat.reduceEqDiff]
            go_wp2_with fail
            exact use_act HQ.out (by kernel_rfl)
          · clear hdep hst
            simp only [putAll]
            go_wp2_with fail
            exact use_act HQ.out (by kernel_rfl)
          · have e4 : f 4 = .pointer (some ⟨w.heap.size + 1 + 1, 2, none⟩) := hdep { on := 4, ground := .data } (by simp) (by kernel_rfl) (by simp)
            obtain ⟨x0, x1, x2, x3, x4, x5, x6⟩ := HC.out _ _ _ hst
            clear hdep hst
            obtain ⟨f', rfl⟩ := upd_self e4
            clear e4
            simp only [putAll, upd, ↓reduceIte, Nat.reduceEqDiff]
            go_wp2_with fail
            exact use_act HQ.out (by kernel_rfl)
          · have e5 : f 5 = .slice (some ⟨g, off, none⟩) 2 cap := hdep { on := 5, ground := .data } (by simp) (by kernel_rfl) (by simp)
            clear hdep hst
            obtain ⟨f', rfl⟩ := upd_self e5
            clear e5
            simp only [putAll, upd, ↓reduceIte, Nat.reduceEqDiff]
            go_wp2_with fail
            exact use_act HQ.out (by kernel_rfl)
          · have e6 : f 6 = .pointer (some ⟨g, off + 3, none⟩) := hdep { on := 6, ground := .data } (by simp) (by kernel_rfl) (by simp)
            obtain ⟨x0, x1, x2, x3, x4, x5, x6⟩ := HC.out _ _ _ hst
            clear hdep hst
            obtain ⟨f', rfl⟩ := upd_self e6
            clear e6
            simp only [putAll, upd, ↓reduceIte, Nat.reduceEqDiff]
            go_wp2_with fail
            exact use_act HQ.out (by kernel_rfl)
        · intro j i o hj ho b f w' hbj hst hdep hdj Q' hQ
          have HQ := show Hid _ from hQ
          clear hQ
          replace hst : Fl3 (b 0) (b 1) (b 2) _ _ _ _ _ _ := hst
          match j, hj, hbj, HQ with
          | 0, hj, h0, HQ =>
            simp only [List.getElem?_cons_zero, Option.some.injEq] at hj
            subst hj
            simp only [List.getElem?_cons_zero, List.getElem?_cons_succ, Option.some.injEq] at ho
            subst ho
            clear hdep hdj
            cases h1 : b 1 <;> cases h2 : b 2 <;> simp only [h0, h1, h2, Fl3] at hst
            · have HM1 := show Hid _ from hst.box [.int .i64 0, .int .i64 0, .slice none 0 0] 41
              clear hst
              simp only [putAll]
              go_wp2_with fail
              refine use_act (HQ.out (.pointer (some ⟨w'.heap.size, 0, none⟩)) _ ?_) (by kernel_rfl)
              show Fl3 (if 0 = 0 then true else b 0) (if 1 = 0 then true else b 1) (if 2 = 0 then true else b 2) _ _ _ _ _ _
              simp only [h0, h1, h2, Nat.reduceEqDiff, ↓reduceIte]
              exact ⟨_, rfl, HM1.out⟩
            · obtain ⟨g7, k7, M⟩ := hst
              have K7 := show Hid _ from k7
              have HM1 := show Hid (Mem (fun _ => True) (fun _ => True) w _ [.box w.heap.size [.int .i64 e.kind, .int .i64 e.value, .slice ak 2 ck], .box (w.heap.size + 1) [.int .i64 0, .int .i64 0, .slice none 0 0], .box (w.heap.size + 1 + 1) [.int .i64 e.kind, .int .i64 e.value, .slice (some ⟨g, off, none⟩) 2 cap], .own S' (fun w => TwoO w S' g off cap av ac bv bc p q), .box w'.heap.size [.int .i64 0, .int .i64 0, .slice none 0 0], .box g7 [.int .i64 0, .int .i64 0, .slice none 0 0]]) from (M.box [.int .i64 0, .int .i64 0, .slice none 0 0] 41).sel [0, 1, 2, 3, 5, 4] _ rfl (by decide)
              clear M k7
              simp only [putAll]
              go_wp2_with fail
              refine use_act (HQ.out (.pointer (some ⟨w'.heap.size, 0, none⟩)) _ ?_) (by kernel_rfl)
              show Fl3 (if 0 = 0 then true else b 0) (if 1 = 0 then true else b 1) (if 2 = 0 then true else b 2) _ _ _ _ _ _
              simp only [h0, h1, h2, Nat.reduceEqDiff, ↓reduceIte]
              exact ⟨_, _, rfl, K7.out, HM1.out⟩
          | 1, hj, h1, HQ =>
            simp only [List.getElem?_cons_zero, List.getElem?_cons_succ, Option.some.injEq] at hj
            subst hj
            simp only [List.getElem?_cons_zero, List.getElem?_cons_succ, Option.some.injEq] at ho
            subst ho
            clear hdep hdj
            cases h0 : b 0 <;> cases h2 : b 2 <;> simp only [h0, h1, h2, Fl3] at hst
            · have HM1 := show Hid _ from hst.box [.int .i64 0, .int .i64 0, .slice none 0 0] 41
              clear hst
              simp only [putAll]
              go_wp2_with fail
              refine use_act (HQ.out (.pointer (some ⟨w'.heap.size, 0, none⟩)) _ ?_) (by kernel_rfl)
              show Fl3 (if 0 = 1 then true else b 0) (if 1 = 1 then true else b 1) (if 2 = 1 then true else b 2) _ _ _ _ _ _
              simp only [h0, h1, h2, Nat.reduceEqDiff, ↓reduceIte]
              exact ⟨_, rfl, HM1.out⟩
            · obtain ⟨g6, k6, M⟩ := hst
              have K6 := show Hid _ from k6
              have HM1 := show Hid _ from M.box [.int .i64 0, .int .i64 0, .slice none 0 0] 41
              clear M k6
              simp only [putAll]
              go_wp2_with fail
              refine use_act (HQ.out (.pointer (some ⟨w'.heap.size, 0, none⟩)) _ ?_) (by kernel_rfl)
              show Fl3 (if 0 = 1 then true else b 0) (if 1 = 1 then true else b 1) (if 2 = 1 then true else b 2) _ _ _ _ _ _
              simp only [h0, h1, h2, Nat.reduceEqDiff, ↓reduceIte]
              exact ⟨_, _, K6.out, rfl, HM1.out⟩
            · obtain ⟨g6, k6, M⟩ := hst
              have K6 := show Hid _ from k6
              have HM1 := show Hid _ from M.box [.int .i64 0, .int .i64 0, .slice none 0 0] 41
              clear M k6
              simp only [putAll]
              go_wp2_with fail
              refine use_act (HQ.out (.pointer (some ⟨w'.heap.size, 0, none⟩)) _ ?_) (by kernel_rfl)
              show Fl3 (if 0 = 1 then true else b 0) (if 1 = 1 then true else b 1) (if 2 = 1 then true else b 2) _ _ _ _ _ _
              simp only [h0, h1, h2, Nat.reduceEqDiff, ↓reduceIte]
              exact ⟨_, _, K6.out, rfl, HM1.out⟩
          | 2, hj, h2, HQ =>
            simp only [List.getElem?_cons_zero, List.getElem?_cons_succ, Option.some.injEq] at hj
            subst hj
            simp only [List.getElem?_cons_zero, List.getElem?_cons_succ, Option.some.injEq] at ho
            subst ho
            have h0 : b 0 = true := hdj { on := 8, ground := .data } (by simp) (by kernel_rfl) 0 rfl
            have e3 : f 3 = .agg #[.int .i64 p.kind, .int .i64 p.value, .slice av p.kids.length ac] := hdep { on := 3, ground := .data } (by simp) (by kernel_rfl) (by simp)
            clear hdep hdj
            cases h1 : b 1 <;> simp only [h0, h1, h2, Fl3] at hst
            · obtain ⟨g6, k6, M⟩ := hst
              have e8 : f 8 = .pointer (some ⟨g6, 0, none⟩) := k6
              have K6 := show Hid _ from k6
              have z0 := M.c 4 0 rfl rfl
              have z1 := M.c 4 1 rfl rfl
              have z2 := M.c 4 2 rfl rfl
              have f6 := M.f 4 rfl
              have HM1 := show Hid _ from ((M.set 4 rfl 0 (.int .i64 p.kind)).set 4 rfl 1 (.int .i64 p.value)).set 4 rfl 2 (.slice av p.kids.length ac)
              clear M k6
              obtain ⟨f', rfl⟩ := upd_self e3
              clear e3
              simp only [upd, ↓reduceIte, Nat.reduceEqDiff] at e8
              obtain ⟨f'', rfl⟩ := upd_self e8
              clear e8
              simp only [putAll, upd, ↓reduceIte, Nat.reduceEqDiff]
              go_wp2_with fail
              refine use_act (HQ.out undef _ ?_) (by kernel_rfl)
              show Fl3 (if 0 = 2 then true else b 0) (if 1 = 2 then true else b 1) (if 2 = 2 then true else b 2) _ _ _ _ _ _
              simp only [h0, h1, Nat.reduceEqDiff, ↓reduceIte]
              exact ⟨_, rfl, HM1.out⟩
            · obtain ⟨g6, g7, k6, k7, M⟩ := hst
              have e8 : f 8 = .pointer (some ⟨g6, 0, none⟩) := k6
              have e9 : f 9 = .pointer (some ⟨g7, 0, none⟩) := k7
              have z0 := M.c 4 0 rfl rfl
              have z1 := M.c 4 1 rfl rfl
              have z2 := M.c 4 2 rfl rfl
              have f6 := M.f 4 rfl
              have HM1 := show Hid _ from ((M.set 4 rfl 0 (.int .i64 p.kind)).set 4 rfl 1 (.int .i64 p.value)).set 4 rfl 2 (.slice av p.kids.length ac)
              clear M k6 k7
              obtain ⟨f', rfl⟩ := upd_self e3
              clear e3
              simp only [upd, ↓reduceIte, Nat.reduceEqDiff] at e8 e9
              obtain ⟨f'', rfl⟩ := upd_self e8
              clear e8
              simp only [upd, ↓reduceIte, Nat.reduceEqDiff] at e9
              obtain ⟨f3, rfl⟩ := upd_self e9
              clear e9
              simp only [putAll, upd, ↓reduceIte, Nat.reduceEqDiff]
              go_wp2_with fail
              refine use_act (HQ.out undef _ ?_) (by kernel_rfl)
              show Fl3 (if 0 = 2 then true else b 0) (if 1 = 2 then true else b 1) (if 2 = 2 then true else b 2) _ _ _ _ _ _
              simp only [h0, h1, Nat.reduceEqDiff, ↓reduceIte]
              exact ⟨_, _, rfl, rfl, HM1.out⟩
          | j + 3, hj, _, _ => simp at hj
        · intro o ho f w' hst hu
          simp only [List.getElem?_cons_zero, List.getElem?_cons_succ, Option.some.injEq] at ho
          subst ho
          obtain ⟨g6, g7, k6, k7, M⟩ := hst
          have e8 : f 8 = .pointer (some ⟨g6, 0, none⟩) := k6
          have e9 : f 9 = .pointer (some ⟨g7, 0, none⟩) := k7
          have e7 : f 7 = .agg #[.int .i64 q.kind, .int .i64 q.value, .slice bv q.kids.length bc] := hu 7 (by omega) (by simp)
          have z0 := M.c 5 0 rfl rfl
          have z1 := M.c 5 1 rfl rfl
          have z2 := M.c 5 2 rfl rfl
          have f6 := M.f 5 rfl
          have HM1 := show Hid _ from ((M.set 5 rfl 0 (.int .i64 q.kind)).set 5 rfl 1 (.int .i64 q.value)).set 5 rfl 2 (.slice bv q.kids.length bc)
          clear M k6 k7 hu HC HM
          obtain ⟨f', rfl⟩ := upd_self e8
          clear e8
          simp only [upd, ↓reduceIte, Nat.reduceEqDiff] at e9
          simp only [upd, ↓reduceIte, Nat.reduceEqDiff] at e7
          obtain ⟨f'', rfl⟩ := upd_self e9
          clear e9
          simp only [upd, ↓reduceIte, Nat.reduceEqDiff] at e7
          obtain ⟨f''', rfl⟩ := upd_self e7
          clear e7
          simp only [putAll, upd, ↓reduceIte, Nat.reduceEqDiff]
          apply wpList_cut (fun w'' => Mem (fun _ => True) (fun _ => True) w w'' [.box w.heap.size [.int .i64 e.kind, .int .i64 e.value, .slice ak 2 ck], .box (w.heap.size + 1) [.int .i64 0, .int .i64 0, .slice none 0 0], .box (w.heap.size + 1 + 1) [.int .i64 e.kind, .int .i64 e.value, .slice (some ⟨g, off, none⟩) 2 cap], .own S' (fun w => TwoO w S' g off cap av ac bv bc p q), .box g6 [.int .i64 p.kind, .int .i64 p.value, .slice av p.kids.length ac], .box g7 [.int .i64 q.kind, .int .i64 q.value, .slice bv q.kids.length bc]])
          · go_wp2_with fail
            first | exact HM1.out | exact ⟨rfl, HM1.out⟩ | exact ⟨rfl, rfl, HM1.out⟩
          clear z0 z1 z2 f6 HM1
          intro w'' M
          by_cases qc : p.kind = 1 ∧ q.kind = 1
          · have pa : (p.kind == 1) = true := by simp [qc.1]
            have pb : (q.kind == 1) = true := by simp [qc.2]
            have HN : Hid (nodeE ⟨e.kind, e.value, [p, q]⟩ = ⟨1, foldV e.kind p.value q.value, []⟩) := by rw [Hid, HN0.out, if_pos qc]; rfl
            have HP := HPV.out qc.1
            have HQV2 := HQV.out qc.2
            clear qc HN0
            have hs : (e.kind == 4) = true ∨ ((e.kind == 4) = false ∧ (e.kind == 8) = true) ∨ ((e.kind == 4) = false ∧ (e.kind == 8) = false) := by
              cases (e.kind == 4) <;> cases (e.kind == 8) <;> simp
            rcases hs with p4 | ⟨p4, p8⟩ | ⟨p4, p8⟩
            all_goals
              have y0 := M.c 0 0 rfl rfl
              have q0 := M.c 4 0 rfl rfl
              have q1 := M.c 4 1 rfl rfl
              have q2 := M.c 4 2 rfl rfl
              have q3 := M.c 5 0 rfl rfl
              have q4 := M.c 5 1 rfl rfl
              have q5 := M.c 5 2 rfl rfl
              have HM := show Hid _ from M
              clear M
              go_wp2_with fail
              have M := HM.out
              clear HM y0 q0 q1 q2 q3 q4 q5
              refine (impl_operate e.kind p.value q.value _ HP.1 HP.2 HQV2.1 HQV2.2).mono ?_
              rintro x w1 ⟨rfl, rfl⟩
              have y0 := M.c 0 0 rfl rfl
              have HM := show Hid _ from M
              clear M
              go_wp2_with fail
              have M := HM.out
              clear HM y0
              refine (impl_number _ _).mono ?_
              rintro x w1 ⟨rfl, b1⟩
              replace M := M.call b1
              clear b1
              have y0 := M.c 0 0 rfl rfl
              have d0 := M.c 1 0 rfl rfl
              have d1 := M.c 1 1 rfl rfl
              have d2 := M.c 1 2 rfl rfl
              have ff := M.f 1 rfl
              have HM := show Hid _ from ((M.set 1 rfl 0 (.int .i64 1)).set 1 rfl 1 (.int .i64 (foldV e.kind p.value q.value))).set 1 rfl 2 (.slice none 0 0)
              clear M
              go_wp2_with fail
              have M2 := HM.out
              have r0 : World.cell? _ ⟨w.heap.size + 1, 0, none⟩ = some (.int .i64 1) := M2.c 1 0 rfl rfl
              have r1 : World.cell? _ ⟨w.heap.size + 1, 1, none⟩ = some (.int .i64 (foldV e.kind p.value q.value)) := M2.c 1 1 rfl rfl
              have r2 : World.cell? _ ⟨w.heap.size + 1, 2, none⟩ = some (.slice none 0 0) := M2.c 1 2 rfl rfl
              refine bodyPost_ret (v := .agg #[.int .i64 1, .int .i64 (foldV e.kind p.value q.value), .slice none 0 0]) (by simp [results, Try.results77, go_sem, r0, r1, r2]) rfl ?_
              show FoQ w e _ _
              unfold FoQ
              rw [HND.out, HN.out]
              exact ⟨_, _, S', rfl, KidsO.nil _ _, fun b hb => ⟨(M2.ge _ b (List.mem_of_getElem? (i := 3) rfl) hb).elim (fun h => h) fun h => absurd trivial h, M2.lt (List.mem_of_getElem? (i := 3) rfl) hb⟩, M2.below fun _ _ => trivial⟩
          have HCN : Hid (¬ (p.kind = 1 ∧ q.kind = 1)) := qc
          have pab : ((p.kind == 1) = true ∧ (q.kind == 1) = false) ∨ (p.kind == 1) = false := by
            by_cases h : p.kind = 1
            · exact .inl ⟨by simp [h], by simp; exact fun h' => qc ⟨h, h'⟩⟩
            · exact .inr (by simp [h])
          clear qc
          rcases pab with ⟨pa, pb⟩ | pa
          · by_cases hq : e.kind = 4
            · have p4 : (e.kind == 4) = true := by simp [hq]
              have p8 : (e.kind == 8) = false := by simp [hq]
              have p5 : (e.kind == 5) = false := by simp [hq]
              have p6 : (e.kind == 6) = false := by simp [hq]
              have HQK := show Hid _ from hq
              clear hq
              have y0 := M.c 0 0 rfl rfl
              have q0 := M.c 4 0 rfl rfl
              have q1 := M.c 4 1 rfl rfl
              have q2 := M.c 4 2 rfl rfl
              have q3 := M.c 5 0 rfl rfl
              have q4 := M.c 5 1 rfl rfl
              have q5 := M.c 5 2 rfl rfl
              have HM := show Hid _ from M
              clear M
              go_wp2_with fail
              have M := HM.out
              clear HM y0 q0 q1 q2 q3 q4 q5
              refine (impl_isNumber p.kind p.value 0 (.slice av p.kids.length ac) _).mono ?_
              rintro x w1 ⟨rfl, b1⟩
              rw [show (decide (p.kind = 1) && decide (p.value = 0)) = knownB p 0 from rfl]
              replace M := M.call b1
              clear b1
              cases hK : knownB p 0
              · have y0 := M.c 0 0 rfl rfl
                have q0 := M.c 4 0 rfl rfl
                have q1 := M.c 4 1 rfl rfl
                have q2 := M.c 4 2 rfl rfl
                have q3 := M.c 5 0 rfl rfl
                have q4 := M.c 5 1 rfl rfl
                have q5 := M.c 5 2 rfl rfl
                have HM := show Hid _ from M
                clear M
                go_wp2_with fail
                have M := HM.out
                clear HM y0 q0 q1 q2 q3 q4 q5
                refine (impl_isNumber q.kind q.value 0 (.slice bv q.kids.length bc) _).mono ?_
                rintro x w1 ⟨rfl, b1⟩
                rw [show (decide (q.kind = 1) && decide (q.value = 0)) = knownB q 0 from rfl]
                replace M := M.call b1
                clear b1
                cases hK2 : knownB q 0
                · have HN : Hid (nodeE ⟨e.kind, e.value, [p, q]⟩ = ⟨e.kind, e.value, [p, q]⟩) := by have hq := HQK.out; rw [Hid, HN0.out, if_neg HCN.out, if_neg (by simp [hq, hK]), if_neg (by simp [hq, hK2])]
                  clear hK2 hK HQK HN0
                  have y0 := M.c 0 0 rfl rfl
                  have d0 := M.c 1 0 rfl rfl
                  have d1 := M.c 1 1 rfl rfl
                  have d2 := M.c 1 2 rfl rfl
                  have o0 := M.c 2 0 rfl rfl
                  have o1 := M.c 2 1 rfl rfl
                  have o2 := M.c 2 2 rfl rfl
                  have ff := M.f 1 rfl
                  have HM := show Hid _ from ((M.set 1 rfl 0 (.int .i64 e.kind)).set 1 rfl 1 (.int .i64 e.value)).set 1 rfl 2 (.slice (some ⟨g, off, none⟩) 2 cap)
                  clear M
                  go_wp2_with fail
                  have M2 := HM.out
                  have r0 : World.cell? _ ⟨w.heap.size + 1, 0, none⟩ = some (.int .i64 e.kind) := M2.c 1 0 rfl rfl
                  have r1 : World.cell? _ ⟨w.heap.size + 1, 1, none⟩ = some (.int .i64 e.value) := M2.c 1 1 rfl rfl
                  have r2 : World.cell? _ ⟨w.heap.size + 1, 2, none⟩ = some (.slice (some ⟨g, off, none⟩) 2 cap) := M2.c 1 2 rfl rfl
                  refine bodyPost_ret (v := .agg #[.int .i64 e.kind, .int .i64 e.value, .slice (some ⟨g, off, none⟩) 2 cap]) (by simp [results, Try.results77, go_sem, r0, r1, r2]) rfl ?_
                  show FoQ w e _ _
                  unfold FoQ
                  rw [HND.out, HN.out]
                  exact ⟨_, _, S', rfl, (M2.o 3 rfl).2.2.2.2.2.2.2.2.2, fun b hb => ⟨(M2.ge _ b (List.mem_of_getElem? (i := 3) rfl) hb).elim (fun h => h) fun h => absurd trivial h, M2.lt (List.mem_of_getElem? (i := 3) rfl) hb⟩, M2.below fun _ _ => trivial⟩
                · have HN : Hid (nodeE ⟨e.kind, e.value, [p, q]⟩ = p) := by have hq := HQK.out; rw [Hid, HN0.out, if_neg HCN.out, if_neg (by simp [hq, hK]), if_pos (by simp [hq, hK2])]
                  clear hK2 hK HQK HN0
                  have y0 := M.c 0 0 rfl rfl
                  have d0 := M.c 1 0 rfl rfl
                  have d1 := M.c 1 1 rfl rfl
                  have d2 := M.c 1 2 rfl rfl
                  have q0 := M.c 4 0 rfl rfl
                  have q1 := M.c 4 1 rfl rfl
                  have q2 := M.c 4 2 rfl rfl
                  have ff := M.f 1 rfl
                  have HM := show Hid _ from ((M.set 1 rfl 0 (.int .i64 p.kind)).set 1 rfl 1 (.int .i64 p.value)).set 1 rfl 2 (.slice av p.kids.length ac)
                  clear M
                  go_wp2_with fail
                  have M2 := HM.out
                  have r0 : World.cell? _ ⟨w.heap.size + 1, 0, none⟩ = some (.int .i64 p.kind) := M2.c 1 0 rfl rfl
                  have r1 : World.cell? _ ⟨w.heap.size + 1, 1, none⟩ = some (.int .i64 p.value) := M2.c 1 1 rfl rfl
                  have r2 : World.cell? _ ⟨w.heap.size + 1, 2, none⟩ = some (.slice av p.kids.length ac) := M2.c 1 2 rfl rfl
                  refine bodyPost_ret (v := .agg #[.int .i64 p.kind, .int .i64 p.value, .slice av p.kids.length ac]) (by simp [results, Try.results77, go_sem, r0, r1, r2]) rfl ?_
                  show FoQ w e _ _
                  unfold FoQ
                  rw [HND.out, HN.out]
                  exact ⟨_, _, S', rfl, (M2.o 3 rfl).2.2.2.2.2.2.2.1, fun b hb => ⟨(M2.ge _ b (List.mem_of_getElem? (i := 3) rfl) hb).elim (fun h => h) fun h => absurd trivial h, M2.lt (List.mem_of_getElem? (i := 3) rfl) hb⟩, M2.below fun _ _ => trivial⟩
              · have HN : Hid (nodeE ⟨e.kind, e.value, [p, q]⟩ = q) := by have hq := HQK.out; rw [Hid, HN0.out, if_neg HCN.out, if_pos (by simp [hq, hK])]
                clear hK HQK HN0
                have y0 := M.c 0 0 rfl rfl
                have d0 := M.c 1 0 rfl rfl
                have d1 := M.c 1 1 rfl rfl
                have d2 := M.c 1 2 rfl rfl
                have q3 := M.c 5 0 rfl rfl
                have q4 := M.c 5 1 rfl rfl
                have q5 := M.c 5 2 rfl rfl
                have ff := M.f 1 rfl
                have HM := show Hid _ from ((M.set 1 rfl 0 (.int .i64 q.kind)).set 1 rfl 1 (.int .i64 q.value)).set 1 rfl 2 (.slice bv q.kids.length bc)
                clear M
                go_wp2_with fail
                have M2 := HM.out
                have r0 : World.cell? _ ⟨w.heap.size + 1, 0, none⟩ = some (.int .i64 q.kind) := M2.c 1 0 rfl rfl
                have r1 : World.cell? _ ⟨w.heap.size + 1, 1, none⟩ = some (.int .i64 q.value) := M2.c 1 1 rfl rfl
                have r2 : World.cell? _ ⟨w.heap.size + 1, 2, none⟩ = some (.slice bv q.kids.length bc) := M2.c 1 2 rfl rfl
                refine bodyPost_ret (v := .agg #[.int .i64 q.kind, .int .i64 q.value, .slice bv q.kids.length bc]) (by simp [results, Try.results77, go_sem, r0, r1, r2]) rfl ?_
                show FoQ w e _ _
                unfold FoQ
                rw [HND.out, HN.out]
                exact ⟨_, _, S', rfl, (M2.o 3 rfl).2.2.2.2.2.2.2.2.1, fun b hb => ⟨(M2.ge _ b (List.mem_of_getElem? (i := 3) rfl) hb).elim (fun h => h) fun h => absurd trivial h, M2.lt (List.mem_of_getElem? (i := 3) rfl) hb⟩, M2.below fun _ _ => trivial⟩
            have HN4 := show Hid _ from hq
            clear hq
            by_cases hq : e.kind = 8
            · have p4 : (e.kind == 4) = false := by simp [hq]
              have p8 : (e.kind == 8) = true := by simp [hq]
              have p5 : (e.kind == 5) = false := by simp [hq]
              have p6 : (e.kind == 6) = false := by simp [hq]
              have HQK := show Hid _ from hq
              clear hq
              have y0 := M.c 0 0 rfl rfl
              have q0 := M.c 4 0 rfl rfl
              have q1 := M.c 4 1 rfl rfl
              have q2 := M.c 4 2 rfl rfl
              have q3 := M.c 5 0 rfl rfl
              have q4 := M.c 5 1 rfl rfl
              have q5 := M.c 5 2 rfl rfl
              have HM := show Hid _ from M
              clear M
              go_wp2_with fail
              have M := HM.out
              clear HM y0 q0 q1 q2 q3 q4 q5
              refine (impl_isNumber p.kind p.value 0 (.slice av p.kids.length ac) _).mono ?_
              rintro x w1 ⟨rfl, b1⟩
              rw [show (decide (p.kind = 1) && decide (p.value = 0)) = knownB p 0 from rfl]
              replace M := M.call b1
              clear b1
              cases hK : knownB p 0
              · have y0 := M.c 0 0 rfl rfl
                have q0 := M.c 4 0 rfl rfl
                have q1 := M.c 4 1 rfl rfl
                have q2 := M.c 4 2 rfl rfl
                have q3 := M.c 5 0 rfl rfl
                have q4 := M.c 5 1 rfl rfl
                have q5 := M.c 5 2 rfl rfl
                have HM := show Hid _ from M
                clear M
                go_wp2_with fail
                have M := HM.out
                clear HM y0 q0 q1 q2 q3 q4 q5
                refine (impl_isNumber q.kind q.value 0 (.slice bv q.kids.length bc) _).mono ?_
                rintro x w1 ⟨rfl, b1⟩
                rw [show (decide (q.kind = 1) && decide (q.value = 0)) = knownB q 0 from rfl]
                replace M := M.call b1
                clear b1
                cases hK2 : knownB q 0
                · have HN : Hid (nodeE ⟨e.kind, e.value, [p, q]⟩ = ⟨e.kind, e.value, [p, q]⟩) := by have hq := HQK.out; rw [Hid, HN0.out, if_neg HCN.out, if_neg (by simp [hq, hK]), if_neg (by simp [hq, hK2])]
                  clear hK2 hK HQK HN0
                  have y0 := M.c 0 0 rfl rfl
                  have d0 := M.c 1 0 rfl rfl
                  have d1 := M.c 1 1 rfl rfl
                  have d2 := M.c 1 2 rfl rfl
                  have o0 := M.c 2 0 rfl rfl
                  have o1 := M.c 2 1 rfl rfl
                  have o2 := M.c 2 2 rfl rfl
                  have ff := M.f 1 rfl
                  have HM := show Hid _ from ((M.set 1 rfl 0 (.int .i64 e.kind)).set 1 rfl 1 (.int .i64 e.value)).set 1 rfl 2 (.slice (some ⟨g, off, none⟩) 2 cap)
                  clear M
                  go_wp2_with fail
                  have M2 := HM.out
                  have r0 : World.cell? _ ⟨w.heap.size + 1, 0, none⟩ = some (.int .i64 e.kind) := M2.c 1 0 rfl rfl
                  have r1 : World.cell? _ ⟨w.heap.size + 1, 1, none⟩ = some (.int .i64 e.value) := M2.c 1 1 rfl rfl
                  have r2 : World.cell? _ ⟨w.heap.size + 1, 2, none⟩ = some (.slice (some ⟨g, off, none⟩) 2 cap) := M2.c 1 2 rfl rfl
                  refine bodyPost_ret (v := .agg #[.int .i64 e.kind, .int .i64 e.value, .slice (some ⟨g, off, none⟩) 2 cap]) (by simp [results, Try.results77, go_sem, r0, r1, r2]) rfl ?_
                  show FoQ w e _ _
                  unfold FoQ
                  rw [HND.out, HN.out]
                  exact ⟨_, _, S', rfl, (M2.o 3 rfl).2.2.2.2.2.2.2.2.2, fun b hb => ⟨(M2.ge _ b (List.mem_of_getElem? (i := 3) rfl) hb).elim (fun h => h) fun h => absurd trivial h, M2.lt (List.mem_of_getElem? (i := 3) rfl) hb⟩, M2.below fun _ _ => trivial⟩
                · have HN : Hid (nodeE ⟨e.kind, e.value, [p, q]⟩ = p) := by have hq := HQK.out; rw [Hid, HN0.out, if_neg HCN.out, if_neg (by simp [hq, hK]), if_pos (by simp [hq, hK2])]
                  clear hK2 hK HQK HN0
                  have y0 := M.c 0 0 rfl rfl
                  have d0 := M.c 1 0 rfl rfl
                  have d1 := M.c 1 1 rfl rfl
                  have d2 := M.c 1 2 rfl rfl
                  have q0 := M.c 4 0 rfl rfl
                  have q1 := M.c 4 1 rfl rfl
                  have q2 := M.c 4 2 rfl rfl
                  have ff := M.f 1 rfl
                  have HM := show Hid _ from ((M.set 1 rfl 0 (.int .i64 p.kind)).set 1 rfl 1 (.int .i64 p.value)).set 1 rfl 2 (.slice av p.kids.length ac)
                  clear M
                  go_wp2_with fail
                  have M2 := HM.out
                  have r0 : World.cell? _ ⟨w.heap.size + 1, 0, none⟩ = some (.int .i64 p.kind) := M2.c 1 0 rfl rfl
                  have r1 : World.cell? _ ⟨w.heap.size + 1, 1, none⟩ = some (.int .i64 p.value) := M2.c 1 1 rfl rfl
                  have r2 : World.cell? _ ⟨w.heap.size + 1, 2, none⟩ = some (.slice av p.kids.length ac) := M2.c 1 2 rfl rfl
                  refine bodyPost_ret (v := .agg #[.int .i64 p.kind, .int .i64 p.value, .slice av p.kids.length ac]) (by simp [results, Try.results77, go_sem, r0, r1, r2]) rfl ?_
                  show FoQ w e _ _
                  unfold FoQ
                  rw [HND.out, HN.out]
                  exact ⟨_, _, S', rfl, (M2.o 3 rfl).2.2.2.2.2.2.2.1, fun b hb => ⟨(M2.ge _ b (List.mem_of_getElem? (i := 3) rfl) hb).elim (fun h => h) fun h => absurd trivial h, M2.lt (List.mem_of_getElem? (i := 3) rfl) hb⟩, M2.below fun _ _ => trivial⟩
              · have HN : Hid (nodeE ⟨e.kind, e.value, [p, q]⟩ = q) := by have hq := HQK.out; rw [Hid, HN0.out, if_neg HCN.out, if_pos (by simp [hq, hK])]
                clear hK HQK HN0
                have y0 := M.c 0 0 rfl rfl
                have d0 := M.c 1 0 rfl rfl
                have d1 := M.c 1 1 rfl rfl
                have d2 := M.c 1 2 rfl rfl
                have q3 := M.c 5 0 rfl rfl
                have q4 := M.c 5 1 rfl rfl
                have q5 := M.c 5 2 rfl rfl
                have ff := M.f 1 rfl
                have HM := show Hid _ from ((M.set 1 rfl 0 (.int .i64 q.kind)).set 1 rfl 1 (.int .i64 q.value)).set 1 rfl 2 (.slice bv q.kids.length bc)
                clear M
                go_wp2_with fail
                have M2 := HM.out
                have r0 : World.cell? _ ⟨w.heap.size + 1, 0, none⟩ = some (.int .i64 q.kind) := M2.c 1 0 rfl rfl
                have r1 : World.cell? _ ⟨w.heap.size + 1, 1, none⟩ = some (.int .i64 q.value) := M2.c 1 1 rfl rfl
                have r2 : World.cell? _ ⟨w.heap.size + 1, 2, none⟩ = some (.slice bv q.kids.length bc) := M2.c 1 2 rfl rfl
                refine bodyPost_ret (v := .agg #[.int .i64 q.kind, .int .i64 q.value, .slice bv q.kids.length bc]) (by simp [results, Try.results77, go_sem, r0, r1, r2]) rfl ?_
                show FoQ w e _ _
                unfold FoQ
                rw [HND.out, HN.out]
                exact ⟨_, _, S', rfl, (M2.o 3 rfl).2.2.2.2.2.2.2.2.1, fun b hb => ⟨(M2.ge _ b (List.mem_of_getElem? (i := 3) rfl) hb).elim (fun h => h) fun h => absurd trivial h, M2.lt (List.mem_of_getElem? (i := 3) rfl) hb⟩, M2.below fun _ _ => trivial⟩
            have HN8 := show Hid _ from hq
            clear hq
            by_cases hq : e.kind = 5
            · have p4 : (e.kind == 4) = false := by simp [hq]
              have p8 : (e.kind == 8) = false := by simp [hq]
              have p5 : (e.kind == 5) = true := by simp [hq]
              have p6 : (e.kind == 6) = false := by simp [hq]
              have HQK := show Hid _ from hq
              clear hq
              have y0 := M.c 0 0 rfl rfl
              have q0 := M.c 4 0 rfl rfl
              have q1 := M.c 4 1 rfl rfl
              have q2 := M.c 4 2 rfl rfl
              have q3 := M.c 5 0 rfl rfl
              have q4 := M.c 5 1 rfl rfl
              have q5 := M.c 5 2 rfl rfl
              have HM := show Hid _ from M
              clear M
              go_wp2_with fail
              have M := HM.out
              clear HM y0 q0 q1 q2 q3 q4 q5
              refine (impl_isNumber q.kind q.value 0 (.slice bv q.kids.length bc) _).mono ?_
              rintro x w1 ⟨rfl, b1⟩
              rw [show (decide (q.kind = 1) && decide (q.value = 0)) = knownB q 0 from rfl]
              replace M := M.call b1
              clear b1
              cases hK2 : knownB q 0
              · have HN : Hid (nodeE ⟨e.kind, e.value, [p, q]⟩ = ⟨e.kind, e.value, [p, q]⟩) := by have hq := HQK.out; rw [Hid, HN0.out, if_neg HCN.out, if_neg (by simp [hq, hq]), if_neg (by simp [hq, hK2])]
                clear hK2  HQK HN0
                have y0 := M.c 0 0 rfl rfl
                have d0 := M.c 1 0 rfl rfl
                have d1 := M.c 1 1 rfl rfl
                have d2 := M.c 1 2 rfl rfl
                have o0 := M.c 2 0 rfl rfl
                have o1 := M.c 2 1 rfl rfl
                have o2 := M.c 2 2 rfl rfl
                have ff := M.f 1 rfl
                have HM := show Hid _ from ((M.set 1 rfl 0 (.int .i64 e.kind)).set 1 rfl 1 (.int .i64 e.value)).set 1 rfl 2 (.slice (some ⟨g, off, none⟩) 2 cap)
                clear M
                go_wp2_with fail
                have M2 := HM.out
                have r0 : World.cell? _ ⟨w.heap.size + 1, 0, none⟩ = some (.int .i64 e.kind) := M2.c 1 0 rfl rfl
                have r1 : World.cell? _ ⟨w.heap.size + 1, 1, none⟩ = some (.int .i64 e.value) := M2.c 1 1 rfl rfl
                have r2 : World.cell? _ ⟨w.heap.size + 1, 2, none⟩ = some (.slice (some ⟨g, off, none⟩) 2 cap) := M2.c 1 2 rfl rfl
                refine bodyPost_ret (v := .agg #[.int .i64 e.kind, .int .i64 e.value, .slice (some ⟨g, off, none⟩) 2 cap]) (by simp [results, Try.results77, go_sem, r0, r1, r2]) rfl ?_
                show FoQ w e _ _
                unfold FoQ
                rw [HND.out, HN.out]
                exact ⟨_, _, S', rfl, (M2.o 3 rfl).2.2.2.2.2.2.2.2.2, fun b hb => ⟨(M2.ge _ b (List.mem_of_getElem? (i := 3) rfl) hb).elim (fun h => h) fun h => absurd trivial h, M2.lt (List.mem_of_getElem? (i := 3) rfl) hb⟩, M2.below fun _ _ => trivial⟩
              · have HN : Hid (nodeE ⟨e.kind, e.value, [p, q]⟩ = p) := by have hq := HQK.out; rw [Hid, HN0.out, if_neg HCN.out, if_neg (by simp [hq, hq]), if_pos (by simp [hq, hK2])]
                clear hK2  HQK HN0
                have y0 := M.c 0 0 rfl rfl
                have d0 := M.c 1 0 rfl rfl
                have d1 := M.c 1 1 rfl rfl
                have d2 := M.c 1 2 rfl rfl
                have q0 := M.c 4 0 rfl rfl
                have q1 := M.c 4 1 rfl rfl
                have q2 := M.c 4 2 rfl rfl
                have ff := M.f 1 rfl
                have HM := show Hid _ from ((M.set 1 rfl 0 (.int .i64 p.kind)).set 1 rfl 1 (.int .i64 p.value)).set 1 rfl 2 (.slice av p.kids.length ac)
                clear M
                go_wp2_with fail
                have M2 := HM.out
                have r0 : World.cell? _ ⟨w.heap.size + 1, 0, none⟩ = some (.int .i64 p.kind) := M2.c 1 0 rfl rfl
                have r1 : World.cell? _ ⟨w.heap.size + 1, 1, none⟩ = some (.int .i64 p.value) := M2.c 1 1 rfl rfl
                have r2 : World.cell? _ ⟨w.heap.size + 1, 2, none⟩ = some (.slice av p.kids.length ac) := M2.c 1 2 rfl rfl
                refine bodyPost_ret (v := .agg #[.int .i64 p.kind, .int .i64 p.value, .slice av p.kids.length ac]) (by simp [results, Try.results77, go_sem, r0, r1, r2]) rfl ?_
                show FoQ w e _ _
                unfold FoQ
                rw [HND.out, HN.out]
                exact ⟨_, _, S', rfl, (M2.o 3 rfl).2.2.2.2.2.2.2.1, fun b hb => ⟨(M2.ge _ b (List.mem_of_getElem? (i := 3) rfl) hb).elim (fun h => h) fun h => absurd trivial h, M2.lt (List.mem_of_getElem? (i := 3) rfl) hb⟩, M2.below fun _ _ => trivial⟩
            have HN5 := show Hid _ from hq
            clear hq
            by_cases hq : e.kind = 6
            · have p4 : (e.kind == 4) = false := by simp [hq]
              have p8 : (e.kind == 8) = false := by simp [hq]
              have p5 : (e.kind == 5) = false := by simp [hq]
              have p6 : (e.kind == 6) = true := by simp [hq]
              have HQK := show Hid _ from hq
              clear hq
              have y0 := M.c 0 0 rfl rfl
              have q0 := M.c 4 0 rfl rfl
              have q1 := M.c 4 1 rfl rfl
              have q2 := M.c 4 2 rfl rfl
              have q3 := M.c 5 0 rfl rfl
              have q4 := M.c 5 1 rfl rfl
              have q5 := M.c 5 2 rfl rfl
              have HM := show Hid _ from M
              clear M
              go_wp2_with fail
              have M := HM.out
              clear HM y0 q0 q1 q2 q3 q4 q5
              refine (impl_isNumber p.kind p.value 1 (.slice av p.kids.length ac) _).mono ?_
              rintro x w1 ⟨rfl, b1⟩
              rw [show (decide (p.kind = 1) && decide (p.value = 1)) = knownB p 1 from rfl]
              replace M := M.call b1
              clear b1
              cases hK : knownB p 1
              · have y0 := M.c 0 0 rfl rfl
                have q0 := M.c 4 0 rfl rfl
                have q1 := M.c 4 1 rfl rfl
                have q2 := M.c 4 2 rfl rfl
                have q3 := M.c 5 0 rfl rfl
                have q4 := M.c 5 1 rfl rfl
                have q5 := M.c 5 2 rfl rfl
                have HM := show Hid _ from M
                clear M
                go_wp2_with fail
                have M := HM.out
                clear HM y0 q0 q1 q2 q3 q4 q5
                refine (impl_isNumber q.kind q.value 1 (.slice bv q.kids.length bc) _).mono ?_
                rintro x w1 ⟨rfl, b1⟩
                rw [show (decide (q.kind = 1) && decide (q.value = 1)) = knownB q 1 from rfl]
                replace M := M.call b1
                clear b1
                cases hK2 : knownB q 1
                · have HN : Hid (nodeE ⟨e.kind, e.value, [p, q]⟩ = ⟨e.kind, e.value, [p, q]⟩) := by have hq := HQK.out; rw [Hid, HN0.out, if_neg HCN.out, if_neg (by simp [hq, hK]), if_neg (by simp [hq, hK2])]
                  clear hK2 hK HQK HN0
                  have y0 := M.c 0 0 rfl rfl
                  have d0 := M.c 1 0 rfl rfl
                  have d1 := M.c 1 1 rfl rfl
                  have d2 := M.c 1 2 rfl rfl
                  have o0 := M.c 2 0 rfl rfl
                  have o1 := M.c 2 1 rfl rfl
                  have o2 := M.c 2 2 rfl rfl
                  have ff := M.f 1 rfl
                  have HM := show Hid _ from ((M.set 1 rfl 0 (.int .i64 e.kind)).set 1 rfl 1 (.int .i64 e.value)).set 1 rfl 2 (.slice (some ⟨g, off, none⟩) 2 cap)
                  clear M
                  go_wp2_with fail
                  have M2 := HM.out
                  have r0 : World.cell? _ ⟨w.heap.size + 1, 0, none⟩ = some (.int .i64 e.kind) := M2.c 1 0 rfl rfl
                  have r1 : World.cell? _ ⟨w.heap.size + 1, 1, none⟩ = some (.int .i64 e.value) := M2.c 1 1 rfl rfl
                  have r2 : World.cell? _ ⟨w.heap.size + 1, 2, none⟩ = some (.slice (some ⟨g, off, none⟩) 2 cap) := M2.c 1 2 rfl rfl
                  refine bodyPost_ret (v := .agg #[.int .i64 e.kind, .int .i64 e.value, .slice (some ⟨g, off, none⟩) 2 cap]) (by simp [results, Try.results77, go_sem, r0, r1, r2]) rfl ?_
                  show FoQ w e _ _
                  unfold FoQ
                  rw [HND.out, HN.out]
                  exact ⟨_, _, S', rfl, (M2.o 3 rfl).2.2.2.2.2.2.2.2.2, fun b hb => ⟨(M2.ge _ b (List.mem_of_getElem? (i := 3) rfl) hb).elim (fun h => h) fun h => absurd trivial h, M2.lt (List.mem_of_getElem? (i := 3) rfl) hb⟩, M2.below fun _ _ => trivial⟩
                · have HN : Hid (nodeE ⟨e.kind, e.value, [p, q]⟩ = p) := by have hq := HQK.out; rw [Hid, HN0.out, if_neg HCN.out, if_neg (by simp [hq, hK]), if_pos (by simp [hq, hK2])]
                  clear hK2 hK HQK HN0
                  have y0 := M.c 0 0 rfl rfl
                  have d0 := M.c 1 0 rfl rfl
                  have d1 := M.c 1 1 rfl rfl
                  have d2 := M.c 1 2 rfl rfl
                  have q0 := M.c 4 0 rfl rfl
                  have q1 := M.c 4 1 rfl rfl
                  have q2 := M.c 4 2 rfl rfl
                  have ff := M.f 1 rfl
                  have HM := show Hid _ from ((M.set 1 rfl 0 (.int .i64 p.kind)).set 1 rfl 1 (.int .i64 p.value)).set 1 rfl 2 (.slice av p.kids.length ac)
                  clear M
                  go_wp2_with fail
                  have M2 := HM.out
                  have r0 : World.cell? _ ⟨w.heap.size + 1, 0, none⟩ = some (.int .i64 p.kind) := M2.c 1 0 rfl rfl
                  have r1 : World.cell? _ ⟨w.heap.size + 1, 1, none⟩ = some (.int .i64 p.value) := M2.c 1 1 rfl rfl
                  have r2 : World.cell? _ ⟨w.heap.size + 1, 2, none⟩ = some (.slice av p.kids.length ac) := M2.c 1 2 rfl rfl
                  refine bodyPost_ret (v := .agg #[.int .i64 p.kind, .int .i64 p.value, .slice av p.kids.length ac]) (by simp [results, Try.results77, go_sem, r0, r1, r2]) rfl ?_
                  show FoQ w e _ _
                  unfold FoQ
                  rw [HND.out, HN.out]
                  exact ⟨_, _, S', rfl, (M2.o 3 rfl).2.2.2.2.2.2.2.1, fun b hb => ⟨(M2.ge _ b (List.mem_of_getElem? (i := 3) rfl) hb).elim (fun h => h) fun h => absurd trivial h, M2.lt (List.mem_of_getElem? (i := 3) rfl) hb⟩, M2.below fun _ _ => trivial⟩
              · have HN : Hid (nodeE ⟨e.kind, e.value, [p, q]⟩ = q) := by have hq := HQK.out; rw [Hid, HN0.out, if_neg HCN.out, if_pos (by simp [hq, hK])]
                clear hK HQK HN0
                have y0 := M.c 0 0 rfl rfl
                have d0 := M.c 1 0 rfl rfl
                have d1 := M.c 1 1 rfl rfl
                have d2 := M.c 1 2 rfl rfl
                have q3 := M.c 5 0 rfl rfl
                have q4 := M.c 5 1 rfl rfl
                have q5 := M.c 5 2 rfl rfl
                have ff := M.f 1 rfl
                have HM := show Hid _ from ((M.set 1 rfl 0 (.int .i64 q.kind)).set 1 rfl 1 (.int .i64 q.value)).set 1 rfl 2 (.slice bv q.kids.length bc)
                clear M
                go_wp2_with fail
                have M2 := HM.out
                have r0 : World.cell? _ ⟨w.heap.size + 1, 0, none⟩ = some (.int .i64 q.kind) := M2.c 1 0 rfl rfl
                have r1 : World.cell? _ ⟨w.heap.size + 1, 1, none⟩ = some (.int .i64 q.value) := M2.c 1 1 rfl rfl
                have r2 : World.cell? _ ⟨w.heap.size + 1, 2, none⟩ = some (.slice bv q.kids.length bc) := M2.c 1 2 rfl rfl
                refine bodyPost_ret (v := .agg #[.int .i64 q.kind, .int .i64 q.value, .slice bv q.kids.length bc]) (by simp [results, Try.results77, go_sem, r0, r1, r2]) rfl ?_
                show FoQ w e _ _
                unfold FoQ
                rw [HND.out, HN.out]
                exact ⟨_, _, S', rfl, (M2.o 3 rfl).2.2.2.2.2.2.2.2.1, fun b hb => ⟨(M2.ge _ b (List.mem_of_getElem? (i := 3) rfl) hb).elim (fun h => h) fun h => absurd trivial h, M2.lt (List.mem_of_getElem? (i := 3) rfl) hb⟩, M2.below fun _ _ => trivial⟩
            have HN6 := show Hid _ from hq
            clear hq
            have p4 : (e.kind == 4) = false := by
              have h : ¬ e.kind = 4 := HN4.out
              simp [h]
            have p8 : (e.kind == 8) = false := by
              have h : ¬ e.kind = 8 := HN8.out
              simp [h]
            have p5 : (e.kind == 5) = false := by
              have h : ¬ e.kind = 5 := HN5.out
              simp [h]
            have p6 : (e.kind == 6) = false := by
              have h : ¬ e.kind = 6 := HN6.out
              simp [h]
            have HN : Hid (nodeE ⟨e.kind, e.value, [p, q]⟩ = ⟨e.kind, e.value, [p, q]⟩) := by
              have h4 : ¬ e.kind = 4 := HN4.out
              have h5 : ¬ e.kind = 5 := HN5.out
              have h6 : ¬ e.kind = 6 := HN6.out
              have h8 : ¬ e.kind = 8 := HN8.out
              rw [Hid, HN0.out, if_neg HCN.out, if_neg (by simp [h4, h5, h6, h8]), if_neg (by simp [h4, h5, h6, h8])]
            clear HN4 HN5 HN6 HN8 HN0
            have y0 := M.c 0 0 rfl rfl
            have d0 := M.c 1 0 rfl rfl
            have d1 := M.c 1 1 rfl rfl
            have d2 := M.c 1 2 rfl rfl
            have o0 := M.c 2 0 rfl rfl
            have o1 := M.c 2 1 rfl rfl
            have o2 := M.c 2 2 rfl rfl
            have q0 := M.c 4 0 rfl rfl
            have q1 := M.c 4 1 rfl rfl
            have q2 := M.c 4 2 rfl rfl
            have q3 := M.c 5 0 rfl rfl
            have q4 := M.c 5 1 rfl rfl
            have q5 := M.c 5 2 rfl rfl
            have ff := M.f 1 rfl
            have HM := show Hid _ from ((M.set 1 rfl 0 (.int .i64 e.kind)).set 1 rfl 1 (.int .i64 e.value)).set 1 rfl 2 (.slice (some ⟨g, off, none⟩) 2 cap)
            clear M
            go_wp2_with fail
            have M2 := HM.out
            have r0 : World.cell? _ ⟨w.heap.size + 1, 0, none⟩ = some (.int .i64 e.kind) := M2.c 1 0 rfl rfl
            have r1 : World.cell? _ ⟨w.heap.size + 1, 1, none⟩ = some (.int .i64 e.value) := M2.c 1 1 rfl rfl
            have r2 : World.cell? _ ⟨w.heap.size + 1, 2, none⟩ = some (.slice (some ⟨g, off, none⟩) 2 cap) := M2.c 1 2 rfl rfl
            refine bodyPost_ret (v := .agg #[.int .i64 e.kind, .int .i64 e.value, .slice (some ⟨g, off, none⟩) 2 cap]) (by simp [results, Try.results77, go_sem, r0, r1, r2]) rfl ?_
            show FoQ w e _ _
            unfold FoQ
            rw [HND.out, HN.out]
            exact ⟨_, _, S', rfl, (M2.o 3 rfl).2.2.2.2.2.2.2.2.2, fun b hb => ⟨(M2.ge _ b (List.mem_of_getElem? (i := 3) rfl) hb).elim (fun h => h) fun h => absurd trivial h, M2.lt (List.mem_of_getElem? (i := 3) rfl) hb⟩, M2.below fun _ _ => trivial⟩
          · by_cases hq : e.kind = 4
            · have p4 : (e.kind == 4) = true := by simp [hq]
              have p8 : (e.kind == 8) = false := by simp [hq]
              have p5 : (e.kind == 5) = false := by simp [hq]
              have p6 : (e.kind == 6) = false := by simp [hq]
              have HQK := show Hid _ from hq
              clear hq
              have y0 := M.c 0 0 rfl rfl
              have q0 := M.c 4 0 rfl rfl
              have q1 := M.c 4 1 rfl rfl
              have q2 := M.c 4 2 rfl rfl
              have q3 := M.c 5 0 rfl rfl
              have q4 := M.c 5 1 rfl rfl
              have q5 := M.c 5 2 rfl rfl
              have HM := show Hid _ from M
              clear M
              go_wp2_with fail
              have M := HM.out
              clear HM y0 q0 q1 q2 q3 q4 q5
              refine (impl_isNumber p.kind p.value 0 (.slice av p.kids.length ac) _).mono ?_
              rintro x w1 ⟨rfl, b1⟩
              rw [show (decide (p.kind = 1) && decide (p.value = 0)) = knownB p 0 from rfl]
              replace M := M.call b1
              clear b1
              cases hK : knownB p 0
              · have y0 := M.c 0 0 rfl rfl
                have q0 := M.c 4 0 rfl rfl
                have q1 := M.c 4 1 rfl rfl
                have q2 := M.c 4 2 rfl rfl
                have q3 := M.c 5 0 rfl rfl
                have q4 := M.c 5 1 rfl rfl
                have q5 := M.c 5 2 rfl rfl
                have HM := show Hid _ from M
                clear M
                go_wp2_with fail
                have M := HM.out
                clear HM y0 q0 q1 q2 q3 q4 q5
                refine (impl_isNumber q.kind q.value 0 (.slice bv q.kids.length bc) _).mono ?_
                rintro x w1 ⟨rfl, b1⟩
                rw [show (decide (q.kind = 1) && decide (q.value = 0)) = knownB q 0 from rfl]
                replace M := M.call b1
                clear b1
                cases hK2 : knownB q 0
                · have HN : Hid (nodeE ⟨e.kind, e.value, [p, q]⟩ = ⟨e.kind, e.value, [p, q]⟩) := by have hq := HQK.out; rw [Hid, HN0.out, if_neg HCN.out, if_neg (by simp [hq, hK]), if_neg (by simp [hq, hK2])]
                  clear hK2 hK HQK HN0
                  have y0 := M.c 0 0 rfl rfl
                  have d0 := M.c 1 0 rfl rfl
                  have d1 := M.c 1 1 rfl rfl
                  have d2 := M.c 1 2 rfl rfl
                  have o0 := M.c 2 0 rfl rfl
                  have o1 := M.c 2 1 rfl rfl
                  have o2 := M.c 2 2 rfl rfl
                  have ff := M.f 1 rfl
                  have HM := show Hid _ from ((M.set 1 rfl 0 (.int .i64 e.kind)).set 1 rfl 1 (.int .i64 e.value)).set 1 rfl 2 (.slice (some ⟨g, off, none⟩) 2 cap)
                  clear M
                  go_wp2_with fail
                  have M2 := HM.out
                  have r0 : World.cell? _ ⟨w.heap.size + 1, 0, none⟩ = some (.int .i64 e.kind) := M2.c 1 0 rfl rfl
                  have r1 : World.cell? _ ⟨w.heap.size + 1, 1, none⟩ = some (.int .i64 e.value) := M2.c 1 1 rfl rfl
                  have r2 : World.cell? _ ⟨w.heap.size + 1, 2, none⟩ = some (.slice (some ⟨g, off, none⟩) 2 cap) := M2.c 1 2 rfl rfl
                  refine bodyPost_ret (v := .agg #[.int .i64 e.kind, .int .i64 e.value, .slice (some ⟨g, off, none⟩) 2 cap]) (by simp [results, Try.results77, go_sem, r0, r1, r2]) rfl ?_
                  show FoQ w e _ _
                  unfold FoQ
                  rw [HND.out, HN.out]
                  exact ⟨_, _, S', rfl, (M2.o 3 rfl).2.2.2.2.2.2.2.2.2, fun b hb => ⟨(M2.ge _ b (List.mem_of_getElem? (i := 3) rfl) hb).elim (fun h => h) fun h => absurd trivial h, M2.lt (List.mem_of_getElem? (i := 3) rfl) hb⟩, M2.below fun _ _ => trivial⟩
                · have HN : Hid (nodeE ⟨e.kind, e.value, [p, q]⟩ = p) := by have hq := HQK.out; rw [Hid, HN0.out, if_neg HCN.out, if_neg (by simp [hq, hK]), if_pos (by simp [hq, hK2])]
                  clear hK2 hK HQK HN0
                  have y0 := M.c 0 0 rfl rfl
                  have d0 := M.c 1 0 rfl rfl
                  have d1 := M.c 1 1 rfl rfl
                  have d2 := M.c 1 2 rfl rfl
                  have q0 := M.c 4 0 rfl rfl
                  have q1 := M.c 4 1 rfl rfl
                  have q2 := M.c 4 2 rfl rfl
                  have ff := M.f 1 rfl
                  have HM := show Hid _ from ((M.set 1 rfl 0 (.int .i64 p.kind)).set 1 rfl 1 (.int .i64 p.value)).set 1 rfl 2 (.slice av p.kids.length ac)
                  clear M
                  go_wp2_with fail
                  have M2 := HM.out
                  have r0 : World.cell? _ ⟨w.heap.size + 1, 0, none⟩ = some (.int .i64 p.kind) := M2.c 1 0 rfl rfl
                  have r1 : World.cell? _ ⟨w.heap.size + 1, 1, none⟩ = some (.int .i64 p.value) := M2.c 1 1 rfl rfl
                  have r2 : World.cell? _ ⟨w.heap.size + 1, 2, none⟩ = some (.slice av p.kids.length ac) := M2.c 1 2 rfl rfl
                  refine bodyPost_ret (v := .agg #[.int .i64 p.kind, .int .i64 p.value, .slice av p.kids.length ac]) (by simp [results, Try.results77, go_sem, r0, r1, r2]) rfl ?_
                  show FoQ w e _ _
                  unfold FoQ
                  rw [HND.out, HN.out]
                  exact ⟨_, _, S', rfl, (M2.o 3 rfl).2.2.2.2.2.2.2.1, fun b hb => ⟨(M2.ge _ b (List.mem_of_getElem? (i := 3) rfl) hb).elim (fun h => h) fun h => absurd trivial h, M2.lt (List.mem_of_getElem? (i := 3) rfl) hb⟩, M2.below fun _ _ => trivial⟩
              · have HN : Hid (nodeE ⟨e.kind, e.value, [p, q]⟩ = q) := by have hq := HQK.out; rw [Hid, HN0.out, if_neg HCN.out, if_pos (by simp [hq, hK])]
                clear hK HQK HN0
                have y0 := M.c 0 0 rfl rfl
                have d0 := M.c 1 0 rfl rfl
                have d1 := M.c 1 1 rfl rfl
                have d2 := M.c 1 2 rfl rfl
                have q3 := M.c 5 0 rfl rfl
                have q4 := M.c 5 1 rfl rfl
                have q5 := M.c 5 2 rfl rfl
                have ff := M.f 1 rfl
                have HM := show Hid _ from ((M.set 1 rfl 0 (.int .i64 q.kind)).set 1 rfl 1 (.int .i64 q.value)).set 1 rfl 2 (.slice bv q.kids.length bc)
                clear M
                go_wp2_with fail
                have M2 := HM.out
                have r0 : World.cell? _ ⟨w.heap.size + 1, 0, none⟩ = some (.int .i64 q.kind) := M2.c 1 0 rfl rfl
                have r1 : World.cell? _ ⟨w.heap.size + 1, 1, none⟩ = some (.int .i64 q.value) := M2.c 1 1 rfl rfl
                have r2 : World.cell? _ ⟨w.heap.size + 1, 2, none⟩ = some (.slice bv q.kids.length bc) := M2.c 1 2 rfl rfl
                refine bodyPost_ret (v := .agg #[.int .i64 q.kind, .int .i64 q.value, .slice bv q.kids.length bc]) (by simp [results, Try.results77, go_sem, r0, r1, r2]) rfl ?_
                show FoQ w e _ _
                unfold FoQ
                rw [HND.out, HN.out]
                exact ⟨_, _, S', rfl, (M2.o 3 rfl).2.2.2.2.2.2.2.2.1, fun b hb => ⟨(M2.ge _ b (List.mem_of_getElem? (i := 3) rfl) hb).elim (fun h => h) fun h => absurd trivial h, M2.lt (List.mem_of_getElem? (i := 3) rfl) hb⟩, M2.below fun _ _ => trivial⟩
            have HN4 := show Hid _ from hq
            clear hq
            by_cases hq : e.kind = 8
            · have p4 : (e.kind == 4) = false := by simp [hq]
              have p8 : (e.kind == 8) = true := by simp [hq]
              have p5 : (e.kind == 5) = false := by simp [hq]
              have p6 : (e.kind == 6) = false := by simp [hq]
              have HQK := show Hid _ from hq
              clear hq
              have y0 := M.c 0 0 rfl rfl
              have q0 := M.c 4 0 rfl rfl
              have q1 := M.c 4 1 rfl rfl
              have q2 := M.c 4 2 rfl rfl
              have q3 := M.c 5 0 rfl rfl
              have q4 := M.c 5 1 rfl rfl
              have q5 := M.c 5 2 rfl rfl
              have HM := show Hid _ from M
              clear M
              go_wp2_with fail
              have M := HM.out
              clear HM y0 q0 q1 q2 q3 q4 q5
              refine (impl_isNumber p.kind p.value 0 (.slice av p.kids.length ac) _).mono ?_
              rintro x w1 ⟨rfl, b1⟩
              rw [show (decide (p.kind = 1) && decide (p.value = 0)) = knownB p 0 from rfl]
              replace M := M.call b1
              clear b1
              cases hK : knownB p 0
              · have y0 := M.c 0 0 rfl rfl
                have q0 := M.c 4 0 rfl rfl
                have q1 := M.c 4 1 rfl rfl
                have q2 := M.c 4 2 rfl rfl
                have q3 := M.c 5 0 rfl rfl
                have q4 := M.c 5 1 rfl rfl
                have q5 := M.c 5 2 rfl rfl
                have HM := show Hid _ from M
                clear M
                go_wp2_with fail
                have M := HM.out
                clear HM y0 q0 q1 q2 q3 q4 q5
                refine (impl_isNumber q.kind q.value 0 (.slice bv q.kids.length bc) _).mono ?_
                rintro x w1 ⟨rfl, b1⟩
                rw [show (decide (q.kind = 1) && decide (q.value = 0)) = knownB q 0 from rfl]
                replace M := M.call b1
                clear b1
                cases hK2 : knownB q 0
                · have HN : Hid (nodeE ⟨e.kind, e.value, [p, q]⟩ = ⟨e.kind, e.value, [p, q]⟩) := by have hq := HQK.out; rw [Hid, HN0.out, if_neg HCN.out, if_neg (by simp [hq, hK]), if_neg (by simp [hq, hK2])]
                  clear hK2 hK HQK HN0
                  have y0 := M.c 0 0 rfl rfl
                  have d0 := M.c 1 0 rfl rfl
                  have d1 := M.c 1 1 rfl rfl
                  have d2 := M.c 1 2 rfl rfl
                  have o0 := M.c 2 0 rfl rfl
                  have o1 := M.c 2 1 rfl rfl
                  have o2 := M.c 2 2 rfl rfl
                  have ff := M.f 1 rfl
                  have HM := show Hid _ from ((M.set 1 rfl 0 (.int .i64 e.kind)).set 1 rfl 1 (.int .i64 e.value)).set 1 rfl 2 (.slice (some ⟨g, off, none⟩) 2 cap)
                  clear M
                  go_wp2_with fail
                  have M2 := HM.out
                  have r0 : World.cell? _ ⟨w.heap.size + 1, 0, none⟩ = some (.int .i64 e.kind) := M2.c 1 0 rfl rfl
                  have r1 : World.cell? _ ⟨w.heap.size + 1, 1, none⟩ = some (.int .i64 e.value) := M2.c 1 1 rfl rfl
                  have r2 : World.cell? _ ⟨w.heap.size + 1, 2, none⟩ = some (.slice (some ⟨g, off, none⟩) 2 cap) := M2.c 1 2 rfl rfl
                  refine bodyPost_ret (v := .agg #[.int .i64 e.kind, .int .i64 e.value, .slice (some ⟨g, off, none⟩) 2 cap]) (by simp [results, Try.results77, go_sem, r0, r1, r2]) rfl ?_
                  show FoQ w e _ _
                  unfold FoQ
                  rw [HND.out, HN.out]
                  exact ⟨_, _, S', rfl, (M2.o 3 rfl).2.2.2.2.2.2.2.2.2, fun b hb => ⟨(M2.ge _ b (List.mem_of_getElem? (i := 3) rfl) hb).elim (fun h => h) fun h => absurd trivial h, M2.lt (List.mem_of_getElem? (i := 3) rfl) hb⟩, M2.below fun _ _ => trivial⟩
                · have HN : Hid (nodeE ⟨e.kind, e.value, [p, q]⟩ = p) := by have hq := HQK.out; rw [Hid, HN0.out, if_neg HCN.out, if_neg (by simp [hq, hK]), if_pos (by simp [hq, hK2])]
                  clear hK2 hK HQK HN0
                  have y0 := M.c 0 0 rfl rfl
                  have d0 := M.c 1 0 rfl rfl
                  have d1 := M.c 1 1 rfl rfl
                  have d2 := M.c 1 2 rfl rfl
                  have q0 := M.c 4 0 rfl rfl
                  have q1 := M.c 4 1 rfl rfl
                  have q2 := M.c 4 2 rfl rfl
                  have ff := M.f 1 rfl
                  have HM := show Hid _ from ((M.set 1 rfl 0 (.int .i64 p.kind)).set 1 rfl 1 (.int .i64 p.value)).set 1 rfl 2 (.slice av p.kids.length ac)
                  clear M
                  go_wp2_with fail
                  have M2 := HM.out
                  have r0 : World.cell? _ ⟨w.heap.size + 1, 0, none⟩ = some (.int .i64 p.kind) := M2.c 1 0 rfl rfl
                  have r1 : World.cell? _ ⟨w.heap.size + 1, 1, none⟩ = some (.int .i64 p.value) := M2.c 1 1 rfl rfl
                  have r2 : World.cell? _ ⟨w.heap.size + 1, 2, none⟩ = some (.slice av p.kids.length ac) := M2.c 1 2 rfl rfl
                  refine bodyPost_ret (v := .agg #[.int .i64 p.kind, .int .i64 p.value, .slice av p.kids.length ac]) (by simp [results, Try.results77, go_sem, r0, r1, r2]) rfl ?_
                  show FoQ w e _ _
                  unfold FoQ
                  rw [HND.out, HN.out]
                  exact ⟨_, _, S', rfl, (M2.o 3 rfl).2.2.2.2.2.2.2.1, fun b hb => ⟨(M2.ge _ b (List.mem_of_getElem? (i := 3) rfl) hb).elim (fun h => h) fun h => absurd trivial h, M2.lt (List.mem_of_getElem? (i := 3) rfl) hb⟩, M2.below fun _ _ => trivial⟩
              · have HN : Hid (nodeE ⟨e.kind, e.value, [p, q]⟩ = q) := by have hq := HQK.out; rw [Hid, HN0.out, if_neg HCN.out, if_pos (by simp [hq, hK])]
                clear hK HQK HN0
                have y0 := M.c 0 0 rfl rfl
                have d0 := M.c 1 0 rfl rfl
                have d1 := M.c 1 1 rfl rfl
                have d2 := M.c 1 2 rfl rfl
                have q3 := M.c 5 0 rfl rfl
                have q4 := M.c 5 1 rfl rfl
                have q5 := M.c 5 2 rfl rfl
                have ff := M.f 1 rfl
                have HM := show Hid _ from ((M.set 1 rfl 0 (.int .i64 q.kind)).set 1 rfl 1 (.int .i64 q.value)).set 1 rfl 2 (.slice bv q.kids.length bc)
                clear M
                go_wp2_with fail
                have M2 := HM.out
                have r0 : World.cell? _ ⟨w.heap.size + 1, 0, none⟩ = some (.int .i64 q.kind) := M2.c 1 0 rfl rfl
                have r1 : World.cell? _ ⟨w.heap.size + 1, 1, none⟩ = some (.int .i64 q.value) := M2.c 1 1 rfl rfl
                have r2 : World.cell? _ ⟨w.heap.size + 1, 2, none⟩ = some (.slice bv q.kids.length bc) := M2.c 1 2 rfl rfl
                refine bodyPost_ret (v := .agg #[.int .i64 q.kind, .int .i64 q.value, .slice bv q.kids.length bc]) (by simp [results, Try.results77, go_sem, r0, r1, r2]) rfl ?_
                show FoQ w e _ _
                unfold FoQ
                rw [HND.out, HN.out]
                exact ⟨_, _, S', rfl, (M2.o 3 rfl).2.2.2.2.2.2.2.2.1, fun b hb => ⟨(M2.ge _ b (List.mem_of_getElem? (i := 3) rfl) hb).elim (fun h => h) fun h => absurd trivial h, M2.lt (List.mem_of_getElem? (i := 3) rfl) hb⟩, M2.below fun _ _ => trivial⟩
            have HN8 := show Hid _ from hq
            clear hq
            by_cases hq : e.kind = 5
            · have p4 : (e.kind == 4) = false := by simp [hq]
              have p8 : (e.kind == 8) = false := by simp [hq]
              have p5 : (e.kind == 5) = true := by simp [hq]
              have p6 : (e.kind == 6) = false := by simp [hq]
              have HQK := show Hid _ from hq
              clear hq
              have y0 := M.c 0 0 rfl rfl
              have q0 := M.c 4 0 rfl rfl
              have q1 := M.c 4 1 rfl rfl
              have q2 := M.c 4 2 rfl rfl
              have q3 := M.c 5 0 rfl rfl
              have q4 := M.c 5 1 rfl rfl
              have q5 := M.c 5 2 rfl rfl
              have HM := show Hid _ from M
              clear M
              go_wp2_with fail
              have M := HM.out
              clear HM y0 q0 q1 q2 q3 q4 q5
              refine (impl_isNumber q.kind q.value 0 (.slice bv q.kids.length bc) _).mono ?_
              rintro x w1 ⟨rfl, b1⟩
              rw [show (decide (q.kind = 1) && decide (q.value = 0)) = knownB q 0 from rfl]
              replace M := M.call b1
              clear b1
              cases hK2 : knownB q 0
              · have HN : Hid (nodeE ⟨e.kind, e.value, [p, q]⟩ = ⟨e.kind, e.value, [p, q]⟩) := by have hq := HQK.out; rw [Hid, HN0.out, if_neg HCN.out, if_neg (by simp [hq, hq]), if_neg (by simp [hq, hK2])]
                clear hK2  HQK HN0
                have y0 := M.c 0 0 rfl rfl
                have d0 := M.c 1 0 rfl rfl
                have d1 := M.c 1 1 rfl rfl
                have d2 := M.c 1 2 rfl rfl
                have o0 := M.c 2 0 rfl rfl
                have o1 := M.c 2 1 rfl rfl
                have o2 := M.c 2 2 rfl rfl
                have ff := M.f 1 rfl
                have HM := show Hid _ from ((M.set 1 rfl 0 (.int .i64 e.kind)).set 1 rfl 1 (.int .i64 e.value)).set 1 rfl 2 (.slice (some ⟨g, off, none⟩) 2 cap)
                clear M
                go_wp2_with fail
                have M2 := HM.out
                have r0 : World.cell? _ ⟨w.heap.size + 1, 0, none⟩ = some (.int .i64 e.kind) := M2.c 1 0 rfl rfl
                have r1 : World.cell? _ ⟨w.heap.size + 1, 1, none⟩ = some (.int .i64 e.value) := M2.c 1 1 rfl rfl
                have r2 : World.cell? _ ⟨w.heap.size + 1, 2, none⟩ = some (.slice (some ⟨g, off, none⟩) 2 cap) := M2.c 1 2 rfl rfl
                refine bodyPost_ret (v := .agg #[.int .i64 e.kind, .int .i64 e.value, .slice (some ⟨g, off, none⟩) 2 cap]) (by simp [results, Try.results77, go_sem, r0, r1, r2]) rfl ?_
                show FoQ w e _ _
                unfold FoQ
                rw [HND.out, HN.out]
                exact ⟨_, _, S', rfl, (M2.o 3 rfl).2.2.2.2.2.2.2.2.2, fun b hb => ⟨(M2.ge _ b (List.mem_of_getElem? (i := 3) rfl) hb).elim (fun h => h) fun h => absurd trivial h, M2.lt (List.mem_of_getElem? (i := 3) rfl) hb⟩, M2.below fun _ _ => trivial⟩
              · have HN : Hid (nodeE ⟨e.kind, e.value, [p, q]⟩ = p) := by have hq := HQK.out; rw [Hid, HN0.out, if_neg HCN.out, if_neg (by simp [hq, hq]), if_pos (by simp [hq, hK2])]
                clear hK2  HQK HN0
                have y0 := M.c 0 0 rfl rfl
                have d0 := M.c 1 0 rfl rfl
                have d1 := M.c 1 1 rfl rfl
                have d2 := M.c 1 2 rfl rfl
                have q0 := M.c 4 0 rfl rfl
                have q1 := M.c 4 1 rfl rfl
                have q2 := M.c 4 2 rfl rfl
                have ff := M.f 1 rfl
                have HM := show Hid _ from ((M.set 1 rfl 0 (.int .i64 p.kind)).set 1 rfl 1 (.int .i64 p.value)).set 1 rfl 2 (.slice av p.kids.length ac)
                clear M
                go_wp2_with fail
                have M2 := HM.out
                have r0 : World.cell? _ ⟨w.heap.size + 1, 0, none⟩ = some (.int .i64 p.kind) := M2.c 1 0 rfl rfl
                have r1 : World.cell? _ ⟨w.heap.size + 1, 1, none⟩ = some (.int .i64 p.value) := M2.c 1 1 rfl rfl
                have r2 : World.cell? _ ⟨w.heap.size + 1, 2, none⟩ = some (.slice av p.kids.length ac) := M2.c 1 2 rfl rfl
                refine bodyPost_ret (v := .agg #[.int .i64 p.kind, .int .i64 p.value, .slice av p.kids.length ac]) (by simp [results, Try.results77, go_sem, r0, r1, r2]) rfl ?_
                show FoQ w e _ _
                unfold FoQ
                rw [HND.out, HN.out]
                exact ⟨_, _, S', rfl, (M2.o 3 rfl).2.2.2.2.2.2.2.1, fun b hb => ⟨(M2.ge _ b (List.mem_of_getElem? (i := 3) rfl) hb).elim (fun h => h) fun h => absurd trivial h, M2.lt (List.mem_of_getElem? (i := 3) rfl) hb⟩, M2.below fun _ _ => trivial⟩
            have HN5 := show Hid _ from hq
            clear hq
            by_cases hq : e.kind = 6
            · have p4 : (e.kind == 4) = false := by simp [hq]
              have p8 : (e.kind == 8) = false := by simp [hq]
              have p5 : (e.kind == 5) = false := by simp [hq]
              have p6 : (e.kind == 6) = true := by simp [hq]
              have HQK := show Hid _ from hq
              clear hq
              have y0 := M.c 0 0 rfl rfl
              have q0 := M.c 4 0 rfl rfl
              have q1 := M.c 4 1 rfl rfl
              have q2 := M.c 4 2 rfl rfl
              have q3 := M.c 5 0 rfl rfl
              have q4 := M.c 5 1 rfl rfl
              have q5 := M.c 5 2 rfl rfl
              have HM := show Hid _ from M
              clear M
              go_wp2_with fail
              have M := HM.out
              clear HM y0 q0 q1 q2 q3 q4 q5
              refine (impl_isNumber p.kind p.value 1 (.slice av p.kids.length ac) _).mono ?_
              rintro x w1 ⟨rfl, b1⟩
              rw [show (decide (p.kind = 1) && decide (p.value = 1)) = knownB p 1 from rfl]
              replace M := M.call b1
              clear b1
              cases hK : knownB p 1
              · have y0 := M.c 0 0 rfl rfl
                have q0 := M.c 4 0 rfl rfl
                have q1 := M.c 4 1 rfl rfl
                have q2 := M.c 4 2 rfl rfl
                have q3 := M.c 5 0 rfl rfl
                have q4 := M.c 5 1 rfl rfl
                have q5 := M.c 5 2 rfl rfl
                have HM := show Hid _ from M
                clear M
                go_wp2_with fail
                have M := HM.out
                clear HM y0 q0 q1 q2 q3 q4 q5
                refine (impl_isNumber q.kind q.value 1 (.slice bv q.kids.length bc) _).mono ?_
                rintro x w1 ⟨rfl, b1⟩
                rw [show (decide (q.kind = 1) && decide (q.value = 1)) = knownB q 1 from rfl]
                replace M := M.call b1
                clear b1
                cases hK2 : knownB q 1
                · have HN : Hid (nodeE ⟨e.kind, e.value, [p, q]⟩ = ⟨e.kind, e.value, [p, q]⟩) := by have hq := HQK.out; rw [Hid, HN0.out, if_neg HCN.out, if_neg (by simp [hq, hK]), if_neg (by simp [hq, hK2])]
                  clear hK2 hK HQK HN0
                  have y0 := M.c 0 0 rfl rfl
                  have d0 := M.c 1 0 rfl rfl
                  have d1 := M.c 1 1 rfl rfl
                  have d2 := M.c 1 2 rfl rfl
                  have o0 := M.c 2 0 rfl rfl
                  have o1 := M.c 2 1 rfl rfl
                  have o2 := M.c 2 2 rfl rfl
                  have ff := M.f 1 rfl
                  have HM := show Hid _ from ((M.set 1 rfl 0 (.int .i64 e.kind)).set 1 rfl 1 (.int .i64 e.value)).set 1 rfl 2 (.slice (some ⟨g, off, none⟩) 2 cap)
                  clear M
                  go_wp2_with fail
                  have M2 := HM.out
                  have r0 : World.cell? _ ⟨w.heap.size + 1, 0, none⟩ = some (.int .i64 e.kind) := M2.c 1 0 rfl rfl
                  have r1 : World.cell? _ ⟨w.heap.size + 1, 1, none⟩ = some (.int .i64 e.value) := M2.c 1 1 rfl rfl
                  have r2 : World.cell? _ ⟨w.heap.size + 1, 2, none⟩ = some (.slice (some ⟨g, off, none⟩) 2 cap) := M2.c 1 2 rfl rfl
                  refine bodyPost_ret (v := .agg #[.int .i64 e.kind, .int .i64 e.value, .slice (some ⟨g, off, none⟩) 2 cap]) (by simp [results, Try.results77, go_sem, r0, r1, r2]) rfl ?_
                  show FoQ w e _ _
                  unfold FoQ
                  rw [HND.out, HN.out]
                  exact ⟨_, _, S', rfl, (M2.o 3 rfl).2.2.2.2.2.2.2.2.2, fun b hb => ⟨(M2.ge _ b (List.mem_of_getElem? (i := 3) rfl) hb).elim (fun h => h) fun h => absurd trivial h, M2.lt (List.mem_of_getElem? (i := 3) rfl) hb⟩, M2.below fun _ _ => trivial⟩
                · have HN : Hid (nodeE ⟨e.kind, e.value, [p, q]⟩ = p) := by have hq := HQK.out; rw [Hid, HN0.out, if_neg HCN.out, if_neg (by simp [hq, hK]), if_pos (by simp [hq, hK2])]
                  clear hK2 hK HQK HN0
                  have y0 := M.c 0 0 rfl rfl
                  have d0 := M.c 1 0 rfl rfl
                  have d1 := M.c 1 1 rfl rfl
                  have d2 := M.c 1 2 rfl rfl
                  have q0 := M.c 4 0 rfl rfl
                  have q1 := M.c 4 1 rfl rfl
                  have q2 := M.c 4 2 rfl rfl
                  have ff := M.f 1 rfl
                  have HM := show Hid _ from ((M.set 1 rfl 0 (.int .i64 p.kind)).set 1 rfl 1 (.int .i64 p.value)).set 1 rfl 2 (.slice av p.kids.length ac)
                  clear M
                  go_wp2_with fail
                  have M2 := HM.out
                  have r0 : World.cell? _ ⟨w.heap.size + 1, 0, none⟩ = some (.int .i64 p.kind) := M2.c 1 0 rfl rfl
                  have r1 : World.cell? _ ⟨w.heap.size + 1, 1, none⟩ = some (.int .i64 p.value) := M2.c 1 1 rfl rfl
                  have r2 : World.cell? _ ⟨w.heap.size + 1, 2, none⟩ = some (.slice av p.kids.length ac) := M2.c 1 2 rfl rfl
                  refine bodyPost_ret (v := .agg #[.int .i64 p.kind, .int .i64 p.value, .slice av p.kids.length ac]) (by simp [results, Try.results77, go_sem, r0, r1, r2]) rfl ?_
                  show FoQ w e _ _
                  unfold FoQ
                  rw [HND.out, HN.out]
                  exact ⟨_, _, S', rfl, (M2.o 3 rfl).2.2.2.2.2.2.2.1, fun b hb => ⟨(M2.ge _ b (List.mem_of_getElem? (i := 3) rfl) hb).elim (fun h => h) fun h => absurd trivial h, M2.lt (List.mem_of_getElem? (i := 3) rfl) hb⟩, M2.below fun _ _ => trivial⟩
              · have HN : Hid (nodeE ⟨e.kind, e.value, [p, q]⟩ = q) := by have hq := HQK.out; rw [Hid, HN0.out, if_neg HCN.out, if_pos (by simp [hq, hK])]
                clear hK HQK HN0
                have y0 := M.c 0 0 rfl rfl
                have d0 := M.c 1 0 rfl rfl
                have d1 := M.c 1 1 rfl rfl
                have d2 := M.c 1 2 rfl rfl
                have q3 := M.c 5 0 rfl rfl
                have q4 := M.c 5 1 rfl rfl
                have q5 := M.c 5 2 rfl rfl
                have ff := M.f 1 rfl
                have HM := show Hid _ from ((M.set 1 rfl 0 (.int .i64 q.kind)).set 1 rfl 1 (.int .i64 q.value)).set 1 rfl 2 (.slice bv q.kids.length bc)
                clear M
                go_wp2_with fail
                have M2 := HM.out
                have r0 : World.cell? _ ⟨w.heap.size + 1, 0, none⟩ = some (.int .i64 q.kind) := M2.c 1 0 rfl rfl
                have r1 : World.cell? _ ⟨w.heap.size + 1, 1, none⟩ = some (.int .i64 q.value) := M2.c 1 1 rfl rfl
                have r2 : World.cell? _ ⟨w.heap.size + 1, 2, none⟩ = some (.slice bv q.kids.length bc) := M2.c 1 2 rfl rfl
                refine bodyPost_ret (v := .agg #[.int .i64 q.kind, .int .i64 q.value, .slice bv q.kids.length bc]) (by simp [results, Try.results77, go_sem, r0, r1, r2]) rfl ?_
                show FoQ w e _ _
                unfold FoQ
                rw [HND.out, HN.out]
                exact ⟨_, _, S', rfl, (M2.o 3 rfl).2.2.2.2.2.2.2.2.1, fun b hb => ⟨(M2.ge _ b (List.mem_of_getElem? (i := 3) rfl) hb).elim (fun h => h) fun h => absurd trivial h, M2.lt (List.mem_of_getElem? (i := 3) rfl) hb⟩, M2.below fun _ _ => trivial⟩
            have HN6 := show Hid _ from hq
            clear hq
            have p4 : (e.kind == 4) = false := by
              have h : ¬ e.kind = 4 := HN4.out
              simp [h]
            have p8 : (e.kind == 8) = false := by
              have h : ¬ e.kind = 8 := HN8.out
              simp [h]
            have p5 : (e.kind == 5) = false := by
              have h : ¬ e.kind = 5 := HN5.out
              simp [h]
            have p6 : (e.kind == 6) = false := by
              have h : ¬ e.kind = 6 := HN6.out
              simp [h]
            have HN : Hid (nodeE ⟨e.kind, e.value, [p, q]⟩ = ⟨e.kind, e.value, [p, q]⟩) := by
              have h4 : ¬ e.kind = 4 := HN4.out
              have h5 : ¬ e.kind = 5 := HN5.out
              have h6 : ¬ e.kind = 6 := HN6.out
              have h8 : ¬ e.kind = 8 := HN8.out
              rw [Hid, HN0.out, if_neg HCN.out, if_neg (by simp [h4, h5, h6, h8]), if_neg (by simp [h4, h5, h6, h8])]
            clear HN4 HN5 HN6 HN8 HN0
            have y0 := M.c 0 0 rfl rfl
            have d0 := M.c 1 0 rfl rfl
            have d1 := M.c 1 1 rfl rfl
            have d2 := M.c 1 2 rfl rfl
            have o0 := M.c 2 0 rfl rfl
            have o1 := M.c 2 1 rfl rfl
            have o2 := M.c 2 2 rfl rfl
            have q0 := M.c 4 0 rfl rfl
            have q1 := M.c 4 1 rfl rfl
            have q2 := M.c 4 2 rfl rfl
            have q3 := M.c 5 0 rfl rfl
            have q4 := M.c 5 1 rfl rfl
            have q5 := M.c 5 2 rfl rfl
            have ff := M.f 1 rfl
            have HM := show Hid _ from ((M.set 1 rfl 0 (.int .i64 e.kind)).set 1 rfl 1 (.int .i64 e.value)).set 1 rfl 2 (.slice (some ⟨g, off, none⟩) 2 cap)
            clear M
            go_wp2_with fail
            have M2 := HM.out
            have r0 : World.cell? _ ⟨w.heap.size + 1, 0, none⟩ = some (.int .i64 e.kind) := M2.c 1 0 rfl rfl
            have r1 : World.cell? _ ⟨w.heap.size + 1, 1, none⟩ = some (.int .i64 e.value) := M2.c 1 1 rfl rfl
            have r2 : World.cell? _ ⟨w.heap.size + 1, 2, none⟩ = some (.slice (some ⟨g, off, none⟩) 2 cap) := M2.c 1 2 rfl rfl
            refine bodyPost_ret (v := .agg #[.int .i64 e.kind, .int .i64 e.value, .slice (some ⟨g, off, none⟩) 2 cap]) (by simp [results, Try.results77, go_sem, r0, r1, r2]) rfl ?_
            show FoQ w e _ _
            unfold FoQ
            rw [HND.out, HN.out]
            exact ⟨_, _, S', rfl, (M2.o 3 rfl).2.2.2.2.2.2.2.2.2, fun b hb => ⟨(M2.ge _ b (List.mem_of_getElem? (i := 3) rfl) hb).elim (fun h => h) fun h => absurd trivial h, M2.lt (List.mem_of_getElem? (i := 3) rfl) hb⟩, M2.below fun _ _ => trivial⟩
      · have pk : (e.kind == 11) = false := by simp; omega
        have pw : (decide (4 ≤ e.kind) && decide (e.kind ≤ 10)) = false := by simp; omega
        have HN : Hid (nodeE ⟨e.kind, e.value, ks'⟩ = ⟨e.kind, e.value, ks'⟩) := by
          match ks', h3 with
          | [], _ => rfl
          | [_], _ => rfl
        have HKL := show Hid _ from hkl
        clear h1 h2 hkl
        have y0 := M.c 0 0 rfl rfl
        have d0 := M.c 1 0 rfl rfl
        have d1 := M.c 1 1 rfl rfl
        have d2 := M.c 1 2 rfl rfl
        have ff := M.f 1 rfl
        have o0 := M.c 2 0 rfl rfl
        have o1 := M.c 2 1 rfl rfl
        have o2 := M.c 2 2 rfl rfl
        have HM := show Hid _ from M
        clear M
        go_wp2_with fail
        have M := HM.out
        clear HM y0 d0 d1 d2 ff o0 o1 o2
        refine (impl_within e.kind 4 10 _).mono ?_
        rintro x w1 ⟨rfl, rfl⟩
        rw [pw]
        clear pw pk
        have y0 := M.c 0 0 rfl rfl
        have d0 := M.c 1 0 rfl rfl
        have d1 := M.c 1 1 rfl rfl
        have d2 := M.c 1 2 rfl rfl
        have ff := M.f 1 rfl
        have o0 := M.c 2 0 rfl rfl
        have o1 := M.c 2 1 rfl rfl
        have o2 := M.c 2 2 rfl rfl
        have HM := show Hid _ from ((M.set 1 rfl 0 (.int .i64 e.kind)).set 1 rfl 1 (.int .i64 e.value)).set 1 rfl 2 (.slice a k c)
        clear M
        go_wp2_with fail
        have M2 := HM.out
        have r0 : World.cell? _ ⟨w.heap.size + 1, 0, none⟩ = some (.int .i64 e.kind) := M2.c 1 0 rfl rfl
        have r1 : World.cell? _ ⟨w.heap.size + 1, 1, none⟩ = some (.int .i64 e.value) := M2.c 1 1 rfl rfl
        have r2 : World.cell? _ ⟨w.heap.size + 1, 2, none⟩ = some (.slice a k c) := M2.c 1 2 rfl rfl
        refine bodyPost_ret (v := .agg #[.int .i64 e.kind, .int .i64 e.value, .slice a k c]) (by simp [results, Try.results77, go_sem, r0, r1, r2]) rfl ?_
        show FoQ w e _ _
        unfold FoQ
        rw [HND.out, HN.out]
        rw [show (LExpr.mk e.kind e.value ks').kids.length = k from HKL.out.symm]
        exact ⟨a, c, S', rfl, M2.o 3 rfl, fun b hb => ⟨(M2.ge _ b (List.mem_of_getElem? (i := 3) rfl) hb).elim (fun h => h) fun h => absurd trivial h, M2.lt (List.mem_of_getElem? (i := 3) rfl) hb⟩, M2.below fun _ _ => trivial⟩

end Go.Proofs.Ytgpkdfefgcpbiaa

namespace Go.Proofs.Ytgpkdfefgcpbiaa
set_option linter.unusedVariables false
set_option linter.unusedSimpArgs false
open Go Go.RowKit

theorem fold_bridge {f : FuncId} {e : LExpr} (h : ∀ (φ : Nat → Prop) (v : Value) (w : World), ExprV w φ v e → Calls Try.prog f #[v] w fun x w' => FoQ w e x w') : Ctr.ok Try.prog ⟨f, [eA e 0], eS e, eS e ++ [.tree (.exprs (foldE e).kids)], .agg [iA (foldE e).kind, iA (foldE e).value, .tref 1]⟩ := by
  intro ι φ ψ w0 w F ρ M
  refine (h (FrF φ (lay F ρ (lst (eS e)))) _ w ⟨ρ 0, rfl, M.datAt (id := 0) (d := .exprs e.kids) rfl⟩).mono ?_
  rintro x w' ⟨v1, c, S, rfl, hO, hS, hbl⟩
  obtain ⟨z, hz1, hz2⟩ := enc_exists (.slice v1 (foldE e).kids.length c) S w'.heap.size fun b h => (hS b h).2
  have e0 : blksOf z = S := funext fun b => propext (hz2 b)
  refine ⟨fun i => if i = 1 then z else ρ i, fun i hi => if_neg (show ¬ i = 1 by have : i < 1 := hi; omega), by simp [AV.val, AV.vals, hz1], ?_⟩
  refine M.grow hbl (fun k => k = .inr 1) (fun k hk => ?_) ?_ ?_ ?_
  · cases k with
    | inl i => rfl
    | inr j =>
      match j, hk with
      | 0, _ => rfl
      | 1, h => exact absurd rfl h
      | j + 2, _ => rfl
  · rintro k rfl b hb
    exact (hS b ((hz2 b).1 hb)).1
  · rintro j k b hjk rfl rfl; exact absurd rfl hjk
  · rintro k rfl
    show (Rs.own (blksOf z) fun w => TreeO w (blksOf z) (.exprs (foldE e).kids) (valOf z)).holds _ _
    rw [hz1, e0]
    exact ⟨fun _ _ h hs => h.same hs, TreeO.kids.2 hO, fun b hb => (hS b hb).2⟩
theorem d_l8Fold (e : LExpr) (hg : goodE e = true) : Ctr.ok Try.prog (foC 74 e) :=
  Ctr.datPost (S0 := eS e) (S := eS e) (d := .exprs (foldE e).kids) (fold_bridge fun φ v w h => spec_l8Fold e hg φ v w h) (.agg [iA (foldE e).kind, iA (foldE e).value, .ref 1])
theorem d_fold (e : LExpr) (hg : goodE e = true) : Ctr.ok Try.prog (foC 77 e) :=
  Ctr.datPost (S0 := eS e) (S := eS e) (d := .exprs (foldE e).kids) (fold_bridge fun φ v w h => impl_fold e hg φ v w h) (.agg [iA (foldE e).kind, iA (foldE e).value, .ref 1])
theorem c_FoldProgram (p : LProg) (hb : p.size ≤ 1048576) : Ctr.ok Try.prog ⟨59, [pA 0], pS p, pS p ++ pS (foldP p), .tup [pA 3, bA (progB p)]⟩ := s_FoldProgram p hb fun ss h1 h2 => l8BlockD _ _ d_l8Fold 5 ss h1 h2
theorem c_iFoldProgram (p : LProg) (hb : p.size ≤ 1048576) : Ctr.ok Try.prog ⟨60, [pA 0], pS p, pS p ++ oP (foldP p), .tup [oA 3, bA (progB p)]⟩ := s_iFoldProgram p hb fun ss h1 h2 => foldStmtsD _ _ d_fold 5 ss h1 h2
end Go.Proofs.Ytgpkdfefgcpbiaa

namespace Go.Proofs.Ytgpkdfefgcpbiaa.exFoldProgram
set_option linter.unusedVariables false
set_option linter.unusedSimpArgs false
open Go Go.RowKit Go.Proofs.Ytgpkdfefgcpbiaa

theorem fits {p : LProg} (h : ¬ (szRes 1048576 p.size < 0)) : p.size ≤ 1048576 := by
  by_cases h1 : (1048576 : Int) < p.size
  · rw [szRes_neg h1] at h; omega
  · omega
theorem same_self (p : LProg) : p.same p = true := LProg.same_eq.2 rfl
theorem mark_fits {p : LProg} {n : Nat} (h : p.size ≤ n) (hn : n ≤ 1048576) : ((1 : Nat) : Int) + mkPN p ≤ 9000000000000000000 := by
  unfold mkPN
  unfold LProg.size at h
  have := (mkN_nonneg p.body).2
  omega
theorem same_no (q : LProg) : ¬ ((!q.same q) = true) := by rw [same_self]; decide
theorem mk_pos (p : LProg) : ¬ (decide ((1 : Int) + mkPN p < (0 : Int)) = true) := by
  have := (mkN_nonneg p.body).1
  unfold mkPN
  simp only [decide_eq_true_eq]; omega
set_option maxRecDepth 100000 in
theorem s_law (p : LProg) (hsp : p.size ≤ 1048576 → Ctr.ok Try.prog ⟨59, [pA 0], pS p, pS p ++ pS (foldP p), .tup [pA 3, bA (progB p)]⟩) (him : p.size ≤ 1048576 → Ctr.ok Try.prog ⟨60, [pA 0], pS p, pS p ++ oP (foldP p), .tup [oA 3, bA (progB p)]⟩) : Ctr.ok Try.prog ⟨13, [pA 0], pS p, pS p, bA true⟩ := by
  have hto := t_toProgram p
  refine rx_enter 96 Try.func13 (by rfl) (by kernel_rfl) (by kernel_rfl) ?_
  intro ι φ ψ w0 w F ρ0 ρ a G
  replace G := Gam.at G [dI p.vars, dI p.arrays, dT p.body] [(0, pA 0)]
  have hself : ∀ q : LProg, q.same q = true := same_self
  refine wp_seq ?_
  refine rs0 G [0, 1, 2, 3] [dI p.vars, dI p.arrays, dT p.body, .box (pL 0)] [(1, .ptr 3 0), (2, bA false)] ?_
  clear G; intro ρ a w G
  refine th_n ?_
  refine wp_seq ?_
  refine rs0s G [(1, .ptr 3 0), (2, bA false), (3, iA 1048576)] ?_
  clear G; intro ρ a w G
  refine th_n ?_
  refine wp_seq ?_
  refine rs1s G ⟨[(2, _, [0, 1, 2])], [], []⟩ (calls_cons (c_szProgram (p) (1048576) (by omega) (by omega)) calls_nil) trivial [(1, .ptr 3 0), (2, bA false), (3, iA (szRes 1048576 p.size))] [] trivial ?_
  clear G; intro ρ a w G
  refine th_n ?_
  refine wp_seq ?_
  refine wp_seq ?_
  refine rs0s G [(1, .ptr 3 0), (2, bA false), (18, bA (decide (szRes 1048576 p.size < 0)))] ?_
  clear G; intro ρ a w G
  refine th_n ?_
  cases h0 : (decide (szRes (1048576 : Int) p.size < (0 : Int)))
  ·
   have q0 : ¬ (szRes 1048576 p.size < 0) := of_decide_eq_false h0
   refine rF G (decide (szRes (1048576 : Int) p.size < (0 : Int))) (by assumption) ?_
   refine wp_skip ?_
   refine th_n ?_
   refine wp_seq ?_
   refine rs1 (dk := dkP) G ⟨[(1, _, [0, 1, 2]), (2, _, [12, 13, 14])], [], []⟩ (calls_cons (c_toProgram (p) (by exact fits (by assumption))) (calls_cons (hsp (by exact fits (by assumption))) calls_nil)) trivial [0, 1, 2, 3, 20, 21, 22, 52] [dI p.vars, dI p.arrays, dT p.body, .box (pL 0), dI (foldP p).vars, dI (foldP p).arrays, dT (foldP p).body, .box (pL 4)] [(1, .ptr 3 0), (2, bA false), (4, .ptr 7 0), (5, bA (progB p))] [] trivial ?_
   clear G; intro ρ a w G
   refine th_n ?_
   refine wp_seq ?_
   refine rs1 (dk := dkP) G ⟨[(1, _, [0, 1, 2])], [], []⟩ (calls_cons (hto (by exact fits (by assumption))) calls_nil) trivial [0, 1, 2, 3, 4, 5, 6, 7, 16, 17, 18, 24] [dI p.vars, dI p.arrays, dT p.body, .box (pL 0), dI (foldP p).vars, dI (foldP p).arrays, dT (foldP p).body, .box (pL 4), .row 3 (D.ints p.vars), .row 3 (D.ints p.arrays), .tree (D.stmts p.body), .box [.ref 8, .ref 9, .tref 10]] [(1, .ptr 3 0), (2, bA false), (4, .ptr 7 0), (5, bA (progB p)), (6, .ptr 11 0)] [] trivial ?_
   clear G; intro ρ a w G
   refine th_n ?_
   refine wp_seq ?_
   refine rs1 (dk := dkP) G ⟨[(1, _, [8, 9, 10])], [], []⟩ (calls_cons (Ctr.lend (him (by exact fits (by assumption))) [.row 3, .row 3, .tree]) calls_nil) trivial [0, 1, 2, 3, 4, 5, 6, 7, 8, 9, 10, 11, 20, 21, 22, 52] [dI p.vars, dI p.arrays, dT p.body, .box (pL 0), dI (foldP p).vars, dI (foldP p).arrays, dT (foldP p).body, .box (pL 4), .row 3 (D.ints p.vars), .row 3 (D.ints p.arrays), .tree (D.stmts p.body), .box [.ref 8, .ref 9, .tref 10], .row 3 (D.ints (foldP p).vars), .row 3 (D.ints (foldP p).arrays), .tree (D.stmts (foldP p).body), .box [.ref 12, .ref 13, .tref 14]] [(1, .ptr 3 0), (2, bA false), (4, .ptr 7 0), (5, bA (progB p)), (6, .ptr 11 0), (7, .ptr 15 0), (8, bA (progB p))] [] trivial ?_
   clear G; intro ρ a w G
   refine th_n ?_
   refine wp_seq ?_
   refine wp_seq ?_
   cases h1 : (!(foldP p).same (foldP p))
   ·
    have q1 : ((foldP p).same (foldP p)) = true := (fun hq => (hq)) (Eq.mp (Bool.not_eq_false' _) h1)
    refine rs1s G ⟨[(2, _, [12, 13, 14, 4, 5, 6])], [(!(foldP p).same (foldP p), false)], [(5, 0), (6, 0), (7, 0), (1008, 0)]⟩ (calls_cons (Ctr.lend (c_eqProgram (foldP p) (foldP p)) [.row 3, .row 3, .tree]) calls_nil) ⟨(by assumption), trivial⟩ [(1, .ptr 3 0), (2, bA false), (4, .ptr 7 0), (5, bA (progB p)), (6, .ptr 11 0), (7, .ptr 15 0), (8, bA (progB p)), (40, .v (.bool !progB p == progB p))] [] trivial ?_
    clear G; intro ρ a w G
    refine th_n ?_
    refine rF G (!progB p == progB p) (by simp [h0, h1, q1]) ?_
    refine wp_skip ?_
    refine th_n ?_
    refine wp_seq ?_
    refine wp_seq ?_
    refine rd1s G ⟨[(2, _, [0, 1, 2]), (3, _, [8, 9, 10, 32, 33, 34])], [], []⟩ (calls_cons (hto (by exact fits (by assumption))) (calls_cons (Ctr.lend (c_eqProgram (p) (p)) [.row 3, .row 3, .tree, .row 3, .row 3, .tree]) calls_nil)) trivial [0, 0, 2, 7, 15] [(1, .ptr 3 0), (2, bA false), (4, .ptr 7 0), (5, bA (progB p)), (6, .ptr 11 0), (7, .ptr 15 0), (8, bA (progB p)), (45, .v (.bool !p.same p))] [] trivial ?_
    clear G; intro ρ a w G
    refine th_n ?_
    cases h2 : (!p.same p)
    ·
     have q2 : (p.same p) = true := (fun hq => (hq)) (Eq.mp (Bool.not_eq_false' _) h2)
     refine rF G (!p.same p) (by assumption) ?_
     refine wp_skip ?_
     refine th_n ?_
     refine wp_seq ?_
     refine rs0s G [(1, .ptr 3 0), (2, bA false), (4, .ptr 7 0), (5, bA (progB p)), (6, .ptr 11 0), (7, .ptr 15 0), (8, bA (progB p)), (9, iA 1)] ?_
     clear G; intro ρ a w G
     refine th_n ?_
     refine wp_seq ?_
     refine rs1 (dk := dkP) G ⟨[(2, _, [8, 9, 10])], [], []⟩ (calls_cons (c_markProgram (p) (1) (by exact mark_fits (fits (by assumption)) (Nat.le_refl _))) calls_nil) trivial [0, 1, 2, 3, 4, 5, 6, 7, 12, 13, 14, 15] [dI p.vars, dI p.arrays, dT p.body, .box (pL 0), dI (foldP p).vars, dI (foldP p).arrays, dT (foldP p).body, .box (pL 4), .row 3 (D.ints (foldP p).vars), .row 3 (D.ints (foldP p).arrays), .tree (D.stmts (foldP p).body), .box [.ref 8, .ref 9, .tref 10]] [(1, .ptr 3 0), (2, bA false), (4, .ptr 7 0), (5, bA (progB p)), (7, .ptr 11 0), (8, bA (progB p)), (9, iA ((↑1 : Int) + mkPN p))] [] trivial ?_
     clear G; intro ρ a w G
     refine th_n ?_
     refine wp_seq ?_
     refine wp_seq ?_
     cases h3 : (decide ((1 : Int) + mkPN p < (0 : Int)))
     ·
      have q3 : ¬ (1 + mkPN p < 0) := of_decide_eq_false h3
      refine rs1s G ⟨[(5, _, [8, 9, 10, 4, 5, 6])], [(decide ((1 : Int) + mkPN p < (0 : Int)), false), (!(foldP p).same (foldP p), false)], [(3, 0), (4, 0), (5, 0), (6, 0), (1007, 0), (9, 1), (10, 1), (11, 1), (1012, 1)]⟩ (calls_cons (Ctr.lend (c_eqProgram (foldP p) (foldP p)) [.row 3, .row 3, .tree]) calls_nil) ⟨(by assumption), (by assumption), trivial⟩ [(1, .ptr 3 0), (2, bA false), (4, .ptr 7 0), (5, bA (progB p)), (7, .ptr 11 0), (61, .v (.bool !progB p == progB p))] [] trivial ?_
      clear G; intro ρ a w G
      refine th_n ?_
      refine rF G (!progB p == progB p) (by simp [h0, h1, q1, h2, q2, h3]) ?_
      refine wp_skip ?_
      refine th_n ?_
      refine wp_seq ?_
      refine rs0s G [(1, .ptr 3 0), (2, bA false), (4, .ptr 7 0), (5, bA (progB p)), (7, .ptr 11 0), (10, iA 1)] ?_
      clear G; intro ρ a w G
      refine th_n ?_
      refine wp_seq ?_
      refine rs1 (dk := dkP) G ⟨[(2, _, [8, 9, 10])], [], []⟩ (calls_cons (c_markProgram (foldP p) (1) (by exact mark_fits (Nat.le_trans (foldP_sz p) (fits (by assumption))) (Nat.le_refl _))) calls_nil) trivial [0, 1, 2, 3, 4, 5, 6, 7, 8, 9, 10, 11] [dI p.vars, dI p.arrays, dT p.body, .box (pL 0), dI (foldP p).vars, dI (foldP p).arrays, dT (foldP p).body, .box (pL 4), .row 3 (D.ints (mkP (foldP p) 1).vars), .row 3 (D.ints (mkP (foldP p) 1).arrays), .tree (D.stmts (mkP (foldP p) 1).body), .box [.ref 8, .ref 9, .tref 10]] [(1, .ptr 3 0), (2, bA false), (4, .ptr 7 0), (5, bA (progB p)), (7, .ptr 11 0), (10, iA ((↑1 : Int) + mkPN (foldP p)))] [] trivial ?_
      clear G; intro ρ a w G
      refine th_n ?_
      refine wp_seq ?_
      refine rs0s G [(1, .ptr 3 0), (2, bA false), (4, .ptr 7 0), (5, bA (progB p)), (7, .ptr 11 0), (10, iA (1 + mkPN (foldP p))), (11, iA 1)] ?_
      clear G; intro ρ a w G
      refine th_n ?_
      refine wp_seq ?_
      refine rs1s G ⟨[(2, _, [8, 9, 10])], [], []⟩ (calls_cons (Ctr.lend (c_heldProgram (foldP p) (1) (by exact mark_fits (Nat.le_trans (foldP_sz p) (fits (by assumption))) (Nat.le_refl _))) [.row 3, .row 3, .tree]) calls_nil) trivial [(1, .ptr 3 0), (2, bA false), (4, .ptr 7 0), (5, bA (progB p)), (7, .ptr 11 0), (10, iA (1 + mkPN (foldP p))), (11, iA ((↑1 : Int) + mkPN (foldP p)))] [] trivial ?_
      clear G; intro ρ a w G
      refine th_n ?_
      refine wp_seq ?_
      refine wp_seq ?_
      refine rs0s G [(1, .ptr 3 0), (2, bA false), (4, .ptr 7 0), (5, bA (progB p)), (7, .ptr 11 0), (10, iA (1 + mkPN (foldP p))), (11, iA (1 + mkPN (foldP p))), (69, bA (decide (1 + mkPN (foldP p) < 0)))] ?_
      clear G; intro ρ a w G
      refine th_n ?_
      cases h4 : (decide ((1 : Int) + mkPN (foldP p) < (0 : Int)))
      ·
       have q4 : ¬ (1 + mkPN (foldP p) < 0) := of_decide_eq_false h4
       refine rF G (decide ((1 : Int) + mkPN (foldP p) < (0 : Int))) (by assumption) ?_
       refine wp_skip ?_
       refine th_n ?_
       refine wp_seq ?_
       refine wp_seq ?_
       refine rs0s G [(1, .ptr 3 0), (2, bA false), (4, .ptr 7 0), (5, bA (progB p)), (7, .ptr 11 0), (10, iA (1 + mkPN (foldP p))), (11, iA (1 + mkPN (foldP p))), (72, bA (1 + mkPN (foldP p) != 1 + mkPN (foldP p)))] ?_
       clear G; intro ρ a w G
       refine th_n ?_
       refine rF G ((1 : Int) + mkPN (foldP p) != (1 : Int) + mkPN (foldP p)) (by simp [h0, h1, q1, h2, q2, h3, h4]) ?_
       refine wp_skip ?_
       refine th_n ?_
       refine wp_seq ?_
       refine rs1 (dk := dkP) G ⟨[(1, _, [0, 1, 2]), (2, _, [20, 21, 22])], [], []⟩ (calls_cons (hto (by exact fits (by assumption))) (calls_cons (Ctr.lend (him (by exact fits (by assumption))) [.row 3, .row 3, .tree]) calls_nil)) trivial [0, 1, 2, 4, 5, 6, 7, 8, 9, 10, 11, 28, 29, 30, 60] [dI p.vars, dI p.arrays, dT p.body, dI (foldP p).vars, dI (foldP p).arrays, dT (foldP p).body, .box (pL 3), .row 3 (D.ints (mkP (foldP p) 1).vars), .row 3 (D.ints (mkP (foldP p) 1).arrays), .tree (D.stmts (mkP (foldP p) 1).body), .box [.ref 7, .ref 8, .tref 9], .row 3 (D.ints (foldP p).vars), .row 3 (D.ints (foldP p).arrays), .tree (D.stmts (foldP p).body), .box [.ref 11, .ref 12, .tref 13]] [(2, bA false), (4, .ptr 6 0), (5, bA (progB p)), (7, .ptr 10 0), (10, iA (1 + mkPN (foldP p))), (11, iA (1 + mkPN (foldP p))), (12, .ptr 14 0), (13, bA (progB p))] [] trivial ?_
       clear G; intro ρ a w G
       refine th_n ?_
       refine wp_seq ?_
       refine wp_seq ?_
       refine rs1 (dk := dkP) G ⟨[(2, _, [11, 12, 13, 3, 4, 5])], [(!(foldP p).same (foldP p), false)], [(5, 0), (6, 0), (7, 0), (1008, 0)]⟩ (calls_cons (Ctr.lend (c_eqProgram (foldP p) (foldP p)) [.row 3, .row 3, .tree]) calls_nil) ⟨(by assumption), trivial⟩ [0, 1, 2, 7, 8, 9, 10] [dI p.vars, dI p.arrays, dT p.body, .row 3 (D.ints (mkP (foldP p) 1).vars), .row 3 (D.ints (mkP (foldP p) 1).arrays), .tree (D.stmts (mkP (foldP p) 1).body), .box [.ref 3, .ref 4, .tref 5]] [(2, bA false), (7, .ptr 6 0), (10, iA (1 + mkPN (foldP p))), (11, iA (1 + mkPN (foldP p))), (87, .v (.bool !progB p == progB p))] [] trivial ?_
       clear G; intro ρ a w G
       refine th_n ?_
       refine rF G (!progB p == progB p) (by simp [h0, h1, q1, h2, q2, h3, h4]) ?_
       refine wp_skip ?_
       refine th_n ?_
       refine wp_seq ?_
       refine rs0s G [(2, bA false), (7, .ptr 6 0), (10, iA (1 + mkPN (foldP p))), (11, iA 1)] ?_
       clear G; intro ρ a w G
       refine th_n ?_
       refine wp_seq ?_
       refine rs1 (dk := dkP) G ⟨[(2, _, [3, 4, 5])], [], []⟩ (calls_cons (Ctr.lend (c_heldProgram (foldP p) (1) (by exact mark_fits (Nat.le_trans (foldP_sz p) (fits (by assumption))) (Nat.le_refl _))) [.row 3, .row 3, .tree]) calls_nil) trivial [0, 1, 2] [dI p.vars, dI p.arrays, dT p.body] [(2, bA false), (10, iA (1 + mkPN (foldP p))), (11, iA ((↑1 : Int) + mkPN (foldP p)))] [] trivial ?_
       clear G; intro ρ a w G
       refine th_n ?_
       refine wp_seq ?_
       refine wp_seq ?_
       refine rs0s G [(2, bA false), (10, iA (1 + mkPN (foldP p))), (11, iA (1 + mkPN (foldP p))), (92, bA (decide (1 + mkPN (foldP p) < 0)))] ?_
       clear G; intro ρ a w G
       refine th_n ?_
       refine rF G (decide ((1 : Int) + mkPN (foldP p) < (0 : Int))) (by assumption) ?_
       refine wp_skip ?_
       refine th_n ?_
       refine wp_seq ?_
       refine wp_seq ?_
       refine rs0s G [(2, bA false), (95, bA (1 + mkPN (foldP p) != 1 + mkPN (foldP p)))] ?_
       clear G; intro ρ a w G
       refine th_n ?_
       refine rF G ((1 : Int) + mkPN (foldP p) != (1 : Int) + mkPN (foldP p)) (by simp [h0, h1, q1, h2, q2, h3, h4]) ?_
       refine wp_skip ?_
       refine th_n ?_
       refine wp_seq ?_
       refine rs0s G [(2, bA true)] ?_
       clear G; intro ρ a w G
       refine th_n ?_
       refine wp_ret ?_
       exact rx_ret (v := bA true) G [0, 1, 2] (by kernel_rfl) (by kernel_rfl) (by kernel_rfl) (by kernel_rfl)
      ·
       have q4 : 1 + mkPN (foldP p) < 0 := of_decide_eq_true h4
       refine rT G (decide ((1 : Int) + mkPN (foldP p) < (0 : Int))) (by assumption) ?_
       refine wp_seq ?_
       refine rs0s G [(1, .ptr 3 0), (2, bA false), (4, .ptr 7 0), (5, bA (progB p)), (7, .ptr 11 0), (10, iA (1 + mkPN (foldP p))), (11, iA (1 + mkPN (foldP p)))] ?_
       clear G; intro ρ a w G
       refine th_n ?_
       refine wp_ret ?_
       refine th_r ?_
       exact rx_ret (v := bA false) G [0, 1, 2] (by kernel_rfl) (by kernel_rfl) (by kernel_rfl) (by have e1 : (true : Bool) = (false) := (by exact absurd (by with_reducible assumption) (mk_pos (foldP p))); first | (rw [e1]; done) | (rw [e1]; rfl) | (simp only [e1]; done) | (simp only [e1]; rfl))
     ·
      have q3 : 1 + mkPN p < 0 := of_decide_eq_true h3
      refine rs1s G ⟨[], [(decide ((1 : Int) + mkPN p < (0 : Int)), true), (true, true)], [(3, 0), (4, 0), (5, 0), (6, 0), (1007, 0), (9, 1), (10, 1), (11, 1), (1012, 1)]⟩ calls_nil ⟨(by assumption), (by kernel_rfl), trivial⟩ [(1, .ptr 3 0), (2, bA false), (4, .ptr 7 0), (5, bA (progB p)), (7, .ptr 11 0), (61, bA true)] [] trivial ?_
      clear G; intro ρ a w G
      refine th_n ?_
      refine rT G (true) (by kernel_rfl) ?_
      refine wp_seq ?_
      refine rs0s G [(1, .ptr 3 0), (2, bA false), (4, .ptr 7 0), (5, bA (progB p)), (7, .ptr 11 0)] ?_
      clear G; intro ρ a w G
      refine th_n ?_
      refine wp_ret ?_
      refine th_r ?_
      exact rx_ret (v := bA false) G [0, 1, 2] (by kernel_rfl) (by kernel_rfl) (by kernel_rfl) (by have e1 : (true : Bool) = (false) := (by exact absurd (by with_reducible assumption) (mk_pos p)); first | (rw [e1]; done) | (rw [e1]; rfl) | (simp only [e1]; done) | (simp only [e1]; rfl))
    ·
     have q2 : (p.same p) = false := (fun hq => (hq)) (Eq.mp (Bool.not_eq_true' _) h2)
     refine rT G (!p.same p) (by assumption) ?_
     refine wp_seq ?_
     refine rs0s G [(1, .ptr 3 0), (2, bA false), (4, .ptr 7 0), (5, bA (progB p)), (6, .ptr 11 0), (7, .ptr 15 0), (8, bA (progB p))] ?_
     clear G; intro ρ a w G
     refine th_n ?_
     refine wp_ret ?_
     refine th_r ?_
     exact rx_ret (v := bA false) G [0, 1, 2] (by kernel_rfl) (by kernel_rfl) (by kernel_rfl) (by have e1 : (true : Bool) = (false) := (by exact absurd (by with_reducible assumption) (same_no p)); first | (rw [e1]; done) | (rw [e1]; rfl) | (simp only [e1]; done) | (simp only [e1]; rfl))
   ·
    have q1 : ((foldP p).same (foldP p)) = false := (fun hq => (hq)) (Eq.mp (Bool.not_eq_true' _) h1)
    refine rs1s G ⟨[(2, _, [12, 13, 14, 4, 5, 6])], [(!(foldP p).same (foldP p), true)], [(5, 0), (6, 0), (7, 0), (1008, 0)]⟩ (calls_cons (Ctr.lend (c_eqProgram (foldP p) (foldP p)) [.row 3, .row 3, .tree]) calls_nil) ⟨(by assumption), trivial⟩ [(1, .ptr 3 0), (2, bA false), (4, .ptr 7 0), (5, bA (progB p)), (6, .ptr 11 0), (7, .ptr 15 0), (8, bA (progB p)), (40, bA true)] [] trivial ?_
    clear G; intro ρ a w G
    refine th_n ?_
    refine rT G (true) (by kernel_rfl) ?_
    refine wp_seq ?_
    refine rs0s G [(1, .ptr 3 0), (2, bA false), (4, .ptr 7 0), (5, bA (progB p)), (6, .ptr 11 0), (7, .ptr 15 0), (8, bA (progB p))] ?_
    clear G; intro ρ a w G
    refine th_n ?_
    refine wp_ret ?_
    refine th_r ?_
    exact rx_ret (v := bA false) G [0, 1, 2] (by kernel_rfl) (by kernel_rfl) (by kernel_rfl) (by have e1 : (true : Bool) = (false) := (by exact absurd (by with_reducible assumption) (same_no (foldP p))); first | (rw [e1]; done) | (rw [e1]; rfl) | (simp only [e1]; done) | (simp only [e1]; rfl))
  ·
   have q0 : szRes 1048576 p.size < 0 := of_decide_eq_true h0
   refine rT G (decide (szRes (1048576 : Int) p.size < (0 : Int))) (by assumption) ?_
   refine wp_seq ?_
   refine rs0s G [(1, .ptr 3 0), (2, bA true)] ?_
   clear G; intro ρ a w G
   refine th_n ?_
   refine wp_ret ?_
   refine th_r ?_
   exact rx_ret (v := bA true) G [0, 1, 2] (by kernel_rfl) (by kernel_rfl) (by kernel_rfl) (by kernel_rfl)

end Go.Proofs.Ytgpkdfefgcpbiaa.exFoldProgram

namespace Go.Proofs.Ytgpkdfefgcpbiaa.exFoldProgram
set_option linter.unusedVariables false
set_option linter.unusedSimpArgs false
open Go Go.RowKit Go.Proofs.Ytgpkdfefgcpbiaa

theorem walk (u : Value) (p : LProg) (w : World) (hp : ProgV w (fun _ => True) u p) : Calls Try.prog 13 #[u] w fun e w' => e = .returned (.bool true) ∧ Below w.heap.size w w' := prog_law (s_law p (c_FoldProgram p) (c_iFoldProgram p)) u w hp

end Go.Proofs.Ytgpkdfefgcpbiaa.exFoldProgram

namespace Go.Proofs.Ytgpkdfefgcpbiaa
set_option linter.unusedVariables false
set_option linter.unusedSimpArgs false
open Go Go.RowKit Go.ChangeShapes Go.WideShapes Go.Deep
section
variable {H : Type} {enc : TypeId × Value → H} {W : World}

/-- A slice that reads as data: its row of cells; each element reads, with less fuel. -/
theorem row_of_trod_lt {t e : TypeId} {fuel : Nat} {v : Value} {x : DataW H × List MemPlace} {sz : Nat} (ht : Try.prog.underlying t = some (.slice e)) (hc : Try.prog.cellsOf e = sz) (hsz : 0 < sz)
    (h : DataW.trod enc Try.prog W 0 (fun _ => true) true fuel t [v] = some x) :
    ∃ (n m : Nat) (C : Nat → List Value), Row W v n sz ((List.range n).flatMap C) ∧ (∀ i, (C i).length = sz) ∧ ∀ i, i < n → m < fuel ∧ ∃ y, DataW.trod enc Try.prog W 0 (fun _ => true) true m e (C i) = some y := by
  rcases DataW.trod_slice ht h with ⟨hcs, _⟩ | ⟨a, len, cap, elems, rest, k, hfu, hcs, _, hb, hl, hm, hlen, hel, _, _⟩
  · cases hcs
    exact ⟨0, 0, fun _ => List.replicate sz undef, Row.nil _ _, by simp, fun i hi => by omega⟩
  · cases hcs
    rw [hc] at hel
    obtain ⟨C, hC⟩ := choose_lt (α := List Value) (n := len) (p := fun i cs => cs.length = sz ∧ (∀ j, j < sz → W.cell? (a.add (i * sz + j)) = cs[j]?) ∧ ∃ y, DataW.trod enc Try.prog W 0 (fun _ => true) true k e cs = some y) (fun i hi => by
      have h0 := hel i hi
      rw [List.getElem?_eq_getElem (by omega)] at h0
      obtain ⟨cs', h1, h2⟩ := Option.bind_eq_some_iff.1 h0
      obtain ⟨_, hlen, hcell⟩ := World.cells?_some h1
      exact ⟨cs', hlen, fun j hj => by rw [← add_add]; exact hcell j hj, _, h2⟩)
    let C' : Nat → List Value := fun i => if i < len then C i else List.replicate sz undef
    have hC' : ∀ i, (C' i).length = sz := fun i => by
      by_cases hi : i < len
      · simp only [C', if_pos hi]; exact (hC i hi).1
      · simp [C', if_neg hi]
    refine ⟨len, k, C', ⟨flat_len hC' len, some a, cap, rfl, hl, hm, fun hn => ?_⟩, hC', fun i hi => ?_⟩
    · obtain ⟨b, off, spot⟩ := a
      have h00 := (hC 0 hn).2.1 0 hsz
      have hlen0 := (hC 0 hn).1
      rw [List.getElem?_eq_getElem (by omega)] at h00
      have hs : spot = none := by
        simpa [Addr.add] using World.cell?_spot h00
      subst hs
      have hb : b < W.heap.size := by simpa [Addr.add] using World.block_lt_of_cell? W _ h00
      refine ⟨b, off, rfl, hb, fun j u hj => ?_⟩
      have hjl : j < len * sz := by have := (List.getElem?_eq_some_iff.1 hj).1; rw [flat_len hC'] at this; exact this
      have hi : j / sz < len := Nat.div_lt_of_lt_mul (by rw [Nat.mul_comm]; exact hjl)
      have hr : j % sz < sz := Nat.mod_lt _ hsz
      have hjj : j / sz * sz + j % sz = j := Nat.div_add_mod' j sz
      have hg := flat_get hC' len (j / sz) (j % sz) hi hr
      rw [hjj, hj] at hg
      have hcc := (hC _ hi).2.1 _ hr
      simp only [C', if_pos hi] at hg
      rw [hjj, ← hg] at hcc
      have hadd : (⟨b, off, none⟩ : Addr).add j = ⟨b, off + j, none⟩ := by unfold Addr.add; split <;> simp_all
      rw [hadd] at hcc
      exact hcc
    · obtain ⟨y, hy⟩ := (hC i hi).2.2
      exact ⟨by omega, y, by simp only [C', if_pos hi]; exact hy⟩

instance : Inhabited LExpr := ⟨⟨0, 0, []⟩⟩
instance : Inhabited LStmt := ⟨⟨0, 0, ⟨0, 0, []⟩, ⟨0, 0, []⟩, 0, [], []⟩⟩
theorem exprsC_range {w : World} {φ : Nat → Prop} (C : Nat → List Value) (g : Nat → LExpr) : ∀ l : List Nat, (∀ i ∈ l, ExprC w φ (g i) (C i)) → ExprsC w φ (l.map g) (l.flatMap C)
  | [], _ => rfl
  | a :: r, h => ⟨C a, r.flatMap C, rfl, h a List.mem_cons_self, exprsC_range C g r fun i hi => h i (List.mem_cons_of_mem _ hi)⟩
theorem stmtsC_range {w : World} {φ : Nat → Prop} (C : Nat → List Value) (g : Nat → LStmt) : ∀ l : List Nat, (∀ i ∈ l, StmtC w φ (g i) (C i)) → StmtsC w φ (l.map g) (l.flatMap C)
  | [], _ => rfl
  | a :: r, h => ⟨C a, r.flatMap C, rfl, h a List.mem_cons_self, stmtsC_range C g r fun i hi => h i (List.mem_cons_of_mem _ hi)⟩

set_option maxRecDepth 100000 in
theorem expr_of_trod : ∀ (fuel : Nat) (cs : List Value) (x : DataW H × List MemPlace), DataW.trod enc Try.prog W 0 (fun _ => true) true fuel 37 cs = some x → ∃ e, ExprC W (fun _ => True) e cs := by
  intro fuel
  induction fuel using Nat.strongRecOn with
  | ind fuel ih =>
    intro cs x h
    obtain ⟨ys, k, hfu, _, hl, hys, hf⟩ := DataW.trod_struct Try.underlying37 h
    rw [show Try.prog.cellsOf 37 = 3 from by kernel_rfl] at hl
    match cs, hl with
    | [c0, c1, c2], _ =>
      have h0 := hf 0 _ rfl
      have h1 := hf 1 _ rfl
      have h2 := hf 2 _ rfl
      rw [List.getElem?_eq_getElem (by rw [hys]; decide)] at h0 h1 h2
      have e0 := DataW.trod_int Try.underlying3 ((show Try.prog.cellsOf 3 = 1 from by kernel_rfl) ▸ h0)
      have e1 := DataW.trod_int Try.underlying3 ((show Try.prog.cellsOf 3 = 1 from by kernel_rfl) ▸ h1)
      have e2 := row_of_trod_lt (v := c2) Try.underlying35 (sz := 3) (by kernel_rfl) (by omega) ((show Try.prog.cellsOf 35 = 1 from by kernel_rfl) ▸ h2)
      obtain ⟨b0, hb0, _⟩ := e0
      obtain ⟨b1, hb1, _⟩ := e1
      obtain ⟨n, m, C, hr, hC, hx⟩ := e2
      simp at hb0 hb1
      obtain ⟨g, hg⟩ := choose_lt (α := LExpr) (n := n) (p := fun i e => ExprC W (fun _ => True) e (C i)) (fun i hi => by
        obtain ⟨hm, y, hy⟩ := hx i hi
        exact ih m (by omega) _ _ hy)
      refine ⟨⟨b0, b1, (List.range n).map g⟩, c2, _, by rw [hb0, hb1], ?_, exprsC_range C g (List.range n) fun i hi => hg i (by simpa using hi)⟩
      rw [List.length_map, List.length_range]
      exact hr.rowF fun _ _ => trivial

set_option maxRecDepth 100000 in
theorem stmt_of_trod : ∀ (fuel : Nat) (cs : List Value) (x : DataW H × List MemPlace), DataW.trod enc Try.prog W 0 (fun _ => true) true fuel 139 cs = some x → ∃ s, StmtC W (fun _ => True) s cs := by
  intro fuel
  induction fuel using Nat.strongRecOn with
  | ind fuel ih =>
    intro cs x h
    obtain ⟨ys, k, hfu, _, hl, hys, hf⟩ := DataW.trod_struct Try.underlying139 h
    rw [show Try.prog.cellsOf 139 = 11 from by kernel_rfl] at hl
    match cs, hl with
    | [c0, c1, c2, c3, c4, c5, c6, c7, c8, c9, c10], _ =>
      have h0 := hf 0 _ rfl
      have h1 := hf 1 _ rfl
      have h2 := hf 2 _ rfl
      have h3 := hf 3 _ rfl
      have h4 := hf 4 _ rfl
      have h5 := hf 5 _ rfl
      have h6 := hf 6 _ rfl
      rw [List.getElem?_eq_getElem (by rw [hys]; decide)] at h0 h1 h2 h3 h4 h5 h6
      obtain ⟨b0, hb0, _⟩ := DataW.trod_int Try.underlying3 ((show Try.prog.cellsOf 3 = 1 from by kernel_rfl) ▸ h0)
      obtain ⟨b1, hb1, _⟩ := DataW.trod_int Try.underlying3 ((show Try.prog.cellsOf 3 = 1 from by kernel_rfl) ▸ h1)
      obtain ⟨b4, hb4, _⟩ := DataW.trod_int Try.underlying3 ((show Try.prog.cellsOf 3 = 1 from by kernel_rfl) ▸ h4)
      obtain ⟨ie, hie⟩ := expr_of_trod k [c2, c3, c4] _ ((show Try.prog.cellsOf 37 = 3 from by kernel_rfl) ▸ h2)
      obtain ⟨ve, hve⟩ := expr_of_trod k [c5, c6, c7] _ ((show Try.prog.cellsOf 37 = 3 from by kernel_rfl) ▸ h3)
      obtain ⟨n, m, C, hr, hC, hx⟩ := row_of_trod_lt (v := c9) Try.underlying23 (sz := 11) (by kernel_rfl) (by omega) ((show Try.prog.cellsOf 23 = 1 from by kernel_rfl) ▸ h5)
      obtain ⟨n', m', C', hr', hC', hx'⟩ := row_of_trod_lt (v := c10) Try.underlying23 (sz := 11) (by kernel_rfl) (by omega) ((show Try.prog.cellsOf 23 = 1 from by kernel_rfl) ▸ h6)
      simp at hb0 hb1 hb4
      obtain ⟨g, hg⟩ := choose_lt (α := LStmt) (n := n) (p := fun i e => StmtC W (fun _ => True) e (C i)) (fun i hi => by
        obtain ⟨hm, y, hy⟩ := hx i hi
        exact ih m (by omega) _ _ hy)
      obtain ⟨g', hg'⟩ := choose_lt (α := LStmt) (n := n') (p := fun i e => StmtC W (fun _ => True) e (C' i)) (fun i hi => by
        obtain ⟨hm, y, hy⟩ := hx' i hi
        exact ih m' (by omega) _ _ hy)
      obtain ⟨iv, hi1, hi2⟩ := (ExprC.iff _ _).1 hie
      obtain ⟨vv, hv1, hv2⟩ := (ExprC.iff _ _).1 hve
      simp at hi1 hv1
      obtain ⟨i1, i2, i3⟩ := hi1
      obtain ⟨v1, v2, v3⟩ := hv1
      refine ⟨⟨b0, b1, ie, ve, b4, (List.range n).map g, (List.range n').map g'⟩, iv, vv, c9, c10, _, _, by rw [hb0, hb1, hb4, i1, i2, i3, v1, v2, v3], hi2, hv2, ?_, stmtsC_range C g (List.range n) fun i hi => hg i (by simpa using hi), ?_, stmtsC_range C' g' (List.range n') fun i hi => hg' i (by simpa using hi)⟩
      · rw [List.length_map, List.length_range]
        exact hr.rowF fun _ _ => trivial
      · rw [List.length_map, List.length_range]
        exact hr'.rowF fun _ _ => trivial

theorem block_of_trod {fuel : Nat} {v : Value} {x : DataW H × List MemPlace} (h : DataW.trod enc Try.prog W 0 (fun _ => true) true fuel 23 [v] = some x) : ∃ ss, BlockV W (fun _ => True) v ss := by
  obtain ⟨n, m, C, hr, hC, hx⟩ := row_of_trod_lt Try.underlying23 (sz := 11) (by kernel_rfl) (by omega) h
  obtain ⟨g, hg⟩ := choose_lt (α := LStmt) (n := n) (p := fun i e => StmtC W (fun _ => True) e (C i)) (fun i hi => by
    obtain ⟨hm, y, hy⟩ := hx i hi
    exact stmt_of_trod m _ _ hy)
  refine ⟨(List.range n).map g, _, ?_, stmtsC_range C g (List.range n) fun i hi => hg i (by simpa using hi)⟩
  rw [List.length_map, List.length_range]
  exact hr.rowF fun _ _ => trivial

set_option maxRecDepth 100000 in
theorem prog_of_trod {r : Reach} {b0 : Nat} {v : Value} {d : DataW H} {p : List MemPlace} (hv : Value.okWide Try.prog W r b0 25 v)
    (h : DataW.Trod enc Try.prog W 0 (fun _ => true) true 25 v d p) : ∃ c : LProg, ProgV W (fun _ => True) v c := by
  obtain ⟨v0, v1, v2, y0, y1, y2, n, rfl, -, -, h0, h1, h2⟩ := Joins.open_agg3 Try.underlying25 (by kernel_rfl) (by kernel_rfl) hv h
  obtain ⟨l0, r0⟩ := ints_of_trod Try.underlying22 h0
  obtain ⟨l1, r1⟩ := ints_of_trod Try.underlying22 h1
  obtain ⟨l2, r2⟩ := block_of_trod h2
  exact ⟨⟨l0, l1, l2⟩, _, _, _, rfl, r0.rowF fun _ _ => trivial, r1.rowF fun _ _ => trivial, r2⟩

end
end Go.Proofs.Ytgpkdfefgcpbiaa
