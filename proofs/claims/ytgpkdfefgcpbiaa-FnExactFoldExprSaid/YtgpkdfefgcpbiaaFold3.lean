/-
  One node simplified, the reference's l8Node. Conditions: the node's operands are owned trees of as many operands as their kinds have.
-/
import Derived.Test.YtgpkdfefgcpbiaaFold2
import Derived.Test.YtgpkdfefgcpbiaaMarkS
namespace Go.Proofs.Ytgpkdfefgcpbiaa
set_option linter.unusedVariables false
set_option linter.unusedSimpArgs false
open Go Go.RowKit

theorem KidsO.two {w : World} {S : Nat → Prop} {a b : LExpr} {v : Value} (h : KidsO w v [a, b] S) : ∃ g off cap av ac bv bc, v = .slice (some ⟨g, off, none⟩) 2 cap ∧ g < w.heap.size ∧ S g ∧
    (w.cell? ⟨g, off, none⟩ = some (.int .i64 a.kind) ∧ w.cell? ⟨g, off + 1, none⟩ = some (.int .i64 a.value) ∧ w.cell? ⟨g, off + 2, none⟩ = some (.slice av a.kids.length ac) ∧
      w.cell? ⟨g, off + 3, none⟩ = some (.int .i64 b.kind) ∧ w.cell? ⟨g, off + 4, none⟩ = some (.int .i64 b.value) ∧ w.cell? ⟨g, off + 5, none⟩ = some (.slice bv b.kids.length bc)) ∧
    KidsO w (.slice av a.kids.length ac) a.kids S ∧ KidsO w (.slice bv b.kids.length bc) b.kids S := by
  obtain ⟨ad, cap, rfl, -, -, -, hc⟩ := h.open
  obtain ⟨g, off, kv, rfl, hg, hs, c0, c1, c2, k0⟩ := hc 0 (by simp)
  obtain ⟨g', off', kv', he, -, -, c3, c4, c5, k1⟩ := hc 1 (by simp)
  cases he
  obtain ⟨av, ac, rfl, -⟩ := k0.open
  obtain ⟨bv, bc, rfl, -⟩ := k1.open
  exact ⟨g, off, cap, av, ac, bv, bc, rfl, hg, hs, ⟨c0, c1, c2, c3, c4, c5⟩, k0, k1⟩
theorem KidsO.three {w : World} {S : Nat → Prop} {a b c : LExpr} {v : Value} (h : KidsO w v [a, b, c] S) : ∃ g off cap av ac bv bc cv cc, v = .slice (some ⟨g, off, none⟩) 3 cap ∧ g < w.heap.size ∧ S g ∧
    (w.cell? ⟨g, off, none⟩ = some (.int .i64 a.kind) ∧ w.cell? ⟨g, off + 1, none⟩ = some (.int .i64 a.value) ∧ w.cell? ⟨g, off + 2, none⟩ = some (.slice av a.kids.length ac) ∧
      w.cell? ⟨g, off + 3, none⟩ = some (.int .i64 b.kind) ∧ w.cell? ⟨g, off + 4, none⟩ = some (.int .i64 b.value) ∧ w.cell? ⟨g, off + 5, none⟩ = some (.slice bv b.kids.length bc) ∧
      w.cell? ⟨g, off + 6, none⟩ = some (.int .i64 c.kind) ∧ w.cell? ⟨g, off + 7, none⟩ = some (.int .i64 c.value) ∧ w.cell? ⟨g, off + 8, none⟩ = some (.slice cv c.kids.length cc)) ∧
    KidsO w (.slice av a.kids.length ac) a.kids S ∧ KidsO w (.slice bv b.kids.length bc) b.kids S ∧ KidsO w (.slice cv c.kids.length cc) c.kids S := by
  obtain ⟨ad, cap, rfl, -, -, -, hc⟩ := h.open
  obtain ⟨g, off, kv, rfl, hg, hs, c0, c1, c2, k0⟩ := hc 0 (by simp)
  obtain ⟨g', off', kv', he, -, -, c3, c4, c5, k1⟩ := hc 1 (by simp)
  cases he
  obtain ⟨g', off', kv'', he, -, -, c6, c7, c8, k2⟩ := hc 2 (by simp)
  cases he
  obtain ⟨av, ac, rfl, -⟩ := k0.open
  obtain ⟨bv, bc, rfl, -⟩ := k1.open
  obtain ⟨cv, cc, rfl, -⟩ := k2.open
  exact ⟨g, off, cap, av, ac, bv, bc, cv, cc, rfl, hg, hs, ⟨c0, c1, c2, c3, c4, c5, c6, c7, c8⟩, k0, k1, k2⟩

/-- What a node gives, in memory: from its owned operands. -/
def NodeQ (w : World) (S : Nat → Prop) (e : LExpr) (x : Ending) (w' : World) : Prop :=
  ∃ a c, x = .returned (.agg #[.int .i64 e.kind, .int .i64 e.value, .slice a e.kids.length c]) ∧ KidsO w' (.slice a e.kids.length c) e.kids S ∧ Below w.heap.size w w'

set_option maxRecDepth 100000 in
set_option maxHeartbeats 16000000 in
theorem spec_l8Node2 (k n : Int) (a b : LExpr) (v : Value) (S : Nat → Prop) (w : World) (h : KidsO w v [a, b] S) (h4 : 4 ≤ k) (h10 : k ≤ 10) (ha : a.kind = 1 → 0 ≤ a.value ∧ a.value ≤ 255) (hb : b.kind = 1 → 0 ≤ b.value ∧ b.value ≤ 255) :
    Calls Try.prog 137 #[.agg #[.int .i64 k, .int .i64 n, v]] w fun x w' => NodeQ w S (nodeE ⟨k, n, [a, b]⟩) x w' := by
  have hh := h
  obtain ⟨g, off, cap, av, ac, bv, bc, rfl, hg, hs, hcell, k0, k1⟩ := h.two
  have HCELL : Hid (∀ W, Below w.heap.size w W → W.cell? ⟨g, off, none⟩ = some (.int .i64 a.kind) ∧ W.cell? ⟨g, off + 1, none⟩ = some (.int .i64 a.value) ∧ W.cell? ⟨g, off + 2, none⟩ = some (.slice av a.kids.length ac) ∧
      W.cell? ⟨g, off + 3, none⟩ = some (.int .i64 b.kind) ∧ W.cell? ⟨g, off + 4, none⟩ = some (.int .i64 b.value) ∧ W.cell? ⟨g, off + 5, none⟩ = some (.slice bv b.kids.length bc)) := fun W hW => by
    have hc := fun o => (bcell hW).1 g o hg
    simp only [hc]; exact hcell
  have HKK : Hid (∀ W, Below w.heap.size w W → KidsO W (.slice av a.kids.length ac) a.kids S ∧ KidsO W (.slice bv b.kids.length bc) b.kids S ∧ KidsO W (.slice (some ⟨g, off, none⟩) 2 cap) [a, b] S) := fun W hW =>
    ⟨KidsO.same k0 fun b _ hl => hW.block b hl, KidsO.same k1 fun b _ hl => hW.block b hl, KidsO.same hh fun b _ hl => hW.block b hl⟩
  clear hcell k0 k1 h hh hs
  have p11 : (k == 11) = false := by simp; omega
  have p3 : ¬ (k < 4) := by omega
  obtain ⟨W, hW, M⟩ : ∃ W, W = (w.alloc (.cells #[.int .i64 k, .int .i64 n, .slice (some ⟨g, off, none⟩) 2 cap] 41)).alloc (.cells #[.int .i64 0, .int .i64 0, .slice none 0 0] 41) ∧ Mem (fun _ => True) (fun _ => True) w W [.box w.heap.size [.int .i64 k, .int .i64 n, .slice (some ⟨g, off, none⟩) 2 cap], .box (w.heap.size + 1) [.int .i64 0, .int .i64 0, .slice none 0 0]] :=
    ⟨_, rfl, ((Mem.start fun _ _ => trivial).box _ _).box' _ _ (by simp)⟩
  by_cases qa : a.kind = 1
  · have pa : (a.kind == 1) = true := by simp [qa]
    by_cases qb : b.kind = 1
    · have pb : (b.kind == 1) = true := by simp [qb]
      have HN : Hid (nodeE ⟨k, n, [a, b]⟩ = ⟨1, binV k a.value b.value, []⟩) := by rw [Hid, node2, if_pos ⟨qa, qb⟩]; rfl
      have HA := ha qa
      have HB := hb qb
      clear qa qb ha hb
      have y0 := M.c 0 0 rfl rfl
      have y1 := M.c 0 1 rfl rfl
      have y2 := M.c 0 2 rfl rfl
      have d0 := M.c 1 0 rfl rfl
      have d1 := M.c 1 1 rfl rfl
      have d2 := M.c 1 2 rfl rfl
      have ff := M.f 1 rfl
      obtain ⟨c0, c1, c2, c3, c4, c5⟩ := HCELL.out _ (M.below fun _ _ => trivial)
      have HM := show Hid _ from M
      rw [hW] at y0 y1 y2 d0 d1 d2 ff c0 c1 c2 c3 c4 c5
      clear M
      go_enter Try.func137, Try.ntmps137
      go_wp2_with fail
      rw [← hW]
      clear hW
      have M := HM.out
      clear HM y0 y1 y2 d0 d1 d2 ff c0 c1 c2 c3 c4 c5
      have y0 := M.c 0 0 rfl rfl
      have y2 := M.c 0 2 rfl rfl
      have d0 := M.c 1 0 rfl rfl
      have d1 := M.c 1 1 rfl rfl
      have d2 := M.c 1 2 rfl rfl
      have ff := M.f 1 rfl
      obtain ⟨c0, c1, c2, c3, c4, c5⟩ := HCELL.out _ (M.below fun _ _ => trivial)
      have z0 := fun X => ext_cell y0 X
      have z2 := fun X => ext_cell y2 X
      have z3 := fun X => ext_cell d0 X
      have z4 := fun X => ext_cell d1 X
      have z5 := fun X => ext_cell d2 X
      have z6 := fun X => ext_frozen (M.lt (r := .box (w.heap.size + 1) [.int .i64 0, .int .i64 0, .slice none 0 0]) (List.mem_cons_of_mem _ List.mem_cons_self) rfl) (ff 0) X
      have z7 := fun X => ext_frozen (M.lt (r := .box (w.heap.size + 1) [.int .i64 0, .int .i64 0, .slice none 0 0]) (List.mem_cons_of_mem _ List.mem_cons_self) rfl) (ff 1) X
      have z8 := fun X => ext_frozen (M.lt (r := .box (w.heap.size + 1) [.int .i64 0, .int .i64 0, .slice none 0 0]) (List.mem_cons_of_mem _ List.mem_cons_self) rfl) (ff 2) X
      have e0 := fun X => ext_cell c0 X
      have e1 := fun X => ext_cell c1 X
      have e3 := fun X => ext_cell c3 X
      have e4 := fun X => ext_cell c4 X
      have HC1 : Hid (∀ X, Calls Try.prog 162 #[.int .i64 k, .int .i64 a.value, .int .i64 b.value] (W.ext X) fun x w'' => x = .returned (.int .i64 (binV k a.value b.value)) ∧ ∃ Y, w'' = W.ext Y) := fun X =>
        Calls.ext_of' ((spec_l3Bin k a.value b.value _ HA.1 HA.2 HB.1 HB.2).mono fun x w' h => ⟨h.1, h.2 ▸ Below.refl _ _⟩)
      have HC2 : Hid (∀ X, Calls Try.prog 176 #[.int .i64 (binV k a.value b.value)] (W.ext X) fun x w'' => x = .returned (.agg #[.int .i64 1, .int .i64 (binV k a.value b.value), .slice none 0 0]) ∧ ∃ Y, w'' = W.ext Y) := fun X =>
        Calls.ext_of' (spec_l5Const _ _)
      have HM := show Hid _ from M
      clear M y0 y2 d0 d1 d2 ff c0 c1 c2 c3 c4 c5 HA HB
      refine wp_region_qext 14 _ rfl (by kernel_rfl) (by kernel_rfl) ?_
      simp only [List.set_cons_succ, List.set_cons_zero, idle]
      repeat (any_goals (first | go_big_quiet_step (((first | (go_at_call 162; exact HC1.out _) | (go_at_call 176; exact HC2.out _)))) | quiet_step (((first | (go_at_call 162; exact HC1.out _) | (go_at_call 176; exact HC2.out _))))))
      refine wpQuiet_nil ?_
      rintro _ ⟨X, rfl⟩
      replace HM := show Hid _ from (((HM.out.call (ext_below W X)).set 1 rfl 0 (.int .i64 1)).set 1 rfl 1 (.int .i64 (binV k a.value b.value))).set 1 rfl 2 (.slice none 0 0)
      go_wp2_with fail
      have M2 := HM.out
      have r0 : World.cell? _ ⟨w.heap.size + 1, 0, none⟩ = some (.int .i64 1) := M2.c 1 0 rfl rfl
      have r1 : World.cell? _ ⟨w.heap.size + 1, 1, none⟩ = some (.int .i64 (binV k a.value b.value)) := M2.c 1 1 rfl rfl
      have r2 : World.cell? _ ⟨w.heap.size + 1, 2, none⟩ = some (.slice none 0 0) := M2.c 1 2 rfl rfl
      refine bodyPost_ret (v := .agg #[.int .i64 1, .int .i64 (binV k a.value b.value), .slice none 0 0]) (by simp [results, Try.results137, go_sem, r0, r1, r2]) rfl ?_
      rw [HN.out]
      exact ⟨_, _, rfl, KidsO.nil _ _, M2.below fun _ _ => trivial⟩
    · have pb : (b.kind == 1) = false := by simp [qb]
      have HCN : Hid (¬ (a.kind = 1 ∧ b.kind = 1)) := fun h => qb h.2
      clear qa qb ha hb
      by_cases q4 : k = 4
      · subst q4
        have y0 := M.c 0 0 rfl rfl
        have y1 := M.c 0 1 rfl rfl
        have y2 := M.c 0 2 rfl rfl
        have d0 := M.c 1 0 rfl rfl
        have d1 := M.c 1 1 rfl rfl
        have d2 := M.c 1 2 rfl rfl
        have ff := M.f 1 rfl
        obtain ⟨c0, c1, c2, c3, c4, c5⟩ := HCELL.out _ (M.below fun _ _ => trivial)
        have HM := show Hid _ from M
        rw [hW] at y0 y1 y2 d0 d1 d2 ff c0 c1 c2 c3 c4 c5
        clear M
        go_enter Try.func137, Try.ntmps137
        go_wp2_with fail
        rw [← hW]
        clear hW
        have M := HM.out
        clear HM y0 y1 y2 d0 d1 d2 ff c0 c1 c2 c3 c4 c5
        refine (spec_l8Known a.kind a.value 0 (.slice av a.kids.length ac) _).mono ?_
        rintro x w1 ⟨rfl, b1⟩
        rw [show (decide (a.kind = 1) && decide (a.value = 0)) = knownB a 0 from rfl]
        replace M := M.call b1
        clear b1
        cases hK : knownB a 0
        · have y0 := M.c 0 0 rfl rfl
          have y1 := M.c 0 1 rfl rfl
          have y2 := M.c 0 2 rfl rfl
          have d0 := M.c 1 0 rfl rfl
          have d1 := M.c 1 1 rfl rfl
          have d2 := M.c 1 2 rfl rfl
          have ff := M.f 1 rfl
          obtain ⟨c0, c1, c2, c3, c4, c5⟩ := HCELL.out _ (M.below fun _ _ => trivial)
          have HM := show Hid _ from M
          clear M
          go_wp2_with fail
          have M := HM.out
          clear HM y0 y1 y2 d0 d1 d2 ff c0 c1 c2 c3 c4 c5
          refine (spec_l8Known b.kind b.value 0 (.slice bv b.kids.length bc) _).mono ?_
          rintro x w1 ⟨rfl, b1⟩
          rw [show (decide (b.kind = 1) && decide (b.value = 0)) = knownB b 0 from rfl]
          replace M := M.call b1
          clear b1
          cases hK2 : knownB b 0
          · have HN : Hid (nodeE ⟨4, n, [a, b]⟩ = ⟨4, n, [a, b]⟩) := by rw [Hid, node2, if_neg HCN.out, if_neg (by simp [hK]), if_neg (by simp [hK2])]
            clear hK hK2
            have y0 := M.c 0 0 rfl rfl
            have y1 := M.c 0 1 rfl rfl
            have y2 := M.c 0 2 rfl rfl
            have d0 := M.c 1 0 rfl rfl
            have d1 := M.c 1 1 rfl rfl
            have d2 := M.c 1 2 rfl rfl
            have ff := M.f 1 rfl
            obtain ⟨c0, c1, c2, c3, c4, c5⟩ := HCELL.out _ (M.below fun _ _ => trivial)
            have HM := show Hid _ from ((M.set 1 rfl 0 (.int .i64 4)).set 1 rfl 1 (.int .i64 n)).set 1 rfl 2 (.slice (some ⟨g, off, none⟩) 2 cap)
            clear M
            go_wp2_with fail
            have M2 := HM.out
            have r0 : World.cell? _ ⟨w.heap.size + 1, 0, none⟩ = some (.int .i64 4) := M2.c 1 0 rfl rfl
            have r1 : World.cell? _ ⟨w.heap.size + 1, 1, none⟩ = some (.int .i64 n) := M2.c 1 1 rfl rfl
            have r2 : World.cell? _ ⟨w.heap.size + 1, 2, none⟩ = some (.slice (some ⟨g, off, none⟩) 2 cap) := M2.c 1 2 rfl rfl
            refine bodyPost_ret (v := .agg #[.int .i64 4, .int .i64 n, .slice (some ⟨g, off, none⟩) 2 cap]) (by simp [results, Try.results137, go_sem, r0, r1, r2]) rfl ?_
            rw [HN.out]
            exact ⟨_, _, rfl, HKK.out _ (M2.below fun _ _ => trivial) |>.2.2, M2.below fun _ _ => trivial⟩
          · have HN : Hid (nodeE ⟨4, n, [a, b]⟩ = a) := by rw [Hid, node2, if_neg HCN.out, if_neg (by simp [hK]), if_pos (by simp [hK2])]
            clear hK hK2
            have y0 := M.c 0 0 rfl rfl
            have y1 := M.c 0 1 rfl rfl
            have y2 := M.c 0 2 rfl rfl
            have d0 := M.c 1 0 rfl rfl
            have d1 := M.c 1 1 rfl rfl
            have d2 := M.c 1 2 rfl rfl
            have ff := M.f 1 rfl
            obtain ⟨c0, c1, c2, c3, c4, c5⟩ := HCELL.out _ (M.below fun _ _ => trivial)
            have HM := show Hid _ from ((M.set 1 rfl 0 (.int .i64 a.kind)).set 1 rfl 1 (.int .i64 a.value)).set 1 rfl 2 (.slice av a.kids.length ac)
            clear M
            go_wp2_with fail
            have M2 := HM.out
            have r0 : World.cell? _ ⟨w.heap.size + 1, 0, none⟩ = some (.int .i64 a.kind) := M2.c 1 0 rfl rfl
            have r1 : World.cell? _ ⟨w.heap.size + 1, 1, none⟩ = some (.int .i64 a.value) := M2.c 1 1 rfl rfl
            have r2 : World.cell? _ ⟨w.heap.size + 1, 2, none⟩ = some (.slice av a.kids.length ac) := M2.c 1 2 rfl rfl
            refine bodyPost_ret (v := .agg #[.int .i64 a.kind, .int .i64 a.value, .slice av a.kids.length ac]) (by simp [results, Try.results137, go_sem, r0, r1, r2]) rfl ?_
            rw [HN.out]
            exact ⟨_, _, rfl, HKK.out _ (M2.below fun _ _ => trivial) |>.1, M2.below fun _ _ => trivial⟩
        · have HN : Hid (nodeE ⟨4, n, [a, b]⟩ = b) := by rw [Hid, node2, if_neg HCN.out, if_pos (by simp [hK])]
          clear hK
          have y0 := M.c 0 0 rfl rfl
          have y1 := M.c 0 1 rfl rfl
          have y2 := M.c 0 2 rfl rfl
          have d0 := M.c 1 0 rfl rfl
          have d1 := M.c 1 1 rfl rfl
          have d2 := M.c 1 2 rfl rfl
          have ff := M.f 1 rfl
          obtain ⟨c0, c1, c2, c3, c4, c5⟩ := HCELL.out _ (M.below fun _ _ => trivial)
          have HM := show Hid _ from ((M.set 1 rfl 0 (.int .i64 b.kind)).set 1 rfl 1 (.int .i64 b.value)).set 1 rfl 2 (.slice bv b.kids.length bc)
          clear M
          go_wp2_with fail
          have M2 := HM.out
          have r0 : World.cell? _ ⟨w.heap.size + 1, 0, none⟩ = some (.int .i64 b.kind) := M2.c 1 0 rfl rfl
          have r1 : World.cell? _ ⟨w.heap.size + 1, 1, none⟩ = some (.int .i64 b.value) := M2.c 1 1 rfl rfl
          have r2 : World.cell? _ ⟨w.heap.size + 1, 2, none⟩ = some (.slice bv b.kids.length bc) := M2.c 1 2 rfl rfl
          refine bodyPost_ret (v := .agg #[.int .i64 b.kind, .int .i64 b.value, .slice bv b.kids.length bc]) (by simp [results, Try.results137, go_sem, r0, r1, r2]) rfl ?_
          rw [HN.out]
          exact ⟨_, _, rfl, HKK.out _ (M2.below fun _ _ => trivial) |>.2.1, M2.below fun _ _ => trivial⟩
      by_cases q8 : k = 8
      · subst q8
        have y0 := M.c 0 0 rfl rfl
        have y1 := M.c 0 1 rfl rfl
        have y2 := M.c 0 2 rfl rfl
        have d0 := M.c 1 0 rfl rfl
        have d1 := M.c 1 1 rfl rfl
        have d2 := M.c 1 2 rfl rfl
        have ff := M.f 1 rfl
        obtain ⟨c0, c1, c2, c3, c4, c5⟩ := HCELL.out _ (M.below fun _ _ => trivial)
        have HM := show Hid _ from M
        rw [hW] at y0 y1 y2 d0 d1 d2 ff c0 c1 c2 c3 c4 c5
        clear M
        go_enter Try.func137, Try.ntmps137
        go_wp2_with fail
        rw [← hW]
        clear hW
        have M := HM.out
        clear HM y0 y1 y2 d0 d1 d2 ff c0 c1 c2 c3 c4 c5
        refine (spec_l8Known a.kind a.value 0 (.slice av a.kids.length ac) _).mono ?_
        rintro x w1 ⟨rfl, b1⟩
        rw [show (decide (a.kind = 1) && decide (a.value = 0)) = knownB a 0 from rfl]
        replace M := M.call b1
        clear b1
        cases hK : knownB a 0
        · have y0 := M.c 0 0 rfl rfl
          have y1 := M.c 0 1 rfl rfl
          have y2 := M.c 0 2 rfl rfl
          have d0 := M.c 1 0 rfl rfl
          have d1 := M.c 1 1 rfl rfl
          have d2 := M.c 1 2 rfl rfl
          have ff := M.f 1 rfl
          obtain ⟨c0, c1, c2, c3, c4, c5⟩ := HCELL.out _ (M.below fun _ _ => trivial)
          have HM := show Hid _ from M
          clear M
          go_wp2_with fail
          have M := HM.out
          clear HM y0 y1 y2 d0 d1 d2 ff c0 c1 c2 c3 c4 c5
          refine (spec_l8Known b.kind b.value 0 (.slice bv b.kids.length bc) _).mono ?_
          rintro x w1 ⟨rfl, b1⟩
          rw [show (decide (b.kind = 1) && decide (b.value = 0)) = knownB b 0 from rfl]
          replace M := M.call b1
          clear b1
          cases hK2 : knownB b 0
          · have HN : Hid (nodeE ⟨8, n, [a, b]⟩ = ⟨8, n, [a, b]⟩) := by rw [Hid, node2, if_neg HCN.out, if_neg (by simp [hK]), if_neg (by simp [hK2])]
            clear hK hK2
            have y0 := M.c 0 0 rfl rfl
            have y1 := M.c 0 1 rfl rfl
            have y2 := M.c 0 2 rfl rfl
            have d0 := M.c 1 0 rfl rfl
            have d1 := M.c 1 1 rfl rfl
            have d2 := M.c 1 2 rfl rfl
            have ff := M.f 1 rfl
            obtain ⟨c0, c1, c2, c3, c4, c5⟩ := HCELL.out _ (M.below fun _ _ => trivial)
            have HM := show Hid _ from ((M.set 1 rfl 0 (.int .i64 8)).set 1 rfl 1 (.int .i64 n)).set 1 rfl 2 (.slice (some ⟨g, off, none⟩) 2 cap)
            clear M
            go_wp2_with fail
            have M2 := HM.out
            have r0 : World.cell? _ ⟨w.heap.size + 1, 0, none⟩ = some (.int .i64 8) := M2.c 1 0 rfl rfl
            have r1 : World.cell? _ ⟨w.heap.size + 1, 1, none⟩ = some (.int .i64 n) := M2.c 1 1 rfl rfl
            have r2 : World.cell? _ ⟨w.heap.size + 1, 2, none⟩ = some (.slice (some ⟨g, off, none⟩) 2 cap) := M2.c 1 2 rfl rfl
            refine bodyPost_ret (v := .agg #[.int .i64 8, .int .i64 n, .slice (some ⟨g, off, none⟩) 2 cap]) (by simp [results, Try.results137, go_sem, r0, r1, r2]) rfl ?_
            rw [HN.out]
            exact ⟨_, _, rfl, HKK.out _ (M2.below fun _ _ => trivial) |>.2.2, M2.below fun _ _ => trivial⟩
          · have HN : Hid (nodeE ⟨8, n, [a, b]⟩ = a) := by rw [Hid, node2, if_neg HCN.out, if_neg (by simp [hK]), if_pos (by simp [hK2])]
            clear hK hK2
            have y0 := M.c 0 0 rfl rfl
            have y1 := M.c 0 1 rfl rfl
            have y2 := M.c 0 2 rfl rfl
            have d0 := M.c 1 0 rfl rfl
            have d1 := M.c 1 1 rfl rfl
            have d2 := M.c 1 2 rfl rfl
            have ff := M.f 1 rfl
            obtain ⟨c0, c1, c2, c3, c4, c5⟩ := HCELL.out _ (M.below fun _ _ => trivial)
            have HM := show Hid _ from ((M.set 1 rfl 0 (.int .i64 a.kind)).set 1 rfl 1 (.int .i64 a.value)).set 1 rfl 2 (.slice av a.kids.length ac)
            clear M
            go_wp2_with fail
            have M2 := HM.out
            have r0 : World.cell? _ ⟨w.heap.size + 1, 0, none⟩ = some (.int .i64 a.kind) := M2.c 1 0 rfl rfl
            have r1 : World.cell? _ ⟨w.heap.size + 1, 1, none⟩ = some (.int .i64 a.value) := M2.c 1 1 rfl rfl
            have r2 : World.cell? _ ⟨w.heap.size + 1, 2, none⟩ = some (.slice av a.kids.length ac) := M2.c 1 2 rfl rfl
            refine bodyPost_ret (v := .agg #[.int .i64 a.kind, .int .i64 a.value, .slice av a.kids.length ac]) (by simp [results, Try.results137, go_sem, r0, r1, r2]) rfl ?_
            rw [HN.out]
            exact ⟨_, _, rfl, HKK.out _ (M2.below fun _ _ => trivial) |>.1, M2.below fun _ _ => trivial⟩
        · have HN : Hid (nodeE ⟨8, n, [a, b]⟩ = b) := by rw [Hid, node2, if_neg HCN.out, if_pos (by simp [hK])]
          clear hK
          have y0 := M.c 0 0 rfl rfl
          have y1 := M.c 0 1 rfl rfl
          have y2 := M.c 0 2 rfl rfl
          have d0 := M.c 1 0 rfl rfl
          have d1 := M.c 1 1 rfl rfl
          have d2 := M.c 1 2 rfl rfl
          have ff := M.f 1 rfl
          obtain ⟨c0, c1, c2, c3, c4, c5⟩ := HCELL.out _ (M.below fun _ _ => trivial)
          have HM := show Hid _ from ((M.set 1 rfl 0 (.int .i64 b.kind)).set 1 rfl 1 (.int .i64 b.value)).set 1 rfl 2 (.slice bv b.kids.length bc)
          clear M
          go_wp2_with fail
          have M2 := HM.out
          have r0 : World.cell? _ ⟨w.heap.size + 1, 0, none⟩ = some (.int .i64 b.kind) := M2.c 1 0 rfl rfl
          have r1 : World.cell? _ ⟨w.heap.size + 1, 1, none⟩ = some (.int .i64 b.value) := M2.c 1 1 rfl rfl
          have r2 : World.cell? _ ⟨w.heap.size + 1, 2, none⟩ = some (.slice bv b.kids.length bc) := M2.c 1 2 rfl rfl
          refine bodyPost_ret (v := .agg #[.int .i64 b.kind, .int .i64 b.value, .slice bv b.kids.length bc]) (by simp [results, Try.results137, go_sem, r0, r1, r2]) rfl ?_
          rw [HN.out]
          exact ⟨_, _, rfl, HKK.out _ (M2.below fun _ _ => trivial) |>.2.1, M2.below fun _ _ => trivial⟩
      by_cases q5 : k = 5
      · subst q5
        have y0 := M.c 0 0 rfl rfl
        have y1 := M.c 0 1 rfl rfl
        have y2 := M.c 0 2 rfl rfl
        have d0 := M.c 1 0 rfl rfl
        have d1 := M.c 1 1 rfl rfl
        have d2 := M.c 1 2 rfl rfl
        have ff := M.f 1 rfl
        obtain ⟨c0, c1, c2, c3, c4, c5⟩ := HCELL.out _ (M.below fun _ _ => trivial)
        have HM := show Hid _ from M
        rw [hW] at y0 y1 y2 d0 d1 d2 ff c0 c1 c2 c3 c4 c5
        clear M
        go_enter Try.func137, Try.ntmps137
        go_wp2_with fail
        rw [← hW]
        clear hW
        have M := HM.out
        clear HM y0 y1 y2 d0 d1 d2 ff c0 c1 c2 c3 c4 c5
        refine (spec_l8Known b.kind b.value 0 (.slice bv b.kids.length bc) _).mono ?_
        rintro x w1 ⟨rfl, b1⟩
        rw [show (decide (b.kind = 1) && decide (b.value = 0)) = knownB b 0 from rfl]
        replace M := M.call b1
        clear b1
        cases hK : knownB b 0
        · have HN : Hid (nodeE ⟨5, n, [a, b]⟩ = ⟨5, n, [a, b]⟩) := by rw [Hid, node2, if_neg HCN.out, if_neg (by simp), if_neg (by simp [hK])]
          clear hK
          have y0 := M.c 0 0 rfl rfl
          have y1 := M.c 0 1 rfl rfl
          have y2 := M.c 0 2 rfl rfl
          have d0 := M.c 1 0 rfl rfl
          have d1 := M.c 1 1 rfl rfl
          have d2 := M.c 1 2 rfl rfl
          have ff := M.f 1 rfl
          obtain ⟨c0, c1, c2, c3, c4, c5⟩ := HCELL.out _ (M.below fun _ _ => trivial)
          have HM := show Hid _ from ((M.set 1 rfl 0 (.int .i64 5)).set 1 rfl 1 (.int .i64 n)).set 1 rfl 2 (.slice (some ⟨g, off, none⟩) 2 cap)
          clear M
          go_wp2_with fail
          have M2 := HM.out
          have r0 : World.cell? _ ⟨w.heap.size + 1, 0, none⟩ = some (.int .i64 5) := M2.c 1 0 rfl rfl
          have r1 : World.cell? _ ⟨w.heap.size + 1, 1, none⟩ = some (.int .i64 n) := M2.c 1 1 rfl rfl
          have r2 : World.cell? _ ⟨w.heap.size + 1, 2, none⟩ = some (.slice (some ⟨g, off, none⟩) 2 cap) := M2.c 1 2 rfl rfl
          refine bodyPost_ret (v := .agg #[.int .i64 5, .int .i64 n, .slice (some ⟨g, off, none⟩) 2 cap]) (by simp [results, Try.results137, go_sem, r0, r1, r2]) rfl ?_
          rw [HN.out]
          exact ⟨_, _, rfl, HKK.out _ (M2.below fun _ _ => trivial) |>.2.2, M2.below fun _ _ => trivial⟩
        · have HN : Hid (nodeE ⟨5, n, [a, b]⟩ = a) := by rw [Hid, node2, if_neg HCN.out, if_neg (by simp), if_pos (by simp [hK])]
          clear hK
          have y0 := M.c 0 0 rfl rfl
          have y1 := M.c 0 1 rfl rfl
          have y2 := M.c 0 2 rfl rfl
          have d0 := M.c 1 0 rfl rfl
          have d1 := M.c 1 1 rfl rfl
          have d2 := M.c 1 2 rfl rfl
          have ff := M.f 1 rfl
          obtain ⟨c0, c1, c2, c3, c4, c5⟩ := HCELL.out _ (M.below fun _ _ => trivial)
          have HM := show Hid _ from ((M.set 1 rfl 0 (.int .i64 a.kind)).set 1 rfl 1 (.int .i64 a.value)).set 1 rfl 2 (.slice av a.kids.length ac)
          clear M
          go_wp2_with fail
          have M2 := HM.out
          have r0 : World.cell? _ ⟨w.heap.size + 1, 0, none⟩ = some (.int .i64 a.kind) := M2.c 1 0 rfl rfl
          have r1 : World.cell? _ ⟨w.heap.size + 1, 1, none⟩ = some (.int .i64 a.value) := M2.c 1 1 rfl rfl
          have r2 : World.cell? _ ⟨w.heap.size + 1, 2, none⟩ = some (.slice av a.kids.length ac) := M2.c 1 2 rfl rfl
          refine bodyPost_ret (v := .agg #[.int .i64 a.kind, .int .i64 a.value, .slice av a.kids.length ac]) (by simp [results, Try.results137, go_sem, r0, r1, r2]) rfl ?_
          rw [HN.out]
          exact ⟨_, _, rfl, HKK.out _ (M2.below fun _ _ => trivial) |>.1, M2.below fun _ _ => trivial⟩
      by_cases q6 : k = 6
      · subst q6
        have y0 := M.c 0 0 rfl rfl
        have y1 := M.c 0 1 rfl rfl
        have y2 := M.c 0 2 rfl rfl
        have d0 := M.c 1 0 rfl rfl
        have d1 := M.c 1 1 rfl rfl
        have d2 := M.c 1 2 rfl rfl
        have ff := M.f 1 rfl
        obtain ⟨c0, c1, c2, c3, c4, c5⟩ := HCELL.out _ (M.below fun _ _ => trivial)
        have HM := show Hid _ from M
        rw [hW] at y0 y1 y2 d0 d1 d2 ff c0 c1 c2 c3 c4 c5
        clear M
        go_enter Try.func137, Try.ntmps137
        go_wp2_with fail
        rw [← hW]
        clear hW
        have M := HM.out
        clear HM y0 y1 y2 d0 d1 d2 ff c0 c1 c2 c3 c4 c5
        refine (spec_l8Known a.kind a.value 1 (.slice av a.kids.length ac) _).mono ?_
        rintro x w1 ⟨rfl, b1⟩
        rw [show (decide (a.kind = 1) && decide (a.value = 1)) = knownB a 1 from rfl]
        replace M := M.call b1
        clear b1
        cases hK : knownB a 1
        · have y0 := M.c 0 0 rfl rfl
          have y1 := M.c 0 1 rfl rfl
          have y2 := M.c 0 2 rfl rfl
          have d0 := M.c 1 0 rfl rfl
          have d1 := M.c 1 1 rfl rfl
          have d2 := M.c 1 2 rfl rfl
          have ff := M.f 1 rfl
          obtain ⟨c0, c1, c2, c3, c4, c5⟩ := HCELL.out _ (M.below fun _ _ => trivial)
          have HM := show Hid _ from M
          clear M
          go_wp2_with fail
          have M := HM.out
          clear HM y0 y1 y2 d0 d1 d2 ff c0 c1 c2 c3 c4 c5
          refine (spec_l8Known b.kind b.value 1 (.slice bv b.kids.length bc) _).mono ?_
          rintro x w1 ⟨rfl, b1⟩
          rw [show (decide (b.kind = 1) && decide (b.value = 1)) = knownB b 1 from rfl]
          replace M := M.call b1
          clear b1
          cases hK2 : knownB b 1
          · have HN : Hid (nodeE ⟨6, n, [a, b]⟩ = ⟨6, n, [a, b]⟩) := by rw [Hid, node2, if_neg HCN.out, if_neg (by simp [hK]), if_neg (by simp [hK2])]
            clear hK hK2
            have y0 := M.c 0 0 rfl rfl
            have y1 := M.c 0 1 rfl rfl
            have y2 := M.c 0 2 rfl rfl
            have d0 := M.c 1 0 rfl rfl
            have d1 := M.c 1 1 rfl rfl
            have d2 := M.c 1 2 rfl rfl
            have ff := M.f 1 rfl
            obtain ⟨c0, c1, c2, c3, c4, c5⟩ := HCELL.out _ (M.below fun _ _ => trivial)
            have HM := show Hid _ from ((M.set 1 rfl 0 (.int .i64 6)).set 1 rfl 1 (.int .i64 n)).set 1 rfl 2 (.slice (some ⟨g, off, none⟩) 2 cap)
            clear M
            go_wp2_with fail
            have M2 := HM.out
            have r0 : World.cell? _ ⟨w.heap.size + 1, 0, none⟩ = some (.int .i64 6) := M2.c 1 0 rfl rfl
            have r1 : World.cell? _ ⟨w.heap.size + 1, 1, none⟩ = some (.int .i64 n) := M2.c 1 1 rfl rfl
            have r2 : World.cell? _ ⟨w.heap.size + 1, 2, none⟩ = some (.slice (some ⟨g, off, none⟩) 2 cap) := M2.c 1 2 rfl rfl
            refine bodyPost_ret (v := .agg #[.int .i64 6, .int .i64 n, .slice (some ⟨g, off, none⟩) 2 cap]) (by simp [results, Try.results137, go_sem, r0, r1, r2]) rfl ?_
            rw [HN.out]
            exact ⟨_, _, rfl, HKK.out _ (M2.below fun _ _ => trivial) |>.2.2, M2.below fun _ _ => trivial⟩
          · have HN : Hid (nodeE ⟨6, n, [a, b]⟩ = a) := by rw [Hid, node2, if_neg HCN.out, if_neg (by simp [hK]), if_pos (by simp [hK2])]
            clear hK hK2
            have y0 := M.c 0 0 rfl rfl
            have y1 := M.c 0 1 rfl rfl
            have y2 := M.c 0 2 rfl rfl
            have d0 := M.c 1 0 rfl rfl
            have d1 := M.c 1 1 rfl rfl
            have d2 := M.c 1 2 rfl rfl
            have ff := M.f 1 rfl
            obtain ⟨c0, c1, c2, c3, c4, c5⟩ := HCELL.out _ (M.below fun _ _ => trivial)
            have HM := show Hid _ from ((M.set 1 rfl 0 (.int .i64 a.kind)).set 1 rfl 1 (.int .i64 a.value)).set 1 rfl 2 (.slice av a.kids.length ac)
            clear M
            go_wp2_with fail
            have M2 := HM.out
            have r0 : World.cell? _ ⟨w.heap.size + 1, 0, none⟩ = some (.int .i64 a.kind) := M2.c 1 0 rfl rfl
            have r1 : World.cell? _ ⟨w.heap.size + 1, 1, none⟩ = some (.int .i64 a.value) := M2.c 1 1 rfl rfl
            have r2 : World.cell? _ ⟨w.heap.size + 1, 2, none⟩ = some (.slice av a.kids.length ac) := M2.c 1 2 rfl rfl
            refine bodyPost_ret (v := .agg #[.int .i64 a.kind, .int .i64 a.value, .slice av a.kids.length ac]) (by simp [results, Try.results137, go_sem, r0, r1, r2]) rfl ?_
            rw [HN.out]
            exact ⟨_, _, rfl, HKK.out _ (M2.below fun _ _ => trivial) |>.1, M2.below fun _ _ => trivial⟩
        · have HN : Hid (nodeE ⟨6, n, [a, b]⟩ = b) := by rw [Hid, node2, if_neg HCN.out, if_pos (by simp [hK])]
          clear hK
          have y0 := M.c 0 0 rfl rfl
          have y1 := M.c 0 1 rfl rfl
          have y2 := M.c 0 2 rfl rfl
          have d0 := M.c 1 0 rfl rfl
          have d1 := M.c 1 1 rfl rfl
          have d2 := M.c 1 2 rfl rfl
          have ff := M.f 1 rfl
          obtain ⟨c0, c1, c2, c3, c4, c5⟩ := HCELL.out _ (M.below fun _ _ => trivial)
          have HM := show Hid _ from ((M.set 1 rfl 0 (.int .i64 b.kind)).set 1 rfl 1 (.int .i64 b.value)).set 1 rfl 2 (.slice bv b.kids.length bc)
          clear M
          go_wp2_with fail
          have M2 := HM.out
          have r0 : World.cell? _ ⟨w.heap.size + 1, 0, none⟩ = some (.int .i64 b.kind) := M2.c 1 0 rfl rfl
          have r1 : World.cell? _ ⟨w.heap.size + 1, 1, none⟩ = some (.int .i64 b.value) := M2.c 1 1 rfl rfl
          have r2 : World.cell? _ ⟨w.heap.size + 1, 2, none⟩ = some (.slice bv b.kids.length bc) := M2.c 1 2 rfl rfl
          refine bodyPost_ret (v := .agg #[.int .i64 b.kind, .int .i64 b.value, .slice bv b.kids.length bc]) (by simp [results, Try.results137, go_sem, r0, r1, r2]) rfl ?_
          rw [HN.out]
          exact ⟨_, _, rfl, HKK.out _ (M2.below fun _ _ => trivial) |>.2.1, M2.below fun _ _ => trivial⟩
      have p4 : (k == 4) = false := by simp [q4]
      have p8 : (k == 8) = false := by simp [q8]
      have p5 : (k == 5) = false := by simp [q5]
      have p6 : (k == 6) = false := by simp [q6]
      have HN : Hid (nodeE ⟨k, n, [a, b]⟩ = ⟨k, n, [a, b]⟩) := by rw [Hid, node2, if_neg HCN.out, if_neg (by simp [q4, q5, q6, q8]), if_neg (by simp [q4, q5, q6, q8])]
      clear q4 q5 q6 q8
      have y0 := M.c 0 0 rfl rfl
      have y1 := M.c 0 1 rfl rfl
      have y2 := M.c 0 2 rfl rfl
      have d0 := M.c 1 0 rfl rfl
      have d1 := M.c 1 1 rfl rfl
      have d2 := M.c 1 2 rfl rfl
      have ff := M.f 1 rfl
      obtain ⟨c0, c1, c2, c3, c4, c5⟩ := HCELL.out _ (M.below fun _ _ => trivial)
      rw [hW] at y0 y1 y2 d0 d1 d2 ff c0 c1 c2 c3 c4 c5
      have HM : Hid (Mem (fun _ => True) (fun _ => True) w _ [.box w.heap.size [.int .i64 k, .int .i64 n, .slice (some ⟨g, off, none⟩) 2 cap], .box (w.heap.size + 1) [.int .i64 k, .int .i64 n, .slice (some ⟨g, off, none⟩) 2 cap]]) := ((Mem.start fun _ _ => trivial).box [.int .i64 k, .int .i64 n, .slice (some ⟨g, off, none⟩) 2 cap] 41).box' [.int .i64 k, .int .i64 n, .slice (some ⟨g, off, none⟩) 2 cap] 41 (by simp)
      clear M
      go_enter Try.func137, Try.ntmps137
      go_wp2_with fail
      have M2 := HM.out
      have r0 : World.cell? _ ⟨w.heap.size + 1, 0, none⟩ = some (.int .i64 k) := M2.c 1 0 rfl rfl
      have r1 : World.cell? _ ⟨w.heap.size + 1, 1, none⟩ = some (.int .i64 n) := M2.c 1 1 rfl rfl
      have r2 : World.cell? _ ⟨w.heap.size + 1, 2, none⟩ = some (.slice (some ⟨g, off, none⟩) 2 cap) := M2.c 1 2 rfl rfl
      refine bodyPost_ret (v := .agg #[.int .i64 k, .int .i64 n, .slice (some ⟨g, off, none⟩) 2 cap]) (by simp [results, Try.results137, go_sem, r0, r1, r2]) rfl ?_
      rw [HN.out]
      exact ⟨_, _, rfl, HKK.out _ (M2.below fun _ _ => trivial) |>.2.2, M2.below fun _ _ => trivial⟩
  · have pa : (a.kind == 1) = false := by simp [qa]
    have HCN : Hid (¬ (a.kind = 1 ∧ b.kind = 1)) := fun h => qa h.1
    clear qa ha hb
    by_cases q4 : k = 4
    · subst q4
      have y0 := M.c 0 0 rfl rfl
      have y1 := M.c 0 1 rfl rfl
      have y2 := M.c 0 2 rfl rfl
      have d0 := M.c 1 0 rfl rfl
      have d1 := M.c 1 1 rfl rfl
      have d2 := M.c 1 2 rfl rfl
      have ff := M.f 1 rfl
      obtain ⟨c0, c1, c2, c3, c4, c5⟩ := HCELL.out _ (M.below fun _ _ => trivial)
      have HM := show Hid _ from M
      rw [hW] at y0 y1 y2 d0 d1 d2 ff c0 c1 c2 c3 c4 c5
      clear M
      go_enter Try.func137, Try.ntmps137
      go_wp2_with fail
      rw [← hW]
      clear hW
      have M := HM.out
      clear HM y0 y1 y2 d0 d1 d2 ff c0 c1 c2 c3 c4 c5
      refine (spec_l8Known a.kind a.value 0 (.slice av a.kids.length ac) _).mono ?_
      rintro x w1 ⟨rfl, b1⟩
      rw [show (decide (a.kind = 1) && decide (a.value = 0)) = knownB a 0 from rfl]
      replace M := M.call b1
      clear b1
      cases hK : knownB a 0
      · have y0 := M.c 0 0 rfl rfl
        have y1 := M.c 0 1 rfl rfl
        have y2 := M.c 0 2 rfl rfl
        have d0 := M.c 1 0 rfl rfl
        have d1 := M.c 1 1 rfl rfl
        have d2 := M.c 1 2 rfl rfl
        have ff := M.f 1 rfl
        obtain ⟨c0, c1, c2, c3, c4, c5⟩ := HCELL.out _ (M.below fun _ _ => trivial)
        have HM := show Hid _ from M
        clear M
        go_wp2_with fail
        have M := HM.out
        clear HM y0 y1 y2 d0 d1 d2 ff c0 c1 c2 c3 c4 c5
        refine (spec_l8Known b.kind b.value 0 (.slice bv b.kids.length bc) _).mono ?_
        rintro x w1 ⟨rfl, b1⟩
        rw [show (decide (b.kind = 1) && decide (b.value = 0)) = knownB b 0 from rfl]
        replace M := M.call b1
        clear b1
        cases hK2 : knownB b 0
        · have HN : Hid (nodeE ⟨4, n, [a, b]⟩ = ⟨4, n, [a, b]⟩) := by rw [Hid, node2, if_neg HCN.out, if_neg (by simp [hK]), if_neg (by simp [hK2])]
          clear hK hK2
          have y0 := M.c 0 0 rfl rfl
          have y1 := M.c 0 1 rfl rfl
          have y2 := M.c 0 2 rfl rfl
          have d0 := M.c 1 0 rfl rfl
          have d1 := M.c 1 1 rfl rfl
          have d2 := M.c 1 2 rfl rfl
          have ff := M.f 1 rfl
          obtain ⟨c0, c1, c2, c3, c4, c5⟩ := HCELL.out _ (M.below fun _ _ => trivial)
          have HM := show Hid _ from ((M.set 1 rfl 0 (.int .i64 4)).set 1 rfl 1 (.int .i64 n)).set 1 rfl 2 (.slice (some ⟨g, off, none⟩) 2 cap)
          clear M
          go_wp2_with fail
          have M2 := HM.out
          have r0 : World.cell? _ ⟨w.heap.size + 1, 0, none⟩ = some (.int .i64 4) := M2.c 1 0 rfl rfl
          have r1 : World.cell? _ ⟨w.heap.size + 1, 1, none⟩ = some (.int .i64 n) := M2.c 1 1 rfl rfl
          have r2 : World.cell? _ ⟨w.heap.size + 1, 2, none⟩ = some (.slice (some ⟨g, off, none⟩) 2 cap) := M2.c 1 2 rfl rfl
          refine bodyPost_ret (v := .agg #[.int .i64 4, .int .i64 n, .slice (some ⟨g, off, none⟩) 2 cap]) (by simp [results, Try.results137, go_sem, r0, r1, r2]) rfl ?_
          rw [HN.out]
          exact ⟨_, _, rfl, HKK.out _ (M2.below fun _ _ => trivial) |>.2.2, M2.below fun _ _ => trivial⟩
        · have HN : Hid (nodeE ⟨4, n, [a, b]⟩ = a) := by rw [Hid, node2, if_neg HCN.out, if_neg (by simp [hK]), if_pos (by simp [hK2])]
          clear hK hK2
          have y0 := M.c 0 0 rfl rfl
          have y1 := M.c 0 1 rfl rfl
          have y2 := M.c 0 2 rfl rfl
          have d0 := M.c 1 0 rfl rfl
          have d1 := M.c 1 1 rfl rfl
          have d2 := M.c 1 2 rfl rfl
          have ff := M.f 1 rfl
          obtain ⟨c0, c1, c2, c3, c4, c5⟩ := HCELL.out _ (M.below fun _ _ => trivial)
          have HM := show Hid _ from ((M.set 1 rfl 0 (.int .i64 a.kind)).set 1 rfl 1 (.int .i64 a.value)).set 1 rfl 2 (.slice av a.kids.length ac)
          clear M
          go_wp2_with fail
          have M2 := HM.out
          have r0 : World.cell? _ ⟨w.heap.size + 1, 0, none⟩ = some (.int .i64 a.kind) := M2.c 1 0 rfl rfl
          have r1 : World.cell? _ ⟨w.heap.size + 1, 1, none⟩ = some (.int .i64 a.value) := M2.c 1 1 rfl rfl
          have r2 : World.cell? _ ⟨w.heap.size + 1, 2, none⟩ = some (.slice av a.kids.length ac) := M2.c 1 2 rfl rfl
          refine bodyPost_ret (v := .agg #[.int .i64 a.kind, .int .i64 a.value, .slice av a.kids.length ac]) (by simp [results, Try.results137, go_sem, r0, r1, r2]) rfl ?_
          rw [HN.out]
          exact ⟨_, _, rfl, HKK.out _ (M2.below fun _ _ => trivial) |>.1, M2.below fun _ _ => trivial⟩
      · have HN : Hid (nodeE ⟨4, n, [a, b]⟩ = b) := by rw [Hid, node2, if_neg HCN.out, if_pos (by simp [hK])]
        clear hK
        have y0 := M.c 0 0 rfl rfl
        have y1 := M.c 0 1 rfl rfl
        have y2 := M.c 0 2 rfl rfl
        have d0 := M.c 1 0 rfl rfl
        have d1 := M.c 1 1 rfl rfl
        have d2 := M.c 1 2 rfl rfl
        have ff := M.f 1 rfl
        obtain ⟨c0, c1, c2, c3, c4, c5⟩ := HCELL.out _ (M.below fun _ _ => trivial)
        have HM := show Hid _ from ((M.set 1 rfl 0 (.int .i64 b.kind)).set 1 rfl 1 (.int .i64 b.value)).set 1 rfl 2 (.slice bv b.kids.length bc)
        clear M
        go_wp2_with fail
        have M2 := HM.out
        have r0 : World.cell? _ ⟨w.heap.size + 1, 0, none⟩ = some (.int .i64 b.kind) := M2.c 1 0 rfl rfl
        have r1 : World.cell? _ ⟨w.heap.size + 1, 1, none⟩ = some (.int .i64 b.value) := M2.c 1 1 rfl rfl
        have r2 : World.cell? _ ⟨w.heap.size + 1, 2, none⟩ = some (.slice bv b.kids.length bc) := M2.c 1 2 rfl rfl
        refine bodyPost_ret (v := .agg #[.int .i64 b.kind, .int .i64 b.value, .slice bv b.kids.length bc]) (by simp [results, Try.results137, go_sem, r0, r1, r2]) rfl ?_
        rw [HN.out]
        exact ⟨_, _, rfl, HKK.out _ (M2.below fun _ _ => trivial) |>.2.1, M2.below fun _ _ => trivial⟩
    by_cases q8 : k = 8
    · subst q8
      have y0 := M.c 0 0 rfl rfl
      have y1 := M.c 0 1 rfl rfl
      have y2 := M.c 0 2 rfl rfl
      have d0 := M.c 1 0 rfl rfl
      have d1 := M.c 1 1 rfl rfl
      have d2 := M.c 1 2 rfl rfl
      have ff := M.f 1 rfl
      obtain ⟨c0, c1, c2, c3, c4, c5⟩ := HCELL.out _ (M.below fun _ _ => trivial)
      have HM := show Hid _ from M
      rw [hW] at y0 y1 y2 d0 d1 d2 ff c0 c1 c2 c3 c4 c5
      clear M
      go_enter Try.func137, Try.ntmps137
      go_wp2_with fail
      rw [← hW]
      clear hW
      have M := HM.out
      clear HM y0 y1 y2 d0 d1 d2 ff c0 c1 c2 c3 c4 c5
      refine (spec_l8Known a.kind a.value 0 (.slice av a.kids.length ac) _).mono ?_
      rintro x w1 ⟨rfl, b1⟩
      rw [show (decide (a.kind = 1) && decide (a.value = 0)) = knownB a 0 from rfl]
      replace M := M.call b1
      clear b1
      cases hK : knownB a 0
      · have y0 := M.c 0 0 rfl rfl
        have y1 := M.c 0 1 rfl rfl
        have y2 := M.c 0 2 rfl rfl
        have d0 := M.c 1 0 rfl rfl
        have d1 := M.c 1 1 rfl rfl
        have d2 := M.c 1 2 rfl rfl
        have ff := M.f 1 rfl
        obtain ⟨c0, c1, c2, c3, c4, c5⟩ := HCELL.out _ (M.below fun _ _ => trivial)
        have HM := show Hid _ from M
        clear M
        go_wp2_with fail
        have M := HM.out
        clear HM y0 y1 y2 d0 d1 d2 ff c0 c1 c2 c3 c4 c5
        refine (spec_l8Known b.kind b.value 0 (.slice bv b.kids.length bc) _).mono ?_
        rintro x w1 ⟨rfl, b1⟩
        rw [show (decide (b.kind = 1) && decide (b.value = 0)) = knownB b 0 from rfl]
        replace M := M.call b1
        clear b1
        cases hK2 : knownB b 0
        · have HN : Hid (nodeE ⟨8, n, [a, b]⟩ = ⟨8, n, [a, b]⟩) := by rw [Hid, node2, if_neg HCN.out, if_neg (by simp [hK]), if_neg (by simp [hK2])]
          clear hK hK2
          have y0 := M.c 0 0 rfl rfl
          have y1 := M.c 0 1 rfl rfl
          have y2 := M.c 0 2 rfl rfl
          have d0 := M.c 1 0 rfl rfl
          have d1 := M.c 1 1 rfl rfl
          have d2 := M.c 1 2 rfl rfl
          have ff := M.f 1 rfl
          obtain ⟨c0, c1, c2, c3, c4, c5⟩ := HCELL.out _ (M.below fun _ _ => trivial)
          have HM := show Hid _ from ((M.set 1 rfl 0 (.int .i64 8)).set 1 rfl 1 (.int .i64 n)).set 1 rfl 2 (.slice (some ⟨g, off, none⟩) 2 cap)
          clear M
          go_wp2_with fail
          have M2 := HM.out
          have r0 : World.cell? _ ⟨w.heap.size + 1, 0, none⟩ = some (.int .i64 8) := M2.c 1 0 rfl rfl
          have r1 : World.cell? _ ⟨w.heap.size + 1, 1, none⟩ = some (.int .i64 n) := M2.c 1 1 rfl rfl
          have r2 : World.cell? _ ⟨w.heap.size + 1, 2, none⟩ = some (.slice (some ⟨g, off, none⟩) 2 cap) := M2.c 1 2 rfl rfl
          refine bodyPost_ret (v := .agg #[.int .i64 8, .int .i64 n, .slice (some ⟨g, off, none⟩) 2 cap]) (by simp [results, Try.results137, go_sem, r0, r1, r2]) rfl ?_
          rw [HN.out]
          exact ⟨_, _, rfl, HKK.out _ (M2.below fun _ _ => trivial) |>.2.2, M2.below fun _ _ => trivial⟩
        · have HN : Hid (nodeE ⟨8, n, [a, b]⟩ = a) := by rw [Hid, node2, if_neg HCN.out, if_neg (by simp [hK]), if_pos (by simp [hK2])]
          clear hK hK2
          have y0 := M.c 0 0 rfl rfl
          have y1 := M.c 0 1 rfl rfl
          have y2 := M.c 0 2 rfl rfl
          have d0 := M.c 1 0 rfl rfl
          have d1 := M.c 1 1 rfl rfl
          have d2 := M.c 1 2 rfl rfl
          have ff := M.f 1 rfl
          obtain ⟨c0, c1, c2, c3, c4, c5⟩ := HCELL.out _ (M.below fun _ _ => trivial)
          have HM := show Hid _ from ((M.set 1 rfl 0 (.int .i64 a.kind)).set 1 rfl 1 (.int .i64 a.value)).set 1 rfl 2 (.slice av a.kids.length ac)
          clear M
          go_wp2_with fail
          have M2 := HM.out
          have r0 : World.cell? _ ⟨w.heap.size + 1, 0, none⟩ = some (.int .i64 a.kind) := M2.c 1 0 rfl rfl
          have r1 : World.cell? _ ⟨w.heap.size + 1, 1, none⟩ = some (.int .i64 a.value) := M2.c 1 1 rfl rfl
          have r2 : World.cell? _ ⟨w.heap.size + 1, 2, none⟩ = some (.slice av a.kids.length ac) := M2.c 1 2 rfl rfl
          refine bodyPost_ret (v := .agg #[.int .i64 a.kind, .int .i64 a.value, .slice av a.kids.length ac]) (by simp [results, Try.results137, go_sem, r0, r1, r2]) rfl ?_
          rw [HN.out]
          exact ⟨_, _, rfl, HKK.out _ (M2.below fun _ _ => trivial) |>.1, M2.below fun _ _ => trivial⟩
      · have HN : Hid (nodeE ⟨8, n, [a, b]⟩ = b) := by rw [Hid, node2, if_neg HCN.out, if_pos (by simp [hK])]
        clear hK
        have y0 := M.c 0 0 rfl rfl
        have y1 := M.c 0 1 rfl rfl
        have y2 := M.c 0 2 rfl rfl
        have d0 := M.c 1 0 rfl rfl
        have d1 := M.c 1 1 rfl rfl
        have d2 := M.c 1 2 rfl rfl
        have ff := M.f 1 rfl
        obtain ⟨c0, c1, c2, c3, c4, c5⟩ := HCELL.out _ (M.below fun _ _ => trivial)
        have HM := show Hid _ from ((M.set 1 rfl 0 (.int .i64 b.kind)).set 1 rfl 1 (.int .i64 b.value)).set 1 rfl 2 (.slice bv b.kids.length bc)
        clear M
        go_wp2_with fail
        have M2 := HM.out
        have r0 : World.cell? _ ⟨w.heap.size + 1, 0, none⟩ = some (.int .i64 b.kind) := M2.c 1 0 rfl rfl
        have r1 : World.cell? _ ⟨w.heap.size + 1, 1, none⟩ = some (.int .i64 b.value) := M2.c 1 1 rfl rfl
        have r2 : World.cell? _ ⟨w.heap.size + 1, 2, none⟩ = some (.slice bv b.kids.length bc) := M2.c 1 2 rfl rfl
        refine bodyPost_ret (v := .agg #[.int .i64 b.kind, .int .i64 b.value, .slice bv b.kids.length bc]) (by simp [results, Try.results137, go_sem, r0, r1, r2]) rfl ?_
        rw [HN.out]
        exact ⟨_, _, rfl, HKK.out _ (M2.below fun _ _ => trivial) |>.2.1, M2.below fun _ _ => trivial⟩
    by_cases q5 : k = 5
    · subst q5
      have y0 := M.c 0 0 rfl rfl
      have y1 := M.c 0 1 rfl rfl
      have y2 := M.c 0 2 rfl rfl
      have d0 := M.c 1 0 rfl rfl
      have d1 := M.c 1 1 rfl rfl
      have d2 := M.c 1 2 rfl rfl
      have ff := M.f 1 rfl
      obtain ⟨c0, c1, c2, c3, c4, c5⟩ := HCELL.out _ (M.below fun _ _ => trivial)
      have HM := show Hid _ from M
      rw [hW] at y0 y1 y2 d0 d1 d2 ff c0 c1 c2 c3 c4 c5
      clear M
      go_enter Try.func137, Try.ntmps137
      go_wp2_with fail
      rw [← hW]
      clear hW
      have M := HM.out
      clear HM y0 y1 y2 d0 d1 d2 ff c0 c1 c2 c3 c4 c5
      refine (spec_l8Known b.kind b.value 0 (.slice bv b.kids.length bc) _).mono ?_
      rintro x w1 ⟨rfl, b1⟩
      rw [show (decide (b.kind = 1) && decide (b.value = 0)) = knownB b 0 from rfl]
      replace M := M.call b1
      clear b1
      cases hK : knownB b 0
      · have HN : Hid (nodeE ⟨5, n, [a, b]⟩ = ⟨5, n, [a, b]⟩) := by rw [Hid, node2, if_neg HCN.out, if_neg (by simp), if_neg (by simp [hK])]
        clear hK
        have y0 := M.c 0 0 rfl rfl
        have y1 := M.c 0 1 rfl rfl
        have y2 := M.c 0 2 rfl rfl
        have d0 := M.c 1 0 rfl rfl
        have d1 := M.c 1 1 rfl rfl
        have d2 := M.c 1 2 rfl rfl
        have ff := M.f 1 rfl
        obtain ⟨c0, c1, c2, c3, c4, c5⟩ := HCELL.out _ (M.below fun _ _ => trivial)
        have HM := show Hid _ from ((M.set 1 rfl 0 (.int .i64 5)).set 1 rfl 1 (.int .i64 n)).set 1 rfl 2 (.slice (some ⟨g, off, none⟩) 2 cap)
        clear M
        go_wp2_with fail
        have M2 := HM.out
        have r0 : World.cell? _ ⟨w.heap.size + 1, 0, none⟩ = some (.int .i64 5) := M2.c 1 0 rfl rfl
        have r1 : World.cell? _ ⟨w.heap.size + 1, 1, none⟩ = some (.int .i64 n) := M2.c 1 1 rfl rfl
        have r2 : World.cell? _ ⟨w.heap.size + 1, 2, none⟩ = some (.slice (some ⟨g, off, none⟩) 2 cap) := M2.c 1 2 rfl rfl
        refine bodyPost_ret (v := .agg #[.int .i64 5, .int .i64 n, .slice (some ⟨g, off, none⟩) 2 cap]) (by simp [results, Try.results137, go_sem, r0, r1, r2]) rfl ?_
        rw [HN.out]
        exact ⟨_, _, rfl, HKK.out _ (M2.below fun _ _ => trivial) |>.2.2, M2.below fun _ _ => trivial⟩
      · have HN : Hid (nodeE ⟨5, n, [a, b]⟩ = a) := by rw [Hid, node2, if_neg HCN.out, if_neg (by simp), if_pos (by simp [hK])]
        clear hK
        have y0 := M.c 0 0 rfl rfl
        have y1 := M.c 0 1 rfl rfl
        have y2 := M.c 0 2 rfl rfl
        have d0 := M.c 1 0 rfl rfl
        have d1 := M.c 1 1 rfl rfl
        have d2 := M.c 1 2 rfl rfl
        have ff := M.f 1 rfl
        obtain ⟨c0, c1, c2, c3, c4, c5⟩ := HCELL.out _ (M.below fun _ _ => trivial)
        have HM := show Hid _ from ((M.set 1 rfl 0 (.int .i64 a.kind)).set 1 rfl 1 (.int .i64 a.value)).set 1 rfl 2 (.slice av a.kids.length ac)
        clear M
        go_wp2_with fail
        have M2 := HM.out
        have r0 : World.cell? _ ⟨w.heap.size + 1, 0, none⟩ = some (.int .i64 a.kind) := M2.c 1 0 rfl rfl
        have r1 : World.cell? _ ⟨w.heap.size + 1, 1, none⟩ = some (.int .i64 a.value) := M2.c 1 1 rfl rfl
        have r2 : World.cell? _ ⟨w.heap.size + 1, 2, none⟩ = some (.slice av a.kids.length ac) := M2.c 1 2 rfl rfl
        refine bodyPost_ret (v := .agg #[.int .i64 a.kind, .int .i64 a.value, .slice av a.kids.length ac]) (by simp [results, Try.results137, go_sem, r0, r1, r2]) rfl ?_
        rw [HN.out]
        exact ⟨_, _, rfl, HKK.out _ (M2.below fun _ _ => trivial) |>.1, M2.below fun _ _ => trivial⟩
    by_cases q6 : k = 6
    · subst q6
      have y0 := M.c 0 0 rfl rfl
      have y1 := M.c 0 1 rfl rfl
      have y2 := M.c 0 2 rfl rfl
      have d0 := M.c 1 0 rfl rfl
      have d1 := M.c 1 1 rfl rfl
      have d2 := M.c 1 2 rfl rfl
      have ff := M.f 1 rfl
      obtain ⟨c0, c1, c2, c3, c4, c5⟩ := HCELL.out _ (M.below fun _ _ => trivial)
      have HM := show Hid _ from M
      rw [hW] at y0 y1 y2 d0 d1 d2 ff c0 c1 c2 c3 c4 c5
      clear M
      go_enter Try.func137, Try.ntmps137
      go_wp2_with fail
      rw [← hW]
      clear hW
      have M := HM.out
      clear HM y0 y1 y2 d0 d1 d2 ff c0 c1 c2 c3 c4 c5
      refine (spec_l8Known a.kind a.value 1 (.slice av a.kids.length ac) _).mono ?_
      rintro x w1 ⟨rfl, b1⟩
      rw [show (decide (a.kind = 1) && decide (a.value = 1)) = knownB a 1 from rfl]
      replace M := M.call b1
      clear b1
      cases hK : knownB a 1
      · have y0 := M.c 0 0 rfl rfl
        have y1 := M.c 0 1 rfl rfl
        have y2 := M.c 0 2 rfl rfl
        have d0 := M.c 1 0 rfl rfl
        have d1 := M.c 1 1 rfl rfl
        have d2 := M.c 1 2 rfl rfl
        have ff := M.f 1 rfl
        obtain ⟨c0, c1, c2, c3, c4, c5⟩ := HCELL.out _ (M.below fun _ _ => trivial)
        have HM := show Hid _ from M
        clear M
        go_wp2_with fail
        have M := HM.out
        clear HM y0 y1 y2 d0 d1 d2 ff c0 c1 c2 c3 c4 c5
        refine (spec_l8Known b.kind b.value 1 (.slice bv b.kids.length bc) _).mono ?_
        rintro x w1 ⟨rfl, b1⟩
        rw [show (decide (b.kind = 1) && decide (b.value = 1)) = knownB b 1 from rfl]
        replace M := M.call b1
        clear b1
        cases hK2 : knownB b 1
        · have HN : Hid (nodeE ⟨6, n, [a, b]⟩ = ⟨6, n, [a, b]⟩) := by rw [Hid, node2, if_neg HCN.out, if_neg (by simp [hK]), if_neg (by simp [hK2])]
          clear hK hK2
          have y0 := M.c 0 0 rfl rfl
          have y1 := M.c 0 1 rfl rfl
          have y2 := M.c 0 2 rfl rfl
          have d0 := M.c 1 0 rfl rfl
          have d1 := M.c 1 1 rfl rfl
          have d2 := M.c 1 2 rfl rfl
          have ff := M.f 1 rfl
          obtain ⟨c0, c1, c2, c3, c4, c5⟩ := HCELL.out _ (M.below fun _ _ => trivial)
          have HM := show Hid _ from ((M.set 1 rfl 0 (.int .i64 6)).set 1 rfl 1 (.int .i64 n)).set 1 rfl 2 (.slice (some ⟨g, off, none⟩) 2 cap)
          clear M
          go_wp2_with fail
          have M2 := HM.out
          have r0 : World.cell? _ ⟨w.heap.size + 1, 0, none⟩ = some (.int .i64 6) := M2.c 1 0 rfl rfl
          have r1 : World.cell? _ ⟨w.heap.size + 1, 1, none⟩ = some (.int .i64 n) := M2.c 1 1 rfl rfl
          have r2 : World.cell? _ ⟨w.heap.size + 1, 2, none⟩ = some (.slice (some ⟨g, off, none⟩) 2 cap) := M2.c 1 2 rfl rfl
          refine bodyPost_ret (v := .agg #[.int .i64 6, .int .i64 n, .slice (some ⟨g, off, none⟩) 2 cap]) (by simp [results, Try.results137, go_sem, r0, r1, r2]) rfl ?_
          rw [HN.out]
          exact ⟨_, _, rfl, HKK.out _ (M2.below fun _ _ => trivial) |>.2.2, M2.below fun _ _ => trivial⟩
        · have HN : Hid (nodeE ⟨6, n, [a, b]⟩ = a) := by rw [Hid, node2, if_neg HCN.out, if_neg (by simp [hK]), if_pos (by simp [hK2])]
          clear hK hK2
          have y0 := M.c 0 0 rfl rfl
          have y1 := M.c 0 1 rfl rfl
          have y2 := M.c 0 2 rfl rfl
          have d0 := M.c 1 0 rfl rfl
          have d1 := M.c 1 1 rfl rfl
          have d2 := M.c 1 2 rfl rfl
          have ff := M.f 1 rfl
          obtain ⟨c0, c1, c2, c3, c4, c5⟩ := HCELL.out _ (M.below fun _ _ => trivial)
          have HM := show Hid _ from ((M.set 1 rfl 0 (.int .i64 a.kind)).set 1 rfl 1 (.int .i64 a.value)).set 1 rfl 2 (.slice av a.kids.length ac)
          clear M
          go_wp2_with fail
          have M2 := HM.out
          have r0 : World.cell? _ ⟨w.heap.size + 1, 0, none⟩ = some (.int .i64 a.kind) := M2.c 1 0 rfl rfl
          have r1 : World.cell? _ ⟨w.heap.size + 1, 1, none⟩ = some (.int .i64 a.value) := M2.c 1 1 rfl rfl
          have r2 : World.cell? _ ⟨w.heap.size + 1, 2, none⟩ = some (.slice av a.kids.length ac) := M2.c 1 2 rfl rfl
          refine bodyPost_ret (v := .agg #[.int .i64 a.kind, .int .i64 a.value, .slice av a.kids.length ac]) (by simp [results, Try.results137, go_sem, r0, r1, r2]) rfl ?_
          rw [HN.out]
          exact ⟨_, _, rfl, HKK.out _ (M2.below fun _ _ => trivial) |>.1, M2.below fun _ _ => trivial⟩
      · have HN : Hid (nodeE ⟨6, n, [a, b]⟩ = b) := by rw [Hid, node2, if_neg HCN.out, if_pos (by simp [hK])]
        clear hK
        have y0 := M.c 0 0 rfl rfl
        have y1 := M.c 0 1 rfl rfl
        have y2 := M.c 0 2 rfl rfl
        have d0 := M.c 1 0 rfl rfl
        have d1 := M.c 1 1 rfl rfl
        have d2 := M.c 1 2 rfl rfl
        have ff := M.f 1 rfl
        obtain ⟨c0, c1, c2, c3, c4, c5⟩ := HCELL.out _ (M.below fun _ _ => trivial)
        have HM := show Hid _ from ((M.set 1 rfl 0 (.int .i64 b.kind)).set 1 rfl 1 (.int .i64 b.value)).set 1 rfl 2 (.slice bv b.kids.length bc)
        clear M
        go_wp2_with fail
        have M2 := HM.out
        have r0 : World.cell? _ ⟨w.heap.size + 1, 0, none⟩ = some (.int .i64 b.kind) := M2.c 1 0 rfl rfl
        have r1 : World.cell? _ ⟨w.heap.size + 1, 1, none⟩ = some (.int .i64 b.value) := M2.c 1 1 rfl rfl
        have r2 : World.cell? _ ⟨w.heap.size + 1, 2, none⟩ = some (.slice bv b.kids.length bc) := M2.c 1 2 rfl rfl
        refine bodyPost_ret (v := .agg #[.int .i64 b.kind, .int .i64 b.value, .slice bv b.kids.length bc]) (by simp [results, Try.results137, go_sem, r0, r1, r2]) rfl ?_
        rw [HN.out]
        exact ⟨_, _, rfl, HKK.out _ (M2.below fun _ _ => trivial) |>.2.1, M2.below fun _ _ => trivial⟩
    have p4 : (k == 4) = false := by simp [q4]
    have p8 : (k == 8) = false := by simp [q8]
    have p5 : (k == 5) = false := by simp [q5]
    have p6 : (k == 6) = false := by simp [q6]
    have HN : Hid (nodeE ⟨k, n, [a, b]⟩ = ⟨k, n, [a, b]⟩) := by rw [Hid, node2, if_neg HCN.out, if_neg (by simp [q4, q5, q6, q8]), if_neg (by simp [q4, q5, q6, q8])]
    clear q4 q5 q6 q8
    have y0 := M.c 0 0 rfl rfl
    have y1 := M.c 0 1 rfl rfl
    have y2 := M.c 0 2 rfl rfl
    have d0 := M.c 1 0 rfl rfl
    have d1 := M.c 1 1 rfl rfl
    have d2 := M.c 1 2 rfl rfl
    have ff := M.f 1 rfl
    obtain ⟨c0, c1, c2, c3, c4, c5⟩ := HCELL.out _ (M.below fun _ _ => trivial)
    rw [hW] at y0 y1 y2 d0 d1 d2 ff c0 c1 c2 c3 c4 c5
    have HM : Hid (Mem (fun _ => True) (fun _ => True) w _ [.box w.heap.size [.int .i64 k, .int .i64 n, .slice (some ⟨g, off, none⟩) 2 cap], .box (w.heap.size + 1) [.int .i64 k, .int .i64 n, .slice (some ⟨g, off, none⟩) 2 cap]]) := ((Mem.start fun _ _ => trivial).box [.int .i64 k, .int .i64 n, .slice (some ⟨g, off, none⟩) 2 cap] 41).box' [.int .i64 k, .int .i64 n, .slice (some ⟨g, off, none⟩) 2 cap] 41 (by simp)
    clear M
    go_enter Try.func137, Try.ntmps137
    go_wp2_with fail
    have M2 := HM.out
    have r0 : World.cell? _ ⟨w.heap.size + 1, 0, none⟩ = some (.int .i64 k) := M2.c 1 0 rfl rfl
    have r1 : World.cell? _ ⟨w.heap.size + 1, 1, none⟩ = some (.int .i64 n) := M2.c 1 1 rfl rfl
    have r2 : World.cell? _ ⟨w.heap.size + 1, 2, none⟩ = some (.slice (some ⟨g, off, none⟩) 2 cap) := M2.c 1 2 rfl rfl
    refine bodyPost_ret (v := .agg #[.int .i64 k, .int .i64 n, .slice (some ⟨g, off, none⟩) 2 cap]) (by simp [results, Try.results137, go_sem, r0, r1, r2]) rfl ?_
    rw [HN.out]
    exact ⟨_, _, rfl, HKK.out _ (M2.below fun _ _ => trivial) |>.2.2, M2.below fun _ _ => trivial⟩

end Go.Proofs.Ytgpkdfefgcpbiaa
