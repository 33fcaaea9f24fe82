/-
  Validity of expressions, the reference's: the shape of a node, and how many nodes there are. Conditions: the arguments read as trees.
-/
import Derived.Test.YtgpkdfefgcpbiaaValidS
import Derived.Test.YtgpkdfefgcpbiaaTreeSz
namespace Go.Proofs.Ytgpkdfefgcpbiaa
set_option linter.unusedVariables false
set_option linter.unusedSimpArgs false
open Go Go.RowKit

theorem nodeB_parts {nv na : Nat} {e : LExpr} (h : nodeB nv na e = true) : (e.kids.length : Int) = arity e.kind ∧ 0 ≤ e.value ∧ e.value < limit nv na e.kind := by
  unfold nodeB at h; simp at h; exact ⟨h.1.1, h.1.2, h.2⟩

theorem readB_get {e : LExpr} (h3 : e.kind = 3) (hl : 0 < e.kids.length) : readB e = (decide (e.kids[0].kind = 1) || decide (e.kids[0].kind = 2)) := by
  rcases e with ⟨k, n, ks⟩
  cases ks with
  | nil => simp [LExpr.kids] at hl
  | cons a r =>
    have h3' : k = 3 := h3
    subst h3'
    simp only [readB, LExpr.kids, List.getElem_cons_zero, atomB]
    rw [decide_eq_false (by simp [LExpr.kind])]
    rfl

set_option maxRecDepth 100000 in
set_option maxHeartbeats 8000000 in
theorem spec_l2Shape (a1 a2 : Option Addr) (nv c1 na c2 : Nat) (v3 : Value) (h1 : nv ≤ 9223372036854775807) (h2 : na ≤ 9223372036854775807) : ∀ d : Nat, d ≤ 5 → ∀ (e : LExpr) (φ : Nat → Prop) (v : Value) (w : World), ExprV w φ v e →
    Calls Try.prog 159 #[.agg #[.slice a1 nv c1, .slice a2 na c2, v3], v, .int .i64 d] w fun x w' => x = .returned (.bool (shapeB nv na d e)) ∧ Below w.heap.size w w' := by
  intro d
  induction d with
  | zero =>
    intro _ e φ v w h
    obtain ⟨kv, rfl, hk⟩ := h
    have HS : Hid (shapeB nv na 0 e = false) := rfl
    obtain ⟨W, hW, M⟩ : ∃ W, W = (w.alloc (.cells #[.slice a1 nv c1, .slice a2 na c2, v3] 31)).alloc (.cells #[.int .i64 e.kind, .int .i64 e.value, kv] 41) ∧ Mem (fun _ => True) (fun _ => True) w W [.box w.heap.size [.slice a1 nv c1, .slice a2 na c2, v3], .box (w.heap.size + 1) [.int .i64 e.kind, .int .i64 e.value, kv]] :=
      ⟨_, rfl, ((Mem.start fun _ _ => trivial).box _ _).box' _ _ (by simp)⟩
    have HB := show Hid _ from M.below fun _ _ => trivial
    clear hk M
    go_enter Try.func159, Try.ntmps159
    go_wp2_with fail
    rw [← hW]
    clear hW
    refine wp_region_ext (by kernel_rfl) (by kernel_rfl) ?_
    repeat (any_goals (first | go_big_quiet_step (((fail))) | quiet_step (((fail)))))
    refine wpQuiet_nil ?_
    rintro _ ⟨X, rfl⟩
    go_wp2_with fail
    go_ret
    exact ⟨ret_bool HS.out.symm, HB.out.trans ((ext_below W X).mono HB.out.size)⟩
  | succ d ih =>
    intro hd5 e φ v w h
    obtain ⟨kv, rfl, hk⟩ := h
    obtain ⟨ak, ck, rfl, -, hn, -, hc⟩ := hk.open
    have hd0 : (d : Int) ≤ 5 := by omega
    have p0 : decide ((d : Int) + 1 < 1) = false := by simp; omega
    have HS : Hid (shapeB nv na (d + 1) e = (nodeB nv na e && e.kids.all (shapeB nv na d) && readB e)) := rfl
    obtain ⟨W, hW, M⟩ : ∃ W, W = (w.alloc (.cells #[.slice a1 nv c1, .slice a2 na c2, v3] 31)).alloc (.cells #[.int .i64 e.kind, .int .i64 e.value, .slice ak e.kids.length ck] 41) ∧ Mem (fun _ => True) (fun _ => True) w W [.box w.heap.size [.slice a1 nv c1, .slice a2 na c2, v3], .box (w.heap.size + 1) [.int .i64 e.kind, .int .i64 e.value, .slice ak e.kids.length ck]] :=
      ⟨_, rfl, ((Mem.start fun _ _ => trivial).box _ _).box' _ _ (by simp)⟩
    have HB := show Hid _ from M.below fun _ _ => trivial
    have HA : Hid (∀ X, Calls Try.prog 188 #[.int .i64 e.kind] (W.ext X) fun x w'' => x = .returned (.int .i64 (arity e.kind)) ∧ ∃ Y, w'' = W.ext Y) := fun X =>
      Calls.ext_of' ((spec_l2Arity e.kind _).mono fun x w' h => ⟨h.1, h.2 ▸ Below.refl _ _⟩)
    have HL : Hid (∀ X, Calls Try.prog 189 #[.agg #[.slice a1 nv c1, .slice a2 na c2, v3], .int .i64 e.kind] (W.ext X) fun x w'' => x = .returned (.int .i64 (limit nv na e.kind)) ∧ ∃ Y, w'' = W.ext Y) := fun X =>
      Calls.ext_of' (spec_l2Limit a1 a2 nv c1 na c2 v3 e.kind _ h1 h2)
    have HM := show Hid _ from M
    have HC := show Hid _ from hc
    have x0 := M.c 0 0 rfl rfl
    have x1 := M.c 0 1 rfl rfl
    have x2 := M.c 0 2 rfl rfl
    have y0 := M.c 1 0 rfl rfl
    have y1 := M.c 1 1 rfl rfl
    have y2 := M.c 1 2 rfl rfl
    have z0 := fun X => ext_cell x0 X
    have z1 := fun X => ext_cell x1 X
    have z2 := fun X => ext_cell x2 X
    have z3 := fun X => ext_cell y0 X
    have z4 := fun X => ext_cell y1 X
    have z5 := fun X => ext_cell y2 X
    clear hk M hc x0 x1 x2 y0 y1 y2
    by_cases q1 : (e.kids.length : Int) = arity e.kind
    case neg =>
      have p1 : ((e.kids.length : Int) != arity e.kind) = true := by simp [q1]
      have HN : Hid (nodeB nv na e = false) := by unfold Hid nodeB; simp [q1]
      clear q1
      go_enter Try.func159, Try.ntmps159
      go_wp2_with fail
      rw [← hW]
      clear hW
      refine wp_region_ext (by kernel_rfl) (by kernel_rfl) ?_
      repeat (any_goals (first | go_big_quiet_step (((first | (go_at_call 188; exact HA.out _) | (go_at_call 189; exact HL.out _)))) | quiet_step (((first | (go_at_call 188; exact HA.out _) | (go_at_call 189; exact HL.out _))))))
      refine wpQuiet_nil ?_
      rintro _ ⟨X, rfl⟩
      go_wp2_with fail
      go_ret
      exact ⟨ret_bool (by rw [HS.out, HN.out]; rfl), HB.out.trans ((ext_below W X).mono HB.out.size)⟩
    have p1 : ((e.kids.length : Int) != arity e.kind) = false := by simp [q1]
    by_cases q2 : e.value < 0
    case pos =>
      have p2 : decide (e.value < 0) = true := by simp [q2]
      have HN : Hid (nodeB nv na e = false) := by unfold Hid nodeB; simp; intro _ h; omega
      clear q1 q2
      go_enter Try.func159, Try.ntmps159
      go_wp2_with fail
      rw [← hW]
      clear hW
      refine wp_region_ext (by kernel_rfl) (by kernel_rfl) ?_
      repeat (any_goals (first | go_big_quiet_step (((first | (go_at_call 188; exact HA.out _) | (go_at_call 189; exact HL.out _)))) | quiet_step (((first | (go_at_call 188; exact HA.out _) | (go_at_call 189; exact HL.out _))))))
      refine wpQuiet_nil ?_
      rintro _ ⟨X, rfl⟩
      go_wp2_with fail
      go_ret
      exact ⟨ret_bool (by rw [HS.out, HN.out]; rfl), HB.out.trans ((ext_below W X).mono HB.out.size)⟩
    have p2 : decide (e.value < 0) = false := by simp; omega
    by_cases q3 : limit nv na e.kind ≤ e.value
    case pos =>
      have p3 : decide (limit nv na e.kind ≤ e.value) = true := by simp [q3]
      have HN : Hid (nodeB nv na e = false) := by unfold Hid nodeB; simp; intro _ h; omega
      clear q1 q2 q3
      go_enter Try.func159, Try.ntmps159
      go_wp2_with fail
      rw [← hW]
      clear hW
      refine wp_region_ext (by kernel_rfl) (by kernel_rfl) ?_
      repeat (any_goals (first | go_big_quiet_step (((first | (go_at_call 188; exact HA.out _) | (go_at_call 189; exact HL.out _)))) | quiet_step (((first | (go_at_call 188; exact HA.out _) | (go_at_call 189; exact HL.out _))))))
      refine wpQuiet_nil ?_
      rintro _ ⟨X, rfl⟩
      go_wp2_with fail
      go_ret
      exact ⟨ret_bool (by rw [HS.out, HN.out]; rfl), HB.out.trans ((ext_below W X).mono HB.out.size)⟩
    have p3 : decide (limit nv na e.kind ≤ e.value) = false := by simp; omega
    have HN : Hid (nodeB nv na e = true) := by unfold Hid nodeB; simp; exact ⟨⟨q1, by omega⟩, by omega⟩
    have HQ := show Hid _ from q1
    clear q1 q2 q3
    go_enter Try.func159, Try.ntmps159
    go_wp2_with fail
    rw [← hW]
    clear hW
    refine wp_region_ext (by kernel_rfl) (by kernel_rfl) ?_
    repeat (any_goals (first | go_big_quiet_step (((first | (go_at_call 188; exact HA.out _) | (go_at_call 189; exact HL.out _)))) | quiet_step (((first | (go_at_call 188; exact HA.out _) | (go_at_call 189; exact HL.out _))))))
    refine wpQuiet_nil ?_
    rintro _ ⟨X, rfl⟩
    have M := HM.out.call (ext_below W X)
    generalize W.ext X = W1 at *
    clear HA HL HM HB p1 p2 p3 z0 z1 z2 z3 z4 z5
    go_wp2_with fail
    go_loopw [7] (fun i wr => ∃ k : Nat, k ≤ e.kids.length ∧ i = .int .i64 k ∧ (e.kids.take k).all (shapeB nv na d) = true ∧ Mem (fun _ => True) (fun _ => True) w wr [.box w.heap.size [.slice a1 nv c1, .slice a2 na c2, v3], .box (w.heap.size + 1) [.int .i64 e.kind, .int .i64 e.value, .slice ak e.kids.length ck]]) (fun i _ => e.kids.length - (intOf i).toNat)
    case atStart => exact ⟨0, Nat.zero_le _, rfl, rfl, M⟩
    case round =>
      clear M
      obtain ⟨k, hk, rfl, hall, M⟩ := hrel
      have HALL := show Hid _ from hall
      clear hall
      have hB := M.below fun _ _ => trivial
      have x0 := M.c 0 0 rfl rfl
      have x1 := M.c 0 1 rfl rfl
      have x2 := M.c 0 2 rfl rfl
      have y0 := M.c 1 0 rfl rfl
      have y2 := M.c 1 2 rfl rfl
      by_cases hlt : k < e.kids.length
      · obtain ⟨b, off, kv, rfl, hbk, hf, c0, c1', c2', hkv⟩ := HC.out k hlt
        rw [← (bcell hB).1 _ _ hbk] at c0 c1' c2'
        obtain ⟨q, hq⟩ : ∃ q, q = shapeB nv na d e.kids[k] := ⟨_, rfl⟩
        have HC3 : Hid (∀ X, Calls Try.prog 159 #[.agg #[.slice a1 nv c1, .slice a2 na c2, v3], .agg #[.int .i64 e.kids[k].kind, .int .i64 e.kids[k].value, kv], .int .i64 d] (wr.ext X) fun x w'' => x = .returned (.bool q) ∧ ∃ Y, w'' = wr.ext Y) := fun X => by
          have bb := hB.trans ((ext_below wr X).mono hB.size)
          rw [hq]
          exact Calls.ext_of' (ih (by omega) _ φ _ _ ⟨kv, rfl, KidsV.nice _ _ _ _ _ _ (Agr.below bb) hkv⟩)
        have HQQ := show Hid _ from hq
        have HM := show Hid _ from M
        have j0 := fun X => ext_cell c0 X
        have j1 := fun X => ext_cell c1' X
        have j2 := fun X => ext_cell c2' X
        have z0 := fun X => ext_cell x0 X
        have z1 := fun X => ext_cell x1 X
        have z2 := fun X => ext_cell x2 X
        have z5 := fun X => ext_cell y2 X
        have hlt' : (k : Int) < e.kids.length := by omega
        clear hkv hq c0 c1' c2' x0 x1 x2 y0 M hB
        cases q
        · go_wp2_with fail
          refine wp_region_ext (by kernel_rfl) (by kernel_rfl) ?_
          repeat (any_goals (first | go_big_quiet_step (((go_at_call 159; exact HC3.out _))) | quiet_step (((go_at_call 159; exact HC3.out _)))))
          refine wpQuiet_nil ?_
          rintro _ ⟨X, rfl⟩
          go_wp2_with fail
          go_ret
          have M := HM.out.call (ext_below wr X)
          refine ⟨ret_bool ?_, M.below fun _ _ => trivial⟩
          have h9 : e.kids.all (shapeB nv na d) = false := List.all_eq_false.2 ⟨_, List.getElem_mem hlt, by rw [← HQQ.out]; simp⟩
          rw [HS.out, h9, Bool.and_false, Bool.false_and]
        · go_wp2_with fail
          refine wp_region_ext (by kernel_rfl) (by kernel_rfl) ?_
          repeat (any_goals (first | go_big_quiet_step (((go_at_call 159; exact HC3.out _))) | quiet_step (((go_at_call 159; exact HC3.out _)))))
          refine wpQuiet_nil ?_
          rintro _ ⟨X, rfl⟩
          go_wp2_with fail
          refine ⟨⟨k + 1, by omega, by go_num, ?_, HM.out.call (ext_below wr X)⟩, by simp [intOf]; omega⟩
          rw [p_take_succ _ _ hlt, List.all_append, HALL.out]
          simp [← HQQ.out]
      · have hkn : k = e.kids.length := by omega
        subst hkn
        have hall := HALL.out
        rw [List.take_of_length_le (Nat.le_refl _)] at hall
        have HAL := show Hid _ from hall
        have HB := show Hid _ from hB
        have HM := show Hid _ from M
        clear hall x0 x1 x2 M hB
        by_cases q4 : e.kind = 3
        · have p4 : (e.kind != 3) = false := by simp [q4]
          have hl1 : e.kids.length = 1 := by have := HQ.out; rw [q4] at this; simp [arity] at this; omega
          have HL1 := show Hid _ from hl1
          have hpos : 0 < (e.kids.length : Int) := by omega
          obtain ⟨b, off, kv, rfl, hbk, hf, c0, c1', c2', hkv⟩ := HC.out 0 (by omega)
          rw [← (bcell HB.out).1 _ _ hbk] at c0 c1' c2'
          simp only [Nat.zero_mul, Nat.add_zero] at c0 c1' c2'
          have HR := show Hid _ from readB_get q4 (by omega)
          clear hkv q4
          go_wp2_with fail
          refine (spec_l2Atom _ _ _ _).mono ?_
          rintro x w2 ⟨rfl, b2⟩
          have B2 := show Hid _ from HB.out.trans (b2.mono HB.out.size)
          clear b2
          go_wp2_with fail
          go_ret
          exact ⟨ret_bool (by rw [HS.out, HN.out, HAL.out, HR.out]; rfl), B2.out⟩
        · have p4 : (e.kind != 3) = true := by simp [q4]
          have HR : Hid (readB e = true) := by unfold Hid readB; simp [q4]
          clear q4
          go_wp2_with fail
          go_ret
          exact ⟨ret_bool (by rw [HS.out, HN.out, HAL.out, HR.out]; rfl), HB.out⟩

end Go.Proofs.Ytgpkdfefgcpbiaa
