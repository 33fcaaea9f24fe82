/-
  Texts of this claim, part 3: what the functions on the way do, and plain laws. Conditions: as each statement says.
-/
import Derived.Test.YtgpkdfefgcpbiaaK2

namespace Go.Proofs.Ytgpkdfefgcpbiaa
set_option linter.unusedVariables false
set_option linter.unusedSimpArgs false
open Go Go.RowKit

theorem readB_get {e : LExpr} (h3 : e.kind = 3) (hl : 0 < e.kids.length) : readB e = (decide (e.kids[0].kind = 1) || decide (e.kids[0].kind = 2)) := by
  rcases e with ⟨k, n, ks⟩
  cases ks with
  | nil => simp [LExpr.kids] at hl
  | cons a r =>
    have h3' : k = 3 := h3
    subst h3'
    simp only [readB, LExpr.kids, List.getElem_cons_zero, atomB]
    rw [decide_eq_false (by simp [LExpr.kind])]
    rfl

set_option maxRecDepth 100000 in
set_option maxHeartbeats 8000000 in
theorem spec_l2Shape (a1 a2 : Option Addr) (nv c1 na c2 : Nat) (v3 : Value) (h1 : nv ≤ 9223372036854775807) (h2 : na ≤ 9223372036854775807) : ∀ d : Nat, d ≤ 5 → ∀ (e : LExpr) (φ : Nat → Prop) (v : Value) (w : World), ExprV w φ v e →
    Calls Try.prog 159 #[.agg #[.slice a1 nv c1, .slice a2 na c2, v3], v, .int .i64 d] w fun x w' => x = .returned (.bool (shapeB nv na d e)) ∧ Below w.heap.size w w' := by
  intro d
  induction d with
  | zero =>
    intro _ e φ v w h
    obtain ⟨kv, rfl, hk⟩ := h
    have HS : Hid (shapeB nv na 0 e = false) := rfl
    obtain ⟨W, hW, M⟩ : ∃ W, W = (w.alloc (.cells #[.slice a1 nv c1, .slice a2 na c2, v3] 31)).alloc (.cells #[.int .i64 e.kind, .int .i64 e.value, kv] 41) ∧ Mem (fun _ => True) (fun _ => True) w W [.box w.heap.size [.slice a1 nv c1, .slice a2 na c2, v3], .box (w.heap.size + 1) [.int .i64 e.kind, .int .i64 e.value, kv]] :=
      ⟨_, rfl, ((Mem.start fun _ _ => trivial).box _ _).box' _ _ (by simp)⟩
    have HB := show Hid _ from M.below fun _ _ => trivial
    clear hk M
    go_enter Try.func159, Try.ntmps159
    go_wp2_with fail
    rw [← hW]
    clear hW
    refine wp_region_ext (by kernel_rfl) (by kernel_rfl) ?_
    repeat (any_goals (first | go_big_quiet_step (((fail))) | quiet_step (((fail)))))
    refine wpQuiet_nil ?_
    rintro _ ⟨X, rfl⟩
    go_wp2_with fail
    go_ret
    exact ⟨ret_bool HS.out.symm, HB.out.trans ((ext_below W X).mono HB.out.size)⟩
  | succ d ih =>
    intro hd5 e φ v w h
    obtain ⟨kv, rfl, hk⟩ := h
    obtain ⟨ak, ck, rfl, -, hn, -, hc⟩ := hk.open
    have hd0 : (d : Int) ≤ 5 := by omega
    have p0 : decide ((d : Int) + 1 < 1) = false := by simp; omega
    have HS : Hid (shapeB nv na (d + 1) e = (nodeB nv na e && e.kids.all (shapeB nv na d) && readB e)) := rfl
    obtain ⟨W, hW, M⟩ : ∃ W, W = (w.alloc (.cells #[.slice a1 nv c1, .slice a2 na c2, v3] 31)).alloc (.cells #[.int .i64 e.kind, .int .i64 e.value, .slice ak e.kids.length ck] 41) ∧ Mem (fun _ => True) (fun _ => True) w W [.box w.heap.size [.slice a1 nv c1, .slice a2 na c2, v3], .box (w.heap.size + 1) [.int .i64 e.kind, .int .i64 e.value, .slice ak e.kids.length ck]] :=
      ⟨_, rfl, ((Mem.start fun _ _ => trivial).box _ _).box' _ _ (by simp)⟩
    have HB := show Hid _ from M.below fun _ _ => trivial
    have HA : Hid (∀ X, Calls Try.prog 188 #[.int .i64 e.kind] (W.ext X) fun x w'' => x = .returned (.int .i64 (arity e.kind)) ∧ ∃ Y, w'' = W.ext Y) := fun X =>
      Calls.ext_of' ((spec_l2Arity e.kind _).mono fun x w' h => ⟨h.1, h.2 ▸ Below.refl _ _⟩)
    have HL : Hid (∀ X, Calls Try.prog 189 #[.agg #[.slice a1 nv c1, .slice a2 na c2, v3], .int .i64 e.kind] (W.ext X) fun x w'' => x = .returned (.int .i64 (limit nv na e.kind)) ∧ ∃ Y, w'' = W.ext Y) := fun X =>
      Calls.ext_of' (spec_l2Limit a1 a2 nv c1 na c2 v3 e.kind _ h1 h2)
    have HM := show Hid _ from M
    have HC := show Hid _ from hc
    have x0 := M.c 0 0 rfl rfl
    have x1 := M.c 0 1 rfl rfl
    have x2 := M.c 0 2 rfl rfl
    have y0 := M.c 1 0 rfl rfl
    have y1 := M.c 1 1 rfl rfl
    have y2 := M.c 1 2 rfl rfl
    have z0 := fun X => ext_cell x0 X
    have z1 := fun X => ext_cell x1 X
    have z2 := fun X => ext_cell x2 X
    have z3 := fun X => ext_cell y0 X
    have z4 := fun X => ext_cell y1 X
    have z5 := fun X => ext_cell y2 X
    clear hk M hc x0 x1 x2 y0 y1 y2
    by_cases q1 : (e.kids.length : Int) = arity e.kind
    case neg =>
      have p1 : ((e.kids.length : Int) != arity e.kind) = true := by simp [q1]
      have HN : Hid (nodeB nv na e = false) := by unfold Hid nodeB; simp [q1]
      clear q1
      go_enter Try.func159, Try.ntmps159
      go_wp2_with fail
      rw [← hW]
      clear hW
      refine wp_region_ext (by kernel_rfl) (by kernel_rfl) ?_
      repeat (any_goals (first | go_big_quiet_step (((first | (go_at_call 188; exact HA.out _) | (go_at_call 189; exact HL.out _)))) | quiet_step (((first | (go_at_call 188; exact HA.out _) | (go_at_call 189; exact HL.out _))))))
      refine wpQuiet_nil ?_
      rintro _ ⟨X, rfl⟩
      go_wp2_with fail
      go_ret
      exact ⟨ret_bool (by rw [HS.out, HN.out]; rfl), HB.out.trans ((ext_below W X).mono HB.out.size)⟩
    have p1 : ((e.kids.length : Int) != arity e.kind) = false := by simp [q1]
    by_cases q2 : e.value < 0
    case pos =>
      have p2 : decide (e.value < 0) = true := by simp [q2]
      have HN : Hid (nodeB nv na e = false) := by unfold Hid nodeB; simp; intro _ h; omega
      clear q1 q2
      go_enter Try.func159, Try.ntmps159
      go_wp2_with fail
      rw [← hW]
      clear hW
      refine wp_region_ext (by kernel_rfl) (by kernel_rfl) ?_
      repeat (any_goals (first | go_big_quiet_step (((first | (go_at_call 188; exact HA.out _) | (go_at_call 189; exact HL.out _)))) | quiet_step (((first | (go_at_call 188; exact HA.out _) | (go_at_call 189; exact HL.out _))))))
      refine wpQuiet_nil ?_
      rintro _ ⟨X, rfl⟩
      go_wp2_with fail
      go_ret
      exact ⟨ret_bool (by rw [HS.out, HN.out]; rfl), HB.out.trans ((ext_below W X).mono HB.out.size)⟩
    have p2 : decide (e.value < 0) = false := by simp; omega
    by_cases q3 : limit nv na e.kind ≤ e.value
    case pos =>
      have p3 : decide (limit nv na e.kind ≤ e.value) = true := by simp [q3]
      have HN : Hid (nodeB nv na e = false) := by unfold Hid nodeB; simp; intro _ h; omega
      clear q1 q2 q3
      go_enter Try.func159, Try.ntmps159
      go_wp2_with fail
      rw [← hW]
      clear hW
      refine wp_region_ext (by kernel_rfl) (by kernel_rfl) ?_
      repeat (any_goals (first | go_big_quiet_step (((first | (go_at_call 188; exact HA.out _) | (go_at_call 189; exact HL.out _)))) | quiet_step (((first | (go_at_call 188; exact HA.out _) | (go_at_call 189; exact HL.out _))))))
      refine wpQuiet_nil ?_
      rintro _ ⟨X, rfl⟩
      go_wp2_with fail
      go_ret
      exact ⟨ret_bool (by rw [HS.out, HN.out]; rfl), HB.out.trans ((ext_below W X).mono HB.out.size)⟩
    have p3 : decide (limit nv na e.kind ≤ e.value) = false := by simp; omega
    have HN : Hid (nodeB nv na e = true) := by unfold Hid nodeB; simp; exact ⟨⟨q1, by omega⟩, by omega⟩
    have HQ := show Hid _ from q1
    clear q1 q2 q3
    go_enter Try.func159, Try.ntmps159
    go_wp2_with fail
    rw [← hW]
    clear hW
    refine wp_region_ext (by kernel_rfl) (by kernel_rfl) ?_
    repeat (any_goals (first | go_big_quiet_step (((first | (go_at_call 188; exact HA.out _) | (go_at_call 189; exact HL.out _)))) | quiet_step (((first | (go_at_call 188; exact HA.out _) | (go_at_call 189; exact HL.out _))))))
    refine wpQuiet_nil ?_
    rintro _ ⟨X, rfl⟩
    have M := HM.out.call (ext_below W X)
    generalize W.ext X = W1 at *
    clear HA HL HM HB p1 p2 p3 z0 z1 z2 z3 z4 z5
    go_wp2_with fail
    go_loopw [7] (fun i wr => ∃ k : Nat, k ≤ e.kids.length ∧ i = .int .i64 k ∧ (e.kids.take k).all (shapeB nv na d) = true ∧ Mem (fun _ => True) (fun _ => True) w wr [.box w.heap.size [.slice a1 nv c1, .slice a2 na c2, v3], .box (w.heap.size + 1) [.int .i64 e.kind, .int .i64 e.value, .slice ak e.kids.length ck]]) (fun i _ => e.kids.length - (intOf i).toNat)
    case atStart => exact ⟨0, Nat.zero_le _, rfl, rfl, M⟩
    case round =>
      clear M
      obtain ⟨k, hk, rfl, hall, M⟩ := hrel
      have HALL := show Hid _ from hall
      clear hall
      have hB := M.below fun _ _ => trivial
      have x0 := M.c 0 0 rfl rfl
      have x1 := M.c 0 1 rfl rfl
      have x2 := M.c 0 2 rfl rfl
      have y0 := M.c 1 0 rfl rfl
      have y2 := M.c 1 2 rfl rfl
      by_cases hlt : k < e.kids.length
      · obtain ⟨b, off, kv, rfl, hbk, hf, c0, c1', c2', hkv⟩ := HC.out k hlt
        rw [← (bcell hB).1 _ _ hbk] at c0 c1' c2'
        obtain ⟨q, hq⟩ : ∃ q, q = shapeB nv na d e.kids[k] := ⟨_, rfl⟩
        have HC3 : Hid (∀ X, Calls Try.prog 159 #[.agg #[.slice a1 nv c1, .slice a2 na c2, v3], .agg #[.int .i64 e.kids[k].kind, .int .i64 e.kids[k].value, kv], .int .i64 d] (wr.ext X) fun x w'' => x = .returned (.bool q) ∧ ∃ Y, w'' = wr.ext Y) := fun X => by
          have bb := hB.trans ((ext_below wr X).mono hB.size)
          rw [hq]
          exact Calls.ext_of' (ih (by omega) _ φ _ _ ⟨kv, rfl, KidsV.nice _ _ _ _ _ _ (Agr.below bb) hkv⟩)
        have HQQ := show Hid _ from hq
        have HM := show Hid _ from M
        have j0 := fun X => ext_cell c0 X
        have j1 := fun X => ext_cell c1' X
        have j2 := fun X => ext_cell c2' X
        have z0 := fun X => ext_cell x0 X
        have z1 := fun X => ext_cell x1 X
        have z2 := fun X => ext_cell x2 X
        have z5 := fun X => ext_cell y2 X
        have hlt' : (k : Int) < e.kids.length := by omega
        clear hkv hq c0 c1' c2' x0 x1 x2 y0 M hB
        cases q
        · go_wp2_with fail
          refine wp_region_ext (by kernel_rfl) (by kernel_rfl) ?_
          repeat (any_goals (first | go_big_quiet_step (((go_at_call 159; exact HC3.out _))) | quiet_step (((go_at_call 159; exact HC3.out _)))))
          refine wpQuiet_nil ?_
          rintro _ ⟨X, rfl⟩
          go_wp2_with fail
          go_ret
          have M := HM.out.call (ext_below wr X)
          refine ⟨ret_bool ?_, M.below fun _ _ => trivial⟩
          have h9 : e.kids.all (shapeB nv na d) = false := List.all_eq_false.2 ⟨_, List.getElem_mem hlt, by rw [← HQQ.out]; simp⟩
          rw [HS.out, h9, Bool.and_false, Bool.false_and]
        · go_wp2_with fail
          refine wp_region_ext (by kernel_rfl) (by kernel_rfl) ?_
          repeat (any_goals (first | go_big_quiet_step (((go_at_call 159; exact HC3.out _))) | quiet_step (((go_at_call 159; exact HC3.out _)))))
          refine wpQuiet_nil ?_
          rintro _ ⟨X, rfl⟩
          go_wp2_with fail
          refine ⟨⟨k + 1, by omega, by go_num, ?_, HM.out.call (ext_below wr X)⟩, by simp [intOf]; omega⟩
          rw [p_take_succ _ _ hlt, List.all_append, HALL.out]
          simp [← HQQ.out]
      · have hkn : k = e.kids.length := by omega
        subst hkn
        have hall := HALL.out
        rw [List.take_of_length_le (Nat.le_refl _)] at hall
        have HAL := show Hid _ from hall
        have HB := show Hid _ from hB
        have HM := show Hid _ from M
        clear hall x0 x1 x2 M hB
        by_cases q4 : e.kind = 3
        · have p4 : (e.kind != 3) = false := by simp [q4]
          have hl1 : e.kids.length = 1 := by have := HQ.out; rw [q4] at this; simp [arity] at this; omega
          have HL1 := show Hid _ from hl1
          have hpos : 0 < (e.kids.length : Int) := by omega
          obtain ⟨b, off, kv, rfl, hbk, hf, c0, c1', c2', hkv⟩ := HC.out 0 (by omega)
          rw [← (bcell HB.out).1 _ _ hbk] at c0 c1' c2'
          simp only [Nat.zero_mul, Nat.add_zero] at c0 c1' c2'
          have HR := show Hid _ from readB_get q4 (by omega)
          clear hkv q4
          go_wp2_with fail
          refine (spec_l2Atom _ _ _ _).mono ?_
          rintro x w2 ⟨rfl, b2⟩
          have B2 := show Hid _ from HB.out.trans (b2.mono HB.out.size)
          clear b2
          go_wp2_with fail
          go_ret
          exact ⟨ret_bool (by rw [HS.out, HN.out, HAL.out, HR.out]; rfl), B2.out⟩
        · have p4 : (e.kind != 3) = true := by simp [q4]
          have HR : Hid (readB e = true) := by unfold Hid readB; simp [q4]
          clear q4
          go_wp2_with fail
          go_ret
          exact ⟨ret_bool (by rw [HS.out, HN.out, HAL.out, HR.out]; rfl), HB.out⟩

end Go.Proofs.Ytgpkdfefgcpbiaa

namespace Go.Proofs.Ytgpkdfefgcpbiaa
set_option linter.unusedVariables false
set_option linter.unusedSimpArgs false
open Go Go.RowKit

theorem arity_kids {nv na d : Nat} {e : LExpr} (h : shapeB nv na (d + 1) e = true) : e.kids.length ≤ 3 ∧ ∀ x ∈ e.kids, shapeB nv na d x = true := by
  simp only [shapeB, nodeB, Bool.and_eq_true, decide_eq_true_eq, List.all_eq_true] at h
  refine ⟨?_, h.1.2⟩
  have h1 := h.1.1.1.1
  have : arity e.kind ≤ 3 := by unfold arity; (repeat' split) <;> omega
  omega
theorem szEs_bound {ks : List LExpr} {B : Nat} (h : ∀ x ∈ ks, 1 + szE x ≤ B) : szEs ks ≤ ks.length * B := by
  induction ks with
  | nil => simp [szEs]
  | cons a r ih =>
    have h1 := h a List.mem_cons_self
    have h2 := ih fun x hx => h x (List.mem_cons_of_mem _ hx)
    simp only [szEs, List.length_cons, Nat.succ_mul]; omega
theorem shape_sz (nv na : Nat) : ∀ (d : Nat) (e : LExpr), shapeB nv na d e = true → 1 + szE e ≤ 4 ^ d := by
  intro d
  induction d with
  | zero => intro e h; simp [shapeB] at h
  | succ d ih =>
    intro e h
    obtain ⟨h1, h2⟩ := arity_kids h
    have h3 := szEs_bound (ks := e.kids) fun x hx => ih x (h2 x hx)
    have h4 : e.kids.length * 4 ^ d ≤ 3 * 4 ^ d := Nat.mul_le_mul_right _ h1
    have h5 : 0 < 4 ^ d := Nat.pos_of_ne_zero (by simp)
    rw [szE_kids, Nat.pow_succ]
    omega

set_option maxRecDepth 100000 in
set_option maxHeartbeats 4000000 in
theorem spec_l2Count (nv na : Nat) : ∀ d : Nat, d ≤ 5 → ∀ (e : LExpr) (φ : Nat → Prop) (v : Value) (w : World), ExprV w φ v e → shapeB nv na d e = true →
    Calls Try.prog 160 #[v, .int .i64 d] w fun x w' => x = .returned (.int .i64 (1 + szE e : Nat)) ∧ Below w.heap.size w w' := by
  intro d
  induction d with
  | zero => intro _ e φ v w _ hs; simp [shapeB] at hs
  | succ d ih =>
    intro hd5 e φ v w h hs
    obtain ⟨kv, rfl, hk⟩ := h
    obtain ⟨ak, ck, rfl, -, hn, -, hc⟩ := hk.open
    have hd0 : (d : Int) ≤ 5 := by omega
    have hd1 : decide (0 < (d : Int) + 1) = true := decide_eq_true (by omega)
    have hsz : szEs e.kids ≤ 1024 := by
      have h1 := shape_sz nv na (d + 1) e hs
      have h2 : 4 ^ (d + 1) ≤ 4 ^ 5 := Nat.pow_le_pow_right (by omega) hd5
      rw [szE_kids] at h1; omega
    have HK := show Hid _ from (arity_kids hs).2
    obtain ⟨W, hW, M⟩ : ∃ W, W = w.alloc (.cells #[.int .i64 e.kind, .int .i64 e.value, .slice ak e.kids.length ck] 41) ∧ Mem (fun _ => True) (fun _ => True) w W [.box w.heap.size [.int .i64 e.kind, .int .i64 e.value, .slice ak e.kids.length ck]] :=
      ⟨_, rfl, (Mem.start fun _ _ => trivial).box _ _⟩
    have HC := show Hid _ from hc
    have HSZ := show Hid _ from szE_kids e
    clear hk hc hs
    go_enter Try.func160, Try.ntmps160
    go_wp2_with fail
    rw [← hW]
    clear hW
    go_loopw [5, 6] (fun q i wr => ∃ k : Nat, k ≤ e.kids.length ∧ i = .int .i64 k ∧ q = .int .i64 (1 + szEs (e.kids.take k) : Nat) ∧ Mem (fun _ => True) (fun _ => True) w wr [.box w.heap.size [.int .i64 e.kind, .int .i64 e.value, .slice ak e.kids.length ck]]) (fun _ i _ => e.kids.length - (intOf i).toNat)
    case atStart => exact ⟨0, Nat.zero_le _, rfl, rfl, M⟩
    case round =>
      clear M
      obtain ⟨k, hk, rfl, rfl, M⟩ := hrel
      have hB := M.below fun _ _ => trivial
      have y2 := M.c 0 2 rfl rfl
      have htl := szEs_take_le e.kids k
      obtain ⟨z, hz⟩ : ∃ z, z = szEs (e.kids.take k) := ⟨_, rfl⟩
      rw [← hz] at htl ⊢
      have HZ := show Hid _ from hz
      clear hz
      by_cases hlt : k < e.kids.length
      · obtain ⟨b, off, kv, rfl, hbk, hf, c0, c1', c2', hkv⟩ := HC.out k hlt
        rw [← (bcell hB).1 _ _ hbk] at c0 c1' c2'
        have HE := show Hid (ExprV wr φ (.agg #[.int .i64 e.kids[k].kind, .int .i64 e.kids[k].value, kv]) e.kids[k]) from ⟨kv, rfl, KidsV.nice _ _ _ _ _ _ (Agr.below hB) hkv⟩
        have HM := show Hid _ from M
        have hlt' : (k : Int) < e.kids.length := by omega
        have HT := show Hid _ from szEs_take1 hlt
        have htl1 := szEs_take_le e.kids (k + 1)
        rw [HT.out, ← HZ.out] at htl1
        clear hkv M hB
        go_wp2_with fail
        refine (ih (by omega) _ φ _ _ HE.out (HK.out _ (List.getElem_mem hlt))).mono ?_
        rintro x w2 ⟨rfl, b2⟩
        have HM2 := show Hid _ from HM.out.call b2
        clear b2 y2
        go_wp2_with fail
        exact ⟨⟨k + 1, by omega, by go_num, by rw [HT.out, ← HZ.out]; go_num, HM2.out⟩, by simp [intOf]; omega⟩
      · have hkn : k = e.kids.length := by omega
        subst hkn
        have HB := show Hid _ from hB
        clear M hB
        go_wp2_with fail
        go_ret
        exact ⟨ret_int (by rw [HZ.out, List.take_of_length_le (Nat.le_refl _), HSZ.out]), HB.out⟩

set_option maxHeartbeats 1000000 in
theorem spec_l2Right (a1 a2 : Option Addr) (nv c1 na c2 : Nat) (v3 : Value) (h1 : nv ≤ 9223372036854775807) (h2 : na ≤ 9223372036854775807) (e : LExpr) (φ : Nat → Prop) (v : Value) (w : World) (h : ExprV w φ v e) :
    Calls Try.prog 110 #[.agg #[.slice a1 nv c1, .slice a2 na c2, v3], v] w fun x w' => x = .returned (.bool (rightB nv na e)) ∧ Below w.heap.size w w' := by
  obtain ⟨kv, rfl, hk⟩ := h
  have HR : Hid (rightB nv na e = (shapeB nv na 5 e && decide (1 + szE e ≤ 15))) := rfl
  obtain ⟨W, hW, M⟩ : ∃ W, W = (w.alloc (.cells #[.slice a1 nv c1, .slice a2 na c2, v3] 31)).alloc (.cells #[.int .i64 e.kind, .int .i64 e.value, kv] 41) ∧ Mem (fun _ => True) (fun _ => True) w W [.box w.heap.size [.slice a1 nv c1, .slice a2 na c2, v3], .box (w.heap.size + 1) [.int .i64 e.kind, .int .i64 e.value, kv]] :=
    ⟨_, rfl, ((Mem.start fun _ _ => trivial).box _ _).box' _ _ (by simp)⟩
  have HE := show Hid (∀ W', Below w.heap.size w W' → ExprV W' φ (.agg #[.int .i64 e.kind, .int .i64 e.value, kv]) e) from fun W' k => ⟨kv, rfl, KidsV.nice _ _ _ _ _ _ (Agr.below k) hk⟩
  clear hk
  have x0 := M.c 0 0 rfl rfl
  have x1 := M.c 0 1 rfl rfl
  have x2 := M.c 0 2 rfl rfl
  have y0 := M.c 1 0 rfl rfl
  have y1 := M.c 1 1 rfl rfl
  have y2 := M.c 1 2 rfl rfl
  rw [hW] at x0 x1 x2 y0 y1 y2
  go_enter Try.func110, Try.ntmps110
  go_wp2_with fail
  rw [← hW]
  clear hW x0 x1 x2 y0 y1 y2
  refine (spec_l2Shape a1 a2 nv c1 na c2 v3 h1 h2 5 (by omega) e φ _ _ (HE.out _ (M.below fun _ _ => trivial))).mono ?_
  rintro x w1 ⟨rfl, b1⟩
  replace M := M.call b1
  clear b1
  cases hs : shapeB nv na 5 e
  · have HB := show Hid _ from M.below fun _ _ => trivial
    have HS := show Hid _ from hs
    clear hs M
    go_wp2_with fail
    go_ret
    exact ⟨ret_bool (by rw [HR.out, HS.out]; rfl), HB.out⟩
  · have HS := show Hid _ from hs
    have hsz := shape_sz nv na 5 e hs
    have y0 := M.c 1 0 rfl rfl
    have y1 := M.c 1 1 rfl rfl
    have y2 := M.c 1 2 rfl rfl
    have HM := show Hid _ from M
    clear hs M
    go_wp2_with fail
    refine (spec_l2Count nv na 5 (by omega) e φ _ _ (HE.out _ (HM.out.below fun _ _ => trivial)) HS.out).mono ?_
    rintro x w2 ⟨rfl, b1⟩
    have HB := show Hid _ from (HM.out.call b1).below fun _ _ => trivial
    clear b1 y0 y1 y2
    go_wp2_with fail
    go_ret
    exact ⟨ret_bool (by rw [HR.out, HS.out, Bool.true_and]; exact decide_eq_decide.2 (by omega)), HB.out⟩

end Go.Proofs.Ytgpkdfefgcpbiaa

namespace Go.Proofs.Ytgpkdfefgcpbiaa
set_option linter.unusedVariables false
set_option linter.unusedSimpArgs false
open Go Go.RowKit

theorem impl_within (n lo hi : Int) (w : World) : Calls Try.prog 140 #[.int .i64 n, .int .i64 lo, .int .i64 hi] w fun e w' => e = .returned (.bool (decide (lo ≤ n) && decide (n ≤ hi))) ∧ w = w' := by
  go_enter Try.func140, Try.ntmps140
  go_wp2
  all_goals go_ret
  all_goals exact ⟨ret_bool (by simp; try omega), rfl⟩

theorem impl_LabelValid (l : Int) (w : World) : Calls Try.prog 86 #[.int .i64 l] w fun e w' => e = .returned (.bool (labOk l)) ∧ w = w' := by
  go_enter Try.func86, Try.ntmps86
  go_wp2_with fail
  refine (impl_within l 0 3 _).mono ?_
  rintro e w1 ⟨rfl, rfl⟩
  go_wp2_with fail
  go_ret
  exact ⟨rfl, rfl⟩

theorem impl_areLabels1 (l : Int) (w : World) : Calls Try.prog 201 #[.int .i64 l] w fun e w' => e = .returned (.bool (!labOk l)) ∧ w = w' := by
  go_enter Try.func201, Try.ntmps201
  go_wp2_with fail
  refine (impl_LabelValid l _).mono ?_
  rintro e w1 ⟨rfl, rfl⟩
  go_wp2_with fail
  go_ret
  exact ⟨rfl, rfl⟩

set_option maxHeartbeats 1000000 in
/-- slices.IndexFunc over ints, the function capturing nothing. -/
theorem indexFunc_int (p : Int → Bool) (f : FuncId) (v : Value) (xs : List Int) (w : World) (h : Row w v xs.length 1 (ints xs)) (he : ∀ args w, (callFunc f args).run Try.prog w = .ok (.enter f args) w)
    (hf : ∀ x w', Calls Try.prog f #[.int .i64 x] w' fun e w'' => e = .returned (.bool (p x)) ∧ w' = w'') :
    Calls Try.prog 205 #[v, .func (.func f) #[] #[]] w fun e w' => ∃ r : Int, e = .returned (.int .i64 r) ∧ decide (0 ≤ r) = xs.any p ∧ w = w' := by
  obtain ⟨a1, c1, rfl, -, hm1, -, hc1⟩ := h.open1
  have HF := show Hid _ from hf
  clear h hf
  go_enter Try.func205, Try.ntmps205
  go_wp2_with fail
  go_loop [5, 8] (fun _ i => ∃ k : Nat, k ≤ xs.length ∧ i = .int .i64 k ∧ (xs.take k).any p = false) (fun _ i => xs.length - (intOf i).toNat)
  case atStart => exact ⟨0, Nat.zero_le _, rfl, rfl⟩
  case round =>
    obtain ⟨k, hk, rfl, ha⟩ := hrel
    have HA := show Hid _ from ha
    clear ha
    by_cases hlt : k < xs.length
    · obtain ⟨b1, o1, rfl, hb1, hx⟩ := hc1 k hlt
      rw [ints_get _ _ hlt] at hx
      clear hc1
      cases hp : p xs[k]
      all_goals
        have HP := show Hid _ from hp
        clear hp
        go_wp2_with fail
        refine (HF.out xs[k] _).mono ?_
        rintro e w1 ⟨rfl, rfl⟩
        rw [HP.out]
        go_wp2_with fail
      · go_round
        case rel => exact ⟨k + 1, by omega, by go_num, by rw [take_succ_get _ _ hlt, List.any_append, HA.out]; simp [HP.out]⟩
        case measure => simp [intOf]; omega
      · go_ret
        exact ⟨_, rfl, by rw [decide_eq_true (by omega)]; symm; rw [List.any_eq_true]; exact ⟨_, List.getElem_mem hlt, HP.out⟩, rfl⟩
    · go_wp2_with fail
      go_ret
      refine ⟨_, rfl, ?_, rfl⟩
      have := HA.out
      rw [List.take_of_length_le (by omega)] at this
      rw [this]; rfl

theorem containsFunc_int (p : Int → Bool) (f : FuncId) (v : Value) (xs : List Int) (w : World) (h : Row w v xs.length 1 (ints xs)) (he : ∀ args w, (callFunc f args).run Try.prog w = .ok (.enter f args) w)
    (hf : ∀ x w', Calls Try.prog f #[.int .i64 x] w' fun e w'' => e = .returned (.bool (p x)) ∧ w' = w'') :
    Calls Try.prog 185 #[v, .func (.func f) #[] #[]] w fun e w' => e = .returned (.bool (xs.any p)) ∧ w = w' := by
  obtain ⟨a1, c1, rfl, -⟩ := h.open1
  have HF := show Hid _ from hf
  have HE := show Hid _ from he
  clear hf he
  go_enter Try.func185, Try.ntmps185
  go_wp2_with fail
  refine (indexFunc_int p f _ xs _ h HE.out HF.out).mono ?_
  rintro e w1 ⟨r, rfl, hr, rfl⟩
  have HR := show Hid _ from hr
  clear hr
  go_wp2_with fail
  go_ret
  exact ⟨ret_bool HR.out, rfl⟩

theorem any_not_all (xs : List Int) : (!xs.any fun l => !labOk l) = xs.all labOk := by
  induction xs with
  | nil => rfl
  | cons x r ih => simp only [List.any_cons, List.all_cons, ← ih]; cases labOk x <;> simp

theorem impl_areLabels (v : Value) (xs : List Int) (w : World) (h : Row w v xs.length 1 (ints xs)) :
    Calls Try.prog 178 #[v] w fun e w' => e = .returned (.bool (xs.all labOk)) ∧ w = w' := by
  obtain ⟨a1, c1, rfl, -⟩ := h.open1
  go_enter Try.func178, Try.ntmps178
  go_wp2_with fail
  refine (containsFunc_int (fun l => !labOk l) 201 _ xs _ h (enters_of Try.func201 (by kernel_rfl) rfl) (fun x w' => impl_areLabels1 x w')).mono ?_
  rintro e w1 ⟨rfl, rfl⟩
  have HN := show Hid _ from any_not_all xs
  go_wp2_with fail
  go_ret
  exact ⟨ret_bool HN.out, rfl⟩

set_option maxHeartbeats 1000000 in
theorem impl_declared (v1 v2 : Value) (vars arrays : List Int) (w : World) (h1 : Row w v1 vars.length 1 (ints vars)) (h2 : Row w v2 arrays.length 1 (ints arrays)) :
    Calls Try.prog 138 #[v1, v2] w fun e w' => e = .returned (.bool (headsB vars arrays)) ∧ w = w' := by
  obtain ⟨a1, c1, rfl, -, q1, -⟩ := h1.open1
  obtain ⟨a2, c2, rfl, -, q2, -⟩ := h2.open1
  have HT : Hid (headsB vars arrays = (vars.all labOk && arrays.all labOk && decide (1 ≤ vars.length) && decide (vars.length ≤ 12) && decide (arrays.length ≤ 2))) := rfl
  by_cases hn : (1 : Int) ≤ (vars.length : Int) ∧ (vars.length : Int) ≤ 12
  · have hb : (decide ((1 : Int) ≤ vars.length) && decide ((vars.length : Int) ≤ 12)) = true := by simpa using hn
    have HB := show Hid _ from hb
    by_cases hm : (arrays.length : Int) ≤ 2
    · cases hv : vars.all labOk
      · have HV := show Hid _ from hv
        clear hv hb hn
        go_enter Try.func138, Try.ntmps138
        go_wp2_with fail
        refine (impl_within _ 1 12 _).mono ?_
        rintro e w1 ⟨rfl, rfl⟩
        rw [HB.out]
        go_wp2_with fail
        refine (impl_areLabels _ vars _ h1).mono ?_
        rintro e w1 ⟨rfl, rfl⟩
        rw [HV.out]
        go_wp2_with fail
        go_ret
        exact ⟨ret_bool (by rw [HT.out, HV.out]; rfl), rfl⟩
      · have HV := show Hid _ from hv
        have hn' := show Hid _ from hn
        have hm' := show Hid _ from hm
        clear hv hb hn
        go_enter Try.func138, Try.ntmps138
        go_wp2_with fail
        refine (impl_within _ 1 12 _).mono ?_
        rintro e w1 ⟨rfl, rfl⟩
        rw [HB.out]
        go_wp2_with fail
        refine (impl_areLabels _ vars _ h1).mono ?_
        rintro e w1 ⟨rfl, rfl⟩
        rw [HV.out]
        go_wp2_with fail
        refine (impl_areLabels _ arrays _ h2).mono ?_
        rintro e w1 ⟨rfl, rfl⟩
        go_wp2_with fail
        go_ret
        refine ⟨ret_bool ?_, rfl⟩
        have h3 := hn'.out
        have h4 := hm'.out
        rw [HT.out, HV.out, decide_eq_true (show 1 ≤ vars.length by omega), decide_eq_true (show vars.length ≤ 12 by omega), decide_eq_true (show arrays.length ≤ 2 by omega)]
        simp
    · have hF : Hid (headsB vars arrays = false) := by unfold Hid; rw [HT.out, decide_eq_false (show ¬ arrays.length ≤ 2 by omega)]; simp
      clear hb hn
      go_enter Try.func138, Try.ntmps138
      go_wp2_with fail
      refine (impl_within _ 1 12 _).mono ?_
      rintro e w1 ⟨rfl, rfl⟩
      rw [HB.out]
      go_wp2_with fail
      go_ret
      exact ⟨ret_bool hF.out.symm, rfl⟩
  · have hb : (decide ((1 : Int) ≤ vars.length) && decide ((vars.length : Int) ≤ 12)) = false := by
      rw [Bool.eq_false_iff]; simp only [ne_eq, Bool.and_eq_true, decide_eq_true_eq]; exact hn
    have HB := show Hid _ from hb
    have hF : Hid (headsB vars arrays = false) := by
      unfold Hid; rw [HT.out]
      rcases Classical.not_and_iff_not_or_not.1 hn with h | h
      · rw [decide_eq_false (show ¬ 1 ≤ vars.length by omega)]; simp
      · rw [decide_eq_false (show ¬ vars.length ≤ 12 by omega)]; simp
    clear hb hn
    go_enter Try.func138, Try.ntmps138
    go_wp2_with fail
    refine (impl_within _ 1 12 _).mono ?_
    rintro e w1 ⟨rfl, rfl⟩
    rw [HB.out]
    go_wp2_with fail
    go_ret
    exact ⟨ret_bool hF.out.symm, rfl⟩

end Go.Proofs.Ytgpkdfefgcpbiaa

namespace Go.Proofs.Ytgpkdfefgcpbiaa
set_option linter.unusedVariables false
set_option linter.unusedSimpArgs false
open Go Go.RowKit

theorem impl_isPlain (k n : Int) (kv : Value) (w : World) : Calls Try.prog 193 #[.agg #[.int .i64 k, .int .i64 n, kv]] w fun e w' => e = .returned (.bool (decide (k = 1) || decide (k = 2))) ∧ Below w.heap.size w w' := by
  by_cases h1 : k = 1
  · have p1 : (k == 1) = true := by simp [h1]
    have Q := show Hid _ from h1
    clear h1
    go_enter Try.func193, Try.ntmps193
    go_wp2
    go_ret
    exact ⟨ret_bool (by simp [Q.out]), by go_grown⟩
  · have p1 : (k == 1) = false := by simp [h1]
    have Q := show Hid _ from h1
    clear h1
    by_cases h2 : k = 2
    · have p2 : (k == 2) = true := by simp [h2]
      have Q2 := show Hid _ from h2
      clear h2
      go_enter Try.func193, Try.ntmps193
      go_wp2
      go_ret
      exact ⟨ret_bool (by simp [Q2.out]), by go_grown⟩
    · have p2 : (k == 2) = false := by simp [h2]
      have Q2 := show Hid _ from h2
      clear h2
      go_enter Try.func193, Try.ntmps193
      go_wp2
      go_ret
      exact ⟨ret_bool (by rw [decide_eq_false Q.out, decide_eq_false Q2.out]; rfl), by go_grown⟩

end Go.Proofs.Ytgpkdfefgcpbiaa

namespace Go.Proofs.Ytgpkdfefgcpbiaa
set_option linter.unusedVariables false
set_option linter.unusedSimpArgs false
open Go Go.RowKit

theorem infoE : (Try.prog.info? 41).map (fun i => (i.zero, i.size, i.bytes)) = some (some (.agg #[.int .i64 0, .int .i64 0, .slice none 0 0]), 3, 40) := by kernel_rfl
theorem setFrom_same {w : World} {g p : Nat} {us : List Value} {b : Nat} (hb : b < w.heap.size) (hne : b ≠ g) : (World.setFrom w g p us).heap[b]? = w.heap[b]? :=
  (Out.setFrom us (Out.refl g (g + 1) w) (Nat.le_refl _) (Nat.lt_succ_self _)).block b hb (by omega)

def ToE (e : LExpr) : Prop := ∀ (φ : Nat → Prop) (v : Value) (w : World), ExprV w φ v e → szE e ≤ 1048576 →
  Calls Try.prog 22 #[v] w fun x w' => ∃ a c S, x = .returned (.agg #[.int .i64 e.kind, .int .i64 e.value, .slice a e.kids.length c]) ∧ KidsO w' (.slice a e.kids.length c) e.kids S ∧ (∀ b, S b → w.heap.size ≤ b ∧ b < w'.heap.size) ∧ Below w.heap.size w w'

set_option maxHeartbeats 1000000 in
theorem toExprS_of (ks : List LExpr) (ih : ∀ e ∈ ks, ToE e) (φ : Nat → Prop) (v : Value) (w : World) (h : KidsV w φ v ks) (hb : szEs ks ≤ 1048576) :
    Calls Try.prog 75 #[v] w fun x w' => ∃ a c S, x = .returned (.slice a ks.length c) ∧ KidsO w' (.slice a ks.length c) ks S ∧ (∀ b, S b → w.heap.size ≤ b ∧ b < w'.heap.size) ∧ Below w.heap.size w w' := by
  obtain ⟨a1, c1, rfl, -, hm1, -, hc1⟩ := h.open
  have hlen := szEs_len ks
  have HC := show Hid _ from hc1
  clear h hc1
  have hmk := make_run (P := Try.prog) (t := 39) Try.underlying39 infoE rfl (by omega) ks.length (by omega) hm1
  have hown := own_made w (Value.agg #[.int .i64 0, .int .i64 0, .slice none 0 0]).cells.toList ks.length 3 41 rfl hm1
  have HB := show Hid _ from hb
  have HLN := show Hid _ from hlen
  clear hb hlen
  go_enter Try.func75, Try.ntmps75
  go_wp2_with fail
  clear hmk
  go_loopw [4] (fun i wr => ∃ (k : Nat) (ys : List Value), k ≤ ks.length ∧ i = .int .i64 k ∧ Own wr w.heap.size (w.heap.size + 1) 41 3 (.slice (some ⟨w.heap.size, 0, none⟩) ks.length ks.length) ks.length ys ∧ ExprsO wr (ks.take k) (fun b => w.heap.size < b ∧ b < wr.heap.size) (ys.take (k * 3)) ∧ Below w.heap.size w wr) (fun i _ => ks.length - (intOf i).toNat)
  case atStart => exact ⟨0, _, Nat.zero_le _, rfl, hown, by simp [ExprsO], (Below.refl _ _).alloc (Nat.le_refl _) _⟩
  case round =>
    obtain ⟨k, ys, hk, rfl, ho, ht, hbw⟩ := hrel
    have HT := show Hid _ from ht
    clear ht hown
    by_cases hlt : k < ks.length
    · obtain ⟨b1, o1, kv, rfl, hb1, hf, x0, x1, x2, hkv⟩ := HC.out k hlt
      rw [← (bcell hbw).1 _ _ hb1] at x0 x1 x2
      have HY := show Hid (ys.length = ks.length * 3) from ho.1.1
      have HE := show Hid (ExprV wr φ (.agg #[.int .i64 ks[k].kind, .int .i64 ks[k].value, kv]) ks[k]) from ⟨kv, rfl, KidsV.nice _ _ _ _ _ _ (Agr.below hbw) hkv⟩
      clear hkv
      go_wp2_with fail
      refine (ih _ (List.getElem_mem hlt) φ _ _ HE.out (by have h1 := szE_mem (List.getElem_mem hlt); have h2 := HB.out; omega)).mono ?_
      rintro e w1 ⟨ra, rc, S1, rfl, hO, hS, hbc⟩
      have ho1 := ho.keep hbc (by have := ho.lt _ rfl; omega)
      have hin : ∀ j, j < 3 → k * 3 + j < ys.length := fun j hj => by rw [HY.out]; omega
      obtain ⟨g, cap, hv, hg1, hg2, hg3, f0, u0, y0⟩ := ho1.at (hin 0 (by omega))
      cases hv
      obtain ⟨g, cap, hv, -, -, -, f1, u1, y1⟩ := ho1.at (hin 1 (by omega))
      cases hv
      obtain ⟨g, cap, hv, -, -, -, f2, u2, y2⟩ := ho1.at (hin 2 (by omega))
      cases hv
      simp only [Nat.add_zero] at f0 y0
      have hg4 : w.heap.size < w1.heap.size := hg3
      have HO := show Hid _ from hO
      have HS := show Hid _ from hS
      have hsz0 := hbw.size
      have hszr := hbc.size
      have hgr : w.heap.size < wr.heap.size := (ho.lt _ rfl).2.2
      clear hin hO hS
      go_wp2_with fail
      have hb3 := below_setFrom (p := k * 3) [.int .i64 ks[k].kind, .int .i64 ks[k].value, (.slice ra ks[k].kids.length rc)] (hbw.trans (hbc.mono hbw.size)) (Nat.le_refl w.heap.size)
      have hsz := (Out.setFrom (p := k * 3) [.int .i64 ks[k].kind, .int .i64 ks[k].value, (.slice ra ks[k].kids.length rc)] (Out.refl w.heap.size (w.heap.size + 1) w1) (Nat.le_refl _) (Nat.lt_succ_self _)).size
      refine ⟨⟨k + 1, _, by omega, by go_num, ho1.setFrom [.int .i64 ks[k].kind, .int .i64 ks[k].value, (.slice ra ks[k].kids.length rc)] (by simp; rw [HY.out]; omega), ?_, hb3⟩, by simp [intOf]; omega⟩
      rw [Nat.succ_mul, take_succ_get _ _ hlt]
      rw [show (setFrom ys (k * 3) [.int .i64 ks[k].kind, .int .i64 ks[k].value, (.slice ra ks[k].kids.length rc)]).take (k * 3 + 3) = ys.take (k * 3) ++ [.int .i64 ks[k].kind, .int .i64 ks[k].value, (.slice ra ks[k].kids.length rc)] from setFrom_take [_, _, _] _ _ (by simp; rw [HY.out]; omega)]
      refine ExprsO.snoc (S := fun b => w.heap.size < b ∧ b < wr.heap.size) (T := S1) (ExprsO.same _ _ _ HT.out fun b hbb hlt' => ?_) ((ExprO.iff _ _ _).2 ⟨.slice ra ks[k].kids.length rc, rfl, KidsO.same HO.out fun b hbb hlt' => ?_⟩) (fun b hbb => ⟨⟨hbb.1, ?_⟩, fun h1 => ?_⟩) fun b hbb => ⟨?_, ?_⟩
      · obtain ⟨p1, p2⟩ : w.heap.size < b ∧ b < wr.heap.size := hbb
        exact (setFrom_same (p := k * 3) (us := [.int .i64 ks[k].kind, .int .i64 ks[k].value, (.slice ra ks[k].kids.length rc)]) (by omega) (by omega)).trans (hbc.block b p2)
      · obtain ⟨p1, p2⟩ : wr.heap.size ≤ b ∧ b < w1.heap.size := HS.out b hbb
        exact setFrom_same (p := k * 3) (us := [.int .i64 ks[k].kind, .int .i64 ks[k].value, (.slice ra ks[k].kids.length rc)]) hlt' (by omega)
      · exact Nat.lt_of_lt_of_le (Nat.lt_of_lt_of_le hbb.2 hszr) hsz
      · have h2 : wr.heap.size ≤ b ∧ b < w1.heap.size := HS.out b h1
        have h3 : b < wr.heap.size := hbb.2
        omega
      · have h2 : wr.heap.size ≤ b ∧ b < w1.heap.size := HS.out b hbb
        show w.heap.size < b
        omega
      · exact Nat.lt_of_lt_of_le (HS.out b hbb).2 hsz
    · have hkn : k = ks.length := by omega
      subst hkn
      go_wp2_with fail
      go_ret
      have hl : ys.take (ks.length * 3) = ys := List.take_of_length_le (by rw [ho.1.1]; exact Nat.le_refl _)
      have ht := HT.out
      rw [hl, List.take_of_length_le (Nat.le_refl _)] at ht
      exact ⟨_, _, fun b => w.heap.size ≤ b ∧ b < wr.heap.size, rfl, ⟨ys, fun b => w.heap.size < b ∧ b < wr.heap.size, owns_base ho.1 (Nat.zero_le _), fun g hg => by cases hg; exact ⟨⟨Nat.le_refl _, (ho.lt _ rfl).2.2⟩, fun h => absurd h.1 (Nat.lt_irrefl _)⟩, fun b hb => ⟨by omega, hb.2⟩, ht⟩, fun b hb => hb, hbw⟩

set_option maxHeartbeats 1000000 in
theorem toExpr_all (e : LExpr) : ToE e := by
  refine LExpr.ind (P := ToE) (fun k n ks ih => ?_) e
  intro φ v w h hb
  obtain ⟨kv, rfl, hk⟩ := h
  simp only [LExpr.kind, LExpr.value, LExpr.kids] at hk ⊢
  obtain ⟨W, hW, M⟩ : ∃ W, W = (((w.alloc (.cells #[.int .i64 k, .int .i64 n, kv] 37)).alloc (.cells #[.int .i64 0, .int .i64 0, .slice none 0 0] 41)).alloc (.cells #[.int .i64 k, .int .i64 n, .slice none 0 0] 41)) ∧ Mem (fun _ => True) (fun _ => True) w W [.box w.heap.size [.int .i64 k, .int .i64 n, kv], .box (w.heap.size + 1) [.int .i64 0, .int .i64 0, .slice none 0 0], .box (w.heap.size + 1 + 1) [.int .i64 k, .int .i64 n, .slice none 0 0]] :=
    ⟨_, rfl, (((Mem.start fun _ _ => trivial).box _ _).box' _ _ (by simp)).box' _ _ (by simp)⟩
  have HK := show Hid _ from KidsV.nice _ _ _ _ _ _ (Agr.below (M.below fun _ _ => trivial)) hk
  have sW : W.heap.size = w.heap.size + 1 + 1 + 1 := by rw [hW]; simp
  have HM := show Hid _ from M
  have HS := show Hid _ from sW
  clear hk M sW
  go_enter Try.func22, Try.ntmps22
  go_wp2_with fail
  rw [← hW]
  clear hW
  refine (toExprS_of ks ih φ kv _ HK.out hb).mono ?_
  rintro x w1 ⟨ra, rc, S1, rfl, hO, hS, b1⟩
  have M := HM.out.callO b1 (S := S1) (R := fun w => KidsO w (.slice ra ks.length rc) ks S1) (fun w w' h hs => KidsO.same h hs) hO hS
  clear HM b1 hO
  have c0 := M.c 2 0 rfl rfl
  have c1 := M.c 2 1 rfl rfl
  have c2 := M.c 2 2 rfl rfl
  have d0 := M.c 1 0 rfl rfl
  have d1 := M.c 1 1 rfl rfl
  have d2 := M.c 1 2 rfl rfl
  have f1 := M.f 1 rfl
  have f2 := M.f 2 rfl
  have M2 := (((M.set 2 rfl 2 (.slice ra ks.length rc)).set 1 rfl 0 (.int .i64 k)).set 1 rfl 1 (.int .i64 n)).set 1 rfl 2 (.slice ra ks.length rc)
  have HM2 := show Hid _ from M2
  have HSS := show Hid _ from hS
  clear M M2 hS
  go_wp2_with fail
  have M2 := HM2.out
  have r0 : World.cell? _ ⟨w.heap.size + 1, 0, none⟩ = some (.int .i64 k) := M2.c 1 0 rfl rfl
  have r1 : World.cell? _ ⟨w.heap.size + 1, 1, none⟩ = some (.int .i64 n) := M2.c 1 1 rfl rfl
  have r2 : World.cell? _ ⟨w.heap.size + 1, 2, none⟩ = some (.slice ra ks.length rc) := M2.c 1 2 rfl rfl
  refine bodyPost_ret (v := .agg #[.int .i64 k, .int .i64 n, .slice ra ks.length rc]) (by simp [results, Try.results22, go_sem, r0, r1, r2]) rfl ⟨ra, rc, S1, rfl, M2.o 3 rfl, fun b hbb => ⟨?_, M2.lt (List.mem_of_getElem? (i := 3) rfl) hbb⟩, M2.below fun _ _ => trivial⟩
  have := HSS.out b hbb
  have := HS.out
  omega

theorem infoS : (Try.prog.info? 135).map (fun i => (i.zero, i.size, i.bytes)) = some (some (.agg #[.int .i64 0, .int .i64 0, .int .i64 0, .int .i64 0, .slice none 0 0, .int .i64 0, .int .i64 0, .slice none 0 0, .int .i64 0, .slice none 0 0, .slice none 0 0]), 11, 152) := by kernel_rfl
def stCells (s : LStmt) (ai : Option Addr) (ci : Nat) (av : Option Addr) (cv : Nat) (ab : Option Addr) (cb : Nat) (ae : Option Addr) (ce : Nat) : List Value :=
  [.int .i64 s.kind, .int .i64 s.target, .int .i64 s.index.kind, .int .i64 s.index.value, .slice ai s.index.kids.length ci, .int .i64 s.value.kind, .int .i64 s.value.value, .slice av s.value.kids.length cv, .int .i64 s.count, .slice ab s.body.length cb, .slice ae s.els.length ce]
def ToS (s : LStmt) : Prop := ∀ (φ : Nat → Prop) (v : Value) (w : World), StmtV w φ v s → szS s ≤ 1048576 →
  Calls Try.prog 130 #[v] w fun x w' => ∃ ai ci av cv ab cb ae ce S, x = .returned (.agg #[.int .i64 s.kind, .int .i64 s.target, .int .i64 s.index.kind, .int .i64 s.index.value, .slice ai s.index.kids.length ci, .int .i64 s.value.kind, .int .i64 s.value.value, .slice av s.value.kids.length cv, .int .i64 s.count, .slice ab s.body.length cb, .slice ae s.els.length ce]) ∧
    StmtO w' s S (stCells s ai ci av cv ab cb ae ce) ∧ (∀ b, S b → w.heap.size ≤ b ∧ b < w'.heap.size) ∧ Below w.heap.size w w'

set_option maxHeartbeats 1000000 in
theorem toStmtS_of (ks : List LStmt) (ih : ∀ e ∈ ks, ToS e) (φ : Nat → Prop) (v : Value) (w : World) (h : BlockV w φ v ks) (hb : szSs ks ≤ 1048576) :
    Calls Try.prog 67 #[v] w fun x w' => ∃ a c S, x = .returned (.slice a ks.length c) ∧ BlockO w' (.slice a ks.length c) ks S ∧ (∀ b, S b → w.heap.size ≤ b ∧ b < w'.heap.size) ∧ Below w.heap.size w w' := by
  obtain ⟨a1, c1, rfl, -, hm1, -, hc1⟩ := h.open
  have hlen := szSs_len ks
  have HC := show Hid _ from hc1
  clear h hc1
  have hmk := make_run (P := Try.prog) (t := 29) Try.underlying29 infoS rfl (by omega) ks.length (by omega) hm1
  have hown := own_made w (Value.agg #[.int .i64 0, .int .i64 0, .int .i64 0, .int .i64 0, .slice none 0 0, .int .i64 0, .int .i64 0, .slice none 0 0, .int .i64 0, .slice none 0 0, .slice none 0 0]).cells.toList ks.length 11 135 rfl hm1
  have HB := show Hid _ from hb
  have HLN := show Hid _ from hlen
  clear hb hlen
  go_enter Try.func67, Try.ntmps67
  go_wp2_with fail
  clear hmk
  go_loopw [4] (fun i wr => ∃ (k : Nat) (ys : List Value), k ≤ ks.length ∧ i = .int .i64 k ∧ Own wr w.heap.size (w.heap.size + 1) 135 11 (.slice (some ⟨w.heap.size, 0, none⟩) ks.length ks.length) ks.length ys ∧ StmtsO wr (ks.take k) (fun b => w.heap.size < b ∧ b < wr.heap.size) (ys.take (k * 11)) ∧ Below w.heap.size w wr) (fun i _ => ks.length - (intOf i).toNat)
  case atStart => exact ⟨0, _, Nat.zero_le _, rfl, hown, by simp [StmtsO], (Below.refl _ _).alloc (Nat.le_refl _) _⟩
  case round =>
    obtain ⟨k, ys, hk, rfl, ho, ht, hbw⟩ := hrel
    have HT := show Hid _ from ht
    clear ht hown
    by_cases hlt : k < ks.length
    · obtain ⟨b1, o1, iv, vv, bv, ev, rfl, hb1, hf, ⟨x0, x1, x2, x3, x4, x5, x6, x7, x8, x9, x10⟩, k1, k2, k3, k4⟩ := HC.out k hlt
      rw [← (bcell hbw).1 _ _ hb1] at x0 x1 x2 x3 x4 x5 x6 x7 x8 x9 x10
      have HY := show Hid (ys.length = ks.length * 11) from ho.1.1
      have HE := show Hid (StmtV wr φ (.agg #[.int .i64 ks[k].kind, .int .i64 ks[k].target, .int .i64 ks[k].index.kind, .int .i64 ks[k].index.value, iv, .int .i64 ks[k].value.kind, .int .i64 ks[k].value.value, vv, .int .i64 ks[k].count, bv, ev]) ks[k]) from StmtV.nice _ _ _ _ _ _ (Agr.below hbw) ⟨iv, vv, bv, ev, rfl, k1, k2, k3, k4⟩
      clear k1 k2 k3 k4
      go_wp2_with fail
      refine (ih _ (List.getElem_mem hlt) φ _ _ HE.out (by have h1 := szS_mem (List.getElem_mem hlt); have h2 := HB.out; omega)).mono ?_
      rintro e w1 ⟨ai, ci, av, cv, ab, cb, ae, ce, S1, rfl, hO, hS, hbc⟩
      have ho1 := ho.keep hbc (by have := ho.lt _ rfl; omega)
      have hin : ∀ j, j < 11 → k * 11 + j < ys.length := fun j hj => by rw [HY.out]; omega
      obtain ⟨g, cap, hv, hg1, hg2, hg3, f0, u0, y0⟩ := ho1.at (hin 0 (by omega))
      cases hv
      obtain ⟨g, cap, hv, -, -, -, f1, u1, y1⟩ := ho1.at (hin 1 (by omega))
      cases hv
      obtain ⟨g, cap, hv, -, -, -, f2, u2, y2⟩ := ho1.at (hin 2 (by omega))
      cases hv
      obtain ⟨g, cap, hv, -, -, -, f3, u3, y3⟩ := ho1.at (hin 3 (by omega))
      cases hv
      obtain ⟨g, cap, hv, -, -, -, f4, u4, y4⟩ := ho1.at (hin 4 (by omega))
      cases hv
      obtain ⟨g, cap, hv, -, -, -, f5, u5, y5⟩ := ho1.at (hin 5 (by omega))
      cases hv
      obtain ⟨g, cap, hv, -, -, -, f6, u6, y6⟩ := ho1.at (hin 6 (by omega))
      cases hv
      obtain ⟨g, cap, hv, -, -, -, f7, u7, y7⟩ := ho1.at (hin 7 (by omega))
      cases hv
      obtain ⟨g, cap, hv, -, -, -, f8, u8, y8⟩ := ho1.at (hin 8 (by omega))
      cases hv
      obtain ⟨g, cap, hv, -, -, -, f9, u9, y9⟩ := ho1.at (hin 9 (by omega))
      cases hv
      obtain ⟨g, cap, hv, -, -, -, f10, u10, y10⟩ := ho1.at (hin 10 (by omega))
      cases hv
      simp only [Nat.add_zero] at f0 y0
      have hg4 : w.heap.size < w1.heap.size := hg3
      have HO := show Hid _ from hO
      have HS := show Hid _ from hS
      have hsz0 := hbw.size
      have hszr := hbc.size
      have hgr : w.heap.size < wr.heap.size := (ho.lt _ rfl).2.2
      clear hin hO hS
      go_wp2_with fail
      have hb3 := below_setFrom (p := k * 11) [.int .i64 ks[k].kind, .int .i64 ks[k].target, .int .i64 ks[k].index.kind, .int .i64 ks[k].index.value, .slice ai ks[k].index.kids.length ci, .int .i64 ks[k].value.kind, .int .i64 ks[k].value.value, .slice av ks[k].value.kids.length cv, .int .i64 ks[k].count, .slice ab ks[k].body.length cb, .slice ae ks[k].els.length ce] (hbw.trans (hbc.mono hbw.size)) (Nat.le_refl w.heap.size)
      have hsz := (Out.setFrom (p := k * 11) [.int .i64 ks[k].kind, .int .i64 ks[k].target, .int .i64 ks[k].index.kind, .int .i64 ks[k].index.value, .slice ai ks[k].index.kids.length ci, .int .i64 ks[k].value.kind, .int .i64 ks[k].value.value, .slice av ks[k].value.kids.length cv, .int .i64 ks[k].count, .slice ab ks[k].body.length cb, .slice ae ks[k].els.length ce] (Out.refl w.heap.size (w.heap.size + 1) w1) (Nat.le_refl _) (Nat.lt_succ_self _)).size
      refine ⟨⟨k + 1, _, by omega, by go_num, ho1.setFrom [.int .i64 ks[k].kind, .int .i64 ks[k].target, .int .i64 ks[k].index.kind, .int .i64 ks[k].index.value, .slice ai ks[k].index.kids.length ci, .int .i64 ks[k].value.kind, .int .i64 ks[k].value.value, .slice av ks[k].value.kids.length cv, .int .i64 ks[k].count, .slice ab ks[k].body.length cb, .slice ae ks[k].els.length ce] (by simp; rw [HY.out]; omega), ?_, hb3⟩, by simp [intOf]; omega⟩
      rw [Nat.succ_mul, take_succ_get _ _ hlt]
      rw [show (setFrom ys (k * 11) [.int .i64 ks[k].kind, .int .i64 ks[k].target, .int .i64 ks[k].index.kind, .int .i64 ks[k].index.value, .slice ai ks[k].index.kids.length ci, .int .i64 ks[k].value.kind, .int .i64 ks[k].value.value, .slice av ks[k].value.kids.length cv, .int .i64 ks[k].count, .slice ab ks[k].body.length cb, .slice ae ks[k].els.length ce]).take (k * 11 + 11) = ys.take (k * 11) ++ [.int .i64 ks[k].kind, .int .i64 ks[k].target, .int .i64 ks[k].index.kind, .int .i64 ks[k].index.value, .slice ai ks[k].index.kids.length ci, .int .i64 ks[k].value.kind, .int .i64 ks[k].value.value, .slice av ks[k].value.kids.length cv, .int .i64 ks[k].count, .slice ab ks[k].body.length cb, .slice ae ks[k].els.length ce] from setFrom_take [_, _, _, _, _, _, _, _, _, _, _] _ _ (by simp; rw [HY.out]; omega)]
      refine StmtsO.snoc (S := fun b => w.heap.size < b ∧ b < wr.heap.size) (T := S1) (StmtsO.same _ _ _ HT.out fun b hbb hlt' => ?_) (StmtO.same _ _ _ HO.out fun b hbb hlt' => ?_) (fun b hbb => ⟨⟨hbb.1, ?_⟩, fun h1 => ?_⟩) fun b hbb => ⟨?_, ?_⟩
      · obtain ⟨p1, p2⟩ : w.heap.size < b ∧ b < wr.heap.size := hbb
        exact (setFrom_same (p := k * 11) (us := [.int .i64 ks[k].kind, .int .i64 ks[k].target, .int .i64 ks[k].index.kind, .int .i64 ks[k].index.value, .slice ai ks[k].index.kids.length ci, .int .i64 ks[k].value.kind, .int .i64 ks[k].value.value, .slice av ks[k].value.kids.length cv, .int .i64 ks[k].count, .slice ab ks[k].body.length cb, .slice ae ks[k].els.length ce]) (by omega) (by omega)).trans (hbc.block b p2)
      · obtain ⟨p1, p2⟩ : wr.heap.size ≤ b ∧ b < w1.heap.size := HS.out b hbb
        exact setFrom_same (p := k * 11) (us := [.int .i64 ks[k].kind, .int .i64 ks[k].target, .int .i64 ks[k].index.kind, .int .i64 ks[k].index.value, .slice ai ks[k].index.kids.length ci, .int .i64 ks[k].value.kind, .int .i64 ks[k].value.value, .slice av ks[k].value.kids.length cv, .int .i64 ks[k].count, .slice ab ks[k].body.length cb, .slice ae ks[k].els.length ce]) hlt' (by omega)
      · exact Nat.lt_of_lt_of_le (Nat.lt_of_lt_of_le hbb.2 hszr) hsz
      · have h2 : wr.heap.size ≤ b ∧ b < w1.heap.size := HS.out b h1
        have h3 : b < wr.heap.size := hbb.2
        omega
      · have h2 : wr.heap.size ≤ b ∧ b < w1.heap.size := HS.out b hbb
        show w.heap.size < b
        omega
      · exact Nat.lt_of_lt_of_le (HS.out b hbb).2 hsz
    · have hkn : k = ks.length := by omega
      subst hkn
      go_wp2_with fail
      go_ret
      have hl : ys.take (ks.length * 11) = ys := List.take_of_length_le (by rw [ho.1.1]; exact Nat.le_refl _)
      have ht := HT.out
      rw [hl, List.take_of_length_le (Nat.le_refl _)] at ht
      exact ⟨_, _, fun b => w.heap.size ≤ b ∧ b < wr.heap.size, rfl, ⟨ys, fun b => w.heap.size < b ∧ b < wr.heap.size, owns_base ho.1 (Nat.zero_le _), fun g hg => by cases hg; exact ⟨⟨Nat.le_refl _, (ho.lt _ rfl).2.2⟩, fun h => absurd h.1 (Nat.lt_irrefl _)⟩, fun b hb => ⟨by omega, hb.2⟩, ht⟩, fun b hb => hb, hbw⟩

set_option maxHeartbeats 4000000 in
theorem toStmt_all (s : LStmt) : ToS s := by
  refine LStmt.ind (P := ToS) (fun k t i v c b e ihb ihe => ?_) s
  intro φ u w h hb
  obtain ⟨iv, vv, bv, ev, rfl, g1, g2, g3, g4⟩ := h
  have hsz : szE i + szE v + szSs b + szSs e ≤ 1048576 := hb
  simp only [LStmt.index, LStmt.value, LStmt.body, LStmt.els, LStmt.kind, LStmt.target, LStmt.count, stCells] at g1 g2 g3 g4 ⊢
  obtain ⟨W, hW, M⟩ : ∃ W, W = (((w.alloc (.cells #[.int .i64 k, .int .i64 t, .int .i64 i.kind, .int .i64 i.value, iv, .int .i64 v.kind, .int .i64 v.value, vv, .int .i64 c, bv, ev] 139)).alloc (.cells #[.int .i64 0, .int .i64 0, .int .i64 0, .int .i64 0, .slice none 0 0, .int .i64 0, .int .i64 0, .slice none 0 0, .int .i64 0, .slice none 0 0, .slice none 0 0] 135)).alloc (.cells #[.int .i64 k, .int .i64 t, .int .i64 0, .int .i64 0, .slice none 0 0, .int .i64 0, .int .i64 0, .slice none 0 0, .int .i64 0, .slice none 0 0, .slice none 0 0] 135)) ∧ Mem (fun _ => True) (fun _ => True) w W [.box w.heap.size [.int .i64 k, .int .i64 t, .int .i64 i.kind, .int .i64 i.value, iv, .int .i64 v.kind, .int .i64 v.value, vv, .int .i64 c, bv, ev], .box (w.heap.size + 1) [.int .i64 0, .int .i64 0, .int .i64 0, .int .i64 0, .slice none 0 0, .int .i64 0, .int .i64 0, .slice none 0 0, .int .i64 0, .slice none 0 0, .slice none 0 0], .box (w.heap.size + 1 + 1) [.int .i64 k, .int .i64 t, .int .i64 0, .int .i64 0, .slice none 0 0, .int .i64 0, .int .i64 0, .slice none 0 0, .int .i64 0, .slice none 0 0, .slice none 0 0]] :=
    ⟨_, rfl, (((Mem.start fun _ _ => trivial).box _ _).box' _ _ (by simp)).box' _ _ (by simp)⟩
  have HG := show Hid (∀ W', Below w.heap.size w W' → ExprV W' φ (.agg #[.int .i64 i.kind, .int .i64 i.value, iv]) i ∧ ExprV W' φ (.agg #[.int .i64 v.kind, .int .i64 v.value, vv]) v ∧ BlockV W' φ bv b ∧ BlockV W' φ ev e) from fun W' k =>
    ⟨⟨iv, rfl, KidsV.nice _ _ _ _ _ _ (Agr.below k) g1⟩, ⟨vv, rfl, KidsV.nice _ _ _ _ _ _ (Agr.below k) g2⟩, BlockV.nice _ _ _ _ _ _ (Agr.below k) g3, BlockV.nice _ _ _ _ _ _ (Agr.below k) g4⟩
  clear g1 g2 g3 g4
  have c2 := M.c 0 2 rfl rfl
  have c3 := M.c 0 3 rfl rfl
  have c4 := M.c 0 4 rfl rfl
  rw [hW] at c2 c3 c4
  have HZ := show Hid _ from hsz
  have HM := show Hid _ from M
  clear M hsz hb
  go_enter Try.func130, Try.ntmps130
  go_wp2_with fail
  rw [← hW]
  have M := HM.out
  clear hW HM c2 c3 c4
  refine (toExpr_all i φ _ _ (HG.out _ (M.below fun _ _ => trivial)).1 (by have := HZ.out; omega)).mono ?_
  rintro x w1 ⟨ai, ci, S1, rfl, hO, hS, b1⟩
  replace M := M.callO b1 (S := S1) (R := fun w => KidsO w (.slice ai i.kids.length ci) i.kids S1) (fun w w' h hs => KidsO.same h hs) hO (fun b hb => hS b hb)
  clear hO hS b1
  have q2_2 := M.c 2 2 rfl rfl
  have q2_3 := M.c 2 3 rfl rfl
  have q2_4 := M.c 2 4 rfl rfl
  have q0_5 := M.c 0 5 rfl rfl
  have q0_6 := M.c 0 6 rfl rfl
  have q0_7 := M.c 0 7 rfl rfl
  have fo := M.f 2 rfl
  have M2 := (((M.set 2 rfl 2 (.int .i64 i.kind)).set 2 rfl 3 (.int .i64 i.value)).set 2 rfl 4 (.slice ai i.kids.length ci))
  have HM2 := show Hid _ from M2
  clear M M2
  go_wp2_with fail
  have M := HM2.out
  clear HM2 fo q2_2 q2_3 q2_4 q0_5 q0_6 q0_7
  refine (toExpr_all v φ _ _ (HG.out _ (M.below fun _ _ => trivial)).2.1 (by have := HZ.out; omega)).mono ?_
  rintro x w1 ⟨av, cv, S2, rfl, hO, hS, b1⟩
  replace M := M.callO b1 (S := S2) (R := fun w => KidsO w (.slice av v.kids.length cv) v.kids S2) (fun w w' h hs => KidsO.same h hs) hO (fun b hb => hS b hb)
  clear hO hS b1
  have q2_5 := M.c 2 5 rfl rfl
  have q2_6 := M.c 2 6 rfl rfl
  have q2_7 := M.c 2 7 rfl rfl
  have q0_8 := M.c 0 8 rfl rfl
  have q2_8 := M.c 2 8 rfl rfl
  have q0_9 := M.c 0 9 rfl rfl
  have fo := M.f 2 rfl
  have M2 := ((((M.set 2 rfl 5 (.int .i64 v.kind)).set 2 rfl 6 (.int .i64 v.value)).set 2 rfl 7 (.slice av v.kids.length cv)).set 2 rfl 8 (.int .i64 c))
  have HM2 := show Hid _ from M2
  clear M M2
  go_wp2_with fail
  have M := HM2.out
  clear HM2 fo q2_5 q2_6 q2_7 q0_8 q2_8 q0_9
  refine (toStmtS_of b ihb φ _ _ (HG.out _ (M.below fun _ _ => trivial)).2.2.1 (by have := HZ.out; omega)).mono ?_
  rintro x w1 ⟨ab, cb, S3, rfl, hO, hS, b1⟩
  replace M := M.callO b1 (S := S3) (R := fun w => BlockO w (.slice ab b.length cb) b S3) (fun w w' h hs => BlockO.same h hs) hO (fun b hb => hS b hb)
  clear hO hS b1
  have q2_9 := M.c 2 9 rfl rfl
  have q0_10 := M.c 0 10 rfl rfl
  have fo := M.f 2 rfl
  have M2 := (M.set 2 rfl 9 (.slice ab b.length cb))
  have HM2 := show Hid _ from M2
  clear M M2
  go_wp2_with fail
  have M := HM2.out
  clear HM2 fo q2_9 q0_10
  refine (toStmtS_of e ihe φ _ _ (HG.out _ (M.below fun _ _ => trivial)).2.2.2 (by have := HZ.out; omega)).mono ?_
  rintro x w1 ⟨ae, ce, S4, rfl, hO, hS, b1⟩
  replace M := M.callO b1 (S := S4) (R := fun w => BlockO w (.slice ae e.length ce) e S4) (fun w w' h hs => BlockO.same h hs) hO (fun b hb => hS b hb)
  clear hO hS b1
  replace M := M.as [.box w.heap.size [.int .i64 k, .int .i64 t, .int .i64 i.kind, .int .i64 i.value, iv, .int .i64 v.kind, .int .i64 v.value, vv, .int .i64 c, bv, ev], .box (w.heap.size + 1) [.int .i64 0, .int .i64 0, .int .i64 0, .int .i64 0, .slice none 0 0, .int .i64 0, .int .i64 0, .slice none 0 0, .int .i64 0, .slice none 0 0, .slice none 0 0], .box (w.heap.size + 1 + 1) [.int .i64 k, .int .i64 t, .int .i64 i.kind, .int .i64 i.value, .slice ai i.kids.length ci, .int .i64 v.kind, .int .i64 v.value, .slice av v.kids.length cv, .int .i64 c, .slice ab b.length cb, .slice none 0 0], .own S1 (fun w => KidsO w (.slice ai i.kids.length ci) i.kids S1), .own S2 (fun w => KidsO w (.slice av v.kids.length cv) v.kids S2), .own S3 (fun w => BlockO w (.slice ab b.length cb) b S3), .own S4 (fun w => BlockO w (.slice ae e.length ce) e S4)] rfl
  have o0 : World.cell? _ ⟨w.heap.size + 1 + 1, 0, none⟩ = some (.int .i64 k) := M.c 2 0 rfl rfl
  have o1 : World.cell? _ ⟨w.heap.size + 1 + 1, 1, none⟩ = some (.int .i64 t) := M.c 2 1 rfl rfl
  have o2 : World.cell? _ ⟨w.heap.size + 1 + 1, 2, none⟩ = some (.int .i64 i.kind) := M.c 2 2 rfl rfl
  have o3 : World.cell? _ ⟨w.heap.size + 1 + 1, 3, none⟩ = some (.int .i64 i.value) := M.c 2 3 rfl rfl
  have o4 : World.cell? _ ⟨w.heap.size + 1 + 1, 4, none⟩ = some (.slice ai i.kids.length ci) := M.c 2 4 rfl rfl
  have o5 : World.cell? _ ⟨w.heap.size + 1 + 1, 5, none⟩ = some (.int .i64 v.kind) := M.c 2 5 rfl rfl
  have o6 : World.cell? _ ⟨w.heap.size + 1 + 1, 6, none⟩ = some (.int .i64 v.value) := M.c 2 6 rfl rfl
  have o7 : World.cell? _ ⟨w.heap.size + 1 + 1, 7, none⟩ = some (.slice av v.kids.length cv) := M.c 2 7 rfl rfl
  have o8 : World.cell? _ ⟨w.heap.size + 1 + 1, 8, none⟩ = some (.int .i64 c) := M.c 2 8 rfl rfl
  have o9 : World.cell? _ ⟨w.heap.size + 1 + 1, 9, none⟩ = some (.slice ab b.length cb) := M.c 2 9 rfl rfl
  have o10 : World.cell? _ ⟨w.heap.size + 1 + 1, 10, none⟩ = some (.slice none 0 0) := M.c 2 10 rfl rfl
  have z0 : World.cell? _ ⟨w.heap.size + 1, 0, none⟩ = some (.int .i64 0) := M.c 1 0 rfl rfl
  have z1 : World.cell? _ ⟨w.heap.size + 1, 1, none⟩ = some (.int .i64 0) := M.c 1 1 rfl rfl
  have z2 : World.cell? _ ⟨w.heap.size + 1, 2, none⟩ = some (.int .i64 0) := M.c 1 2 rfl rfl
  have z3 : World.cell? _ ⟨w.heap.size + 1, 3, none⟩ = some (.int .i64 0) := M.c 1 3 rfl rfl
  have z4 : World.cell? _ ⟨w.heap.size + 1, 4, none⟩ = some (.slice none 0 0) := M.c 1 4 rfl rfl
  have z5 : World.cell? _ ⟨w.heap.size + 1, 5, none⟩ = some (.int .i64 0) := M.c 1 5 rfl rfl
  have z6 : World.cell? _ ⟨w.heap.size + 1, 6, none⟩ = some (.int .i64 0) := M.c 1 6 rfl rfl
  have z7 : World.cell? _ ⟨w.heap.size + 1, 7, none⟩ = some (.slice none 0 0) := M.c 1 7 rfl rfl
  have z8 : World.cell? _ ⟨w.heap.size + 1, 8, none⟩ = some (.int .i64 0) := M.c 1 8 rfl rfl
  have z9 : World.cell? _ ⟨w.heap.size + 1, 9, none⟩ = some (.slice none 0 0) := M.c 1 9 rfl rfl
  have z10 : World.cell? _ ⟨w.heap.size + 1, 10, none⟩ = some (.slice none 0 0) := M.c 1 10 rfl rfl
  have fo := M.f 2 rfl
  have fz := M.f 1 rfl
  have M2 := ((M.set 2 rfl 10 (.slice ae e.length ce)).fill 1 rfl [.int .i64 k, .int .i64 t, .int .i64 i.kind, .int .i64 i.value, .slice ai i.kids.length ci, .int .i64 v.kind, .int .i64 v.value, .slice av v.kids.length cv, .int .i64 c, .slice ab b.length cb, .slice ae e.length ce] rfl).as [.box w.heap.size [.int .i64 k, .int .i64 t, .int .i64 i.kind, .int .i64 i.value, iv, .int .i64 v.kind, .int .i64 v.value, vv, .int .i64 c, bv, ev], .box (w.heap.size + 1) [.int .i64 k, .int .i64 t, .int .i64 i.kind, .int .i64 i.value, .slice ai i.kids.length ci, .int .i64 v.kind, .int .i64 v.value, .slice av v.kids.length cv, .int .i64 c, .slice ab b.length cb, .slice ae e.length ce], .box (w.heap.size + 1 + 1) [.int .i64 k, .int .i64 t, .int .i64 i.kind, .int .i64 i.value, .slice ai i.kids.length ci, .int .i64 v.kind, .int .i64 v.value, .slice av v.kids.length cv, .int .i64 c, .slice ab b.length cb, .slice ae e.length ce], .own S1 (fun w => KidsO w (.slice ai i.kids.length ci) i.kids S1), .own S2 (fun w => KidsO w (.slice av v.kids.length cv) v.kids S2), .own S3 (fun w => BlockO w (.slice ab b.length cb) b S3), .own S4 (fun w => BlockO w (.slice ae e.length ce) e S4)] rfl
  simp only [World.setFrom] at M2
  have HM2 := show Hid _ from M2
  clear M M2
  go_wp2_with fail
  have M2 := HM2.out
  have r0 : World.cell? _ ⟨w.heap.size + 1, 0, none⟩ = some (.int .i64 k) := M2.c 1 0 rfl rfl
  have r1 : World.cell? _ ⟨w.heap.size + 1, 1, none⟩ = some (.int .i64 t) := M2.c 1 1 rfl rfl
  have r2 : World.cell? _ ⟨w.heap.size + 1, 2, none⟩ = some (.int .i64 i.kind) := M2.c 1 2 rfl rfl
  have r3 : World.cell? _ ⟨w.heap.size + 1, 3, none⟩ = some (.int .i64 i.value) := M2.c 1 3 rfl rfl
  have r4 : World.cell? _ ⟨w.heap.size + 1, 4, none⟩ = some (.slice ai i.kids.length ci) := M2.c 1 4 rfl rfl
  have r5 : World.cell? _ ⟨w.heap.size + 1, 5, none⟩ = some (.int .i64 v.kind) := M2.c 1 5 rfl rfl
  have r6 : World.cell? _ ⟨w.heap.size + 1, 6, none⟩ = some (.int .i64 v.value) := M2.c 1 6 rfl rfl
  have r7 : World.cell? _ ⟨w.heap.size + 1, 7, none⟩ = some (.slice av v.kids.length cv) := M2.c 1 7 rfl rfl
  have r8 : World.cell? _ ⟨w.heap.size + 1, 8, none⟩ = some (.int .i64 c) := M2.c 1 8 rfl rfl
  have r9 : World.cell? _ ⟨w.heap.size + 1, 9, none⟩ = some (.slice ab b.length cb) := M2.c 1 9 rfl rfl
  have r10 : World.cell? _ ⟨w.heap.size + 1, 10, none⟩ = some (.slice ae e.length ce) := M2.c 1 10 rfl rfl
  have e1 := fun b (h1 : S1 b) => M2.dis 3 4 _ _ b rfl rfl (by omega) h1
  have e2 := fun b (h1 : S1 b) => M2.dis 3 5 _ _ b rfl rfl (by omega) h1
  have e3 := fun b (h1 : S1 b) => M2.dis 3 6 _ _ b rfl rfl (by omega) h1
  have e4 := fun b (h1 : S2 b) => M2.dis 4 5 _ _ b rfl rfl (by omega) h1
  have e5 := fun b (h1 : S2 b) => M2.dis 4 6 _ _ b rfl rfl (by omega) h1
  have e6 := fun b (h1 : S3 b) => M2.dis 5 6 _ _ b rfl rfl (by omega) h1
  refine bodyPost_ret (v := .agg #[.int .i64 k, .int .i64 t, .int .i64 i.kind, .int .i64 i.value, .slice ai i.kids.length ci, .int .i64 v.kind, .int .i64 v.value, .slice av v.kids.length cv, .int .i64 c, .slice ab b.length cb, .slice ae e.length ce]) (by simp [results, Try.results130, go_sem, r0, r1, r2, r3, r4, r5, r6, r7, r8, r9, r10]) rfl ⟨ai, ci, av, cv, ab, cb, ae, ce, fun b => S1 b ∨ S2 b ∨ S3 b ∨ S4 b, rfl, (StmtO.iff ⟨k, t, i, v, c, b, e⟩ _ _).2 ⟨_, _, _, _, S1, S2, S3, S4, rfl, ⟨fun b hb => ⟨.inl hb, e1 b hb, e2 b hb, e3 b hb⟩, fun b hb => ⟨.inr (.inl hb), e4 b hb, e5 b hb⟩, fun b hb => ⟨.inr (.inr (.inl hb)), e6 b hb⟩, fun b hb => .inr (.inr (.inr hb))⟩, M2.o 3 rfl, M2.o 4 rfl, M2.o 5 rfl, M2.o 6 rfl⟩, fun b hb => ?_, M2.below fun _ _ => trivial⟩
  have fin : ∀ (j : Nat) (S : Nat → Prop) (R : World → Prop) (L : List Res) (W : World), Mem (fun _ => True) (fun _ => True) w W L → L[j]? = some (.own S R) → S b → w.heap.size ≤ b ∧ b < W.heap.size := fun j S R L W M hj hs =>
    ⟨(M.ge _ b (List.mem_of_getElem? hj) hs).elim (fun h => h) fun h => absurd trivial h, M.lt (List.mem_of_getElem? hj) hs⟩
  rcases hb with hb | hb | hb | hb
  · exact fin 3 _ _ _ _ M2 rfl hb
  · exact fin 4 _ _ _ _ M2 rfl hb
  · exact fin 5 _ _ _ _ M2 rfl hb
  · exact fin 6 _ _ _ _ M2 rfl hb

set_option maxHeartbeats 2000000 in
theorem toProgram_any (φ : Nat → Prop) (u : Value) (p : LProg) (w : World) (h : ProgV w φ u p) (hb : p.size ≤ 1048576) :
    Calls Try.prog 17 #[u] w fun x w' => ∃ a1 k1 a2 k2 a3 k3 S, x = .returned (.agg #[.slice a1 p.vars.length k1, .slice a2 p.arrays.length k2, .slice a3 p.body.length k3]) ∧ ProgO w' (.agg #[.slice a1 p.vars.length k1, .slice a2 p.arrays.length k2, .slice a3 p.body.length k3]) p S ∧ (∀ b, S b → w.heap.size ≤ b ∧ b < w'.heap.size) ∧ Below w.heap.size w w' := by
  obtain ⟨v1, v2, v3, rfl, h1, h2, h3⟩ := h
  have hsz : p.vars.length + p.arrays.length + szSs p.body ≤ 1048576 := hb
  obtain ⟨W, hW, M⟩ : ∃ W, W = (((w.alloc (.cells #[v1, v2, v3] 25)).alloc (.cells #[.slice none 0 0, .slice none 0 0, .slice none 0 0] 31)).alloc (.cells #[.slice none 0 0, .slice none 0 0, .slice none 0 0] 31)) ∧ Mem (fun _ => True) (fun _ => True) w W [.box w.heap.size [v1, v2, v3], .box (w.heap.size + 1) [.slice none 0 0, .slice none 0 0, .slice none 0 0], .box (w.heap.size + 1 + 1) [.slice none 0 0, .slice none 0 0, .slice none 0 0]] :=
    ⟨_, rfl, (((Mem.start fun _ _ => trivial).box _ _).box' _ _ (by simp)).box' _ _ (by simp)⟩
  have HG := show Hid (∀ W', Below w.heap.size w W' → Row W' v1 p.vars.length 1 (ints p.vars) ∧ Row W' v2 p.arrays.length 1 (ints p.arrays) ∧ BlockV W' φ v3 p.body) from fun W' k =>
    ⟨h1.row.below k, h2.row.below k, BlockV.nice _ _ _ _ _ _ (Agr.below k) h3⟩
  clear h1 h2 h3 hb
  have c0 := M.c 0 0 rfl rfl
  rw [hW] at c0
  have HZ := show Hid _ from hsz
  have HM := show Hid _ from M
  clear M hsz
  go_enter Try.func17, Try.ntmps17
  go_wp2_with fail
  rw [← hW]
  have M := HM.out
  clear hW HM c0
  refine (toIntS_any v1 p.vars _ (HG.out _ (M.below fun _ _ => trivial)).1 (by have := HZ.out; omega)).mono ?_
  rintro x w1 ⟨u1, rfl, o1, b1⟩
  obtain ⟨a1, k1, rfl⟩ := o1.form
  replace M := M.callR b1 o1.1
  clear o1 b1
  have x1 := M.c 0 1 rfl rfl
  have y0 := M.c 2 0 rfl rfl
  have fo := M.f 2 rfl
  have M2 := (M.set 2 rfl 0 (.slice a1 p.vars.length k1))
  have HM := show Hid _ from M2
  clear M M2
  go_wp2_with fail
  have M := HM.out
  clear HM x1 y0 fo
  refine (toIntS_any v2 p.arrays _ (HG.out _ (M.below fun _ _ => trivial)).2.1 (by have := HZ.out; omega)).mono ?_
  rintro x w2 ⟨u2, rfl, o2, b2⟩
  obtain ⟨a2, k2, rfl⟩ := o2.form
  replace M := M.callR b2 o2.1
  clear o2 b2
  have x2 := M.c 0 2 rfl rfl
  have y1 := M.c 2 1 rfl rfl
  have fo := M.f 2 rfl
  have M2 := (M.set 2 rfl 1 (.slice a2 p.arrays.length k2))
  have HM := show Hid _ from M2
  clear M M2
  go_wp2_with fail
  have M := HM.out
  clear HM x2 y1 fo
  refine (toStmtS_of p.body (fun s _ => toStmt_all s) φ v3 _ (HG.out _ (M.below fun _ _ => trivial)).2.2 (by have := HZ.out; omega)).mono ?_
  rintro x w3 ⟨a3, k3, S3, rfl, hO, hS, b3⟩
  replace M := M.callO b3 (S := S3) (R := fun w => BlockO w (.slice a3 p.body.length k3) p.body S3) (fun w w' h hs => BlockO.same h hs) hO (fun b hb => hS b hb)
  clear hO hS b3
  have y0 : World.cell? _ ⟨w.heap.size + 1 + 1, 0, none⟩ = some (.slice a1 p.vars.length k1) := M.c 2 0 rfl rfl
  have y1 : World.cell? _ ⟨w.heap.size + 1 + 1, 1, none⟩ = some (.slice a2 p.arrays.length k2) := M.c 2 1 rfl rfl
  have y2 : World.cell? _ ⟨w.heap.size + 1 + 1, 2, none⟩ = some (.slice none 0 0) := M.c 2 2 rfl rfl
  have z0 := M.c 1 0 rfl rfl
  have z1 := M.c 1 1 rfl rfl
  have z2 := M.c 1 2 rfl rfl
  have fo := M.f 2 rfl
  have fz := M.f 1 rfl
  have M2 := (M.set 2 rfl 2 (.slice a3 p.body.length k3)).fill 1 rfl [.slice a1 p.vars.length k1, .slice a2 p.arrays.length k2, .slice a3 p.body.length k3] rfl
  simp only [World.setFrom] at M2
  have HM2 := show Hid _ from M2
  clear M M2
  go_wp2_with fail
  have M2 := HM2.out
  have r0 : World.cell? _ ⟨w.heap.size + 1, 0, none⟩ = some (.slice a1 p.vars.length k1) := M2.c 1 0 rfl rfl
  have r1 : World.cell? _ ⟨w.heap.size + 1, 1, none⟩ = some (.slice a2 p.arrays.length k2) := M2.c 1 1 rfl rfl
  have r2 : World.cell? _ ⟨w.heap.size + 1, 2, none⟩ = some (.slice a3 p.body.length k3) := M2.c 1 2 rfl rfl
  have fin : ∀ (b j : Nat) (r : Res) (L : List Res) (W : World), Mem (fun _ => True) (fun _ => True) w W L → L[j]? = some r → r.blk b → w.heap.size ≤ b ∧ b < W.heap.size := fun b j r L W M hj hs =>
    ⟨(M.ge _ b (List.mem_of_getElem? hj) hs).elim (fun h => h) fun h => absurd trivial h, M.lt (List.mem_of_getElem? hj) hs⟩
  have e1 := fun b => M2.dis 3 4 _ _ b rfl rfl (by omega)
  have e2 := fun b => M2.dis 3 5 _ _ b rfl rfl (by omega)
  have e3 := fun b => M2.dis 4 5 _ _ b rfl rfl (by omega)
  refine bodyPost_ret (v := .agg #[.slice a1 p.vars.length k1, .slice a2 p.arrays.length k2, .slice a3 p.body.length k3]) (by simp [results, Try.results17, go_sem, r0, r1, r2]) rfl ⟨a1, k1, a2, k2, a3, k3, fun b => (Value.slice a1 p.vars.length k1).ownBlock = some b ∨ (Value.slice a2 p.arrays.length k2).ownBlock = some b ∨ S3 b, rfl,
    ⟨_, _, _, S3, rfl, M2.r 3 rfl, M2.r 4 rfl, M2.o 5 rfl, fun g hg => ⟨.inl hg, e2 g hg, e1 g hg⟩, fun g hg => ⟨.inr (.inl hg), e3 g hg⟩, fun b hb => .inr (.inr hb)⟩, fun b hb => ?_, M2.below fun _ _ => trivial⟩
  rcases hb with hb | hb | hb
  · exact fin b 3 _ _ _ M2 rfl hb
  · exact fin b 4 _ _ _ M2 rfl hb
  · exact fin b 5 _ _ _ M2 rfl hb

end Go.Proofs.Ytgpkdfefgcpbiaa

namespace Go.Proofs.Ytgpkdfefgcpbiaa
set_option linter.unusedVariables false
set_option linter.unusedSimpArgs false
open Go Go.RowKit

theorem setFrom_append_right (us : List Value) : ∀ (c ys : List Value) (p : Nat), c.length ≤ p → setFrom (c ++ ys) p us = c ++ setFrom ys (p - c.length) us := by
  induction us with
  | nil => intro c ys p _; rfl
  | cons u r ih =>
    intro c ys p hp
    simp only [setFrom]
    rw [List.set_append_right _ _ hp, ih _ _ _ (by omega), show p + 1 - c.length = p - c.length + 1 by omega]
theorem setFrom_append_left (us : List Value) : ∀ (c ys : List Value) (p : Nat), p + us.length ≤ c.length → setFrom (c ++ ys) p us = setFrom c p us ++ ys := by
  induction us with
  | nil => intro c ys p _; rfl
  | cons u r ih =>
    intro c ys p hp
    simp only [List.length_cons] at hp
    simp only [setFrom]
    rw [List.set_append_left _ _ (by omega), ih _ _ _ (by simp; omega)]
theorem setFrom_whole {c us : List Value} (h : us.length = c.length) : setFrom c 0 us = us := by
  have h1 := setFrom_take us c 0 (by omega)
  rw [Nat.zero_add, List.take_of_length_le (by rw [setFrom_len]; omega)] at h1
  simpa using h1
theorem ExprO.len {w : World} {e : LExpr} {S : Nat → Prop} {c : List Value} (h : ExprO w e S c) : c.length = 3 := by
  obtain ⟨kv, rfl, _⟩ := (ExprO.iff e S c).1 h; rfl
theorem StmtO.len {w : World} {s : LStmt} {S : Nat → Prop} {c : List Value} (h : StmtO w s S c) : c.length = 11 := by
  obtain ⟨_, _, _, _, _, _, _, _, rfl, _⟩ := (StmtO.iff s S c).1 h; rfl
/-- One element of an owned row, to be turned. -/
theorem ExprsO.focus {w : World} : ∀ {ls : List LExpr} {S : Nat → Prop} {xs : List Value}, ExprsO w ls S xs → ∀ (i : Nat) (hi : i < ls.length), ∃ (c : List Value) (Sc : Nat → Prop), ExprO w ls[i] Sc c ∧ (∀ b, Sc b → S b) ∧ (∀ j, j < 3 → xs[i * 3 + j]? = c[j]?) ∧
    ∀ (w' : World) (e' : LExpr) (c' : List Value), (∀ b, S b → ¬ Sc b → b < w.heap.size → w'.heap[b]? = w.heap[b]?) → ExprO w' e' Sc c' → ExprsO w' (ls.set i e') S (setFrom xs (i * 3) c')
  | [], _, _, _, i, hi => by simp at hi
  | e :: r, S, xs, ⟨c, ys, S1, S2, h1, h2, h3, h4, h5⟩, i, hi => by
    have hc := h4.len
    subst h1
    cases i with
    | zero =>
      refine ⟨c, S1, h4, fun b hb => (h2 b hb).1, fun j hj => by rw [List.getElem?_append_left (by omega)]; simp, fun w' e' c' hs hO => ?_⟩
      refine ⟨c', ys, S1, S2, ?_, h2, h3, hO, ExprsO.same r S2 ys h5 fun b hb hlt => hs b (h3 b hb) (fun h => (h2 b h).2 hb) hlt⟩
      rw [Nat.zero_mul, setFrom_append_left c' c ys 0 (by rw [hO.len]; omega), setFrom_whole (by rw [hO.len, hc])]
    | succ i =>
      obtain ⟨d, Sc, k1, k2, k3, k4⟩ := ExprsO.focus h5 i (by simpa using hi)
      refine ⟨d, Sc, k1, fun b hb => h3 b (k2 b hb), fun j hj => ?_, fun w' e' c' hs hO => ?_⟩
      · rw [List.getElem?_append_right (by rw [hc, Nat.succ_mul]; omega), ← k3 j hj]
        congr 1
        rw [hc, Nat.succ_mul]; omega
      · refine ⟨c, setFrom ys (i * 3) c', S1, S2, ?_, h2, h3, ExprO.same e S1 c h4 fun b hb hlt => hs b (h2 b hb).1 (fun h => (h2 b hb).2 (k2 b h)) hlt, k4 w' e' c' (fun b hb hn hlt => hs b (h3 b hb) hn hlt) hO⟩
        rw [setFrom_append_right c' c ys _ (by rw [hc, Nat.succ_mul]; omega), hc, Nat.succ_mul, Nat.add_sub_cancel]
theorem StmtsO.focus {w : World} : ∀ {ls : List LStmt} {S : Nat → Prop} {xs : List Value}, StmtsO w ls S xs → ∀ (i : Nat) (hi : i < ls.length), ∃ (c : List Value) (Sc : Nat → Prop), StmtO w ls[i] Sc c ∧ (∀ b, Sc b → S b) ∧ (∀ j, j < 11 → xs[i * 11 + j]? = c[j]?) ∧
    ∀ (w' : World) (e' : LStmt) (c' : List Value), (∀ b, S b → ¬ Sc b → b < w.heap.size → w'.heap[b]? = w.heap[b]?) → StmtO w' e' Sc c' → StmtsO w' (ls.set i e') S (setFrom xs (i * 11) c')
  | [], _, _, _, i, hi => by simp at hi
  | e :: r, S, xs, ⟨c, ys, S1, S2, h1, h2, h3, h4, h5⟩, i, hi => by
    have hc := h4.len
    subst h1
    cases i with
    | zero =>
      refine ⟨c, S1, h4, fun b hb => (h2 b hb).1, fun j hj => by rw [List.getElem?_append_left (by omega)]; simp, fun w' e' c' hs hO => ?_⟩
      refine ⟨c', ys, S1, S2, ?_, h2, h3, hO, StmtsO.same r S2 ys h5 fun b hb hlt => hs b (h3 b hb) (fun h => (h2 b h).2 hb) hlt⟩
      rw [Nat.zero_mul, setFrom_append_left c' c ys 0 (by rw [hO.len]; omega), setFrom_whole (by rw [hO.len, hc])]
    | succ i =>
      obtain ⟨d, Sc, k1, k2, k3, k4⟩ := StmtsO.focus h5 i (by simpa using hi)
      refine ⟨d, Sc, k1, fun b hb => h3 b (k2 b hb), fun j hj => ?_, fun w' e' c' hs hO => ?_⟩
      · rw [List.getElem?_append_right (by rw [hc, Nat.succ_mul]; omega), ← k3 j hj]
        congr 1
        rw [hc, Nat.succ_mul]; omega
      · refine ⟨c, setFrom ys (i * 11) c', S1, S2, ?_, h2, h3, StmtO.same e S1 c h4 fun b hb hlt => hs b (h2 b hb).1 (fun h => (h2 b hb).2 (k2 b h)) hlt, k4 w' e' c' (fun b hb hn hlt => hs b (h3 b hb) hn hlt) hO⟩
        rw [setFrom_append_right c' c ys _ (by rw [hc, Nat.succ_mul]; omega), hc, Nat.succ_mul, Nat.add_sub_cancel]

/-- Some elements marked. -/
def mxE (ks : List LExpr) (k : Int) (i : Nat) : List LExpr := (mkEs ks k).take i ++ ks.drop i
theorem mkEs_len : ∀ (ks : List LExpr) (k : Int), (mkEs ks k).length = ks.length
  | [], _ => rfl
  | _ :: r, k => by simp [mkEs, mkEs_len r]
theorem mkEs_get : ∀ (ks : List LExpr) (k : Int) (i : Nat) (h : i < ks.length), (mkEs ks k)[i]? = some (mkE ks[i] (k + 2 * szEs (ks.take i)))
  | [], _, i, h => by simp at h
  | e :: r, k, 0, _ => by simp [mkEs, szEs]
  | e :: r, k, i + 1, h => by
    simp only [mkEs, List.getElem?_cons_succ, List.getElem_cons_succ, List.take_succ_cons, szEs]
    rw [mkEs_get r _ i (by simpa using h)]
    congr 2
    simp only [Int.natCast_add, Int.natCast_one]
    omega
theorem mxE_len (ks : List LExpr) (k : Int) {i : Nat} (h : i ≤ ks.length) : (mxE ks k i).length = ks.length := by simp [mxE, mkEs_len]; omega
theorem mxE_zero (ks : List LExpr) (k : Int) : mxE ks k 0 = ks := by simp [mxE]
theorem mxE_all (ks : List LExpr) (k : Int) : mxE ks k ks.length = mkEs ks k := by
  unfold mxE; rw [List.drop_length, List.append_nil, List.take_of_length_le (by rw [mkEs_len]; exact Nat.le_refl _)]
theorem mxE_at (ks : List LExpr) (k : Int) {i : Nat} (h : i < ks.length) : (mxE ks k i)[i]? = some ks[i] := by
  unfold mxE
  rw [List.getElem?_append_right (by rw [List.length_take]; omega), List.length_take, mkEs_len, Nat.min_eq_left (by omega), Nat.sub_self, List.getElem?_drop, Nat.add_zero, List.getElem?_eq_getElem h]
theorem mxE_succ (ks : List LExpr) (k : Int) {i : Nat} (h : i < ks.length) : mxE ks k (i + 1) = (mxE ks k i).set i (mkE ks[i] (k + 2 * szEs (ks.take i))) := by
  have hl : ((mkEs ks k).take i).length = i := by rw [List.length_take, mkEs_len]; omega
  have hg := mkEs_get ks k i h
  have hi : i < (mkEs ks k).length := by rw [mkEs_len]; exact h
  rw [List.getElem?_eq_getElem hi] at hg
  have hg' := Option.some.inj hg
  unfold mxE
  rw [List.set_append_right _ _ (by omega), hl, Nat.sub_self, List.drop_eq_getElem_cons h, List.set_cons_zero, take_succ_get _ _ hi, hg']
  simp

def MkE' (e : LExpr) : Prop := ∀ (v : Value) (k : Int) (w : World) (S : Nat → Prop), KidsO w v e.kids S → 0 ≤ k → k + 2 * szEs e.kids ≤ 9000000000000000000 →
  Calls Try.prog 80 #[v, .int .i64 k] w fun x w' => x = .returned (.int .i64 (k + 2 * szEs e.kids)) ∧ KidsO w' v (mkEs e.kids k) S ∧ Kept (fun b => ¬ S b) w w'

set_option maxHeartbeats 2000000 in
theorem markExprS_of (ks : List LExpr) (ih : ∀ e ∈ ks, MkE' e) (v : Value) (k0 : Int) (w : World) (S : Nat → Prop) (h : KidsO w v ks S) (hk0 : 0 ≤ k0) (hkb : k0 + 2 * szEs ks ≤ 9000000000000000000) :
    Calls Try.prog 80 #[v, .int .i64 k0] w fun x w' => x = .returned (.int .i64 (k0 + 2 * szEs ks)) ∧ KidsO w' v (mkEs ks k0) S ∧ Kept (fun b => ¬ S b) w w' := by
  obtain ⟨xs, S', ho, hg, hs, hx⟩ := h
  obtain ⟨a, cap, rfl⟩ := owns_form ho
  have hm : ks.length ≤ 9223372036854775807 := (owns_row ho).len
  have HG := show Hid _ from hg
  have HS := show Hid _ from hs
  have HX := show Hid _ from hx
  have HO := show Hid _ from ho
  clear hg hs hx ho
  go_enter Try.func80, Try.ntmps80
  go_wp2_with fail
  go_loopw [1, 5] (fun q i wr => ∃ (j : Nat) (y : Int) (xs : List Value), j ≤ ks.length ∧ i = .int .i64 j ∧ q = .int .i64 y ∧ y = k0 + 2 * szEs (ks.take j) ∧ wr.ownsRow 0 41 3 (.slice a ks.length cap) ks.length xs ∧ ExprsO wr (mxE ks k0 j) S' xs ∧ Kept (fun b => ¬ S b) w wr) (fun _ i _ => ks.length - (intOf i).toNat)
  case atStart => exact ⟨0, k0, xs, Nat.zero_le _, rfl, rfl, by simp [szEs], HO.out, by rw [mxE_zero]; exact HX.out, Kept.refl _ _⟩
  case round =>
    obtain ⟨j, y, xs, hj, rfl, rfl, hy, ho, hx, hkp⟩ := hrel
    have HY := show Hid _ from hy
    have HKP := show Hid _ from hkp
    have HX1 := show Hid _ from hx
    have HO1 := show Hid _ from ho
    clear hy hkp hx ho
    by_cases hlt : j < ks.length
    · have h1 := szEs_take1 hlt
      have h2 := szEs_drop ks (j + 1)
      have hy0 : 0 ≤ y := by have := HY.out; omega
      have hy1 : y + 2 + 2 * szE ks[j] ≤ 9000000000000000000 := by have := HY.out; omega
      have hlen := mxE_len ks k0 hj
      obtain ⟨c, Sc, f1, f2, f3, f4⟩ := HX1.out.focus j (by omega)
      have hge := mxE_at ks k0 hlt
      rw [List.getElem?_eq_getElem (by omega)] at hge
      rw [Option.some.inj hge] at f1
      obtain ⟨kv, rfl, hkv⟩ := (ExprO.iff _ _ _).1 f1
      have F3 := show Hid _ from f3
      have F4 := show Hid _ from f4
      have F2 := show Hid _ from f2
      obtain ⟨g, cap', hv, -, hg2, hg3, -, -, hfr, hcell⟩ := (Own.mk' HO1.out).open (by omega)
      cases hv
      have hxl : xs.length = ks.length * 3 := HO1.out.1
      have e0 := hcell (j * 3) (.int .i64 ks[j].kind) (by simpa using f3 0 (by omega))
      have e1 := hcell (j * 3 + 1) (.int .i64 ks[j].value) ((f3 1 (by omega)).trans rfl)
      have e2 := hcell (j * 3 + 2) kv ((f3 2 (by omega)).trans rfl)
      have hSg : ¬ S' g := (HG.out g rfl).2
      have HSG := show Hid _ from hSg
      have HK := show Hid _ from hkv
      have HXL := show Hid _ from hxl
      have HH := show Hid _ from And.intro h1 h2
      clear hcell f1 f2 f3 f4 hkv hge hlen hSg hxl h1 h2
      go_wp2_with fail
      refine (ih _ (List.getElem_mem hlt) kv (y + 1 + 1) _ Sc (KidsO.same HK.out fun b hb hl => ?_) (by omega) ?_).mono ?_
      · have hbg : b ≠ g := fun e => HSG.out (by rw [← e]; exact F2.out b hb)
        rw [Below.heap_setCell _ _ _ _ hbg, Below.heap_setCell _ _ _ _ hbg]
      · have : szEs ks[j].kids = szE ks[j] := (by cases ks[j]; rfl)
        omega
      rintro x w2 ⟨rfl, hk2, kp2⟩
      have hkids : szEs ks[j].kids = szE ks[j] := (by cases ks[j]; rfl)
      rw [hkids]
      have r1 := ((Own.mk' HO1.out).setCell (j := j * 3) (by rw [HXL.out]; omega) (.int .i64 y)).setCell (j := j * 3 + 1) (by rw [List.length_set, HXL.out]; omega) (.int .i64 (y + 1))
      have hxs : (xs.set (j * 3) (.int .i64 y)).set (j * 3 + 1) (.int .i64 (y + 1)) = setFrom xs (j * 3) [.int .i64 y, .int .i64 (y + 1), kv] := by
        simp only [setFrom]
        have h3 : xs[j * 3 + 1 + 1]? = some kv := (F3.out 2 (by omega)).trans rfl
        apply List.ext_getElem?
        intro q
        rw [List.getElem?_set (i := j * 3 + 1 + 1)]
        split
        · rename_i e
          subst e
          rw [List.getElem?_set_ne (by omega), List.getElem?_set_ne (by omega), h3]
          have := (List.getElem?_eq_some_iff.1 h3).1
          simp [this]
        · rfl
      rw [hxs] at r1
      have hne : ¬ Sc g := fun h => HSG.out (F2.out g h)
      have r2 := owns_same (owns_base r1.1 (Nat.zero_le _)) (w' := w2) fun g' hg' => by
        cases hg'
        exact kp2.block g (by simp; exact hg3) hne
      have hx2 := F4.out w2 (mkE ks[j] y) [.int .i64 y, .int .i64 (y + 1), kv] (fun b hb hn hl => by
        have hbg : b ≠ g := fun e => HSG.out (by rw [← e]; exact hb)
        rw [kp2.block b (by simp; exact hl) hn, Below.heap_setCell _ _ _ _ hbg, Below.heap_setCell _ _ _ _ hbg]) ((ExprO.iff _ _ _).2 ⟨kv, by cases ks[j]; rfl, by
          have hy2 : y + 1 + 1 = y + 2 := by omega
          rw [hy2] at hk2
          cases hkj : ks[j] with
          | mk a1 b1 c1 => rw [hkj] at hk2; exact hk2⟩)
      have hmx := mxE_succ ks k0 hlt
      rw [← HY.out] at hmx
      rw [← hmx] at hx2
      have hkept : Kept (fun b => ¬ S b) w w2 := HKP.out.trans (((Kept.setCell wr g (j * 3) (.int .i64 y)).trans (Kept.setCell _ g (j * 3 + 1) (.int .i64 (y + 1)))).mono (fun b hb e => hb (by rw [e]; exact (HG.out g rfl).1)) |>.trans (kp2.mono fun b hb h => hb (HS.out b (F2.out b h))))
      have HF := show Hid _ from And.intro r2 (And.intro hx2 hkept)
      have hsz0 : (0 : Int) ≤ szE ks[j] := by omega
      clear r1 r2 hx2 hkept hmx hxs hkids hk2 kp2
      obtain ⟨z, hz⟩ : ∃ z : Nat, z = szE ks[j] := ⟨_, rfl⟩
      have HZ := show Hid _ from hz
      rw [← hz] at hy1 hsz0 ⊢
      clear hz
      go_wp2_with fail
      exact ⟨⟨j + 1, _, _, by omega, by go_num, rfl, by rw [HH.out.1, HY.out, ← HZ.out]; omega, HF.out.1, HF.out.2.1, HF.out.2.2⟩, by simp [intOf]; omega⟩
    · have hjn : j = ks.length := by omega
      subst hjn
      go_wp2_with fail
      go_ret
      exact ⟨ret_int (by have := HY.out; rw [List.take_of_length_le (Nat.le_refl _)] at this; exact this), ⟨xs, S', by rw [mkEs_len]; exact HO1.out, HG.out, HS.out, by rw [← mxE_all]; exact HX1.out⟩, HKP.out⟩

end Go.Proofs.Ytgpkdfefgcpbiaa

namespace Go.Proofs.Ytgpkdfefgcpbiaa
set_option linter.unusedVariables false
set_option linter.unusedSimpArgs false
open Go Go.RowKit

section
variable {φ ψ : Nat → Prop} {w0 w w' : World} {L : List Res}

/-- The last two become one. -/
theorem Mem.fuse {a b : Res} (M : Mem φ ψ w0 w (L ++ [a, b])) (c : Res) (hb : ∀ g, c.blk g → a.blk g ∨ b.blk g)
    (hc : (∀ g, a.blk g → ¬ b.blk g) → a.holds w (Fr φ (L ++ [a, b])) → b.holds w (Fr φ (L ++ [a, b])) → c.holds w (Fr φ (L ++ [c]))) : Mem φ ψ w0 w (L ++ [c]) := by
  have ga : (L ++ [a, b])[L.length]? = some a := by simp
  have gb : (L ++ [a, b])[L.length + 1]? = some b := by simp
  have gl : ∀ (i : Nat) (x : Res), L[i]? = some x → (L ++ [a, b])[i]? = some x := fun i x h => by
    have := (List.getElem?_eq_some_iff.1 h).1
    rw [List.getElem?_append_left this]; exact h
  have get : ∀ (i : Nat) (x : Res), (L ++ [c])[i]? = some x → (i < L.length ∧ L[i]? = some x) ∨ (i = L.length ∧ x = c) := by
    intro k z hz
    rcases Nat.lt_or_ge k L.length with hk | hk
    · rw [List.getElem?_append_left hk] at hz; exact .inl ⟨hk, hz⟩
    · rw [List.getElem?_append_right hk] at hz
      have : k - L.length = 0 := by
        rcases Nat.eq_zero_or_pos (k - L.length) with h | h
        · exact h
        · rw [List.getElem?_eq_none (by rw [List.length_singleton]; exact h)] at hz; cases hz
      rw [this] at hz; simp at hz
      exact .inr ⟨by omega, hz.symm⟩
  refine ⟨M.kept, M.fresh, fun r hr => ?_, fun i j x y g hi hj hij hx hy => ?_, fun r g hr hg => ?_⟩
  · rcases List.mem_append.1 hr with hr | hr
    · refine Res.keep (M.holds r (by simp [hr])) (Agr.mono fun g _ hf => ⟨hf.1, fun x hx he => ?_⟩) fun _ _ => rfl
      rcases List.mem_append.1 hx with hx | hx
      · exact hf.2 x (by simp [hx]) he
      · rw [List.mem_singleton] at hx; subst hx
        rcases hb g he with h | h
        · exact hf.2 a (by simp) h
        · exact hf.2 b (by simp) h
    · rw [List.mem_singleton] at hr; subst hr
      exact hc (fun g h1 h2 => M.dis _ _ a b g ga gb (by omega) h1 h2) (M.holds a (by simp)) (M.holds b (by simp))
  · rcases get i x hi with ⟨hi1, hi2⟩ | ⟨hi1, rfl⟩ <;> rcases get j y hj with ⟨hj1, hj2⟩ | ⟨hj1, rfl⟩
    · exact M.dis i j x y g (gl i x hi2) (gl j y hj2) hij hx hy
    · rcases hb g hy with h | h
      · exact M.dis i _ x a g (gl i x hi2) ga (by omega) hx h
      · exact M.dis i _ x b g (gl i x hi2) gb (by omega) hx h
    · rcases hb g hx with h | h
      · exact M.dis j _ y a g (gl j y hj2) ga (by omega) hy h
      · exact M.dis j _ y b g (gl j y hj2) gb (by omega) hy h
    · omega
  · rcases List.mem_append.1 hr with hr | hr
    · exact M.ge r g (by simp [hr]) hg
    · rw [List.mem_singleton] at hr; subst hr
      rcases hb g hg with h | h
      · exact M.ge a g (by simp) h
      · exact M.ge b g (by simp) h
/-- A tree more among the elements of an owned row. -/
theorem Mem.joinE {S T : Nat → Prop} {ks : List LExpr} {xs : List Value} {e : LExpr} {kv : Value} (M : Mem φ ψ w0 w (L ++ [.own S (fun w => ExprsO w ks S xs), .own T (fun w => KidsO w kv e.kids T)])) :
    Mem φ ψ w0 w (L ++ [.own (fun b => S b ∨ T b) (fun w => ExprsO w (ks ++ [e]) (fun b => S b ∨ T b) (xs ++ [.int .i64 e.kind, .int .i64 e.value, kv]))]) :=
  M.fuse _ (fun _ h => h) fun hd h1 h2 => ⟨fun _ _ h hs => ExprsO.same _ _ _ h hs, ExprsO.snoc h1.2.1 ((ExprO.iff _ _ _).2 ⟨kv, rfl, h2.2.1⟩) (fun b hb => ⟨.inl hb, hd b hb⟩) (fun _ hb => .inr hb), fun b hb => hb.elim (h1.2.2 b) (h2.2.2 b)⟩
/-- A row and what its elements own. -/
theorem Mem.joinK {S : Nat → Prop} {ks : List LExpr} {n : Nat} {xs : List Value} {v : Value} (M : Mem φ ψ w0 w (L ++ [.row 41 3 v n xs, .own S (fun w => ExprsO w ks S xs)])) (hn : n = ks.length) :
    Mem φ ψ w0 w (L ++ [.own (fun b => v.ownBlock = some b ∨ S b) (fun w => KidsO w v ks (fun b => v.ownBlock = some b ∨ S b))]) := by
  subst hn
  exact M.fuse _ (fun _ h => h) fun hd h1 h2 => ⟨fun _ _ h hs => KidsO.same h hs, ⟨xs, S, h1, fun g hg => ⟨.inl hg, hd g hg⟩, fun _ hb => .inr hb, h2.2.1⟩, fun b hb => hb.elim (fun h => (World.ownsRow.lt h1 b h).2) (h2.2.2 b)⟩
/-- Nothing owned. -/
theorem Mem.noneE (M : Mem φ ψ w0 w L) : Mem φ ψ w0 w (L ++ [.own (fun _ => False) (fun w => ExprsO w [] (fun _ => False) [])]) :=
  M.callO (Below.refl _ _) (fun _ _ _ _ => rfl) rfl fun _ h => h.elim

theorem ExprsO.at : ∀ {ks : List LExpr} {S : Nat → Prop} {xs : List Value}, ExprsO w ks S xs → ∀ (i : Nat) (hi : i < ks.length), ∃ kv, xs[i * 3]? = some (.int .i64 ks[i].kind) ∧ xs[i * 3 + 1]? = some (.int .i64 ks[i].value) ∧ xs[i * 3 + 2]? = some kv ∧ KidsO w kv ks[i].kids S
  | [], _, _, _, i, hi => by simp at hi
  | e :: r, S, _, ⟨c, ys, S1, S2, h1, h2, h3, h4, h5⟩, i, hi => by
    obtain ⟨kv, rfl, hk⟩ := (ExprO.iff e S1 c).1 h4
    subst h1
    cases i with
    | zero => exact ⟨kv, rfl, rfl, rfl, hk.mono fun b hb => (h2 b hb).1⟩
    | succ i =>
      obtain ⟨kv', a, b, d, f⟩ := ExprsO.at h5 i (by simpa using hi)
      refine ⟨kv', ?_, ?_, ?_, f.mono h3⟩ <;> (rw [Nat.succ_mul]; simpa [Nat.add_assoc] using by assumption)
/-- An owned slice of expressions, opened. -/
theorem KidsO.open {v : Value} {ks : List LExpr} {S : Nat → Prop} (h : KidsO w v ks S) : ∃ a cap, v = .slice a ks.length cap ∧ ks.length ≤ cap ∧ ks.length ≤ 9223372036854775807 ∧ cap ≤ 9223372036854775807 ∧
    ∀ i (hi : i < ks.length), ∃ b off kv, a = some ⟨b, off, none⟩ ∧ b < w.heap.size ∧ S b ∧ w.cell? ⟨b, off + i * 3, none⟩ = some (.int .i64 ks[i].kind) ∧ w.cell? ⟨b, off + i * 3 + 1, none⟩ = some (.int .i64 ks[i].value) ∧ w.cell? ⟨b, off + i * 3 + 2, none⟩ = some kv ∧ KidsO w kv ks[i].kids S := by
  obtain ⟨xs, S', h2, h3, h4, h5⟩ := h
  obtain ⟨hl, a, cap, hv, n1, n2, n3⟩ := owns_rowF (φ := fun g => S g ∧ ¬ S' g) h2 h3
  unfold maxLen at n2
  refine ⟨a, cap, hv, n1, by omega, by omega, fun i hi => ?_⟩
  obtain ⟨b, off, he, hb, hf, hc⟩ := n3 (by omega)
  obtain ⟨kv, e0, e1, e2, hk⟩ := h5.at i hi
  exact ⟨b, off, kv, he, hb, hf.1, hc _ _ e0, hc _ _ e1, hc _ _ e2, hk.mono h4⟩
theorem KidsO.nil (w : World) (S : Nat → Prop) : KidsO w (.slice none 0 0) [] S := ⟨[], fun _ => False, World.ownsRow_nil _ _ _ _, (fun g hg => by cases hg), fun _ h => h.elim, rfl⟩

end
end Go.Proofs.Ytgpkdfefgcpbiaa

namespace Go.Proofs.Ytgpkdfefgcpbiaa
set_option linter.unusedVariables false
set_option linter.unusedSimpArgs false
open Go Go.RowKit

theorem markExprS_all (ks : List LExpr) (v : Value) (k0 : Int) (w : World) (S : Nat → Prop) (h : KidsO w v ks S) (hk0 : 0 ≤ k0) (hkb : k0 + 2 * szEs ks ≤ 9000000000000000000) :
    Calls Try.prog 80 #[v, .int .i64 k0] w fun x w' => x = .returned (.int .i64 (k0 + 2 * szEs ks)) ∧ KidsO w' v (mkEs ks k0) S ∧ Kept (fun b => ¬ S b) w w' :=
  markExprS_of ks (fun e _ => LExpr.ind (P := MkE') (fun _ _ ks ih v k w S h h0 hb => markExprS_of ks ih v k w S h h0 hb) e) v k0 w S h hk0 hkb

def HeldE (e : LExpr) : Prop := ∀ (φ : Nat → Prop) (v : Value) (k : Int) (w : World), KidsV w φ v (mkEs e.kids k) → 0 ≤ k → k + 2 * szEs e.kids ≤ 9000000000000000000 →
  Calls Try.prog 81 #[v, .int .i64 k] w fun x w' => x = .returned (.int .i64 (k + 2 * szEs e.kids)) ∧ Below w.heap.size w w'

set_option maxHeartbeats 2000000 in
theorem heldExprS_of (ks : List LExpr) (ih : ∀ e ∈ ks, HeldE e) (φ : Nat → Prop) (v : Value) (k0 : Int) (w : World) (h : KidsV w φ v (mkEs ks k0)) (hk0 : 0 ≤ k0) (hkb : k0 + 2 * szEs ks ≤ 9000000000000000000) :
    Calls Try.prog 81 #[v, .int .i64 k0] w fun x w' => x = .returned (.int .i64 (k0 + 2 * szEs ks)) ∧ Below w.heap.size w w' := by
  obtain ⟨a, cap, rfl, -, hn, -, hc⟩ := h.open
  rw [mkEs_len] at hn ⊢
  have HC := show Hid _ from hc
  clear hc h
  go_enter Try.func81, Try.ntmps81
  go_wp2_with fail
  go_loopw [1, 5] (fun q i wr => ∃ (j : Nat) (y : Int), j ≤ ks.length ∧ i = .int .i64 j ∧ q = .int .i64 y ∧ y = k0 + 2 * szEs (ks.take j) ∧ Below w.heap.size w wr) (fun _ i _ => ks.length - (intOf i).toNat)
  case atStart => exact ⟨0, k0, Nat.zero_le _, rfl, rfl, by simp [szEs], Below.refl _ _⟩
  case round =>
    obtain ⟨j, y, hj, rfl, rfl, hy, hb⟩ := hrel
    have HY := show Hid _ from hy
    have HB := show Hid _ from hb
    clear hy hb
    by_cases hlt : j < ks.length
    · have h1 := szEs_take1 hlt
      have h2 := szEs_drop ks (j + 1)
      have hy0 : 0 ≤ y := by have := HY.out; omega
      have hy1 : y + 2 + 2 * szE ks[j] ≤ 9000000000000000000 := by have := HY.out; omega
      have hge := mkEs_get ks k0 j hlt
      rw [← HY.out, List.getElem?_eq_getElem (by rw [mkEs_len]; exact hlt)] at hge
      have hge' := Option.some.inj hge
      obtain ⟨b, off, kv, rfl, hbk, hf, c0, c1, c2, hkv⟩ := HC.out j (by rw [mkEs_len]; exact hlt)
      rw [hge'] at c0 c1 hkv
      rw [← (bcell HB.out).1 _ _ hbk] at c0 c1 c2
      have hkids : szEs ks[j].kids = szE ks[j] := (by cases ks[j]; rfl)
      have d0 : (mkE ks[j] y).kind = y := by cases ks[j]; rfl
      have d1 : (mkE ks[j] y).value = y + 1 := by cases ks[j]; rfl
      have d2 : (mkE ks[j] y).kids = mkEs ks[j].kids (y + 2) := by cases ks[j]; rfl
      rw [d0] at c0
      rw [d1] at c1
      rw [d2] at hkv
      have HK := show Hid (KidsV wr φ kv (mkEs ks[j].kids (y + 1 + 1))) from by rw [show y + 1 + 1 = y + 2 by omega]; exact KidsV.nice _ _ _ _ _ _ (Agr.below HB.out) hkv
      have HH := show Hid _ from And.intro h1 h2
      have HKS := show Hid _ from hkids
      clear hkv hge hge' d0 d1 d2 h1 h2 hkids
      go_wp2_with fail
      refine (ih _ (List.getElem_mem hlt) φ kv (y + 1 + 1) _ HK.out (by omega) (by rw [HKS.out]; omega)).mono ?_
      rintro x w2 ⟨rfl, b2⟩
      rw [HKS.out]
      have B2 := show Hid _ from HB.out.trans (b2.mono HB.out.size)
      obtain ⟨z, hz⟩ : ∃ z : Nat, z = szE ks[j] := ⟨_, rfl⟩
      have HZ := show Hid _ from hz
      have hsz0 : (0 : Int) ≤ (z : Int) := by omega
      rw [← hz] at hy1 ⊢
      clear hz b2
      go_wp2_with fail
      exact ⟨⟨j + 1, _, by omega, by go_num, rfl, by rw [HH.out.1, HY.out, ← HZ.out]; omega, B2.out⟩, by simp [intOf]; omega⟩
    · have hjn : j = ks.length := by omega
      subst hjn
      go_wp2_with fail
      go_ret
      exact ⟨ret_int (by have := HY.out; rw [List.take_of_length_le (Nat.le_refl _)] at this; exact this), HB.out⟩
theorem heldExprS_all (ks : List LExpr) (φ : Nat → Prop) (v : Value) (k0 : Int) (w : World) (h : KidsV w φ v (mkEs ks k0)) (hk0 : 0 ≤ k0) (hkb : k0 + 2 * szEs ks ≤ 9000000000000000000) :
    Calls Try.prog 81 #[v, .int .i64 k0] w fun x w' => x = .returned (.int .i64 (k0 + 2 * szEs ks)) ∧ Below w.heap.size w w' :=
  heldExprS_of ks (fun e _ => LExpr.ind (P := HeldE) (fun _ _ ks ih φ v k w h h0 hb => heldExprS_of ks ih φ v k w h h0 hb) e) φ v k0 w h hk0 hkb

end Go.Proofs.Ytgpkdfefgcpbiaa

namespace Go.Proofs.Ytgpkdfefgcpbiaa
set_option linter.unusedVariables false
set_option linter.unusedSimpArgs false
open Go Go.RowKit

theorem setFrom_get (us : List Value) : ∀ (ys : List Value) (p q : Nat), p + us.length ≤ ys.length → (setFrom ys p us)[q]? = if p ≤ q ∧ q < p + us.length then us[q - p]? else ys[q]? := by
  induction us with
  | nil => intro ys p q _; simp only [setFrom, List.length_nil]; split; omega; rfl
  | cons u r ih =>
    intro ys p q h
    simp only [List.length_cons] at h
    simp only [setFrom, List.length_cons]
    rw [ih _ _ _ (by simp; omega)]
    by_cases h1 : q = p
    · subst h1
      rw [if_neg (by omega), if_pos (by omega), List.getElem?_set_self (by omega), Nat.sub_self]; rfl
    · by_cases h2 : p + 1 ≤ q ∧ q < p + 1 + r.length
      · rw [if_pos h2, if_pos (by omega), show q - p = q - (p + 1) + 1 by omega]; rfl
      · rw [if_neg h2, if_neg (by omega), List.getElem?_set_ne (by omega)]
theorem setFrom_self {xs cs : List Value} {p : Nat} (h : p + cs.length ≤ xs.length) (hc : ∀ j, j < cs.length → xs[p + j]? = cs[j]?) : setFrom xs p cs = xs := by
  apply List.ext_getElem?
  intro q
  rw [setFrom_get _ _ _ _ h]
  split
  · rename_i h1
    rw [← hc _ (by omega)]; congr 1; omega
  · rfl
theorem setFrom_set {xs cs : List Value} {p k : Nat} (u : Value) (h : p + cs.length ≤ xs.length) (hk : k < cs.length) : (setFrom xs p cs).set (p + k) u = setFrom xs p (cs.set k u) := by
  apply List.ext_getElem?
  intro q
  rw [setFrom_get _ _ _ _ (by simpa using h), List.getElem?_set, setFrom_get _ _ _ _ h, setFrom_len, List.length_set]
  by_cases h1 : p + k = q
  · subst h1
    rw [if_pos rfl, if_pos (by omega), if_pos (by omega), Nat.add_sub_cancel_left, List.getElem?_set_self hk]
  · rw [if_neg h1]
    split
    · rw [List.getElem?_set_ne (by omega)]
    · rfl

def Res.plain : Res → Prop
  | .dat _ => False
  | _ => True
theorem Res.holds_plain {w : World} {φ φ' : Nat → Prop} {r : Res} (hp : r.plain) (h : r.holds w φ) : r.holds w φ' := by
  cases r with
  | dat R => exact hp.elim
  | box b cs => exact h
  | row e sz v n xs => exact h
  | own S R => exact h
/-- A thing that was there is taken up. -/
theorem Mem.adopt {φ ψ : Nat → Prop} {w0 w : World} {L : List Res} (M : Mem φ ψ w0 w L) (r : Res) (hL : ∀ a ∈ L, a.plain) (hp : r.plain) (h : r.holds w (fun _ => True)) (hd : ∀ a ∈ L, ∀ g, r.blk g → ¬ a.blk g) (hg : ∀ g, r.blk g → ¬ ψ g) : Mem φ ψ w0 w (L ++ [r]) := by
  have get : ∀ (i : Nat) (x : Res), (L ++ [r])[i]? = some x → (i < L.length ∧ x ∈ L ∧ L[i]? = some x) ∨ (i = L.length ∧ x = r) := by
    intro k z hz
    rcases Nat.lt_or_ge k L.length with hk | hk
    · rw [List.getElem?_append_left hk] at hz; exact .inl ⟨hk, List.mem_of_getElem? hz, hz⟩
    · rw [List.getElem?_append_right hk] at hz
      have : k - L.length = 0 := by
        rcases Nat.eq_zero_or_pos (k - L.length) with h | h
        · exact h
        · rw [List.getElem?_eq_none (by rw [List.length_singleton]; exact h)] at hz; cases hz
      rw [this] at hz; simp at hz
      exact .inr ⟨by omega, hz.symm⟩
  refine ⟨M.kept, M.fresh, fun x hx => ?_, fun i j x y g hi hj hij hx hy => ?_, fun x g hx hxg => ?_⟩
  · rcases List.mem_append.1 hx with hx | hx
    · exact Res.holds_plain (hL x hx) (M.holds x hx)
    · rw [List.mem_singleton] at hx; subst hx; exact Res.holds_plain hp h
  · rcases get i x hi with ⟨hi1, hi2, hi3⟩ | ⟨hi1, rfl⟩ <;> rcases get j y hj with ⟨hj1, hj2, hj3⟩ | ⟨hj1, rfl⟩
    · exact M.dis i j x y g hi3 hj3 hij hx hy
    · exact hd x hi2 g hy hx
    · exact hd y hj2 g hx hy
    · omega
  · rcases List.mem_append.1 hx with hx | hx
    · exact M.ge x g hx hxg
    · rw [List.mem_singleton] at hx; subst hx; exact .inr (hg g hxg)

def mxS (ks : List LStmt) (k : Int) (i : Nat) : List LStmt := (mkSs ks k).take i ++ ks.drop i
theorem mkSs_len : ∀ (ks : List LStmt) (k : Int), (mkSs ks k).length = ks.length
  | [], _ => rfl
  | _ :: r, k => by simp [mkSs, mkSs_len r]
theorem mkN_append (a b : List LStmt) : mkN (a ++ b) = mkN a + mkN b := by
  induction a with
  | nil => simp [mkN]
  | cons x r ih => simp only [List.cons_append, mkN, ih]; omega
theorem mkSs_get : ∀ (ks : List LStmt) (k : Int) (i : Nat) (h : i < ks.length), (mkSs ks k)[i]? = some (mkS ks[i] (k + mkN (ks.take i)))
  | [], _, i, h => by simp at h
  | e :: r, k, 0, _ => by simp [mkSs, mkN]
  | e :: r, k, i + 1, h => by
    simp only [mkSs, List.getElem?_cons_succ, List.getElem_cons_succ, List.take_succ_cons, mkN]
    rw [mkSs_get r _ i (by simpa using h)]
    congr 2
    omega
theorem mxS_len (ks : List LStmt) (k : Int) {i : Nat} (h : i ≤ ks.length) : (mxS ks k i).length = ks.length := by simp [mxS, mkSs_len]; omega
theorem mxS_zero (ks : List LStmt) (k : Int) : mxS ks k 0 = ks := by simp [mxS]
theorem mxS_all (ks : List LStmt) (k : Int) : mxS ks k ks.length = mkSs ks k := by
  unfold mxS; rw [List.drop_length, List.append_nil, List.take_of_length_le (by rw [mkSs_len]; exact Nat.le_refl _)]
theorem mxS_at (ks : List LStmt) (k : Int) {i : Nat} (h : i < ks.length) : (mxS ks k i)[i]? = some ks[i] := by
  unfold mxS
  rw [List.getElem?_append_right (by rw [List.length_take]; omega), List.length_take, mkSs_len, Nat.min_eq_left (by omega), Nat.sub_self, List.getElem?_drop, Nat.add_zero, List.getElem?_eq_getElem h]
theorem mxS_succ (ks : List LStmt) (k : Int) {i : Nat} (h : i < ks.length) : mxS ks k (i + 1) = (mxS ks k i).set i (mkS ks[i] (k + mkN (ks.take i))) := by
  have hl : ((mkSs ks k).take i).length = i := by rw [List.length_take, mkSs_len]; omega
  have hg := mkSs_get ks k i h
  have hi : i < (mkSs ks k).length := by rw [mkSs_len]; exact h
  rw [List.getElem?_eq_getElem hi] at hg
  have hg' := Option.some.inj hg
  unfold mxS
  rw [List.set_append_right _ _ (by omega), hl, Nat.sub_self, List.drop_eq_getElem_cons h, List.set_cons_zero, take_succ_get _ _ hi, hg']
  simp
mutual
theorem mkN1_nonneg : ∀ s : LStmt, 0 ≤ mkN1 s ∧ mkN1 s ≤ 7 * (1 + szS s)
  | ⟨_, _, i, v, _, b, e⟩ => by
    have h1 := mkN_nonneg b
    have h2 := mkN_nonneg e
    simp only [mkN1, szS]
    omega
theorem mkN_nonneg : ∀ ss : List LStmt, 0 ≤ mkN ss ∧ mkN ss ≤ 7 * szSs ss
  | [] => by simp [mkN, szSs]
  | s :: r => by
    have h1 := mkN1_nonneg s
    have h2 := mkN_nonneg r
    simp only [mkN, szSs]
    omega
end
theorem mkN_take1 {ks : List LStmt} {k : Nat} (h : k < ks.length) : mkN (ks.take (k + 1)) = mkN (ks.take k) + mkN1 ks[k] := by
  rw [take_succ_get _ _ h, mkN_append]; simp [mkN]
theorem mkN_drop (ks : List LStmt) (k : Nat) : mkN ks = mkN (ks.take k) + mkN (ks.drop k) := by
  have := mkN_append (ks.take k) (ks.drop k)
  rwa [List.take_append_drop] at this
theorem mkN1_def (s : LStmt) : mkN1 s = 7 + 2 * szEs s.index.kids + 2 * szEs s.value.kids + mkN s.body + mkN s.els := by
  rcases s with ⟨_, _, ⟨_, _, _⟩, ⟨_, _, _⟩, _, _, _⟩; simp only [mkN1, szE]; rfl
theorem mkS_def (s : LStmt) (y A B : Int) (hA : A = 2 * szEs s.index.kids) (hB : B = 2 * szEs s.value.kids) :
    mkS s y = ⟨y, y + 1, ⟨y + 1 + 1, y + 1 + 1 + 1, mkEs s.index.kids (y + 1 + 1 + 1 + 1)⟩, ⟨y + 1 + 1 + 1 + 1 + A, y + 1 + 1 + 1 + 1 + A + 1, mkEs s.value.kids (y + 1 + 1 + 1 + 1 + A + 1 + 1)⟩,
      y + 1 + 1 + 1 + 1 + A + 1 + 1 + B, mkSs s.body (y + 1 + 1 + 1 + 1 + A + 1 + 1 + B + 1), mkSs s.els (y + 1 + 1 + 1 + 1 + A + 1 + 1 + B + 1 + mkN s.body)⟩ := by
  rcases s with ⟨_, _, ⟨_, _, _⟩, ⟨_, _, _⟩, _, _, _⟩
  simp only [LStmt.index, LStmt.value, LStmt.body, LStmt.els, LExpr.kids] at hA hB ⊢
  subst hA hB
  simp only [mkS, mkE, szE, LStmt.mk.injEq, LExpr.mk.injEq, true_and]
  refine ⟨⟨by omega, by omega, by congr 1; omega⟩, ⟨by omega, by omega, by congr 1; omega⟩, by omega, by congr 1; omega, by congr 1; omega⟩

section
variable {w : World}
mutual
theorem ExprO.cut : ∀ (e : LExpr) (S : Nat → Prop) (cs : List Value), ExprO w e S cs → ExprO w e (fun b => S b ∧ b < w.heap.size) cs
  | ⟨_, _, ks⟩, _, _, ⟨v, xs, S', h1, h2, h3, h4, h5⟩ => ⟨v, xs, fun b => S' b ∧ b < w.heap.size, h1, h2, fun g hg => ⟨⟨(h3 g hg).1, (World.ownsRow.lt h2 g hg).2⟩, fun h => (h3 g hg).2 h.1⟩, fun b hb => ⟨h4 b hb.1, hb.2⟩, ExprsO.cut ks S' xs h5⟩
theorem ExprsO.cut : ∀ (ks : List LExpr) (S : Nat → Prop) (xs : List Value), ExprsO w ks S xs → ExprsO w ks (fun b => S b ∧ b < w.heap.size) xs
  | [], _, _, h => h
  | e :: r, _, _, ⟨c, ys, S1, S2, h1, h2, h3, h4, h5⟩ => ⟨c, ys, fun b => S1 b ∧ b < w.heap.size, fun b => S2 b ∧ b < w.heap.size, h1, fun b hb => ⟨⟨(h2 b hb.1).1, hb.2⟩, fun h => (h2 b hb.1).2 h.1⟩, fun b hb => ⟨h3 b hb.1, hb.2⟩, ExprO.cut e S1 c h4, ExprsO.cut r S2 ys h5⟩
end
theorem KidsO.cut {v : Value} {ks : List LExpr} {S : Nat → Prop} (h : KidsO w v ks S) : KidsO w v ks (fun b => S b ∧ b < w.heap.size) := by
  obtain ⟨xs, S', h2, h3, h4, h5⟩ := h
  exact ⟨xs, fun b => S' b ∧ b < w.heap.size, h2, fun g hg => ⟨⟨(h3 g hg).1, (World.ownsRow.lt h2 g hg).2⟩, fun h => (h3 g hg).2 h.1⟩, fun b hb => ⟨h4 b hb.1, hb.2⟩, ExprsO.cut ks S' xs h5⟩
mutual
theorem StmtO.cut : ∀ (s : LStmt) (S : Nat → Prop) (cs : List Value), StmtO w s S cs → StmtO w s (fun b => S b ∧ b < w.heap.size) cs
  | ⟨_, _, _, _, _, b, e⟩, _, _, ⟨iv, vv, bv, ev, xb, xe, Si, Sv, Sb, Se, Sb', Se', h1, ⟨d1, d2, d3, d4⟩, h2, h3, ⟨b1, b2, b3, b4⟩, ⟨e1, e2, e3, e4⟩⟩ =>
    ⟨iv, vv, bv, ev, xb, xe, fun b => Si b ∧ b < w.heap.size, fun b => Sv b ∧ b < w.heap.size, fun b => Sb b ∧ b < w.heap.size, fun b => Se b ∧ b < w.heap.size, fun b => Sb' b ∧ b < w.heap.size, fun b => Se' b ∧ b < w.heap.size, h1,
      ⟨fun b hb => ⟨⟨(d1 b hb.1).1, hb.2⟩, fun h => (d1 b hb.1).2.1 h.1, fun h => (d1 b hb.1).2.2.1 h.1, fun h => (d1 b hb.1).2.2.2 h.1⟩, fun b hb => ⟨⟨(d2 b hb.1).1, hb.2⟩, fun h => (d2 b hb.1).2.1 h.1, fun h => (d2 b hb.1).2.2 h.1⟩,
        fun b hb => ⟨⟨(d3 b hb.1).1, hb.2⟩, fun h => (d3 b hb.1).2 h.1⟩, fun b hb => ⟨d4 b hb.1, hb.2⟩⟩, h2.cut, h3.cut,
      ⟨b1, fun g hg => ⟨⟨(b2 g hg).1, (World.ownsRow.lt b1 g hg).2⟩, fun h => (b2 g hg).2 h.1⟩, fun b hb => ⟨b3 b hb.1, hb.2⟩, StmtsO.cut b Sb' xb b4⟩,
      ⟨e1, fun g hg => ⟨⟨(e2 g hg).1, (World.ownsRow.lt e1 g hg).2⟩, fun h => (e2 g hg).2 h.1⟩, fun b hb => ⟨e3 b hb.1, hb.2⟩, StmtsO.cut e Se' xe e4⟩⟩
theorem StmtsO.cut : ∀ (ks : List LStmt) (S : Nat → Prop) (xs : List Value), StmtsO w ks S xs → StmtsO w ks (fun b => S b ∧ b < w.heap.size) xs
  | [], _, _, h => h
  | e :: r, _, _, ⟨c, ys, S1, S2, h1, h2, h3, h4, h5⟩ => ⟨c, ys, fun b => S1 b ∧ b < w.heap.size, fun b => S2 b ∧ b < w.heap.size, h1, fun b hb => ⟨⟨(h2 b hb.1).1, hb.2⟩, fun h => (h2 b hb.1).2 h.1⟩, fun b hb => ⟨h3 b hb.1, hb.2⟩, StmtO.cut e S1 c h4, StmtsO.cut r S2 ys h5⟩
end
theorem BlockO.cut {v : Value} {ks : List LStmt} {S : Nat → Prop} (h : BlockO w v ks S) : BlockO w v ks (fun b => S b ∧ b < w.heap.size) := by
  obtain ⟨xs, S', h2, h3, h4, h5⟩ := h
  exact ⟨xs, fun b => S' b ∧ b < w.heap.size, h2, fun g hg => ⟨⟨(h3 g hg).1, (World.ownsRow.lt h2 g hg).2⟩, fun h => (h3 g hg).2 h.1⟩, fun b hb => ⟨h4 b hb.1, hb.2⟩, StmtsO.cut ks S' xs h5⟩
end

section
variable {φ ψ : Nat → Prop} {w0 w : World} {L : List Res}
theorem Mem.elemSet (M : Mem φ ψ w0 w L) (i : Nat) {e : TypeId} {sz n cap g p : Nat} {xs cs : List Value} (hi : L[i]? = some (.row e sz (.slice (some ⟨g, 0, none⟩) n cap) n (Go.Proofs.Ytgpkdfefgcpbiaa.setFrom xs p cs))) (hp : p + cs.length ≤ xs.length) (k : Nat) (hk : k < cs.length) (u : Value) {o : Nat} (ho : o = p + k) :
    Mem φ ψ w0 (w.setCell ⟨g, o, none⟩ u) (L.set i (.row e sz (.slice (some ⟨g, 0, none⟩) n cap) n (Go.Proofs.Ytgpkdfefgcpbiaa.setFrom xs p (cs.set k u)))) := by
  subst ho
  rw [← setFrom_set u hp hk]
  exact M.rowSet i hi (by rw [setFrom_len]; omega) u
theorem Mem.elemCell (M : Mem φ ψ w0 w L) (i : Nat) {e : TypeId} {sz n cap g p : Nat} {xs cs : List Value} (hi : L[i]? = some (.row e sz (.slice (some ⟨g, 0, none⟩) n cap) n (Go.Proofs.Ytgpkdfefgcpbiaa.setFrom xs p cs))) (hn : 0 < n) (hp : p + cs.length ≤ xs.length) (k : Nat) {u : Value} (hk : cs[k]? = some u) {o : Nat} (ho : o = p + k) :
    w.cell? ⟨g, o, none⟩ = some u := by
  subst ho
  obtain ⟨g', cap', hv, -, -, -, -, -, -, hc⟩ := (Own.mk' (M.r i hi)).open hn
  cases hv
  refine hc (p + k) u ?_
  have := (List.getElem?_eq_some_iff.1 hk).1
  rw [setFrom_get _ _ _ _ hp, if_pos (by omega), Nat.add_sub_cancel_left, hk]
theorem Mem.rowFree (M : Mem φ ψ w0 w L) (i : Nat) {e : TypeId} {sz n cap g : Nat} {xs : List Value} (hi : L[i]? = some (.row e sz (.slice (some ⟨g, 0, none⟩) n cap) n xs)) (hn : 0 < n) : ∀ o, w.frozen? ⟨g, o, none⟩ = false := by
  obtain ⟨g', cap', hv, -, -, -, -, -, hf, -⟩ := (Own.mk' (M.r i hi)).open hn
  cases hv
  exact hf
end

def MkSs (ss : List LStmt) : Prop := ∀ (v : Value) (k : Int) (w : World) (S : Nat → Prop), BlockO w v ss S → 0 ≤ k → k + mkN ss ≤ 9000000000000000000 →
  Calls Try.prog 79 #[v, .int .i64 k] w fun x w' => x = .returned (.int .i64 (k + mkN ss)) ∧ BlockO w' v (mkSs ss k) S ∧ Kept (fun b => ¬ S b) w w'

set_option maxRecDepth 100000 in
set_option maxHeartbeats 4000000 in
theorem markStmtS_of (ks : List LStmt) (ih : ∀ s ∈ ks, MkSs s.body ∧ MkSs s.els) : MkSs ks := by
  intro v k0 w S h hk0 hkb
  obtain ⟨xs, S', ho, hg, hs, hx⟩ := h
  obtain ⟨a, cap, rfl⟩ := owns_form ho
  have hm : ks.length ≤ 9223372036854775807 := (owns_row ho).len
  have HG := show Hid _ from hg
  have HS := show Hid _ from hs
  have HX := show Hid _ from hx
  have HO := show Hid _ from ho
  have HKB := show Hid _ from hkb
  clear hg hs hx ho hkb
  go_enter Try.func79, Try.ntmps79
  go_wp2_with fail
  go_loopw [1, 5] (fun q i wr => ∃ (j : Nat) (y : Int) (xs : List Value), j ≤ ks.length ∧ i = .int .i64 j ∧ q = .int .i64 y ∧ y = k0 + mkN (ks.take j) ∧ wr.ownsRow 0 135 11 (.slice a ks.length cap) ks.length xs ∧ StmtsO wr (mxS ks k0 j) S' xs ∧ Kept (fun b => ¬ S b) w wr) (fun _ i _ => ks.length - (intOf i).toNat)
  case atStart => exact ⟨0, k0, xs, Nat.zero_le _, rfl, rfl, by simp [mkN], HO.out, by rw [mxS_zero]; exact HX.out, Kept.refl _ _⟩
  case round =>
    obtain ⟨j, y, xs, hj, rfl, rfl, hy, ho, hx, hkp⟩ := hrel
    have HY := show Hid _ from hy
    have HKP := show Hid _ from hkp
    have HX1 := show Hid _ from hx
    have HO1 := show Hid _ from ho
    clear hy hkp hx ho
    by_cases hlt : j < ks.length
    · have hlen := mxS_len ks k0 hj
      obtain ⟨c, Sc, f1, f2, f3, f4⟩ := HX1.out.focus j (by omega)
      have hge := mxS_at ks k0 hlt
      rw [List.getElem?_eq_getElem (by omega)] at hge
      rw [Option.some.inj hge] at f1
      obtain ⟨iv, vv, bv, ev, Si, Sv, Sb, Se, rfl, ⟨d1, d2, d3, d4⟩, o1, o2, o3, o4⟩ := (StmtO.iff _ _ _).1 f1
      obtain ⟨g, cap', hv, -, hg2, hg3, -, -, -, -⟩ := (Own.mk' HO1.out).open (by omega)
      cases hv
      have hxl : xs.length = ks.length * 11 := HO1.out.1
      have hmx := mxS_succ ks k0 hlt
      rw [← HY.out] at hmx
      have hih := ih _ (List.getElem_mem hlt)
      have ht1 := mkN_take1 hlt
      have hdr := mkN_drop ks (j + 1)
      obtain ⟨s, hsj⟩ : ∃ s, s = ks[j] := ⟨_, rfl⟩
      rw [← hsj] at f1 f3 o1 o2 o3 o4 hih hmx ht1
      have hdef := mkN1_def s
      have hnb := (mkN_nonneg s.body).1
      have hne := (mkN_nonneg s.els).1
      have hnt := (mkN_nonneg (ks.take j)).1
      have hnd := (mkN_nonneg (ks.drop (j + 1))).1
      obtain ⟨A, hA⟩ : ∃ A : Int, A = 2 * szEs s.index.kids := ⟨_, rfl⟩
      obtain ⟨B, hB⟩ : ∃ B : Int, B = 2 * szEs s.value.kids := ⟨_, rfl⟩
      obtain ⟨C, hC⟩ : ∃ C : Int, C = mkN s.body := ⟨_, rfl⟩
      obtain ⟨D, hD⟩ : ∃ D : Int, D = mkN s.els := ⟨_, rfl⟩
      have hA0 : 0 ≤ A := by omega
      have hB0 : 0 ≤ B := by omega
      have hC0 : 0 ≤ C := by omega
      have hD0 : 0 ≤ D := by omega
      have hy0 : 0 ≤ y := by have := HY.out; omega
      have hy1 : y + 7 + A + B + C + D ≤ 9000000000000000000 := by have := HY.out; have := HKB.out; omega
      have hyn : y + 7 + A + B + C + D = k0 + mkN (ks.take (j + 1)) := by have := HY.out; omega
      have hmk := mkS_def s y A B hA hB
      rw [← hC] at hmk
      have hp : j * 11 + 11 ≤ xs.length := by omega
      have hxs : setFrom xs (j * 11) [.int .i64 s.kind, .int .i64 s.target, .int .i64 s.index.kind, .int .i64 s.index.value, iv, .int .i64 s.value.kind, .int .i64 s.value.value, vv, .int .i64 s.count, bv, ev] = xs := setFrom_self hp f3
      have hgS' : ¬ S' g := (HG.out g rfl).2
      have hgc : ¬ Sc g := fun h => hgS' (f2 g h)
      have M : Mem (fun _ => True) (fun b => ¬ (b = g ∨ Sc b)) wr wr [.row 135 11 (.slice (some ⟨g, 0, none⟩) ks.length cap) ks.length (setFrom xs (j * 11) [.int .i64 s.kind, .int .i64 s.target, .int .i64 s.index.kind, .int .i64 s.index.value, iv, .int .i64 s.value.kind, .int .i64 s.value.value, vv, .int .i64 s.count, bv, ev]),
          .own (fun b => Si b ∧ b < wr.heap.size) (fun w => KidsO w iv s.index.kids (fun b => Si b ∧ b < wr.heap.size)), .own (fun b => Sv b ∧ b < wr.heap.size) (fun w => KidsO w vv s.value.kids (fun b => Sv b ∧ b < wr.heap.size)),
          .own (fun b => Sb b ∧ b < wr.heap.size) (fun w => BlockO w bv s.body (fun b => Sb b ∧ b < wr.heap.size)), .own (fun b => Se b ∧ b < wr.heap.size) (fun w => BlockO w ev s.els (fun b => Se b ∧ b < wr.heap.size))] := by
        rw [hxs]
        refine (((((Mem.start fun _ _ => trivial).adopt (.row 135 11 (.slice (some ⟨g, 0, none⟩) ks.length cap) ks.length xs) ?_ trivial HO1.out ?_ ?_).adopt (.own (fun b => Si b ∧ b < wr.heap.size) _) ?_ trivial ⟨fun _ _ h hs => KidsO.same h hs, o1.cut, fun _ h => h.2⟩ ?_ ?_).adopt (.own (fun b => Sv b ∧ b < wr.heap.size) _) ?_ trivial ⟨fun _ _ h hs => KidsO.same h hs, o2.cut, fun _ h => h.2⟩ ?_ ?_).adopt (.own (fun b => Sb b ∧ b < wr.heap.size) _) ?_ trivial ⟨fun _ _ h hs => BlockO.same h hs, o3.cut, fun _ h => h.2⟩ ?_ ?_).adopt (.own (fun b => Se b ∧ b < wr.heap.size) _) ?_ trivial ⟨fun _ _ h hs => BlockO.same h hs, o4.cut, fun _ h => h.2⟩ ?_ ?_
        · intro a ha; cases ha
        · intro a ha; cases ha
        · intro g' hg' hn; cases hg'; exact hn (.inl rfl)
        · intro a ha; simp at ha; subst ha; trivial
        · intro a ha g' hg' h; simp at ha; subst ha; cases h; exact hgc (d1 _ hg'.1).1
        · intro g' hg' hn; exact hn (.inr (d1 _ hg'.1).1)
        · intro a ha; simp at ha; rcases ha with rfl | rfl <;> trivial
        · intro a ha g' hg' h; simp at ha; rcases ha with rfl | rfl
          · cases h; exact hgc (d2 _ hg'.1).1
          · exact (d1 _ h.1).2.1 hg'.1
        · intro g' hg' hn; exact hn (.inr (d2 _ hg'.1).1)
        · intro a ha; simp at ha; rcases ha with rfl | rfl | rfl <;> trivial
        · intro a ha g' hg' h; simp at ha; rcases ha with rfl | rfl | rfl
          · cases h; exact hgc (d3 _ hg'.1).1
          · exact (d1 _ h.1).2.2.1 hg'.1
          · exact (d2 _ h.1).2.1 hg'.1
        · intro g' hg' hn; exact hn (.inr (d3 _ hg'.1).1)
        · intro a ha; simp at ha; rcases ha with rfl | rfl | rfl | rfl <;> trivial
        · intro a ha g' hg' h; simp at ha; rcases ha with rfl | rfl | rfl | rfl
          · cases h; exact hgc (d4 _ hg'.1)
          · exact (d1 _ h.1).2.2.2 hg'.1
          · exact (d2 _ h.1).2.2 hg'.1
          · exact (d3 _ h.1).2 hg'.1
        · intro g' hg' hn; exact hn (.inr (d4 _ hg'.1))
      have hn0 : 0 < ks.length := by omega
      have HIH := show Hid _ from hih
      have HF := show Hid _ from And.intro f2 (And.intro f4 (And.intro hmx (And.intro hmk hyn)))
      have HD := show Hid _ from And.intro d1 (And.intro d2 (And.intro d3 d4))
      have HE := show Hid _ from And.intro hA (And.intro hB (And.intro hC hD))
      have HGS := show Hid _ from hgS'
      have HP := show Hid _ from hp
      clear hih f1 f2 f3 f4 hmx hmk hyn d1 d2 d3 d4 o1 o2 o3 o4 hA hB hC hD hgS' hgc hxs hxl hlen hge ht1 hdr hdef hnb hne hnt hnd hsj hp
      have fz := M.rowFree 0 rfl hn0
      have e0 := M.elemCell 0 rfl hn0 HP.out 0 rfl (o := j * 11) rfl
      have e1 := M.elemCell 0 rfl hn0 HP.out 1 rfl rfl
      have e2 := M.elemCell 0 rfl hn0 HP.out 2 rfl rfl
      have e3 := M.elemCell 0 rfl hn0 HP.out 3 rfl rfl
      have e4 := M.elemCell 0 rfl hn0 HP.out 4 rfl rfl
      have M1 := (((M.elemSet 0 rfl HP.out 0 (by simp) (.int .i64 y) (o := j * 11) rfl).elemSet 0 rfl HP.out 1 (by simp) (.int .i64 (y + 1)) rfl).elemSet 0 rfl HP.out 2 (by simp) (.int .i64 (y + 1 + 1)) rfl).elemSet 0 rfl HP.out 3 (by simp) (.int .i64 (y + 1 + 1 + 1)) rfl
      have HM := show Hid _ from M1
      clear M M1
      go_wp2_with fail
      have M := HM.out
      clear HM fz e0 e1 e2 e3 e4
      refine (markExprS_all s.index.kids iv (y + 1 + 1 + 1 + 1) _ _ (M.o 1 rfl) (by omega) (by have := HE.out.1; omega)).mono ?_
      rintro x w1 ⟨rfl, k1, kp1⟩
      rw [← HE.out.1]
      replace M := M.turn 1 rfl kp1 (fun _ _ h hs => KidsO.same h hs) k1
      clear k1 kp1
      have fz := M.rowFree 0 rfl hn0
      have e5 := M.elemCell 0 rfl hn0 HP.out 5 rfl rfl
      have e6 := M.elemCell 0 rfl hn0 HP.out 6 rfl rfl
      have e7 := M.elemCell 0 rfl hn0 HP.out 7 rfl rfl
      have M1 := (M.elemSet 0 rfl HP.out 5 (by simp) (.int .i64 (y + 1 + 1 + 1 + 1 + A)) rfl).elemSet 0 rfl HP.out 6 (by simp) (.int .i64 (y + 1 + 1 + 1 + 1 + A + 1)) rfl
      have HM := show Hid _ from M1
      clear M M1
      go_wp2_with fail
      have M := HM.out
      clear HM fz e5 e6 e7
      refine (markExprS_all s.value.kids vv (y + 1 + 1 + 1 + 1 + A + 1 + 1) _ _ (M.o 2 rfl) (by omega) (by have := HE.out.2.1; omega)).mono ?_
      rintro x w2 ⟨rfl, k1, kp1⟩
      rw [← HE.out.2.1]
      replace M := M.turn 2 rfl kp1 (fun _ _ h hs => KidsO.same h hs) k1
      clear k1 kp1
      have fz := M.rowFree 0 rfl hn0
      have e8 := M.elemCell 0 rfl hn0 HP.out 8 rfl rfl
      have e9 := M.elemCell 0 rfl hn0 HP.out 9 rfl rfl
      have M1 := M.elemSet 0 rfl HP.out 8 (by simp) (.int .i64 (y + 1 + 1 + 1 + 1 + A + 1 + 1 + B)) rfl
      have HM := show Hid _ from M1
      clear M M1
      go_wp2_with fail
      have M := HM.out
      clear HM fz e8 e9
      refine (HIH.out.1 bv (y + 1 + 1 + 1 + 1 + A + 1 + 1 + B + 1) _ _ (M.o 3 rfl) (by omega) (by have := HE.out.2.2.1; omega)).mono ?_
      rintro x w3 ⟨rfl, k1, kp1⟩
      rw [← HE.out.2.2.1]
      replace M := M.turn 3 rfl kp1 (fun _ _ h hs => BlockO.same h hs) k1
      clear k1 kp1
      have e10 := M.elemCell 0 rfl hn0 HP.out 10 rfl rfl
      have HM := show Hid _ from M
      clear M
      go_wp2_with fail
      have M := HM.out
      clear HM e10
      refine (HIH.out.2 ev (y + 1 + 1 + 1 + 1 + A + 1 + 1 + B + 1 + C) _ _ (M.o 4 rfl) (by omega) (by have := HE.out.2.2.2; omega)).mono ?_
      rintro x w4 ⟨rfl, k1, kp1⟩
      rw [← HE.out.2.2.2]
      replace M := M.turn 4 rfl kp1 (fun _ _ h hs => BlockO.same h hs) k1
      clear k1 kp1
      have HM := show Hid _ from M
      clear M
      obtain ⟨z, hz⟩ : ∃ z : Int, z = y + 1 + 1 + 1 + 1 + A + 1 + 1 + B + 1 + C + D := ⟨_, rfl⟩
      have HZ := show Hid _ from hz
      rw [← hz]
      have hz0 : 0 ≤ z := by omega
      have hz1 : z ≤ 9000000000000000000 := by omega
      have HY1 := show Hid _ from hy1
      clear hz hy1
      go_wp2_with fail
      have M := HM.out
      obtain ⟨f2, f4, hmx, hmk, hyn⟩ := HF.out
      obtain ⟨d1, d2, d3, d4⟩ := HD.out
      have hO : StmtO w4 (mkS s y) Sc [.int .i64 y, .int .i64 (y + 1), .int .i64 (y + 1 + 1), .int .i64 (y + 1 + 1 + 1), iv, .int .i64 (y + 1 + 1 + 1 + 1 + A), .int .i64 (y + 1 + 1 + 1 + 1 + A + 1), vv, .int .i64 (y + 1 + 1 + 1 + 1 + A + 1 + 1 + B), bv, ev] := by
        rw [hmk]
        exact (StmtO.iff _ _ _).2 ⟨iv, vv, bv, ev, Si, Sv, Sb, Se, rfl, ⟨d1, d2, d3, d4⟩, (M.o 1 rfl).mono fun _ h => h.1, (M.o 2 rfl).mono fun _ h => h.1, (M.o 3 rfl).mono fun _ h => h.1, (M.o 4 rfl).mono fun _ h => h.1⟩
      have hX := f4 w4 (mkS s y) _ (fun b hb hn hl => M.kept.block b hl fun h => h.elim (fun h => HGS.out (h ▸ hb)) hn) hO
      rw [← hmx] at hX
      refine ⟨⟨j + 1, _, _, by omega, by go_num, rfl, by have := HZ.out; omega, M.r 0 rfl, hX, HKP.out.trans (M.kept.mono fun b hb h => hb (h.elim (fun h => h ▸ (HG.out g rfl).1) fun h => HS.out b (f2 b h)))⟩, by simp [intOf]; omega⟩
    · have hjn : j = ks.length := by omega
      subst hjn
      go_wp2_with fail
      go_ret
      exact ⟨ret_int (by have := HY.out; rw [List.take_of_length_le (Nat.le_refl _)] at this; exact this), ⟨xs, S', by rw [mkSs_len]; exact HO1.out, HG.out, HS.out, by rw [← mxS_all]; exact HX1.out⟩, HKP.out⟩

theorem markStmtS_all (s : LStmt) : MkSs s.body ∧ MkSs s.els :=
  LStmt.ind (P := fun s => MkSs s.body ∧ MkSs s.els) (fun _ _ _ _ _ b e ihb ihe => ⟨markStmtS_of b ihb, markStmtS_of e ihe⟩) s
theorem markStmtS_any (ks : List LStmt) : MkSs ks := markStmtS_of ks fun s _ => markStmtS_all s

end Go.Proofs.Ytgpkdfefgcpbiaa

namespace Go.Proofs.Ytgpkdfefgcpbiaa
set_option linter.unusedVariables false
set_option linter.unusedSimpArgs false
open Go Go.RowKit

theorem impl_operands (k : Int) (w : World) : Calls Try.prog 192 #[.int .i64 k] w fun e w' => e = .returned (.int .i64 (arity k)) ∧ w = w' := by
  by_cases h1 : k = 1
  · subst h1
    go_enter Try.func192, Try.ntmps192
    go_wp2_with fail
    go_ret
    exact ⟨ret_int (by simp [arity]), rfl⟩
  by_cases h2 : k = 2
  · subst h2
    go_enter Try.func192, Try.ntmps192
    go_wp2_with fail
    go_ret
    exact ⟨ret_int (by simp [arity]), rfl⟩
  by_cases h3 : k = 3
  · subst h3
    go_enter Try.func192, Try.ntmps192
    go_wp2_with fail
    go_ret
    exact ⟨ret_int (by simp [arity]), rfl⟩
  have p1 : (k == 1) = false := by simp [h1]
  have p2 : (k == 2) = false := by simp [h2]
  have p3 : (k == 3) = false := by simp [h3]
  have H := show Hid _ from And.intro h1 (And.intro h2 h3)
  clear h1 h2 h3
  go_enter Try.func192, Try.ntmps192
  go_wp2_with fail
  refine (impl_within k 4 10 _).mono ?_
  rintro x w1 ⟨rfl, rfl⟩
  by_cases h4 : 4 ≤ k ∧ k ≤ 10
  · have p4 : (decide (4 ≤ k) && decide (k ≤ 10)) = true := by simp [h4]
    rw [p4]
    have H4 := show Hid _ from h4
    clear h4 p4
    go_wp2_with fail
    go_ret
    exact ⟨ret_int (by have := H.out; have := H4.out; unfold arity; rw [if_neg (by omega), if_neg (by omega), if_pos (by omega)]), rfl⟩
  · have p4 : (decide (4 ≤ k) && decide (k ≤ 10)) = false := by simp; omega
    rw [p4]
    have H4 := show Hid _ from h4
    clear h4 p4
    by_cases h5 : k = 11
    · subst h5
      go_wp2_with fail
      go_ret
      exact ⟨ret_int (by simp [arity]), rfl⟩
    · have p5 : (k == 11) = false := by simp [h5]
      have H5 := show Hid _ from h5
      clear h5
      go_wp2_with fail
      go_ret
      exact ⟨ret_int (by have := H.out; have := H4.out; have := H5.out; unfold arity; rw [if_neg (by omega), if_neg (by omega), if_neg (by omega), if_neg (by omega)]), rfl⟩

theorem scanB_node {nv na d c : Nat} {e : LExpr} (h1 : nodeB nv na e = true) (h2 : readB e = true) : scanB nv na (d + 1) c e = scanPre nv na d (c + 1) e.kids e.kids.length := by
  unfold scanB scanPre
  rw [List.take_of_length_le (Nat.le_refl _), shapeB, h1, h2, szE_kids]
  simp
theorem scanPre_end {nv na d c k : Nat} {ks : List LExpr} (hk : k < ks.length) (hs : scanB nv na d (c + szEs (ks.take k)) ks[k] = false) : scanPre nv na d c ks ks.length = false := by
  unfold scanPre
  rw [List.take_of_length_le (Nat.le_refl _)]
  exact scanPre_fail nv na hk hs
theorem scanB_noNode {nv na d c : Nat} {e : LExpr} (h1 : nodeB nv na e = false) : scanB nv na (d + 1) c e = false := by
  unfold scanB; rw [shapeB, h1]; rfl
theorem scanB_noRead {nv na d c : Nat} {e : LExpr} (h1 : readB e = false) : scanB nv na (d + 1) c e = false := by
  unfold scanB; rw [shapeB, h1]; simp
theorem limit_high {nv na : Nat} {k n h : Int} (hh : h = limit nv na k - 1) : (decide (0 ≤ n) && decide (n ≤ h)) = (decide (0 ≤ n) && decide (n < limit nv na k)) := by
  congr 1; exact decide_eq_decide.2 (by omega)

set_option maxRecDepth 100000 in
set_option maxHeartbeats 8000000 in
theorem impl_scan (a1 a2 : Option Addr) (nv c1 na c2 : Nat) (v3 : Value) (h1 : nv ≤ 9223372036854775807) (h2 : na ≤ 9223372036854775807) : ∀ (d : Nat) (deep : Int), deep + d = 6 → 1 ≤ deep → ∀ (e : LExpr) (φ : Nat → Prop) (v : Value) (c cb : Nat) (w : World), ExprV w φ v e → ¬ φ cb → Blk w cb [.int .i64 c] → c ≤ 15 →
    Calls Try.prog 163 #[.agg #[.slice a1 nv c1, .slice a2 na c2, v3], v, .int .i64 deep, .pointer (some ⟨cb, 0, none⟩)] w fun x w' =>
      x = .returned (.bool (scanB nv na d c e)) ∧ (scanB nv na d c e = true → Blk w' cb [.int .i64 (c + 1 + szE e : Nat)]) ∧ (∃ u, Blk w' cb [u]) ∧ Kept (fun b => ¬ b = cb) w w' := by
  intro d
  induction d with
  | zero =>
    intro deep hdp hd1 e φ v c cb w h hcb hblk hc
    obtain ⟨kv, rfl, hk⟩ := h
    have HF : Hid (scanB nv na 0 c e = false) := rfl
    obtain rfl : deep = 6 := by omega
    have hl := hblk.lt
    have x0 : w.cell? ⟨cb, 0, none⟩ = some (.int .i64 c) := (hblk.cell 0).trans rfl
    have f0 := hblk.free
    obtain ⟨W, hW, M⟩ : ∃ W, W = (((w.setCell ⟨cb, 0, none⟩ (.int .i64 ((c : Int) + 1))).alloc (.cells #[.slice a1 nv c1, .slice a2 na c2, v3] 31)).alloc (.cells #[.int .i64 e.kind, .int .i64 e.value, kv] 41)) ∧ Mem (fun _ => True) (fun b => ¬ b = cb) w W [.box cb [.int .i64 ((c : Int) + 1)]] :=
      ⟨_, rfl, (((Mem.start fun _ _ => trivial).adopt (.box cb [.int .i64 c]) (fun _ ha => by cases ha) trivial hblk (fun _ ha => by cases ha) (fun g hg hn => by cases hg; exact hn rfl)).set 0 rfl 0 (.int .i64 ((c : Int) + 1))).call (by go_grown)⟩
    have y0 := M.c 0 0 rfl rfl
    have z0 := fun X => ext_cell y0 X
    clear hk y0 hblk
    by_cases q : (15 : Int) < (c : Int) + 1
    · have p : decide ((15 : Int) < (c : Int) + 1) = true := by simp; omega
      clear q
      go_enter Try.func163, Try.ntmps163
      go_wp2_with fail
      rw [← hW]
      clear hW
      refine wp_region_ext (by kernel_rfl) (by kernel_rfl) ?_
      repeat (any_goals (first | go_big_quiet_step (((fail))) | quiet_step (((fail)))))
      refine wpQuiet_nil ?_
      rintro _ ⟨X, rfl⟩
      replace M := M.call (ext_below W X)
      go_wp2_with fail
      go_ret
      exact ⟨ret_bool (by rw [HF.out]), fun h => absurd (h.symm.trans HF.out) (by simp), ⟨_, M.blk 0 rfl⟩, M.kept⟩
    · have p : decide ((15 : Int) < (c : Int) + 1) = false := by simp; omega
      clear q
      go_enter Try.func163, Try.ntmps163
      go_wp2_with fail
      rw [← hW]
      clear hW
      refine wp_region_ext (by kernel_rfl) (by kernel_rfl) ?_
      repeat (any_goals (first | go_big_quiet_step (((fail))) | quiet_step (((fail)))))
      refine wpQuiet_nil ?_
      rintro _ ⟨X, rfl⟩
      replace M := M.call (ext_below W X)
      go_wp2_with fail
      go_ret
      exact ⟨ret_bool (by rw [HF.out]), fun h => absurd (h.symm.trans HF.out) (by simp), ⟨_, M.blk 0 rfl⟩, M.kept⟩
  | succ d ih =>
    intro deep hdp hd1 e φ v c cb w h hcb hblk hc
    obtain ⟨kv, rfl, hk⟩ := h
    obtain ⟨ak, ck, rfl, -, hn, -, -⟩ := hk.open
    have hl := hblk.lt
    have hd5 : deep ≤ 5 := by omega
    obtain ⟨φ', hφ'⟩ : ∃ φ' : Nat → Prop, φ' = fun b => φ b ∨ w.heap.size ≤ b := ⟨_, rfl⟩
    have x0 : w.cell? ⟨cb, 0, none⟩ = some (.int .i64 c) := (hblk.cell 0).trans rfl
    have f0 := hblk.free
    obtain ⟨W, hW, M⟩ : ∃ W, W = (((w.setCell ⟨cb, 0, none⟩ (.int .i64 ((c : Int) + 1))).alloc (.cells #[.slice a1 nv c1, .slice a2 na c2, v3] 31)).alloc (.cells #[.int .i64 e.kind, .int .i64 e.value, .slice ak e.kids.length ck] 41)) ∧
        Mem φ' (fun b => ¬ b = cb) w W [.box cb [.int .i64 ((c : Int) + 1)], .box w.heap.size [.slice a1 nv c1, .slice a2 na c2, v3], .box (w.heap.size + 1) [.int .i64 e.kind, .int .i64 e.value, .slice ak e.kids.length ck], .dat (fun w φ => KidsV w φ (.slice ak e.kids.length ck) e.kids)] := by
      refine ⟨_, rfl, (((((Mem.start (by rw [hφ']; exact fun _ h => .inr h)).adopt (.box cb [.int .i64 c]) (fun _ ha => by cases ha) trivial hblk (fun _ ha => by cases ha) (fun g hg hn => by cases hg; exact hn rfl)).set 0 rfl 0 (.int .i64 ((c : Int) + 1))).box' _ _ (by simp)).box' _ _ (by simp)).dat (KidsV.nice _ _) (KidsV.nice _ _ _ _ _ _ ⟨by simp; omega, fun b hb hf => ⟨⟨by rw [hφ']; exact .inl hf, fun r hr he => ?_⟩, ?_⟩⟩ hk)⟩
      · simp at hr
        rcases hr with rfl | rfl | rfl
        · cases he; exact hcb hf
        · cases he; omega
        · cases he; omega
      · have hbc : b ≠ cb := fun he => hcb (he ▸ hf)
        exact (((Below.refl w.heap.size (w.setCell ⟨cb, 0, none⟩ (.int .i64 ((c : Int) + 1)))).alloc (by simp) _ |>.alloc (by simp) _).block b (by simpa using hb)).trans (Below.heap_setCell _ _ _ _ hbc)
    clear hk hblk hφ'
    have y0 := M.c 0 0 rfl rfl
    have y1 := M.c 2 0 rfl rfl
    have y2 := M.c 2 2 rfl rfl
    have z0 := fun X => ext_cell y0 X
    have z1 := fun X => ext_cell y1 X
    have z2 := fun X => ext_cell y2 X
    have HA : Hid (∀ X, Calls Try.prog 192 #[.int .i64 e.kind] (W.ext X) fun x w'' => x = .returned (.int .i64 (arity e.kind)) ∧ ∃ Y, w'' = W.ext Y) := fun X =>
      Calls.ext_of' ((impl_operands e.kind _).mono fun x w' h => ⟨h.1, h.2 ▸ Below.refl _ _⟩)
    clear y0 y1 y2
    have p2 : decide ((5 : Int) < deep) = false := decide_eq_false (by omega)
    by_cases q1 : (15 : Int) < (c : Int) + 1
    · have p1 : decide ((15 : Int) < (c : Int) + 1) = true := decide_eq_true q1
      have HF : Hid (scanB nv na (d + 1) c e = false) := by unfold Hid scanB; rw [decide_eq_false (by omega), Bool.and_false]
      clear q1
      go_enter Try.func163, Try.ntmps163
      go_wp2_with fail
      rw [← hW]
      clear hW
      refine wp_region_ext (by kernel_rfl) (by kernel_rfl) ?_
      repeat (any_goals (first | go_big_quiet_step (((go_at_call 192; exact HA.out _))) | quiet_step (((go_at_call 192; exact HA.out _)))))
      refine wpQuiet_nil ?_
      rintro _ ⟨X, rfl⟩
      replace M := M.call (ext_below W X)
      go_wp2_with fail
      go_ret
      exact ⟨ret_bool (by rw [HF.out]), fun h => absurd (h.symm.trans HF.out) (by simp), ⟨_, M.blk 0 rfl⟩, M.kept⟩
    have p1 : decide ((15 : Int) < (c : Int) + 1) = false := decide_eq_false q1
    by_cases q3 : (e.kids.length : Int) = arity e.kind
    case neg =>
      have p3 : (arity e.kind != (e.kids.length : Int)) = true := by simp; omega
      have HF : Hid (scanB nv na (d + 1) c e = false) := scanB_noNode (by unfold nodeB; rw [decide_eq_false q3]; rfl)
      clear q1 q3
      go_enter Try.func163, Try.ntmps163
      go_wp2_with fail
      rw [← hW]
      clear hW
      refine wp_region_ext (by kernel_rfl) (by kernel_rfl) ?_
      repeat (any_goals (first | go_big_quiet_step (((go_at_call 192; exact HA.out _))) | quiet_step (((go_at_call 192; exact HA.out _)))))
      refine wpQuiet_nil ?_
      rintro _ ⟨X, rfl⟩
      replace M := M.call (ext_below W X)
      go_wp2_with fail
      go_ret
      exact ⟨ret_bool (by rw [HF.out]), fun h => absurd (h.symm.trans HF.out) (by simp), ⟨_, M.blk 0 rfl⟩, M.kept⟩
    have p3 : (arity e.kind != (e.kids.length : Int)) = false := by simp; omega
    have HQ := show Hid _ from And.intro q1 q3
    clear q1 q3
    go_enter Try.func163, Try.ntmps163
    go_wp2_with fail
    rw [← hW]
    clear hW
    refine wp_region_ext (by kernel_rfl) (by kernel_rfl) ?_
    repeat (any_goals (first | go_big_quiet_step (((go_at_call 192; exact HA.out _))) | quiet_step (((go_at_call 192; exact HA.out _)))))
    refine wpQuiet_nil ?_
    rintro _ ⟨X, rfl⟩
    replace M := M.call (ext_below W X)
    generalize W.ext X = W1 at *
    clear z0 z1 z2 HA p1 p2 p3 f0 x0
    have y0 := M.c 1 0 rfl rfl
    have y1 := M.c 1 1 rfl rfl
    have y2 := M.c 2 0 rfl rfl
    have y3 := M.c 2 1 rfl rfl
    have y4 := M.c 2 2 rfl rfl
    have HM := show Hid _ from M
    clear M
    -- KINDS
    by_cases k1 : e.kind = 1
    · have qq1 : (e.kind == 1) = true := by simp [k1]
      have qq2 : (e.kind == 3) = false := by simp [k1]
      have HRD : Hid (readB e = true) := by unfold Hid readB; simp [k1]
      have hhi : (255 : Int) = limit nv na e.kind - 1 := by rw [k1]; simp [limit]
      clear k1
      have HNB := show Hid (nodeB nv na e = (decide (0 ≤ e.value) && decide (e.value ≤ 255))) from by
        unfold Hid nodeB; rw [decide_eq_true HQ.out.2, limit_high hhi]; rfl
      clear hhi
      go_wp2_with fail
      refine (impl_within e.value 0 _ _).mono ?_
      rintro x w1 ⟨rfl, rfl⟩
      have HNB2 := show Hid (nodeB nv na e = (decide (0 ≤ e.value) && decide (e.value ≤ 255))) from HNB.out
      clear HNB
      obtain ⟨qn, hqn⟩ : ∃ qn, qn = (decide (0 ≤ e.value) && decide (e.value ≤ 255)) := ⟨_, rfl⟩
      rw [← hqn]
      have HN := show Hid (nodeB nv na e = qn) from HNB2.out.trans hqn.symm
      clear hqn HNB2
      cases qn
      · have HF : Hid (scanB nv na (d + 1) c e = false) := scanB_noNode HN.out
        have M := HM.out
        clear HM
        go_wp2_with fail
        go_ret
        exact ⟨ret_bool (by rw [HF.out]), fun h => absurd (h.symm.trans HF.out) (by simp), ⟨_, M.blk 0 rfl⟩, M.kept⟩
      have HSC : Hid (scanB nv na (d + 1) c e = scanPre nv na d (c + 1) e.kids e.kids.length) := scanB_node HN.out HRD.out
      go_wp2_with fail
      clear y0 y1 y2 y3 y4
      have HST : Hid (scanPre nv na d (c + 1) e.kids 0 = true ∧ Mem φ' (fun b => ¬ b = cb) w W1 [.box cb [.int .i64 (c + 1 + szEs (e.kids.take 0) : Nat)], .box w.heap.size [.slice a1 nv c1, .slice a2 na c2, v3], .box (w.heap.size + 1) [.int .i64 e.kind, .int .i64 e.value, .slice ak e.kids.length ck], .dat (fun w φ => KidsV w φ (.slice ak e.kids.length ck) e.kids)]) := by
        refine ⟨?_, ?_⟩
        · have := HQ.out.1
          simp [scanPre, szEs]; omega
        · rw [show ((c + 1 + szEs (e.kids.take 0) : Nat) : Int) = (c : Int) + 1 by simp [szEs]]
          exact HM.out
      go_loopw [71] (fun i wr => ∃ k : Nat, k ≤ e.kids.length ∧ i = .int .i64 k ∧ scanPre nv na d (c + 1) e.kids k = true ∧ Mem φ' (fun b => ¬ b = cb) w wr [.box cb [.int .i64 (c + 1 + szEs (e.kids.take k) : Nat)], .box w.heap.size [.slice a1 nv c1, .slice a2 na c2, v3], .box (w.heap.size + 1) [.int .i64 e.kind, .int .i64 e.value, .slice ak e.kids.length ck], .dat (fun w φ => KidsV w φ (.slice ak e.kids.length ck) e.kids)]) (fun i _ => e.kids.length - (intOf i).toNat)
      case atStart => exact ⟨0, Nat.zero_le _, rfl, HST.out.1, HST.out.2⟩
      case round =>
        clear HM
        obtain ⟨k, hk, rfl, hpre, M⟩ := hrel
        have HPRE := show Hid _ from hpre
        have hle : c + 1 + szEs (e.kids.take k) ≤ 15 := by unfold scanPre at hpre; simp at hpre; exact hpre.2
        clear hpre
        by_cases hlt : k < e.kids.length
        · have hncb : ¬ Fr φ' [.box cb [.int .i64 (c + 1 + szEs (e.kids.take k) : Nat)], .box w.heap.size [.slice a1 nv c1, .slice a2 na c2, v3], .box (w.heap.size + 1) [.int .i64 e.kind, .int .i64 e.value, .slice ak e.kids.length ck], .dat (fun w φ => KidsV w φ (.slice ak e.kids.length ck) e.kids)] cb := fun h => h.2 _ List.mem_cons_self rfl
          obtain ⟨a', c', he, -, -, -, hcell⟩ := (M.d 3 rfl).open
          cases he
          obtain ⟨b, off, kv, hbo, hbk, hf, g0, g1, g2, hkk⟩ := hcell k hlt
          cases hbo
          obtain ⟨ka, kc, rfl, -, -, -, -⟩ := hkk.open
          have bz : Below wr.heap.size wr (wr.alloc (.cells #[.int .i64 e.kids[k].kind, .int .i64 e.kids[k].value, .slice ka e.kids[k].kids.length kc] 41)) := by go_grown
          have HE := show Hid _ from KidsV.nice _ _ _ _ _ _ (Agr.below bz) hkk
          have HNCB := show Hid _ from hncb
          have x0 := M.c 1 0 rfl rfl
          have x1 := M.c 1 1 rfl rfl
          have x2 := M.c 1 2 rfl rfl
          have s1 : w.heap.size < wr.heap.size := M.lt (r := .box w.heap.size [.slice a1 nv c1, .slice a2 na c2, v3]) (List.mem_cons_of_mem _ List.mem_cons_self) rfl
          have HM := show Hid _ from M.box [.int .i64 e.kids[k].kind, .int .i64 e.kids[k].value, .slice ka e.kids[k].kids.length kc] 41
          have HP := show Hid _ from scanPre_succ nv na (d := d) (c := c + 1) hlt
          have HX := show Hid (scanB nv na d (c + 1 + szEs (e.kids.take k)) e.kids[k] = false → scanB nv na (d + 1) c e = false) from fun h => HSC.out.trans (scanPre_end hlt h)
          have HT := show Hid _ from szEs_take1 hlt
          clear hcell hncb bz hkk M
          go_wp2_with fail
          refine (ih (deep + 1) (by omega) (by omega) e.kids[k] _ _ (c + 1 + szEs (e.kids.take k)) cb _ ⟨_, rfl, HE.out⟩ HNCB.out (HM.out.blk 0 rfl) hle).mono ?_
          rintro x w2 ⟨rfl, r1, ⟨u, r2⟩, kp⟩
          obtain ⟨q, hq⟩ : ∃ q, q = scanB nv na d (c + 1 + szEs (e.kids.take k)) e.kids[k] := ⟨_, rfl⟩
          rw [← hq] at r1 ⊢
          have HQ2 := show Hid _ from hq
          clear hq x0 x1 x2 g0 g1 g2
          cases q
          · have M2 := HM.out.callB 0 rfl kp r2
            have HF := show Hid _ from HX.out HQ2.out.symm
            clear r1 r2 kp
            go_wp2_with fail
            go_ret
            exact ⟨ret_bool (by rw [HF.out]), fun h => absurd (h.symm.trans HF.out) (by simp), ⟨_, M2.blk 0 rfl⟩, M2.kept⟩
          · have M2 := (HM.out.callB 0 rfl kp (r1 rfl)).take 4
            have HM2 := show Hid _ from M2
            clear r1 r2 kp M2
            go_wp2_with fail
            refine ⟨⟨k + 1, by omega, by go_num, by rw [HP.out, HPRE.out, ← HQ2.out]; rfl, ?_⟩, by simp [intOf]; omega⟩
            rw [HT.out, show c + 1 + (szEs (e.kids.take k) + (1 + szE e.kids[k])) = c + 1 + szEs (e.kids.take k) + 1 + szE e.kids[k] by omega]
            exact HM2.out
        · have hkn : k = e.kids.length := by omega
          subst hkn
          have HM := show Hid _ from M
          have HS : Hid (scanB nv na (d + 1) c e = true) := HSC.out.trans HPRE.out
          clear M
          go_wp2_with fail
          go_ret
          refine ⟨ret_bool (by rw [HS.out]), fun _ => ?_, ⟨_, HM.out.blk 0 rfl⟩, HM.out.kept⟩
          have := HM.out.blk 0 rfl
          rw [List.take_of_length_le (Nat.le_refl _)] at this
          rw [szE_kids]
          exact this
    have k1' : (e.kind == 1) = false := by simp [k1]
    by_cases k2 : e.kind = 2
    · have qq1 : (e.kind == 2) = true := by simp [k2]
      have qq2 : (e.kind == 3) = false := by simp [k2]
      have HRD : Hid (readB e = true) := by unfold Hid readB; simp [k2]
      have hhi : (nv : Int) - 1 = limit nv na e.kind - 1 := by rw [k2]; simp [limit]
      clear k1 k2
      have HNB := show Hid (nodeB nv na e = (decide (0 ≤ e.value) && decide (e.value ≤ (nv : Int) - 1))) from by
        unfold Hid nodeB; rw [decide_eq_true HQ.out.2, limit_high hhi]; rfl
      clear hhi
      go_wp2_with fail
      refine (impl_within e.value 0 _ _).mono ?_
      rintro x w1 ⟨rfl, rfl⟩
      have HNB2 := show Hid (nodeB nv na e = (decide (0 ≤ e.value) && decide (e.value ≤ (nv : Int) - 1))) from HNB.out
      clear HNB
      obtain ⟨qn, hqn⟩ : ∃ qn, qn = (decide (0 ≤ e.value) && decide (e.value ≤ (nv : Int) - 1)) := ⟨_, rfl⟩
      rw [← hqn]
      have HN := show Hid (nodeB nv na e = qn) from HNB2.out.trans hqn.symm
      clear hqn HNB2
      cases qn
      · have HF : Hid (scanB nv na (d + 1) c e = false) := scanB_noNode HN.out
        have M := HM.out
        clear HM
        go_wp2_with fail
        go_ret
        exact ⟨ret_bool (by rw [HF.out]), fun h => absurd (h.symm.trans HF.out) (by simp), ⟨_, M.blk 0 rfl⟩, M.kept⟩
      have HSC : Hid (scanB nv na (d + 1) c e = scanPre nv na d (c + 1) e.kids e.kids.length) := scanB_node HN.out HRD.out
      go_wp2_with fail
      clear y0 y1 y2 y3 y4
      have HST : Hid (scanPre nv na d (c + 1) e.kids 0 = true ∧ Mem φ' (fun b => ¬ b = cb) w W1 [.box cb [.int .i64 (c + 1 + szEs (e.kids.take 0) : Nat)], .box w.heap.size [.slice a1 nv c1, .slice a2 na c2, v3], .box (w.heap.size + 1) [.int .i64 e.kind, .int .i64 e.value, .slice ak e.kids.length ck], .dat (fun w φ => KidsV w φ (.slice ak e.kids.length ck) e.kids)]) := by
        refine ⟨?_, ?_⟩
        · have := HQ.out.1
          simp [scanPre, szEs]; omega
        · rw [show ((c + 1 + szEs (e.kids.take 0) : Nat) : Int) = (c : Int) + 1 by simp [szEs]]
          exact HM.out
      go_loopw [71] (fun i wr => ∃ k : Nat, k ≤ e.kids.length ∧ i = .int .i64 k ∧ scanPre nv na d (c + 1) e.kids k = true ∧ Mem φ' (fun b => ¬ b = cb) w wr [.box cb [.int .i64 (c + 1 + szEs (e.kids.take k) : Nat)], .box w.heap.size [.slice a1 nv c1, .slice a2 na c2, v3], .box (w.heap.size + 1) [.int .i64 e.kind, .int .i64 e.value, .slice ak e.kids.length ck], .dat (fun w φ => KidsV w φ (.slice ak e.kids.length ck) e.kids)]) (fun i _ => e.kids.length - (intOf i).toNat)
      case atStart => exact ⟨0, Nat.zero_le _, rfl, HST.out.1, HST.out.2⟩
      case round =>
        clear HM
        obtain ⟨k, hk, rfl, hpre, M⟩ := hrel
        have HPRE := show Hid _ from hpre
        have hle : c + 1 + szEs (e.kids.take k) ≤ 15 := by unfold scanPre at hpre; simp at hpre; exact hpre.2
        clear hpre
        by_cases hlt : k < e.kids.length
        · have hncb : ¬ Fr φ' [.box cb [.int .i64 (c + 1 + szEs (e.kids.take k) : Nat)], .box w.heap.size [.slice a1 nv c1, .slice a2 na c2, v3], .box (w.heap.size + 1) [.int .i64 e.kind, .int .i64 e.value, .slice ak e.kids.length ck], .dat (fun w φ => KidsV w φ (.slice ak e.kids.length ck) e.kids)] cb := fun h => h.2 _ List.mem_cons_self rfl
          obtain ⟨a', c', he, -, -, -, hcell⟩ := (M.d 3 rfl).open
          cases he
          obtain ⟨b, off, kv, hbo, hbk, hf, g0, g1, g2, hkk⟩ := hcell k hlt
          cases hbo
          obtain ⟨ka, kc, rfl, -, -, -, -⟩ := hkk.open
          have bz : Below wr.heap.size wr (wr.alloc (.cells #[.int .i64 e.kids[k].kind, .int .i64 e.kids[k].value, .slice ka e.kids[k].kids.length kc] 41)) := by go_grown
          have HE := show Hid _ from KidsV.nice _ _ _ _ _ _ (Agr.below bz) hkk
          have HNCB := show Hid _ from hncb
          have x0 := M.c 1 0 rfl rfl
          have x1 := M.c 1 1 rfl rfl
          have x2 := M.c 1 2 rfl rfl
          have s1 : w.heap.size < wr.heap.size := M.lt (r := .box w.heap.size [.slice a1 nv c1, .slice a2 na c2, v3]) (List.mem_cons_of_mem _ List.mem_cons_self) rfl
          have HM := show Hid _ from M.box [.int .i64 e.kids[k].kind, .int .i64 e.kids[k].value, .slice ka e.kids[k].kids.length kc] 41
          have HP := show Hid _ from scanPre_succ nv na (d := d) (c := c + 1) hlt
          have HX := show Hid (scanB nv na d (c + 1 + szEs (e.kids.take k)) e.kids[k] = false → scanB nv na (d + 1) c e = false) from fun h => HSC.out.trans (scanPre_end hlt h)
          have HT := show Hid _ from szEs_take1 hlt
          clear hcell hncb bz hkk M
          go_wp2_with fail
          refine (ih (deep + 1) (by omega) (by omega) e.kids[k] _ _ (c + 1 + szEs (e.kids.take k)) cb _ ⟨_, rfl, HE.out⟩ HNCB.out (HM.out.blk 0 rfl) hle).mono ?_
          rintro x w2 ⟨rfl, r1, ⟨u, r2⟩, kp⟩
          obtain ⟨q, hq⟩ : ∃ q, q = scanB nv na d (c + 1 + szEs (e.kids.take k)) e.kids[k] := ⟨_, rfl⟩
          rw [← hq] at r1 ⊢
          have HQ2 := show Hid _ from hq
          clear hq x0 x1 x2 g0 g1 g2
          cases q
          · have M2 := HM.out.callB 0 rfl kp r2
            have HF := show Hid _ from HX.out HQ2.out.symm
            clear r1 r2 kp
            go_wp2_with fail
            go_ret
            exact ⟨ret_bool (by rw [HF.out]), fun h => absurd (h.symm.trans HF.out) (by simp), ⟨_, M2.blk 0 rfl⟩, M2.kept⟩
          · have M2 := (HM.out.callB 0 rfl kp (r1 rfl)).take 4
            have HM2 := show Hid _ from M2
            clear r1 r2 kp M2
            go_wp2_with fail
            refine ⟨⟨k + 1, by omega, by go_num, by rw [HP.out, HPRE.out, ← HQ2.out]; rfl, ?_⟩, by simp [intOf]; omega⟩
            rw [HT.out, show c + 1 + (szEs (e.kids.take k) + (1 + szE e.kids[k])) = c + 1 + szEs (e.kids.take k) + 1 + szE e.kids[k] by omega]
            exact HM2.out
        · have hkn : k = e.kids.length := by omega
          subst hkn
          have HM := show Hid _ from M
          have HS : Hid (scanB nv na (d + 1) c e = true) := HSC.out.trans HPRE.out
          clear M
          go_wp2_with fail
          go_ret
          refine ⟨ret_bool (by rw [HS.out]), fun _ => ?_, ⟨_, HM.out.blk 0 rfl⟩, HM.out.kept⟩
          have := HM.out.blk 0 rfl
          rw [List.take_of_length_le (Nat.le_refl _)] at this
          rw [szE_kids]
          exact this
    have k2' : (e.kind == 2) = false := by simp [k2]
    by_cases k3 : e.kind = 3
    · have qq1 : (e.kind == 3) = true := by simp [k3]
      have qq2 := k2'
      have HRD : Hid (e.kind = 3) := k3
      have hhi : (na : Int) - 1 = limit nv na e.kind - 1 := by rw [k3]; simp [limit]
      clear k1 k2 k3
      have HNB := show Hid (nodeB nv na e = (decide (0 ≤ e.value) && decide (e.value ≤ (na : Int) - 1))) from by
        unfold Hid nodeB; rw [decide_eq_true HQ.out.2, limit_high hhi]; rfl
      clear hhi
      go_wp2_with fail
      refine (impl_within e.value 0 _ _).mono ?_
      rintro x w1 ⟨rfl, rfl⟩
      have HNB2 := show Hid (nodeB nv na e = (decide (0 ≤ e.value) && decide (e.value ≤ (na : Int) - 1))) from HNB.out
      clear HNB
      obtain ⟨qn, hqn⟩ : ∃ qn, qn = (decide (0 ≤ e.value) && decide (e.value ≤ (na : Int) - 1)) := ⟨_, rfl⟩
      rw [← hqn]
      have HN := show Hid (nodeB nv na e = qn) from HNB2.out.trans hqn.symm
      clear hqn HNB2
      cases qn
      · have HF : Hid (scanB nv na (d + 1) c e = false) := scanB_noNode HN.out
        have M := HM.out
        clear HM
        go_wp2_with fail
        go_ret
        exact ⟨ret_bool (by rw [HF.out]), fun h => absurd (h.symm.trans HF.out) (by simp), ⟨_, M.blk 0 rfl⟩, M.kept⟩
      have hl1 : e.kids.length = 1 := by have := HQ.out.2; rw [HRD.out] at this; simp [arity] at this; omega
      have hpos : 0 < (e.kids.length : Int) := by omega
      obtain ⟨a', c', he, -, -, -, hcell⟩ := (HM.out.d 3 rfl).open
      have e1 : ak = a' := by cases he; rfl
      have e2 : ck = c' := by cases he; rfl
      subst e1 e2
      obtain ⟨b, off, kv, rfl, hbk, hf, g0, g1, g2, hkk⟩ := hcell 0 (by omega)
      simp only [Nat.zero_mul, Nat.add_zero] at g0 g1 g2
      have HR := show Hid _ from readB_get HRD.out (by omega)
      clear hcell hkk
      go_wp2_with fail
      refine (impl_isPlain _ _ _ _).mono ?_
      rintro x w2 ⟨rfl, b2⟩
      replace HM := show Hid _ from HM.out.call b2
      obtain ⟨qr, hqr⟩ : ∃ qr, qr = (decide ((e.kids[0]'(by omega)).kind = 1) || decide ((e.kids[0]'(by omega)).kind = 2)) := ⟨_, rfl⟩
      rw [← hqr]
      have HRR := show Hid (readB e = qr) from HR.out.trans hqr.symm
      clear hqr b2 HR g0 g1 g2
      cases qr
      · have HF : Hid (scanB nv na (d + 1) c e = false) := scanB_noRead HRR.out
        have M := HM.out
        clear HM
        go_wp2_with fail
        go_ret
        exact ⟨ret_bool (by rw [HF.out]), fun h => absurd (h.symm.trans HF.out) (by simp), ⟨_, M.blk 0 rfl⟩, M.kept⟩
      clear y0 y1 y2 y3 y4
      have y4 := HM.out.c 2 2 rfl rfl
      have HSC : Hid (scanB nv na (d + 1) c e = scanPre nv na d (c + 1) e.kids e.kids.length) := scanB_node HN.out HRR.out
      go_wp2_with fail
      clear y4
      have HST : Hid (scanPre nv na d (c + 1) e.kids 0 = true ∧ Mem φ' (fun b => ¬ b = cb) w w2 [.box cb [.int .i64 (c + 1 + szEs (e.kids.take 0) : Nat)], .box w.heap.size [.slice a1 nv c1, .slice a2 na c2, v3], .box (w.heap.size + 1) [.int .i64 e.kind, .int .i64 e.value, .slice (some ⟨b, off, none⟩) e.kids.length ck], .dat (fun w φ => KidsV w φ (.slice (some ⟨b, off, none⟩) e.kids.length ck) e.kids)]) := by
        refine ⟨?_, ?_⟩
        · have := HQ.out.1
          simp [scanPre, szEs]; omega
        · rw [show ((c + 1 + szEs (e.kids.take 0) : Nat) : Int) = (c : Int) + 1 by simp [szEs]]
          exact HM.out
      go_loopw [71] (fun i wr => ∃ k : Nat, k ≤ e.kids.length ∧ i = .int .i64 k ∧ scanPre nv na d (c + 1) e.kids k = true ∧ Mem φ' (fun b => ¬ b = cb) w wr [.box cb [.int .i64 (c + 1 + szEs (e.kids.take k) : Nat)], .box w.heap.size [.slice a1 nv c1, .slice a2 na c2, v3], .box (w.heap.size + 1) [.int .i64 e.kind, .int .i64 e.value, .slice (some ⟨b, off, none⟩) e.kids.length ck], .dat (fun w φ => KidsV w φ (.slice (some ⟨b, off, none⟩) e.kids.length ck) e.kids)]) (fun i _ => e.kids.length - (intOf i).toNat)
      case atStart => exact ⟨0, Nat.zero_le _, rfl, HST.out.1, HST.out.2⟩
      case round =>
        clear HM
        obtain ⟨k, hk, rfl, hpre, M⟩ := hrel
        have HPRE := show Hid _ from hpre
        have hle : c + 1 + szEs (e.kids.take k) ≤ 15 := by unfold scanPre at hpre; simp at hpre; exact hpre.2
        clear hpre
        by_cases hlt : k < e.kids.length
        · have hncb : ¬ Fr φ' [.box cb [.int .i64 (c + 1 + szEs (e.kids.take k) : Nat)], .box w.heap.size [.slice a1 nv c1, .slice a2 na c2, v3], .box (w.heap.size + 1) [.int .i64 e.kind, .int .i64 e.value, .slice (some ⟨b, off, none⟩) e.kids.length ck], .dat (fun w φ => KidsV w φ (.slice (some ⟨b, off, none⟩) e.kids.length ck) e.kids)] cb := fun h => h.2 _ List.mem_cons_self rfl
          obtain ⟨a', c', he, -, -, -, hcell⟩ := (M.d 3 rfl).open
          cases he
          obtain ⟨b, off, kv, hbo, hbk, hf, g0, g1, g2, hkk⟩ := hcell k hlt
          cases hbo
          obtain ⟨ka, kc, rfl, -, -, -, -⟩ := hkk.open
          have bz : Below wr.heap.size wr (wr.alloc (.cells #[.int .i64 e.kids[k].kind, .int .i64 e.kids[k].value, .slice ka e.kids[k].kids.length kc] 41)) := by go_grown
          have HE := show Hid _ from KidsV.nice _ _ _ _ _ _ (Agr.below bz) hkk
          have HNCB := show Hid _ from hncb
          have x0 := M.c 1 0 rfl rfl
          have x1 := M.c 1 1 rfl rfl
          have x2 := M.c 1 2 rfl rfl
          have s1 : w.heap.size < wr.heap.size := M.lt (r := .box w.heap.size [.slice a1 nv c1, .slice a2 na c2, v3]) (List.mem_cons_of_mem _ List.mem_cons_self) rfl
          have HM := show Hid _ from M.box [.int .i64 e.kids[k].kind, .int .i64 e.kids[k].value, .slice ka e.kids[k].kids.length kc] 41
          have HP := show Hid _ from scanPre_succ nv na (d := d) (c := c + 1) hlt
          have HX := show Hid (scanB nv na d (c + 1 + szEs (e.kids.take k)) e.kids[k] = false → scanB nv na (d + 1) c e = false) from fun h => HSC.out.trans (scanPre_end hlt h)
          have HT := show Hid _ from szEs_take1 hlt
          clear hcell hncb bz hkk M
          go_wp2_with fail
          refine (ih (deep + 1) (by omega) (by omega) e.kids[k] _ _ (c + 1 + szEs (e.kids.take k)) cb _ ⟨_, rfl, HE.out⟩ HNCB.out (HM.out.blk 0 rfl) hle).mono ?_
          rintro x w2 ⟨rfl, r1, ⟨u, r2⟩, kp⟩
          obtain ⟨q, hq⟩ : ∃ q, q = scanB nv na d (c + 1 + szEs (e.kids.take k)) e.kids[k] := ⟨_, rfl⟩
          rw [← hq] at r1 ⊢
          have HQ2 := show Hid _ from hq
          clear hq x0 x1 x2 g0 g1 g2
          cases q
          · have M2 := HM.out.callB 0 rfl kp r2
            have HF := show Hid _ from HX.out HQ2.out.symm
            clear r1 r2 kp
            go_wp2_with fail
            go_ret
            exact ⟨ret_bool (by rw [HF.out]), fun h => absurd (h.symm.trans HF.out) (by simp), ⟨_, M2.blk 0 rfl⟩, M2.kept⟩
          · have M2 := (HM.out.callB 0 rfl kp (r1 rfl)).take 4
            have HM2 := show Hid _ from M2
            clear r1 r2 kp M2
            go_wp2_with fail
            refine ⟨⟨k + 1, by omega, by go_num, by rw [HP.out, HPRE.out, ← HQ2.out]; rfl, ?_⟩, by simp [intOf]; omega⟩
            rw [HT.out, show c + 1 + (szEs (e.kids.take k) + (1 + szE e.kids[k])) = c + 1 + szEs (e.kids.take k) + 1 + szE e.kids[k] by omega]
            exact HM2.out
        · have hkn : k = e.kids.length := by omega
          subst hkn
          have HM := show Hid _ from M
          have HS : Hid (scanB nv na (d + 1) c e = true) := HSC.out.trans HPRE.out
          clear M
          go_wp2_with fail
          go_ret
          refine ⟨ret_bool (by rw [HS.out]), fun _ => ?_, ⟨_, HM.out.blk 0 rfl⟩, HM.out.kept⟩
          have := HM.out.blk 0 rfl
          rw [List.take_of_length_le (Nat.le_refl _)] at this
          rw [szE_kids]
          exact this
    have qq1 : (e.kind == 3) = false := by simp [k3]
    have qq2 := qq1
    have HRD : Hid (readB e = true) := by unfold Hid readB; simp [k3]
    have hhi : (0 : Int) = limit nv na e.kind - 1 := by unfold limit; rw [if_neg k1, if_neg k2, if_neg k3]; rfl
    clear k1 k2 k3
    have HNB := show Hid (nodeB nv na e = (decide (0 ≤ e.value) && decide (e.value ≤ 0))) from by
      unfold Hid nodeB; rw [decide_eq_true HQ.out.2, limit_high hhi]; rfl
    clear hhi
    go_wp2_with fail
    refine (impl_within e.value 0 _ _).mono ?_
    rintro x w1 ⟨rfl, rfl⟩
    have HNB2 := show Hid (nodeB nv na e = (decide (0 ≤ e.value) && decide (e.value ≤ 0))) from HNB.out
    clear HNB
    obtain ⟨qn, hqn⟩ : ∃ qn, qn = (decide (0 ≤ e.value) && decide (e.value ≤ 0)) := ⟨_, rfl⟩
    rw [← hqn]
    have HN := show Hid (nodeB nv na e = qn) from HNB2.out.trans hqn.symm
    clear hqn HNB2
    cases qn
    · have HF : Hid (scanB nv na (d + 1) c e = false) := scanB_noNode HN.out
      have M := HM.out
      clear HM
      go_wp2_with fail
      go_ret
      exact ⟨ret_bool (by rw [HF.out]), fun h => absurd (h.symm.trans HF.out) (by simp), ⟨_, M.blk 0 rfl⟩, M.kept⟩
    have HSC : Hid (scanB nv na (d + 1) c e = scanPre nv na d (c + 1) e.kids e.kids.length) := scanB_node HN.out HRD.out
    go_wp2_with fail
    clear y0 y1 y2 y3 y4
    have HST : Hid (scanPre nv na d (c + 1) e.kids 0 = true ∧ Mem φ' (fun b => ¬ b = cb) w W1 [.box cb [.int .i64 (c + 1 + szEs (e.kids.take 0) : Nat)], .box w.heap.size [.slice a1 nv c1, .slice a2 na c2, v3], .box (w.heap.size + 1) [.int .i64 e.kind, .int .i64 e.value, .slice ak e.kids.length ck], .dat (fun w φ => KidsV w φ (.slice ak e.kids.length ck) e.kids)]) := by
      refine ⟨?_, ?_⟩
      · have := HQ.out.1
        simp [scanPre, szEs]; omega
      · rw [show ((c + 1 + szEs (e.kids.take 0) : Nat) : Int) = (c : Int) + 1 by simp [szEs]]
        exact HM.out
    go_loopw [71] (fun i wr => ∃ k : Nat, k ≤ e.kids.length ∧ i = .int .i64 k ∧ scanPre nv na d (c + 1) e.kids k = true ∧ Mem φ' (fun b => ¬ b = cb) w wr [.box cb [.int .i64 (c + 1 + szEs (e.kids.take k) : Nat)], .box w.heap.size [.slice a1 nv c1, .slice a2 na c2, v3], .box (w.heap.size + 1) [.int .i64 e.kind, .int .i64 e.value, .slice ak e.kids.length ck], .dat (fun w φ => KidsV w φ (.slice ak e.kids.length ck) e.kids)]) (fun i _ => e.kids.length - (intOf i).toNat)
    case atStart => exact ⟨0, Nat.zero_le _, rfl, HST.out.1, HST.out.2⟩
    case round =>
      clear HM
      obtain ⟨k, hk, rfl, hpre, M⟩ := hrel
      have HPRE := show Hid _ from hpre
      have hle : c + 1 + szEs (e.kids.take k) ≤ 15 := by unfold scanPre at hpre; simp at hpre; exact hpre.2
      clear hpre
      by_cases hlt : k < e.kids.length
      · have hncb : ¬ Fr φ' [.box cb [.int .i64 (c + 1 + szEs (e.kids.take k) : Nat)], .box w.heap.size [.slice a1 nv c1, .slice a2 na c2, v3], .box (w.heap.size + 1) [.int .i64 e.kind, .int .i64 e.value, .slice ak e.kids.length ck], .dat (fun w φ => KidsV w φ (.slice ak e.kids.length ck) e.kids)] cb := fun h => h.2 _ List.mem_cons_self rfl
        obtain ⟨a', c', he, -, -, -, hcell⟩ := (M.d 3 rfl).open
        cases he
        obtain ⟨b, off, kv, hbo, hbk, hf, g0, g1, g2, hkk⟩ := hcell k hlt
        cases hbo
        obtain ⟨ka, kc, rfl, -, -, -, -⟩ := hkk.open
        have bz : Below wr.heap.size wr (wr.alloc (.cells #[.int .i64 e.kids[k].kind, .int .i64 e.kids[k].value, .slice ka e.kids[k].kids.length kc] 41)) := by go_grown
        have HE := show Hid _ from KidsV.nice _ _ _ _ _ _ (Agr.below bz) hkk
        have HNCB := show Hid _ from hncb
        have x0 := M.c 1 0 rfl rfl
        have x1 := M.c 1 1 rfl rfl
        have x2 := M.c 1 2 rfl rfl
        have s1 : w.heap.size < wr.heap.size := M.lt (r := .box w.heap.size [.slice a1 nv c1, .slice a2 na c2, v3]) (List.mem_cons_of_mem _ List.mem_cons_self) rfl
        have HM := show Hid _ from M.box [.int .i64 e.kids[k].kind, .int .i64 e.kids[k].value, .slice ka e.kids[k].kids.length kc] 41
        have HP := show Hid _ from scanPre_succ nv na (d := d) (c := c + 1) hlt
        have HX := show Hid (scanB nv na d (c + 1 + szEs (e.kids.take k)) e.kids[k] = false → scanB nv na (d + 1) c e = false) from fun h => HSC.out.trans (scanPre_end hlt h)
        have HT := show Hid _ from szEs_take1 hlt
        clear hcell hncb bz hkk M
        go_wp2_with fail
        refine (ih (deep + 1) (by omega) (by omega) e.kids[k] _ _ (c + 1 + szEs (e.kids.take k)) cb _ ⟨_, rfl, HE.out⟩ HNCB.out (HM.out.blk 0 rfl) hle).mono ?_
        rintro x w2 ⟨rfl, r1, ⟨u, r2⟩, kp⟩
        obtain ⟨q, hq⟩ : ∃ q, q = scanB nv na d (c + 1 + szEs (e.kids.take k)) e.kids[k] := ⟨_, rfl⟩
        rw [← hq] at r1 ⊢
        have HQ2 := show Hid _ from hq
        clear hq x0 x1 x2 g0 g1 g2
        cases q
        · have M2 := HM.out.callB 0 rfl kp r2
          have HF := show Hid _ from HX.out HQ2.out.symm
          clear r1 r2 kp
          go_wp2_with fail
          go_ret
          exact ⟨ret_bool (by rw [HF.out]), fun h => absurd (h.symm.trans HF.out) (by simp), ⟨_, M2.blk 0 rfl⟩, M2.kept⟩
        · have M2 := (HM.out.callB 0 rfl kp (r1 rfl)).take 4
          have HM2 := show Hid _ from M2
          clear r1 r2 kp M2
          go_wp2_with fail
          refine ⟨⟨k + 1, by omega, by go_num, by rw [HP.out, HPRE.out, ← HQ2.out]; rfl, ?_⟩, by simp [intOf]; omega⟩
          rw [HT.out, show c + 1 + (szEs (e.kids.take k) + (1 + szE e.kids[k])) = c + 1 + szEs (e.kids.take k) + 1 + szE e.kids[k] by omega]
          exact HM2.out
      · have hkn : k = e.kids.length := by omega
        subst hkn
        have HM := show Hid _ from M
        have HS : Hid (scanB nv na (d + 1) c e = true) := HSC.out.trans HPRE.out
        clear M
        go_wp2_with fail
        go_ret
        refine ⟨ret_bool (by rw [HS.out]), fun _ => ?_, ⟨_, HM.out.blk 0 rfl⟩, HM.out.kept⟩
        have := HM.out.blk 0 rfl
        rw [List.take_of_length_le (Nat.le_refl _)] at this
        rw [szE_kids]
        exact this

end Go.Proofs.Ytgpkdfefgcpbiaa

namespace Go.Proofs.Ytgpkdfefgcpbiaa
set_option linter.unusedVariables false
set_option linter.unusedSimpArgs false
open Go Go.RowKit

theorem scan_right (nv na : Nat) (e : LExpr) : scanB nv na 5 0 e = rightB nv na e := by
  have h : (0 + 1 + szE e ≤ 15) = (1 + szE e ≤ 15) := by rw [Nat.zero_add]
  unfold scanB rightB
  simp only [h]

set_option maxHeartbeats 1000000 in
theorem impl_expr (a1 a2 : Option Addr) (nv c1 na c2 : Nat) (v3 : Value) (h1 : nv ≤ 9223372036854775807) (h2 : na ≤ 9223372036854775807) (e : LExpr) (φ : Nat → Prop) (v : Value) (w : World) (h : ExprV w φ v e) :
    Calls Try.prog 112 #[.agg #[.slice a1 nv c1, .slice a2 na c2, v3], v] w fun x w' => x = .returned (.bool (rightB nv na e)) ∧ Below w.heap.size w w' := by
  obtain ⟨kv, rfl, hk⟩ := h
  obtain ⟨W, hW, M⟩ : ∃ W, W = ((w.alloc (.cells #[.slice a1 nv c1, .slice a2 na c2, v3] 31)).alloc (.cells #[.int .i64 e.kind, .int .i64 e.value, kv] 41)).alloc (.cells #[.int .i64 0] 3) ∧ Mem (fun _ => True) (fun _ => True) w W [.box w.heap.size [.slice a1 nv c1, .slice a2 na c2, v3], .box (w.heap.size + 1) [.int .i64 e.kind, .int .i64 e.value, kv], .box (w.heap.size + 1 + 1) [.int .i64 0]] :=
    ⟨_, rfl, (((Mem.start fun _ _ => trivial).box _ _).box' _ _ (by simp)).box' _ _ (by simp)⟩
  have hb := M.below fun _ _ => trivial
  have HK := show Hid _ from KidsV.nice _ _ _ _ φ (fun b => φ b ∧ b < w.heap.size) ⟨hb.size, fun b hl hf => ⟨⟨hf, hl⟩, hb.block b hl⟩⟩ hk
  clear hb hk
  have x0 := M.c 0 0 rfl rfl
  have x1 := M.c 0 1 rfl rfl
  have x2 := M.c 0 2 rfl rfl
  have y0 := M.c 1 0 rfl rfl
  have y1 := M.c 1 1 rfl rfl
  have y2 := M.c 1 2 rfl rfl
  have HM := show Hid _ from M
  rw [hW] at x0 x1 x2 y0 y1 y2
  clear M
  go_enter Try.func112, Try.ntmps112
  go_wp2_with fail
  rw [← hW]
  clear hW x0 x1 x2 y0 y1 y2
  refine (impl_scan a1 a2 nv c1 na c2 v3 h1 h2 5 1 (by omega) (by omega) e _ _ 0 _ _ ⟨kv, rfl, HK.out⟩ (fun h => by have := h.2; omega) (HM.out.blk 2 rfl) (by omega)).mono ?_
  rintro x w1 ⟨rfl, -, ⟨u, r2⟩, kp⟩
  rw [scan_right]
  have M := HM.out.callB 2 rfl kp r2
  have HB := show Hid _ from M.below fun _ _ => trivial
  clear kp r2 M
  go_wp2_with fail
  go_ret
  exact ⟨rfl, HB.out⟩

end Go.Proofs.Ytgpkdfefgcpbiaa

namespace Go.Proofs.Ytgpkdfefgcpbiaa
set_option linter.unusedVariables false
set_option linter.unusedSimpArgs false
open Go Go.RowKit

set_option maxHeartbeats 400000 in
theorem spec_l2None (k n : Int) (a : Option Addr) (len c : Nat) (w : World) (hl : len ≤ 9223372036854775807) : Calls Try.prog 208 #[.agg #[.int .i64 k, .int .i64 n, .slice a len c]] w fun e w' => e = .returned (.bool (decide (k = 0) && decide (n = 0) && decide (len = 0))) ∧ Below w.heap.size w w' := by
  by_cases q1 : k = 0
  case neg =>
    have p1 : (k == 0) = false := by simp [q1]
    have HQ := show Hid _ from q1
    clear q1
    go_enter Try.func208, Try.ntmps208
    go_wp2_with fail
    go_ret
    exact ⟨ret_bool (by rw [decide_eq_false HQ.out]; rfl), by go_grown⟩
  have p1 : (k == 0) = true := by simp [q1]
  have HQ := show Hid _ from q1
  clear q1
  by_cases q2 : n = 0
  case neg =>
    have p2 : (n == 0) = false := by simp [q2]
    have HQ2 := show Hid _ from q2
    clear q2
    go_enter Try.func208, Try.ntmps208
    go_wp2_with fail
    go_ret
    exact ⟨ret_bool (by rw [decide_eq_true HQ.out, decide_eq_false HQ2.out]; rfl), by go_grown⟩
  have p2 : (n == 0) = true := by simp [q2]
  have HQ2 := show Hid _ from q2
  clear q2
  by_cases q3 : len = 0
  case neg =>
    have p3 : ((len : Int) == 0) = false := by simp [q3]
    have HQ3 := show Hid _ from q3
    clear q3
    go_enter Try.func208, Try.ntmps208
    go_wp2_with fail
    go_ret
    exact ⟨ret_bool (by rw [decide_eq_true HQ.out, decide_eq_true HQ2.out, decide_eq_false HQ3.out]; rfl), by go_grown⟩
  have p3 : ((len : Int) == 0) = true := by simp [q3]
  have HQ3 := show Hid _ from q3
  clear q3
  go_enter Try.func208, Try.ntmps208
  go_wp2_with fail
  go_ret
  exact ⟨ret_bool (by rw [decide_eq_true HQ.out, decide_eq_true HQ2.out, decide_eq_true HQ3.out]; rfl), by go_grown⟩

/-- A statement's value, its slices written out. -/
theorem StmtV.form {w : World} {φ : Nat → Prop} {v : Value} {s : LStmt} (h : StmtV w φ v s) : ∃ ai ci av cv ab cb ae ce, v = .agg #[.int .i64 s.kind, .int .i64 s.target, .int .i64 s.index.kind, .int .i64 s.index.value, .slice ai s.index.kids.length ci, .int .i64 s.value.kind, .int .i64 s.value.value, .slice av s.value.kids.length cv, .int .i64 s.count, .slice ab s.body.length cb, .slice ae s.els.length ce] ∧
    (KidsV w φ (.slice ai s.index.kids.length ci) s.index.kids ∧ KidsV w φ (.slice av s.value.kids.length cv) s.value.kids ∧ BlockV w φ (.slice ab s.body.length cb) s.body ∧ BlockV w φ (.slice ae s.els.length ce) s.els) ∧
    (s.index.kids.length ≤ 9223372036854775807 ∧ s.value.kids.length ≤ 9223372036854775807 ∧ s.body.length ≤ 9223372036854775807 ∧ s.els.length ≤ 9223372036854775807) := by
  obtain ⟨iv, vv, bv, ev, rfl, h1, h2, h3, h4⟩ := h
  obtain ⟨ai, ci, rfl, -, l1, -⟩ := h1.open
  obtain ⟨av, cv, rfl, -, l2, -⟩ := h2.open
  obtain ⟨ab, cb, rfl, -, l3, -⟩ := h3.open
  obtain ⟨ae, ce, rfl, -, l4, -⟩ := h4.open
  exact ⟨ai, ci, av, cv, ab, cb, ae, ce, rfl, ⟨h1, h2, h3, h4⟩, l1, l2, l3, l4⟩

set_option maxHeartbeats 4000000 in
theorem spec_l2Parts (φ : Nat → Prop) (v : Value) (s : LStmt) (w : World) (h : StmtV w φ v s) :
    Calls Try.prog 202 #[v] w fun x w' => x = .returned (.bool (partsB s)) ∧ Below w.heap.size w w' := by
  obtain ⟨ai, ci, av, cv, ab, cb, ae, ce, rfl, -, hl⟩ := h.form
  have HL := show Hid _ from hl
  have hl3 := hl.2.2.1
  have hl4 := hl.2.2.2
  clear h hl
  have HD : Hid (partsB s = if (s.kind = 3 ∨ s.kind = 4) then decide (s.target = 0) && (if s.kind = 4 then decide (s.els.length = 0) && decide (1 ≤ s.count) && decide (s.count ≤ 3) && noneB s.index && noneB s.value else decide (s.count = 0) && noneB s.index)
      else decide (s.body.length = 0) && decide (s.els.length = 0) && decide (s.count = 0) && (decide (s.kind = 2) || noneB s.index)) := rfl
  obtain ⟨W, hW, M⟩ : ∃ W, W = w.alloc (.cells #[.int .i64 s.kind, .int .i64 s.target, .int .i64 s.index.kind, .int .i64 s.index.value, .slice ai s.index.kids.length ci, .int .i64 s.value.kind, .int .i64 s.value.value, .slice av s.value.kids.length cv, .int .i64 s.count, .slice ab s.body.length cb, .slice ae s.els.length ce] 135) ∧ Mem (fun _ => True) (fun _ => True) w W [.box w.heap.size [.int .i64 s.kind, .int .i64 s.target, .int .i64 s.index.kind, .int .i64 s.index.value, .slice ai s.index.kids.length ci, .int .i64 s.value.kind, .int .i64 s.value.value, .slice av s.value.kids.length cv, .int .i64 s.count, .slice ab s.body.length cb, .slice ae s.els.length ce]] :=
    ⟨_, rfl, (Mem.start fun _ _ => trivial).box _ _⟩
  by_cases qk : s.kind = 3
  · have pk : (s.kind == 3) = true := by simp [qk]
    have pk4 : (s.kind == 4) = false := by simp [qk]
    have pk2 : (s.kind == 2) = false := by simp [qk]
    by_cases qpt : s.target = 0
    case neg =>
      have pt : (s.target != 0) = true := by first | (simp [qpt]; done) | (simp; omega) | exact decide_eq_true (by omega) | exact decide_eq_false (by omega)
      have HP : Hid (partsB s = false) := by rw [Hid, HD.out]; simp [qk, qpt]
      clear qpt qk HD
      have c0 := M.c 0 0 rfl rfl
      have c1 := M.c 0 1 rfl rfl
      have c2 := M.c 0 2 rfl rfl
      have c3 := M.c 0 3 rfl rfl
      have c4 := M.c 0 4 rfl rfl
      have c5 := M.c 0 5 rfl rfl
      have c6 := M.c 0 6 rfl rfl
      have c7 := M.c 0 7 rfl rfl
      have c8 := M.c 0 8 rfl rfl
      have c9 := M.c 0 9 rfl rfl
      have c10 := M.c 0 10 rfl rfl
      have HM := show Hid _ from M
      rw [hW] at c0 c1 c2 c3 c4 c5 c6 c7 c8 c9 c10
      clear M
      go_enter Try.func202, Try.ntmps202
      go_wp2_with fail
      rw [← hW]
      clear hW
      have M := HM.out
      clear HM c0 c1 c2 c3 c4 c5 c6 c7 c8 c9 c10
      go_ret
      exact ⟨ret_bool (by rw [HP.out]), M.below fun _ _ => trivial⟩
    have pt : (s.target != 0) = false := by first | (simp [qpt]; done) | (simp; omega) | exact decide_eq_true (by omega) | exact decide_eq_false (by omega)
    by_cases qpc : s.count = 0
    case neg =>
      have pc : (s.count == 0) = false := by first | (simp [qpc]; done) | (simp; omega) | exact decide_eq_true (by omega) | exact decide_eq_false (by omega)
      have HP : Hid (partsB s = false) := by rw [Hid, HD.out]; simp [qk, qpt, qpc]
      clear qpc qk qpt HD
      have c0 := M.c 0 0 rfl rfl
      have c1 := M.c 0 1 rfl rfl
      have c2 := M.c 0 2 rfl rfl
      have c3 := M.c 0 3 rfl rfl
      have c4 := M.c 0 4 rfl rfl
      have c5 := M.c 0 5 rfl rfl
      have c6 := M.c 0 6 rfl rfl
      have c7 := M.c 0 7 rfl rfl
      have c8 := M.c 0 8 rfl rfl
      have c9 := M.c 0 9 rfl rfl
      have c10 := M.c 0 10 rfl rfl
      have HM := show Hid _ from M
      rw [hW] at c0 c1 c2 c3 c4 c5 c6 c7 c8 c9 c10
      clear M
      go_enter Try.func202, Try.ntmps202
      go_wp2_with fail
      rw [← hW]
      clear hW
      have M := HM.out
      clear HM c0 c1 c2 c3 c4 c5 c6 c7 c8 c9 c10
      go_ret
      exact ⟨ret_bool (by rw [HP.out]), M.below fun _ _ => trivial⟩
    have pc : (s.count == 0) = true := by first | (simp [qpc]; done) | (simp; omega) | exact decide_eq_true (by omega) | exact decide_eq_false (by omega)
    have HP : Hid (partsB s = noneB s.index) := by rw [Hid, HD.out]; simp [qk, qpt, qpc]
    clear qpt qpc HD qk
    have c0 := M.c 0 0 rfl rfl
    have c1 := M.c 0 1 rfl rfl
    have c2 := M.c 0 2 rfl rfl
    have c3 := M.c 0 3 rfl rfl
    have c4 := M.c 0 4 rfl rfl
    have c5 := M.c 0 5 rfl rfl
    have c6 := M.c 0 6 rfl rfl
    have c7 := M.c 0 7 rfl rfl
    have c8 := M.c 0 8 rfl rfl
    have c9 := M.c 0 9 rfl rfl
    have c10 := M.c 0 10 rfl rfl
    have HM := show Hid _ from M
    rw [hW] at c0 c1 c2 c3 c4 c5 c6 c7 c8 c9 c10
    clear M
    go_enter Try.func202, Try.ntmps202
    go_wp2_with fail
    rw [← hW]
    clear hW
    have M := HM.out
    clear HM c0 c1 c2 c3 c4 c5 c6 c7 c8 c9 c10
    refine (spec_l2None s.index.kind s.index.value ai s.index.kids.length ci _ HL.out.1).mono ?_
    rintro x w1 ⟨rfl, b1⟩
    rw [show (decide (s.index.kind = 0) && decide (s.index.value = 0) && decide (s.index.kids.length = 0)) = noneB s.index from rfl]
    replace M := M.call b1
    clear b1
    have HM := show Hid _ from M
    clear M
    go_wp2_with fail
    go_ret
    exact ⟨ret_bool (by rw [HP.out]), HM.out.below fun _ _ => trivial⟩
  have qk3 := qk
  have pk3 : (s.kind == 3) = false := by simp [qk]
  clear qk
  by_cases qk : s.kind = 4
  · have pk4 : (s.kind == 4) = true := by simp [qk]
    clear qk3
    by_cases qpt : s.target = 0
    case neg =>
      have pt : (s.target != 0) = true := by first | (simp [qpt]; done) | (simp; omega) | exact decide_eq_true (by omega) | exact decide_eq_false (by omega)
      have HP : Hid (partsB s = false) := by rw [Hid, HD.out]; simp [qk, qpt]
      clear qpt qk HD
      have c0 := M.c 0 0 rfl rfl
      have c1 := M.c 0 1 rfl rfl
      have c2 := M.c 0 2 rfl rfl
      have c3 := M.c 0 3 rfl rfl
      have c4 := M.c 0 4 rfl rfl
      have c5 := M.c 0 5 rfl rfl
      have c6 := M.c 0 6 rfl rfl
      have c7 := M.c 0 7 rfl rfl
      have c8 := M.c 0 8 rfl rfl
      have c9 := M.c 0 9 rfl rfl
      have c10 := M.c 0 10 rfl rfl
      have HM := show Hid _ from M
      rw [hW] at c0 c1 c2 c3 c4 c5 c6 c7 c8 c9 c10
      clear M
      go_enter Try.func202, Try.ntmps202
      go_wp2_with fail
      rw [← hW]
      clear hW
      have M := HM.out
      clear HM c0 c1 c2 c3 c4 c5 c6 c7 c8 c9 c10
      go_ret
      exact ⟨ret_bool (by rw [HP.out]), M.below fun _ _ => trivial⟩
    have pt : (s.target != 0) = false := by first | (simp [qpt]; done) | (simp; omega) | exact decide_eq_true (by omega) | exact decide_eq_false (by omega)
    by_cases qpe : s.els.length = 0
    case neg =>
      have pe : ((s.els.length : Int) == 0) = false := by first | (simp [qpe]; done) | (simp; omega) | exact decide_eq_true (by omega) | exact decide_eq_false (by omega)
      have HP : Hid (partsB s = false) := by rw [Hid, HD.out]; simp [qk, qpt, qpe]
      clear qpe qk qpt HD
      have c0 := M.c 0 0 rfl rfl
      have c1 := M.c 0 1 rfl rfl
      have c2 := M.c 0 2 rfl rfl
      have c3 := M.c 0 3 rfl rfl
      have c4 := M.c 0 4 rfl rfl
      have c5 := M.c 0 5 rfl rfl
      have c6 := M.c 0 6 rfl rfl
      have c7 := M.c 0 7 rfl rfl
      have c8 := M.c 0 8 rfl rfl
      have c9 := M.c 0 9 rfl rfl
      have c10 := M.c 0 10 rfl rfl
      have HM := show Hid _ from M
      rw [hW] at c0 c1 c2 c3 c4 c5 c6 c7 c8 c9 c10
      clear M
      go_enter Try.func202, Try.ntmps202
      go_wp2_with fail
      rw [← hW]
      clear hW
      have M := HM.out
      clear HM c0 c1 c2 c3 c4 c5 c6 c7 c8 c9 c10
      go_ret
      exact ⟨ret_bool (by rw [HP.out]), M.below fun _ _ => trivial⟩
    have pe : ((s.els.length : Int) == 0) = true := by first | (simp [qpe]; done) | (simp; omega) | exact decide_eq_true (by omega) | exact decide_eq_false (by omega)
    by_cases qp1 : 1 ≤ s.count
    case neg =>
      have p1 : decide (1 ≤ s.count) = false := by first | (simp [qp1]; done) | (simp; omega) | exact decide_eq_true (by omega) | exact decide_eq_false (by omega)
      have HP : Hid (partsB s = false) := by rw [Hid, HD.out]; simp [qk, qpt, qpe, qp1]
      clear qp1 qk qpt qpe HD
      have c0 := M.c 0 0 rfl rfl
      have c1 := M.c 0 1 rfl rfl
      have c2 := M.c 0 2 rfl rfl
      have c3 := M.c 0 3 rfl rfl
      have c4 := M.c 0 4 rfl rfl
      have c5 := M.c 0 5 rfl rfl
      have c6 := M.c 0 6 rfl rfl
      have c7 := M.c 0 7 rfl rfl
      have c8 := M.c 0 8 rfl rfl
      have c9 := M.c 0 9 rfl rfl
      have c10 := M.c 0 10 rfl rfl
      have HM := show Hid _ from M
      rw [hW] at c0 c1 c2 c3 c4 c5 c6 c7 c8 c9 c10
      clear M
      go_enter Try.func202, Try.ntmps202
      go_wp2_with fail
      rw [← hW]
      clear hW
      have M := HM.out
      clear HM c0 c1 c2 c3 c4 c5 c6 c7 c8 c9 c10
      go_ret
      exact ⟨ret_bool (by rw [HP.out]), M.below fun _ _ => trivial⟩
    have p1 : decide (1 ≤ s.count) = true := by first | (simp [qp1]; done) | (simp; omega) | exact decide_eq_true (by omega) | exact decide_eq_false (by omega)
    by_cases qp3 : s.count ≤ 3
    case neg =>
      have p3 : decide (s.count ≤ 3) = false := by first | (simp [qp3]; done) | (simp; omega) | exact decide_eq_true (by omega) | exact decide_eq_false (by omega)
      have HP : Hid (partsB s = false) := by rw [Hid, HD.out]; simp [qk, qpt, qpe, qp1, qp3]
      clear qp3 qk qpt qpe qp1 HD
      have c0 := M.c 0 0 rfl rfl
      have c1 := M.c 0 1 rfl rfl
      have c2 := M.c 0 2 rfl rfl
      have c3 := M.c 0 3 rfl rfl
      have c4 := M.c 0 4 rfl rfl
      have c5 := M.c 0 5 rfl rfl
      have c6 := M.c 0 6 rfl rfl
      have c7 := M.c 0 7 rfl rfl
      have c8 := M.c 0 8 rfl rfl
      have c9 := M.c 0 9 rfl rfl
      have c10 := M.c 0 10 rfl rfl
      have HM := show Hid _ from M
      rw [hW] at c0 c1 c2 c3 c4 c5 c6 c7 c8 c9 c10
      clear M
      go_enter Try.func202, Try.ntmps202
      go_wp2_with fail
      rw [← hW]
      clear hW
      have M := HM.out
      clear HM c0 c1 c2 c3 c4 c5 c6 c7 c8 c9 c10
      go_ret
      exact ⟨ret_bool (by rw [HP.out]), M.below fun _ _ => trivial⟩
    have p3 : decide (s.count ≤ 3) = true := by first | (simp [qp3]; done) | (simp; omega) | exact decide_eq_true (by omega) | exact decide_eq_false (by omega)
    have HP0 : Hid (partsB s = (noneB s.index && noneB s.value)) := by rw [Hid, HD.out]; simp [qk, qpt, qpe, qp1, qp3]
    clear qpt qpe qp1 qp3 HD qk
    have c0 := M.c 0 0 rfl rfl
    have c1 := M.c 0 1 rfl rfl
    have c2 := M.c 0 2 rfl rfl
    have c3 := M.c 0 3 rfl rfl
    have c4 := M.c 0 4 rfl rfl
    have c5 := M.c 0 5 rfl rfl
    have c6 := M.c 0 6 rfl rfl
    have c7 := M.c 0 7 rfl rfl
    have c8 := M.c 0 8 rfl rfl
    have c9 := M.c 0 9 rfl rfl
    have c10 := M.c 0 10 rfl rfl
    have HM := show Hid _ from M
    rw [hW] at c0 c1 c2 c3 c4 c5 c6 c7 c8 c9 c10
    clear M
    go_enter Try.func202, Try.ntmps202
    go_wp2_with fail
    rw [← hW]
    clear hW
    have M := HM.out
    clear HM c0 c1 c2 c3 c4 c5 c6 c7 c8 c9 c10
    refine (spec_l2None s.index.kind s.index.value ai s.index.kids.length ci _ HL.out.1).mono ?_
    rintro x w1 ⟨rfl, b1⟩
    rw [show (decide (s.index.kind = 0) && decide (s.index.value = 0) && decide (s.index.kids.length = 0)) = noneB s.index from rfl]
    replace M := M.call b1
    clear b1
    obtain ⟨b, hb⟩ : ∃ b, b = noneB s.index := ⟨_, rfl⟩
    rw [← hb]
    have HB := show Hid _ from hb
    clear hb
    cases b
    · have HP : Hid (partsB s = false) := by rw [Hid, HP0.out, ← HB.out]; rfl
      clear HP0
      have HM := show Hid _ from M
      clear M
      go_wp2_with fail
      go_ret
      exact ⟨ret_bool (by rw [HP.out]), HM.out.below fun _ _ => trivial⟩
    · have HP : Hid (partsB s = noneB s.value) := by rw [Hid, HP0.out, ← HB.out]; rfl
      clear HP0
      have c5 := M.c 0 5 rfl rfl
      have c6 := M.c 0 6 rfl rfl
      have c7 := M.c 0 7 rfl rfl
      have HM := show Hid _ from M
      clear M
      go_wp2_with fail
      have M := HM.out
      clear HM c5 c6 c7
      refine (spec_l2None s.value.kind s.value.value av s.value.kids.length cv _ HL.out.2.1).mono ?_
      rintro x w1 ⟨rfl, b1⟩
      rw [show (decide (s.value.kind = 0) && decide (s.value.value = 0) && decide (s.value.kids.length = 0)) = noneB s.value from rfl]
      replace M := M.call b1
      clear b1
      have HM := show Hid _ from M
      clear M
      go_wp2_with fail
      go_ret
      exact ⟨ret_bool (by rw [HP.out]), HM.out.below fun _ _ => trivial⟩
  have qk4 := qk
  have pk4 : (s.kind == 4) = false := by simp [qk]
  clear qk
  by_cases qpb : s.body.length = 0
  case neg =>
    have pb : decide (0 < s.body.length) = true := by first | (simp [qpb]; done) | (simp; omega) | exact decide_eq_true (by omega) | exact decide_eq_false (by omega)
    have HP : Hid (partsB s = false) := by rw [Hid, HD.out]; simp [qk3, qk4, qpb]
    clear qpb qk3 qk4 HD
    have c0 := M.c 0 0 rfl rfl
    have c1 := M.c 0 1 rfl rfl
    have c2 := M.c 0 2 rfl rfl
    have c3 := M.c 0 3 rfl rfl
    have c4 := M.c 0 4 rfl rfl
    have c5 := M.c 0 5 rfl rfl
    have c6 := M.c 0 6 rfl rfl
    have c7 := M.c 0 7 rfl rfl
    have c8 := M.c 0 8 rfl rfl
    have c9 := M.c 0 9 rfl rfl
    have c10 := M.c 0 10 rfl rfl
    have HM := show Hid _ from M
    rw [hW] at c0 c1 c2 c3 c4 c5 c6 c7 c8 c9 c10
    clear M
    go_enter Try.func202, Try.ntmps202
    go_wp2_with fail
    rw [← hW]
    clear hW
    have M := HM.out
    clear HM c0 c1 c2 c3 c4 c5 c6 c7 c8 c9 c10
    go_ret
    exact ⟨ret_bool (by rw [HP.out]), M.below fun _ _ => trivial⟩
  have pb : decide (0 < s.body.length) = false := by first | (simp [qpb]; done) | (simp; omega) | exact decide_eq_true (by omega) | exact decide_eq_false (by omega)
  by_cases qpe : s.els.length = 0
  case neg =>
    have pe : decide (0 < s.els.length) = true := by first | (simp [qpe]; done) | (simp; omega) | exact decide_eq_true (by omega) | exact decide_eq_false (by omega)
    have HP : Hid (partsB s = false) := by rw [Hid, HD.out]; simp [qk3, qk4, qpb, qpe]
    clear qpe qk3 qk4 qpb HD
    have c0 := M.c 0 0 rfl rfl
    have c1 := M.c 0 1 rfl rfl
    have c2 := M.c 0 2 rfl rfl
    have c3 := M.c 0 3 rfl rfl
    have c4 := M.c 0 4 rfl rfl
    have c5 := M.c 0 5 rfl rfl
    have c6 := M.c 0 6 rfl rfl
    have c7 := M.c 0 7 rfl rfl
    have c8 := M.c 0 8 rfl rfl
    have c9 := M.c 0 9 rfl rfl
    have c10 := M.c 0 10 rfl rfl
    have HM := show Hid _ from M
    rw [hW] at c0 c1 c2 c3 c4 c5 c6 c7 c8 c9 c10
    clear M
    go_enter Try.func202, Try.ntmps202
    go_wp2_with fail
    rw [← hW]
    clear hW
    have M := HM.out
    clear HM c0 c1 c2 c3 c4 c5 c6 c7 c8 c9 c10
    go_ret
    exact ⟨ret_bool (by rw [HP.out]), M.below fun _ _ => trivial⟩
  have pe : decide (0 < s.els.length) = false := by first | (simp [qpe]; done) | (simp; omega) | exact decide_eq_true (by omega) | exact decide_eq_false (by omega)
  by_cases qpc : s.count = 0
  case neg =>
    have pc : (s.count == 0) = false := by first | (simp [qpc]; done) | (simp; omega) | exact decide_eq_true (by omega) | exact decide_eq_false (by omega)
    have HP : Hid (partsB s = false) := by rw [Hid, HD.out]; simp [qk3, qk4, qpb, qpe, qpc]
    clear qpc qk3 qk4 qpb qpe HD
    have c0 := M.c 0 0 rfl rfl
    have c1 := M.c 0 1 rfl rfl
    have c2 := M.c 0 2 rfl rfl
    have c3 := M.c 0 3 rfl rfl
    have c4 := M.c 0 4 rfl rfl
    have c5 := M.c 0 5 rfl rfl
    have c6 := M.c 0 6 rfl rfl
    have c7 := M.c 0 7 rfl rfl
    have c8 := M.c 0 8 rfl rfl
    have c9 := M.c 0 9 rfl rfl
    have c10 := M.c 0 10 rfl rfl
    have HM := show Hid _ from M
    rw [hW] at c0 c1 c2 c3 c4 c5 c6 c7 c8 c9 c10
    clear M
    go_enter Try.func202, Try.ntmps202
    go_wp2_with fail
    rw [← hW]
    clear hW
    have M := HM.out
    clear HM c0 c1 c2 c3 c4 c5 c6 c7 c8 c9 c10
    go_ret
    exact ⟨ret_bool (by rw [HP.out]), M.below fun _ _ => trivial⟩
  have pc : (s.count == 0) = true := by first | (simp [qpc]; done) | (simp; omega) | exact decide_eq_true (by omega) | exact decide_eq_false (by omega)
  by_cases qk2 : s.kind = 2
  · have pk2 : (s.kind == 2) = true := by simp [qk2]
    have HP : Hid (partsB s = true) := by rw [Hid, HD.out]; simp [qk2, qpb, qpe, qpc]
    clear qk2 qk3 qk4 qpb qpe qpc HD
    have c0 := M.c 0 0 rfl rfl
    have c1 := M.c 0 1 rfl rfl
    have c2 := M.c 0 2 rfl rfl
    have c3 := M.c 0 3 rfl rfl
    have c4 := M.c 0 4 rfl rfl
    have c5 := M.c 0 5 rfl rfl
    have c6 := M.c 0 6 rfl rfl
    have c7 := M.c 0 7 rfl rfl
    have c8 := M.c 0 8 rfl rfl
    have c9 := M.c 0 9 rfl rfl
    have c10 := M.c 0 10 rfl rfl
    have HM := show Hid _ from M
    rw [hW] at c0 c1 c2 c3 c4 c5 c6 c7 c8 c9 c10
    clear M
    go_enter Try.func202, Try.ntmps202
    go_wp2_with fail
    rw [← hW]
    clear hW
    have M := HM.out
    clear HM c0 c1 c2 c3 c4 c5 c6 c7 c8 c9 c10
    go_ret
    exact ⟨ret_bool (by rw [HP.out]), M.below fun _ _ => trivial⟩
  · have pk2 : (s.kind == 2) = false := by simp [qk2]
    have HP : Hid (partsB s = noneB s.index) := by rw [Hid, HD.out]; simp [qk2, qk3, qk4, qpb, qpe, qpc]
    clear qk2 qk3 qk4 qpb qpe qpc HD
    have c0 := M.c 0 0 rfl rfl
    have c1 := M.c 0 1 rfl rfl
    have c2 := M.c 0 2 rfl rfl
    have c3 := M.c 0 3 rfl rfl
    have c4 := M.c 0 4 rfl rfl
    have c5 := M.c 0 5 rfl rfl
    have c6 := M.c 0 6 rfl rfl
    have c7 := M.c 0 7 rfl rfl
    have c8 := M.c 0 8 rfl rfl
    have c9 := M.c 0 9 rfl rfl
    have c10 := M.c 0 10 rfl rfl
    have HM := show Hid _ from M
    rw [hW] at c0 c1 c2 c3 c4 c5 c6 c7 c8 c9 c10
    clear M
    go_enter Try.func202, Try.ntmps202
    go_wp2_with fail
    rw [← hW]
    clear hW
    have M := HM.out
    clear HM c0 c1 c2 c3 c4 c5 c6 c7 c8 c9 c10
    refine (spec_l2None s.index.kind s.index.value ai s.index.kids.length ci _ HL.out.1).mono ?_
    rintro x w1 ⟨rfl, b1⟩
    rw [show (decide (s.index.kind = 0) && decide (s.index.value = 0) && decide (s.index.kids.length = 0)) = noneB s.index from rfl]
    replace M := M.call b1
    clear b1
    have HM := show Hid _ from M
    clear M
    go_wp2_with fail
    go_ret
    exact ⟨ret_bool (by rw [HP.out]), HM.out.below fun _ _ => trivial⟩

end Go.Proofs.Ytgpkdfefgcpbiaa

namespace Go.Proofs.Ytgpkdfefgcpbiaa
set_option linter.unusedVariables false
set_option linter.unusedSimpArgs false
open Go Go.RowKit

def StB (a1 a2 : Option Addr) (nv c1 na c2 : Nat) (v3 : Value) (d : Nat) : Prop := ∀ (s : LStmt) (φ : Nat → Prop) (v : Value) (w : World), StmtV w φ v s →
  Calls Try.prog 180 #[.agg #[.slice a1 nv c1, .slice a2 na c2, v3], v, .int .i64 d] w fun x w' => x = .returned (.bool (stmtB nv na d s)) ∧ Below w.heap.size w w'
def BlB (a1 a2 : Option Addr) (nv c1 na c2 : Nat) (v3 : Value) (d : Nat) : Prop := ∀ (ss : List LStmt) (φ : Nat → Prop) (v : Value) (w : World), BlockV w φ v ss →
  Calls Try.prog 144 #[.agg #[.slice a1 nv c1, .slice a2 na c2, v3], v, .int .i64 d] w fun x w' => x = .returned (.bool (ss.all (stmtB nv na d))) ∧ Below w.heap.size w w'

set_option maxHeartbeats 2000000 in
theorem l2Block_of (a1 a2 : Option Addr) (nv c1 na c2 : Nat) (v3 : Value) (d : Nat) (hd : d ≤ 5) (ih : StB a1 a2 nv c1 na c2 v3 d) : BlB a1 a2 nv c1 na c2 v3 d := by
  intro ss φ v w h
  obtain ⟨ak, ck, rfl, -, hn, -, hc⟩ := h.open
  obtain ⟨W, hW, M⟩ : ∃ W, W = w.alloc (.cells #[.slice a1 nv c1, .slice a2 na c2, v3] 31) ∧ Mem (fun _ => True) (fun _ => True) w W [.box w.heap.size [.slice a1 nv c1, .slice a2 na c2, v3]] :=
    ⟨_, rfl, (Mem.start fun _ _ => trivial).box _ _⟩
  have HC := show Hid _ from hc
  clear h hc
  go_enter Try.func144, Try.ntmps144
  go_wp2_with fail
  rw [← hW]
  clear hW
  go_loopw [7] (fun i wr => ∃ k : Nat, k ≤ ss.length ∧ i = .int .i64 k ∧ (ss.take k).all (stmtB nv na d) = true ∧ Mem (fun _ => True) (fun _ => True) w wr [.box w.heap.size [.slice a1 nv c1, .slice a2 na c2, v3]]) (fun i _ => ss.length - (intOf i).toNat)
  case atStart => exact ⟨0, Nat.zero_le _, rfl, rfl, M⟩
  case round =>
    clear M
    obtain ⟨k, hk, rfl, hall, M⟩ := hrel
    have HALL := show Hid _ from hall
    clear hall
    have hB := M.below fun _ _ => trivial
    have x0 := M.c 0 0 rfl rfl
    have x1 := M.c 0 1 rfl rfl
    have x2 := M.c 0 2 rfl rfl
    by_cases hlt : k < ss.length
    · obtain ⟨b, off, iv, vv, bv, ev, rfl, hbk, hf, ⟨e0, e1, e2, e3, e4, e5, e6, e7, e8, e9, e10⟩, g1, g2, g3, g4⟩ := HC.out k hlt
      rw [← (bcell hB).1 _ _ hbk] at e0 e1 e2 e3 e4 e5 e6 e7 e8 e9 e10
      obtain ⟨q, hq⟩ : ∃ q, q = stmtB nv na d ss[k] := ⟨_, rfl⟩
      have HC3 : Hid (∀ X, Calls Try.prog 180 #[.agg #[.slice a1 nv c1, .slice a2 na c2, v3], .agg #[.int .i64 ss[k].kind, .int .i64 ss[k].target, .int .i64 ss[k].index.kind, .int .i64 ss[k].index.value, iv, .int .i64 ss[k].value.kind, .int .i64 ss[k].value.value, vv, .int .i64 ss[k].count, bv, ev], .int .i64 d] (wr.ext X) fun x w'' => x = .returned (.bool q) ∧ ∃ Y, w'' = wr.ext Y) := fun X => by
        have bb := hB.trans ((ext_below wr X).mono hB.size)
        rw [hq]
        exact Calls.ext_of' (ih _ φ _ _ (StmtV.nice _ _ _ _ _ _ (Agr.below bb) ⟨iv, vv, bv, ev, rfl, g1, g2, g3, g4⟩))
      have HQQ := show Hid _ from hq
      have HM := show Hid _ from M
      have j0 := fun X => ext_cell e0 X
      have j1 := fun X => ext_cell e1 X
      have j2 := fun X => ext_cell e2 X
      have j3 := fun X => ext_cell e3 X
      have j4 := fun X => ext_cell e4 X
      have j5 := fun X => ext_cell e5 X
      have j6 := fun X => ext_cell e6 X
      have j7 := fun X => ext_cell e7 X
      have j8 := fun X => ext_cell e8 X
      have j9 := fun X => ext_cell e9 X
      have j10 := fun X => ext_cell e10 X
      have z0 := fun X => ext_cell x0 X
      have z1 := fun X => ext_cell x1 X
      have z2 := fun X => ext_cell x2 X
      have hlt' : (k : Int) < ss.length := by omega
      clear g1 g2 g3 g4 hq e0 e1 e2 e3 e4 e5 e6 e7 e8 e9 e10 x0 x1 x2 M hB
      cases q
      · go_wp2_with fail
        refine wp_region_ext (by kernel_rfl) (by kernel_rfl) ?_
        repeat (any_goals (first | go_big_quiet_step (((go_at_call 180; exact HC3.out _))) | quiet_step (((go_at_call 180; exact HC3.out _)))))
        refine wpQuiet_nil ?_
        rintro _ ⟨X, rfl⟩
        go_wp2_with fail
        go_ret
        exact ⟨ret_bool (by symm; exact List.all_eq_false.2 ⟨_, List.getElem_mem hlt, by rw [← HQQ.out]; simp⟩), (HM.out.call (ext_below wr X)).below fun _ _ => trivial⟩
      · go_wp2_with fail
        refine wp_region_ext (by kernel_rfl) (by kernel_rfl) ?_
        repeat (any_goals (first | go_big_quiet_step (((go_at_call 180; exact HC3.out _))) | quiet_step (((go_at_call 180; exact HC3.out _)))))
        refine wpQuiet_nil ?_
        rintro _ ⟨X, rfl⟩
        go_wp2_with fail
        refine ⟨⟨k + 1, by omega, by go_num, ?_, HM.out.call (ext_below wr X)⟩, by simp [intOf]; omega⟩
        rw [p_take_succ _ _ hlt, List.all_append, HALL.out]
        simp [← HQQ.out]
    · have hkn : k = ss.length := by omega
      subst hkn
      have hall := HALL.out
      rw [List.take_of_length_le (Nat.le_refl _)] at hall
      have HAL := show Hid _ from hall
      have HB := show Hid _ from hB
      clear hall x0 x1 x2 M hB
      go_wp2_with fail
      go_ret
      exact ⟨ret_bool HAL.out.symm, HB.out⟩

set_option maxRecDepth 100000 in
set_option maxHeartbeats 8000000 in
theorem l2Stmt_of (a1 a2 : Option Addr) (nv c1 na c2 : Nat) (v3 : Value) (h1 : nv ≤ 9223372036854775807) (h2 : na ≤ 9223372036854775807) : ∀ d : Nat, d ≤ 5 → StB a1 a2 nv c1 na c2 v3 d := by
  intro d
  induction d with
  | zero =>
    intro _ s φ v w h
    obtain ⟨ai, ci, av, cv, ab, cb, ae, ce, rfl, -, -⟩ := h.form
    have HP : Hid (stmtB nv na 0 s = false) := rfl
    clear h
    go_enter Try.func180, Try.ntmps180
    go_wp2_with fail
    go_ret
    exact ⟨ret_bool HP.out.symm, by go_grown⟩
  | succ d ih0 =>
    intro hd5 s φ v w h
    have ih := ih0 (by omega)
    clear ih0
    have hfull := h
    obtain ⟨ai, ci, av, cv, ab, cb, ae, ce, rfl, ⟨g1, g2, g3, g4⟩, -⟩ := h.form
    have hd0 : (d : Int) ≤ 5 := by omega
    have p9 : decide ((d : Int) + 1 < 1) = false := decide_eq_false (by omega)
    have HD0 : Hid (stmtB nv na (d + 1) s = (partsB s && (if s.kind = 1 ∨ s.kind = 5 then decide (0 ≤ s.target) && decide (s.target < (nv : Int)) && rightB nv na s.value else if s.kind = 2 then decide (0 ≤ s.target) && decide (s.target < (na : Int)) && rightB nv na s.index && atomB s.index && rightB nv na s.value
      else if s.kind = 3 then rightB nv na s.value && s.body.all (stmtB nv na d) && s.els.all (stmtB nv na d) else if s.kind = 4 then s.body.all (stmtB nv na d) else false))) := rfl
    have HG : Hid (∀ W, Below w.heap.size w W → ExprV W φ (.agg #[.int .i64 s.index.kind, .int .i64 s.index.value, .slice ai s.index.kids.length ci]) s.index ∧ ExprV W φ (.agg #[.int .i64 s.value.kind, .int .i64 s.value.value, .slice av s.value.kids.length cv]) s.value ∧ BlockV W φ (.slice ab s.body.length cb) s.body ∧ BlockV W φ (.slice ae s.els.length ce) s.els) := fun W k =>
      ⟨⟨_, rfl, KidsV.nice _ _ _ _ _ _ (Agr.below k) g1⟩, ⟨_, rfl, KidsV.nice _ _ _ _ _ _ (Agr.below k) g2⟩, BlockV.nice _ _ _ _ _ _ (Agr.below k) g3, BlockV.nice _ _ _ _ _ _ (Agr.below k) g4⟩
    have HF : Hid (∀ W, Below w.heap.size w W → StmtV W φ (.agg #[.int .i64 s.kind, .int .i64 s.target, .int .i64 s.index.kind, .int .i64 s.index.value, .slice ai s.index.kids.length ci, .int .i64 s.value.kind, .int .i64 s.value.value, .slice av s.value.kids.length cv, .int .i64 s.count, .slice ab s.body.length cb, .slice ae s.els.length ce]) s) := fun W k => StmtV.nice _ _ _ _ _ _ (Agr.below k) hfull
    obtain ⟨W, hW, M⟩ : ∃ W, W = (w.alloc (.cells #[.slice a1 nv c1, .slice a2 na c2, v3] 31)).alloc (.cells #[.int .i64 s.kind, .int .i64 s.target, .int .i64 s.index.kind, .int .i64 s.index.value, .slice ai s.index.kids.length ci, .int .i64 s.value.kind, .int .i64 s.value.value, .slice av s.value.kids.length cv, .int .i64 s.count, .slice ab s.body.length cb, .slice ae s.els.length ce] 135) ∧ Mem (fun _ => True) (fun _ => True) w W [.box w.heap.size [.slice a1 nv c1, .slice a2 na c2, v3], .box (w.heap.size + 1) [.int .i64 s.kind, .int .i64 s.target, .int .i64 s.index.kind, .int .i64 s.index.value, .slice ai s.index.kids.length ci, .int .i64 s.value.kind, .int .i64 s.value.value, .slice av s.value.kids.length cv, .int .i64 s.count, .slice ab s.body.length cb, .slice ae s.els.length ce]] :=
      ⟨_, rfl, ((Mem.start fun _ _ => trivial).box _ _).box' _ _ (by simp)⟩
    clear g1 g2 g3 g4 h hfull
    have c0 := M.c 1 0 rfl rfl
    have c1 := M.c 1 1 rfl rfl
    have c2 := M.c 1 2 rfl rfl
    have c3 := M.c 1 3 rfl rfl
    have c4 := M.c 1 4 rfl rfl
    have c5 := M.c 1 5 rfl rfl
    have c6 := M.c 1 6 rfl rfl
    have c7 := M.c 1 7 rfl rfl
    have c8 := M.c 1 8 rfl rfl
    have c9 := M.c 1 9 rfl rfl
    have c10 := M.c 1 10 rfl rfl
    have x0 := M.c 0 0 rfl rfl
    have x1 := M.c 0 1 rfl rfl
    have x2 := M.c 0 2 rfl rfl
    have HM := show Hid _ from M
    rw [hW] at c0 c1 c2 c3 c4 c5 c6 c7 c8 c9 c10 x0 x1 x2
    clear M
    go_enter Try.func180, Try.ntmps180
    go_wp2_with fail
    rw [← hW]
    clear hW
    have M := HM.out
    clear HM c0 c1 c2 c3 c4 c5 c6 c7 c8 c9 c10 x0 x1 x2
    refine (spec_l2Parts φ _ s _ (HF.out _ (M.below fun _ _ => trivial))).mono ?_
    rintro x w1 ⟨rfl, b1⟩
    replace M := M.call b1
    clear b1
    obtain ⟨b, hb⟩ : ∃ b, b = partsB s := ⟨_, rfl⟩
    rw [← hb]
    have HB := show Hid _ from hb
    clear hb
    cases b
    · have HP : Hid (stmtB nv na (d + 1) s = false) := by rw [Hid, HD0.out, ← HB.out]; rfl
      clear HD0 HB
      have c0 := M.c 1 0 rfl rfl
      have c1 := M.c 1 1 rfl rfl
      have c2 := M.c 1 2 rfl rfl
      have c3 := M.c 1 3 rfl rfl
      have c4 := M.c 1 4 rfl rfl
      have c5 := M.c 1 5 rfl rfl
      have c6 := M.c 1 6 rfl rfl
      have c7 := M.c 1 7 rfl rfl
      have c8 := M.c 1 8 rfl rfl
      have c9 := M.c 1 9 rfl rfl
      have c10 := M.c 1 10 rfl rfl
      have x0 := M.c 0 0 rfl rfl
      have x1 := M.c 0 1 rfl rfl
      have x2 := M.c 0 2 rfl rfl
      have HM := show Hid _ from M
      clear M
      go_wp2_with fail
      go_ret
      exact ⟨ret_bool (by rw [HP.out]), HM.out.below fun _ _ => trivial⟩
    have HD := show Hid (stmtB nv na (d + 1) s = (if s.kind = 1 ∨ s.kind = 5 then decide (0 ≤ s.target) && decide (s.target < (nv : Int)) && rightB nv na s.value else if s.kind = 2 then decide (0 ≤ s.target) && decide (s.target < (na : Int)) && rightB nv na s.index && atomB s.index && rightB nv na s.value
      else if s.kind = 3 then rightB nv na s.value && s.body.all (stmtB nv na d) && s.els.all (stmtB nv na d) else if s.kind = 4 then s.body.all (stmtB nv na d) else false)) from by rw [Hid, HD0.out, ← HB.out]; rfl
    clear HD0 HB
    by_cases qk : s.kind = 1
    · have k1 : (s.kind == 1) = true := by simp [qk]
      have k5 : (s.kind == 5) = false := by simp [qk]
      have k2 : (s.kind == 2) = false := by simp [qk]
      have k3 : (s.kind == 3) = false := by simp [qk]
      have k4 : (s.kind == 4) = false := by simp [qk]
      have HP1 := show Hid (stmtB nv na (d + 1) s = (decide (0 ≤ s.target) && decide (s.target < (nv : Int)) && rightB nv na s.value)) from by rw [Hid, HD.out, if_pos (.inl qk)]
      clear qk
      have HP0 := show Hid (stmtB nv na (d + 1) s = (decide (0 ≤ s.target) && decide (s.target < (nv : Int)) && rightB nv na s.value)) from HP1.out
      clear HP1
      by_cases t0 : 0 ≤ s.target
      case neg =>
        have p0 : decide (0 ≤ s.target) = false := decide_eq_false t0
        have HP : Hid (stmtB nv na (d + 1) s = false) := by rw [Hid, HP0.out, p0]; rfl
        clear HP0 t0
        have c0 := M.c 1 0 rfl rfl
        have c1 := M.c 1 1 rfl rfl
        have c2 := M.c 1 2 rfl rfl
        have c3 := M.c 1 3 rfl rfl
        have c4 := M.c 1 4 rfl rfl
        have c5 := M.c 1 5 rfl rfl
        have c6 := M.c 1 6 rfl rfl
        have c7 := M.c 1 7 rfl rfl
        have c8 := M.c 1 8 rfl rfl
        have c9 := M.c 1 9 rfl rfl
        have c10 := M.c 1 10 rfl rfl
        have x0 := M.c 0 0 rfl rfl
        have x1 := M.c 0 1 rfl rfl
        have x2 := M.c 0 2 rfl rfl
        have HM := show Hid _ from M
        clear M
        go_wp2_with fail
        go_ret
        exact ⟨ret_bool (by rw [HP.out]), HM.out.below fun _ _ => trivial⟩
      have p0 : decide (0 ≤ s.target) = true := decide_eq_true t0
      by_cases t1 : s.target < (nv : Int)
      case neg =>
        have p1 : decide (s.target < (nv : Int)) = false := decide_eq_false t1
        have HP : Hid (stmtB nv na (d + 1) s = false) := by rw [Hid, HP0.out, p0, p1]; rfl
        clear HP0 t0 t1
        have c0 := M.c 1 0 rfl rfl
        have c1 := M.c 1 1 rfl rfl
        have c2 := M.c 1 2 rfl rfl
        have c3 := M.c 1 3 rfl rfl
        have c4 := M.c 1 4 rfl rfl
        have c5 := M.c 1 5 rfl rfl
        have c6 := M.c 1 6 rfl rfl
        have c7 := M.c 1 7 rfl rfl
        have c8 := M.c 1 8 rfl rfl
        have c9 := M.c 1 9 rfl rfl
        have c10 := M.c 1 10 rfl rfl
        have x0 := M.c 0 0 rfl rfl
        have x1 := M.c 0 1 rfl rfl
        have x2 := M.c 0 2 rfl rfl
        have HM := show Hid _ from M
        clear M
        go_wp2_with fail
        go_ret
        exact ⟨ret_bool (by rw [HP.out]), HM.out.below fun _ _ => trivial⟩
      have p1 : decide (s.target < (nv : Int)) = true := decide_eq_true t1
      have HP1 := show Hid (stmtB nv na (d + 1) s = (rightB nv na s.value)) from by rw [Hid, HP0.out, p0, p1]; rfl
      clear HP0 t0 t1
      have HP0 := show Hid (stmtB nv na (d + 1) s = (rightB nv na s.value)) from HP1.out
      clear HP1
      have c0 := M.c 1 0 rfl rfl
      have c1 := M.c 1 1 rfl rfl
      have c2 := M.c 1 2 rfl rfl
      have c3 := M.c 1 3 rfl rfl
      have c4 := M.c 1 4 rfl rfl
      have c5 := M.c 1 5 rfl rfl
      have c6 := M.c 1 6 rfl rfl
      have c7 := M.c 1 7 rfl rfl
      have c8 := M.c 1 8 rfl rfl
      have c9 := M.c 1 9 rfl rfl
      have c10 := M.c 1 10 rfl rfl
      have x0 := M.c 0 0 rfl rfl
      have x1 := M.c 0 1 rfl rfl
      have x2 := M.c 0 2 rfl rfl
      have HM := show Hid _ from M
      clear M
      go_wp2_with fail
      have M := HM.out
      clear HM c0 c1 c2 c3 c4 c5 c6 c7 c8 c9 c10 x0 x1 x2
      refine (spec_l2Right a1 a2 nv c1 na c2 v3 h1 h2 s.value φ _ _ (HG.out _ (M.below fun _ _ => trivial)).2.1).mono ?_
      rintro x w1 ⟨rfl, b1⟩
      replace M := M.call b1
      clear b1
      have HP : Hid (stmtB nv na (d + 1) s = rightB nv na s.value) := HP0.out
      clear HP0
      have HM := show Hid _ from M
      clear M
      go_wp2_with fail
      go_ret
      exact ⟨ret_bool (by rw [HP.out]), HM.out.below fun _ _ => trivial⟩
    have qn1 := qk
    clear qk
    by_cases qk : s.kind = 5
    · have k1 : (s.kind == 1) = false := by simp [qk]
      have k5 : (s.kind == 5) = true := by simp [qk]
      have k2 : (s.kind == 2) = false := by simp [qk]
      have k3 : (s.kind == 3) = false := by simp [qk]
      have k4 : (s.kind == 4) = false := by simp [qk]
      have HP1 := show Hid (stmtB nv na (d + 1) s = (decide (0 ≤ s.target) && decide (s.target < (nv : Int)) && rightB nv na s.value)) from by rw [Hid, HD.out, if_pos (.inr qk)]
      clear qk
      have HP0 := show Hid (stmtB nv na (d + 1) s = (decide (0 ≤ s.target) && decide (s.target < (nv : Int)) && rightB nv na s.value)) from HP1.out
      clear HP1
      by_cases t0 : 0 ≤ s.target
      case neg =>
        have p0 : decide (0 ≤ s.target) = false := decide_eq_false t0
        have HP : Hid (stmtB nv na (d + 1) s = false) := by rw [Hid, HP0.out, p0]; rfl
        clear HP0 t0
        have c0 := M.c 1 0 rfl rfl
        have c1 := M.c 1 1 rfl rfl
        have c2 := M.c 1 2 rfl rfl
        have c3 := M.c 1 3 rfl rfl
        have c4 := M.c 1 4 rfl rfl
        have c5 := M.c 1 5 rfl rfl
        have c6 := M.c 1 6 rfl rfl
        have c7 := M.c 1 7 rfl rfl
        have c8 := M.c 1 8 rfl rfl
        have c9 := M.c 1 9 rfl rfl
        have c10 := M.c 1 10 rfl rfl
        have x0 := M.c 0 0 rfl rfl
        have x1 := M.c 0 1 rfl rfl
        have x2 := M.c 0 2 rfl rfl
        have HM := show Hid _ from M
        clear M
        go_wp2_with fail
        go_ret
        exact ⟨ret_bool (by rw [HP.out]), HM.out.below fun _ _ => trivial⟩
      have p0 : decide (0 ≤ s.target) = true := decide_eq_true t0
      by_cases t1 : s.target < (nv : Int)
      case neg =>
        have p1 : decide (s.target < (nv : Int)) = false := decide_eq_false t1
        have HP : Hid (stmtB nv na (d + 1) s = false) := by rw [Hid, HP0.out, p0, p1]; rfl
        clear HP0 t0 t1
        have c0 := M.c 1 0 rfl rfl
        have c1 := M.c 1 1 rfl rfl
        have c2 := M.c 1 2 rfl rfl
        have c3 := M.c 1 3 rfl rfl
        have c4 := M.c 1 4 rfl rfl
        have c5 := M.c 1 5 rfl rfl
        have c6 := M.c 1 6 rfl rfl
        have c7 := M.c 1 7 rfl rfl
        have c8 := M.c 1 8 rfl rfl
        have c9 := M.c 1 9 rfl rfl
        have c10 := M.c 1 10 rfl rfl
        have x0 := M.c 0 0 rfl rfl
        have x1 := M.c 0 1 rfl rfl
        have x2 := M.c 0 2 rfl rfl
        have HM := show Hid _ from M
        clear M
        go_wp2_with fail
        go_ret
        exact ⟨ret_bool (by rw [HP.out]), HM.out.below fun _ _ => trivial⟩
      have p1 : decide (s.target < (nv : Int)) = true := decide_eq_true t1
      have HP1 := show Hid (stmtB nv na (d + 1) s = (rightB nv na s.value)) from by rw [Hid, HP0.out, p0, p1]; rfl
      clear HP0 t0 t1
      have HP0 := show Hid (stmtB nv na (d + 1) s = (rightB nv na s.value)) from HP1.out
      clear HP1
      have c0 := M.c 1 0 rfl rfl
      have c1 := M.c 1 1 rfl rfl
      have c2 := M.c 1 2 rfl rfl
      have c3 := M.c 1 3 rfl rfl
      have c4 := M.c 1 4 rfl rfl
      have c5 := M.c 1 5 rfl rfl
      have c6 := M.c 1 6 rfl rfl
      have c7 := M.c 1 7 rfl rfl
      have c8 := M.c 1 8 rfl rfl
      have c9 := M.c 1 9 rfl rfl
      have c10 := M.c 1 10 rfl rfl
      have x0 := M.c 0 0 rfl rfl
      have x1 := M.c 0 1 rfl rfl
      have x2 := M.c 0 2 rfl rfl
      have HM := show Hid _ from M
      clear M
      go_wp2_with fail
      have M := HM.out
      clear HM c0 c1 c2 c3 c4 c5 c6 c7 c8 c9 c10 x0 x1 x2
      refine (spec_l2Right a1 a2 nv c1 na c2 v3 h1 h2 s.value φ _ _ (HG.out _ (M.below fun _ _ => trivial)).2.1).mono ?_
      rintro x w1 ⟨rfl, b1⟩
      replace M := M.call b1
      clear b1
      have HP : Hid (stmtB nv na (d + 1) s = rightB nv na s.value) := HP0.out
      clear HP0
      have HM := show Hid _ from M
      clear M
      go_wp2_with fail
      go_ret
      exact ⟨ret_bool (by rw [HP.out]), HM.out.below fun _ _ => trivial⟩
    have qn5 := qk
    clear qk
    by_cases qk : s.kind = 2
    · have k1 : (s.kind == 1) = false := by simp [qk]
      have k5 : (s.kind == 5) = false := by simp [qk]
      have k2 : (s.kind == 2) = true := by simp [qk]
      have k3 : (s.kind == 3) = false := by simp [qk]
      have k4 : (s.kind == 4) = false := by simp [qk]
      have HP1 := show Hid (stmtB nv na (d + 1) s = (decide (0 ≤ s.target) && decide (s.target < (na : Int)) && rightB nv na s.index && atomB s.index && rightB nv na s.value)) from by rw [Hid, HD.out, if_neg (by omega), if_pos qk]
      clear qk
      have HP0 := show Hid (stmtB nv na (d + 1) s = (decide (0 ≤ s.target) && decide (s.target < (na : Int)) && rightB nv na s.index && atomB s.index && rightB nv na s.value)) from HP1.out
      clear HP1
      by_cases t0 : 0 ≤ s.target
      case neg =>
        have p0 : decide (0 ≤ s.target) = false := decide_eq_false t0
        have HP : Hid (stmtB nv na (d + 1) s = false) := by rw [Hid, HP0.out, p0]; rfl
        clear HP0 t0
        have c0 := M.c 1 0 rfl rfl
        have c1 := M.c 1 1 rfl rfl
        have c2 := M.c 1 2 rfl rfl
        have c3 := M.c 1 3 rfl rfl
        have c4 := M.c 1 4 rfl rfl
        have c5 := M.c 1 5 rfl rfl
        have c6 := M.c 1 6 rfl rfl
        have c7 := M.c 1 7 rfl rfl
        have c8 := M.c 1 8 rfl rfl
        have c9 := M.c 1 9 rfl rfl
        have c10 := M.c 1 10 rfl rfl
        have x0 := M.c 0 0 rfl rfl
        have x1 := M.c 0 1 rfl rfl
        have x2 := M.c 0 2 rfl rfl
        have HM := show Hid _ from M
        clear M
        go_wp2_with fail
        go_ret
        exact ⟨ret_bool (by rw [HP.out]), HM.out.below fun _ _ => trivial⟩
      have p0 : decide (0 ≤ s.target) = true := decide_eq_true t0
      by_cases t1 : s.target < (na : Int)
      case neg =>
        have p1 : decide (s.target < (na : Int)) = false := decide_eq_false t1
        have HP : Hid (stmtB nv na (d + 1) s = false) := by rw [Hid, HP0.out, p0, p1]; rfl
        clear HP0 t0 t1
        have c0 := M.c 1 0 rfl rfl
        have c1 := M.c 1 1 rfl rfl
        have c2 := M.c 1 2 rfl rfl
        have c3 := M.c 1 3 rfl rfl
        have c4 := M.c 1 4 rfl rfl
        have c5 := M.c 1 5 rfl rfl
        have c6 := M.c 1 6 rfl rfl
        have c7 := M.c 1 7 rfl rfl
        have c8 := M.c 1 8 rfl rfl
        have c9 := M.c 1 9 rfl rfl
        have c10 := M.c 1 10 rfl rfl
        have x0 := M.c 0 0 rfl rfl
        have x1 := M.c 0 1 rfl rfl
        have x2 := M.c 0 2 rfl rfl
        have HM := show Hid _ from M
        clear M
        go_wp2_with fail
        go_ret
        exact ⟨ret_bool (by rw [HP.out]), HM.out.below fun _ _ => trivial⟩
      have p1 : decide (s.target < (na : Int)) = true := decide_eq_true t1
      have HP1 := show Hid (stmtB nv na (d + 1) s = (rightB nv na s.index && atomB s.index && rightB nv na s.value)) from by rw [Hid, HP0.out, p0, p1]; rfl
      clear HP0 t0 t1
      have HP0 := show Hid (stmtB nv na (d + 1) s = (rightB nv na s.index && atomB s.index && rightB nv na s.value)) from HP1.out
      clear HP1
      have c0 := M.c 1 0 rfl rfl
      have c1 := M.c 1 1 rfl rfl
      have c2 := M.c 1 2 rfl rfl
      have c3 := M.c 1 3 rfl rfl
      have c4 := M.c 1 4 rfl rfl
      have c5 := M.c 1 5 rfl rfl
      have c6 := M.c 1 6 rfl rfl
      have c7 := M.c 1 7 rfl rfl
      have c8 := M.c 1 8 rfl rfl
      have c9 := M.c 1 9 rfl rfl
      have c10 := M.c 1 10 rfl rfl
      have x0 := M.c 0 0 rfl rfl
      have x1 := M.c 0 1 rfl rfl
      have x2 := M.c 0 2 rfl rfl
      have HM := show Hid _ from M
      clear M
      go_wp2_with fail
      have M := HM.out
      clear HM c0 c1 c2 c3 c4 c5 c6 c7 c8 c9 c10 x0 x1 x2
      refine (spec_l2Right a1 a2 nv c1 na c2 v3 h1 h2 s.index φ _ _ (HG.out _ (M.below fun _ _ => trivial)).1).mono ?_
      rintro x w1 ⟨rfl, b1⟩
      replace M := M.call b1
      clear b1
      obtain ⟨b, hb⟩ : ∃ b, b = rightB nv na s.index := ⟨_, rfl⟩
      rw [← hb]
      have HB := show Hid _ from hb
      clear hb
      cases b
      · have HP : Hid (stmtB nv na (d + 1) s = false) := by rw [Hid, HP0.out, ← HB.out]; rfl
        clear HP0
        have c0 := M.c 1 0 rfl rfl
        have c1 := M.c 1 1 rfl rfl
        have c2 := M.c 1 2 rfl rfl
        have c3 := M.c 1 3 rfl rfl
        have c4 := M.c 1 4 rfl rfl
        have c5 := M.c 1 5 rfl rfl
        have c6 := M.c 1 6 rfl rfl
        have c7 := M.c 1 7 rfl rfl
        have c8 := M.c 1 8 rfl rfl
        have c9 := M.c 1 9 rfl rfl
        have c10 := M.c 1 10 rfl rfl
        have x0 := M.c 0 0 rfl rfl
        have x1 := M.c 0 1 rfl rfl
        have x2 := M.c 0 2 rfl rfl
        have HM := show Hid _ from M
        clear M
        go_wp2_with fail
        go_ret
        exact ⟨ret_bool (by rw [HP.out]), HM.out.below fun _ _ => trivial⟩
      · have HP1 := show Hid (stmtB nv na (d + 1) s = (atomB s.index && rightB nv na s.value)) from by rw [Hid, HP0.out, ← HB.out]; rfl
        clear HP0 HB
        have HP0 := show Hid (stmtB nv na (d + 1) s = (atomB s.index && rightB nv na s.value)) from HP1.out
        clear HP1
        have c0 := M.c 1 0 rfl rfl
        have c1 := M.c 1 1 rfl rfl
        have c2 := M.c 1 2 rfl rfl
        have c3 := M.c 1 3 rfl rfl
        have c4 := M.c 1 4 rfl rfl
        have c5 := M.c 1 5 rfl rfl
        have c6 := M.c 1 6 rfl rfl
        have c7 := M.c 1 7 rfl rfl
        have c8 := M.c 1 8 rfl rfl
        have c9 := M.c 1 9 rfl rfl
        have c10 := M.c 1 10 rfl rfl
        have x0 := M.c 0 0 rfl rfl
        have x1 := M.c 0 1 rfl rfl
        have x2 := M.c 0 2 rfl rfl
        have HM := show Hid _ from M
        clear M
        go_wp2_with fail
        have M := HM.out
        clear HM c0 c1 c2 c3 c4 c5 c6 c7 c8 c9 c10 x0 x1 x2
        refine (spec_l2Atom _ _ _ _).mono ?_
        rintro x w1 ⟨rfl, b1⟩
        replace M := M.call b1
        clear b1
        rw [show (decide (s.index.kind = 1) || decide (s.index.kind = 2)) = atomB s.index from rfl]
        obtain ⟨b, hb⟩ : ∃ b, b = atomB s.index := ⟨_, rfl⟩
        rw [← hb]
        have HB := show Hid _ from hb
        clear hb
        cases b
        · have HP : Hid (stmtB nv na (d + 1) s = false) := by rw [Hid, HP0.out, ← HB.out]; rfl
          clear HP0
          have c0 := M.c 1 0 rfl rfl
          have c1 := M.c 1 1 rfl rfl
          have c2 := M.c 1 2 rfl rfl
          have c3 := M.c 1 3 rfl rfl
          have c4 := M.c 1 4 rfl rfl
          have c5 := M.c 1 5 rfl rfl
          have c6 := M.c 1 6 rfl rfl
          have c7 := M.c 1 7 rfl rfl
          have c8 := M.c 1 8 rfl rfl
          have c9 := M.c 1 9 rfl rfl
          have c10 := M.c 1 10 rfl rfl
          have x0 := M.c 0 0 rfl rfl
          have x1 := M.c 0 1 rfl rfl
          have x2 := M.c 0 2 rfl rfl
          have HM := show Hid _ from M
          clear M
          go_wp2_with fail
          go_ret
          exact ⟨ret_bool (by rw [HP.out]), HM.out.below fun _ _ => trivial⟩
        · have HP1 := show Hid (stmtB nv na (d + 1) s = (rightB nv na s.value)) from by rw [Hid, HP0.out, ← HB.out]; rfl
          clear HP0 HB
          have HP0 := show Hid (stmtB nv na (d + 1) s = (rightB nv na s.value)) from HP1.out
          clear HP1
          have c0 := M.c 1 0 rfl rfl
          have c1 := M.c 1 1 rfl rfl
          have c2 := M.c 1 2 rfl rfl
          have c3 := M.c 1 3 rfl rfl
          have c4 := M.c 1 4 rfl rfl
          have c5 := M.c 1 5 rfl rfl
          have c6 := M.c 1 6 rfl rfl
          have c7 := M.c 1 7 rfl rfl
          have c8 := M.c 1 8 rfl rfl
          have c9 := M.c 1 9 rfl rfl
          have c10 := M.c 1 10 rfl rfl
          have x0 := M.c 0 0 rfl rfl
          have x1 := M.c 0 1 rfl rfl
          have x2 := M.c 0 2 rfl rfl
          have HM := show Hid _ from M
          clear M
          go_wp2_with fail
          have M := HM.out
          clear HM c0 c1 c2 c3 c4 c5 c6 c7 c8 c9 c10 x0 x1 x2
          refine (spec_l2Right a1 a2 nv c1 na c2 v3 h1 h2 s.value φ _ _ (HG.out _ (M.below fun _ _ => trivial)).2.1).mono ?_
          rintro x w1 ⟨rfl, b1⟩
          replace M := M.call b1
          clear b1
          have HP : Hid (stmtB nv na (d + 1) s = rightB nv na s.value) := HP0.out
          clear HP0
          have HM := show Hid _ from M
          clear M
          go_wp2_with fail
          go_ret
          exact ⟨ret_bool (by rw [HP.out]), HM.out.below fun _ _ => trivial⟩
    have qn2 := qk
    clear qk
    by_cases qk : s.kind = 3
    · have k1 : (s.kind == 1) = false := by simp [qk]
      have k5 : (s.kind == 5) = false := by simp [qk]
      have k2 : (s.kind == 2) = false := by simp [qk]
      have k3 : (s.kind == 3) = true := by simp [qk]
      have k4 : (s.kind == 4) = false := by simp [qk]
      have HP1 := show Hid (stmtB nv na (d + 1) s = (rightB nv na s.value && s.body.all (stmtB nv na d) && s.els.all (stmtB nv na d))) from by rw [Hid, HD.out, if_neg (by omega), if_neg (by omega), if_pos qk]
      clear qk
      have HP0 := show Hid (stmtB nv na (d + 1) s = (rightB nv na s.value && s.body.all (stmtB nv na d) && s.els.all (stmtB nv na d))) from HP1.out
      clear HP1
      have c0 := M.c 1 0 rfl rfl
      have c1 := M.c 1 1 rfl rfl
      have c2 := M.c 1 2 rfl rfl
      have c3 := M.c 1 3 rfl rfl
      have c4 := M.c 1 4 rfl rfl
      have c5 := M.c 1 5 rfl rfl
      have c6 := M.c 1 6 rfl rfl
      have c7 := M.c 1 7 rfl rfl
      have c8 := M.c 1 8 rfl rfl
      have c9 := M.c 1 9 rfl rfl
      have c10 := M.c 1 10 rfl rfl
      have x0 := M.c 0 0 rfl rfl
      have x1 := M.c 0 1 rfl rfl
      have x2 := M.c 0 2 rfl rfl
      have HM := show Hid _ from M
      clear M
      go_wp2_with fail
      have M := HM.out
      clear HM c0 c1 c2 c3 c4 c5 c6 c7 c8 c9 c10 x0 x1 x2
      refine (spec_l2Right a1 a2 nv c1 na c2 v3 h1 h2 s.value φ _ _ (HG.out _ (M.below fun _ _ => trivial)).2.1).mono ?_
      rintro x w1 ⟨rfl, b1⟩
      replace M := M.call b1
      clear b1
      obtain ⟨b, hb⟩ : ∃ b, b = rightB nv na s.value := ⟨_, rfl⟩
      rw [← hb]
      have HB := show Hid _ from hb
      clear hb
      cases b
      · have HP : Hid (stmtB nv na (d + 1) s = false) := by rw [Hid, HP0.out, ← HB.out]; rfl
        clear HP0
        have c0 := M.c 1 0 rfl rfl
        have c1 := M.c 1 1 rfl rfl
        have c2 := M.c 1 2 rfl rfl
        have c3 := M.c 1 3 rfl rfl
        have c4 := M.c 1 4 rfl rfl
        have c5 := M.c 1 5 rfl rfl
        have c6 := M.c 1 6 rfl rfl
        have c7 := M.c 1 7 rfl rfl
        have c8 := M.c 1 8 rfl rfl
        have c9 := M.c 1 9 rfl rfl
        have c10 := M.c 1 10 rfl rfl
        have x0 := M.c 0 0 rfl rfl
        have x1 := M.c 0 1 rfl rfl
        have x2 := M.c 0 2 rfl rfl
        have HM := show Hid _ from M
        clear M
        go_wp2_with fail
        go_ret
        exact ⟨ret_bool (by rw [HP.out]), HM.out.below fun _ _ => trivial⟩
      · have HP1 := show Hid (stmtB nv na (d + 1) s = (s.body.all (stmtB nv na d) && s.els.all (stmtB nv na d))) from by rw [Hid, HP0.out, ← HB.out]; rfl
        clear HP0 HB
        have HP0 := show Hid (stmtB nv na (d + 1) s = (s.body.all (stmtB nv na d) && s.els.all (stmtB nv na d))) from HP1.out
        clear HP1
        have c0 := M.c 1 0 rfl rfl
        have c1 := M.c 1 1 rfl rfl
        have c2 := M.c 1 2 rfl rfl
        have c3 := M.c 1 3 rfl rfl
        have c4 := M.c 1 4 rfl rfl
        have c5 := M.c 1 5 rfl rfl
        have c6 := M.c 1 6 rfl rfl
        have c7 := M.c 1 7 rfl rfl
        have c8 := M.c 1 8 rfl rfl
        have c9 := M.c 1 9 rfl rfl
        have c10 := M.c 1 10 rfl rfl
        have x0 := M.c 0 0 rfl rfl
        have x1 := M.c 0 1 rfl rfl
        have x2 := M.c 0 2 rfl rfl
        have HM := show Hid _ from M
        clear M
        go_wp2_with fail
        have M := HM.out
        clear HM c0 c1 c2 c3 c4 c5 c6 c7 c8 c9 c10 x0 x1 x2
        refine (l2Block_of a1 a2 nv c1 na c2 v3 d (by omega) ih s.body φ _ _ (HG.out _ (M.below fun _ _ => trivial)).2.2.1).mono ?_
        rintro x w1 ⟨rfl, b1⟩
        replace M := M.call b1
        clear b1
        obtain ⟨b, hb⟩ : ∃ b, b = s.body.all (stmtB nv na d) := ⟨_, rfl⟩
        rw [← hb]
        have HB := show Hid _ from hb
        clear hb
        cases b
        · have HP : Hid (stmtB nv na (d + 1) s = false) := by rw [Hid, HP0.out, ← HB.out]; rfl
          clear HP0
          have c0 := M.c 1 0 rfl rfl
          have c1 := M.c 1 1 rfl rfl
          have c2 := M.c 1 2 rfl rfl
          have c3 := M.c 1 3 rfl rfl
          have c4 := M.c 1 4 rfl rfl
          have c5 := M.c 1 5 rfl rfl
          have c6 := M.c 1 6 rfl rfl
          have c7 := M.c 1 7 rfl rfl
          have c8 := M.c 1 8 rfl rfl
          have c9 := M.c 1 9 rfl rfl
          have c10 := M.c 1 10 rfl rfl
          have x0 := M.c 0 0 rfl rfl
          have x1 := M.c 0 1 rfl rfl
          have x2 := M.c 0 2 rfl rfl
          have HM := show Hid _ from M
          clear M
          go_wp2_with fail
          go_ret
          exact ⟨ret_bool (by rw [HP.out]), HM.out.below fun _ _ => trivial⟩
        · have HP1 := show Hid (stmtB nv na (d + 1) s = (s.els.all (stmtB nv na d))) from by rw [Hid, HP0.out, ← HB.out]; rfl
          clear HP0 HB
          have HP0 := show Hid (stmtB nv na (d + 1) s = (s.els.all (stmtB nv na d))) from HP1.out
          clear HP1
          have c0 := M.c 1 0 rfl rfl
          have c1 := M.c 1 1 rfl rfl
          have c2 := M.c 1 2 rfl rfl
          have c3 := M.c 1 3 rfl rfl
          have c4 := M.c 1 4 rfl rfl
          have c5 := M.c 1 5 rfl rfl
          have c6 := M.c 1 6 rfl rfl
          have c7 := M.c 1 7 rfl rfl
          have c8 := M.c 1 8 rfl rfl
          have c9 := M.c 1 9 rfl rfl
          have c10 := M.c 1 10 rfl rfl
          have x0 := M.c 0 0 rfl rfl
          have x1 := M.c 0 1 rfl rfl
          have x2 := M.c 0 2 rfl rfl
          have HM := show Hid _ from M
          clear M
          go_wp2_with fail
          have M := HM.out
          clear HM c0 c1 c2 c3 c4 c5 c6 c7 c8 c9 c10 x0 x1 x2
          refine (l2Block_of a1 a2 nv c1 na c2 v3 d (by omega) ih s.els φ _ _ (HG.out _ (M.below fun _ _ => trivial)).2.2.2).mono ?_
          rintro x w1 ⟨rfl, b1⟩
          replace M := M.call b1
          clear b1
          have HP : Hid (stmtB nv na (d + 1) s = (s.els.all (stmtB nv na d))) := HP0.out
          clear HP0
          have HM := show Hid _ from M
          clear M
          go_wp2_with fail
          go_ret
          exact ⟨ret_bool (by rw [HP.out]), HM.out.below fun _ _ => trivial⟩
    have qn3 := qk
    clear qk
    by_cases qk : s.kind = 4
    · have k1 : (s.kind == 1) = false := by simp [qk]
      have k5 : (s.kind == 5) = false := by simp [qk]
      have k2 : (s.kind == 2) = false := by simp [qk]
      have k3 : (s.kind == 3) = false := by simp [qk]
      have k4 : (s.kind == 4) = true := by simp [qk]
      have HP1 := show Hid (stmtB nv na (d + 1) s = ((s.body.all (stmtB nv na d)))) from by rw [Hid, HD.out, if_neg (by omega), if_neg (by omega), if_neg (by omega), if_pos qk]
      clear qk
      have HP0 := show Hid (stmtB nv na (d + 1) s = ((s.body.all (stmtB nv na d)))) from HP1.out
      clear HP1
      have c0 := M.c 1 0 rfl rfl
      have c1 := M.c 1 1 rfl rfl
      have c2 := M.c 1 2 rfl rfl
      have c3 := M.c 1 3 rfl rfl
      have c4 := M.c 1 4 rfl rfl
      have c5 := M.c 1 5 rfl rfl
      have c6 := M.c 1 6 rfl rfl
      have c7 := M.c 1 7 rfl rfl
      have c8 := M.c 1 8 rfl rfl
      have c9 := M.c 1 9 rfl rfl
      have c10 := M.c 1 10 rfl rfl
      have x0 := M.c 0 0 rfl rfl
      have x1 := M.c 0 1 rfl rfl
      have x2 := M.c 0 2 rfl rfl
      have HM := show Hid _ from M
      clear M
      go_wp2_with fail
      have M := HM.out
      clear HM c0 c1 c2 c3 c4 c5 c6 c7 c8 c9 c10 x0 x1 x2
      refine (l2Block_of a1 a2 nv c1 na c2 v3 d (by omega) ih s.body φ _ _ (HG.out _ (M.below fun _ _ => trivial)).2.2.1).mono ?_
      rintro x w1 ⟨rfl, b1⟩
      replace M := M.call b1
      clear b1
      have HP : Hid (stmtB nv na (d + 1) s = (s.body.all (stmtB nv na d))) := HP0.out
      clear HP0
      have HM := show Hid _ from M
      clear M
      go_wp2_with fail
      go_ret
      exact ⟨ret_bool (by rw [HP.out]), HM.out.below fun _ _ => trivial⟩
    have HP : Hid (stmtB nv na (d + 1) s = false) := by rw [Hid, HD.out, if_neg (by omega), if_neg qn2, if_neg qn3, if_neg qk]
    have k1 : (s.kind == 1) = false := by simp [qn1]
    have k5 : (s.kind == 5) = false := by simp [qn5]
    have k2 : (s.kind == 2) = false := by simp [qn2]
    have k3 : (s.kind == 3) = false := by simp [qn3]
    have k4 : (s.kind == 4) = false := by simp [qk]
    clear HD qn1 qn5 qn2 qn3 qk
    have c0 := M.c 1 0 rfl rfl
    have c1 := M.c 1 1 rfl rfl
    have c2 := M.c 1 2 rfl rfl
    have c3 := M.c 1 3 rfl rfl
    have c4 := M.c 1 4 rfl rfl
    have c5 := M.c 1 5 rfl rfl
    have c6 := M.c 1 6 rfl rfl
    have c7 := M.c 1 7 rfl rfl
    have c8 := M.c 1 8 rfl rfl
    have c9 := M.c 1 9 rfl rfl
    have c10 := M.c 1 10 rfl rfl
    have x0 := M.c 0 0 rfl rfl
    have x1 := M.c 0 1 rfl rfl
    have x2 := M.c 0 2 rfl rfl
    have HM := show Hid _ from M
    clear M
    go_wp2_with fail
    go_ret
    exact ⟨ret_bool (by rw [HP.out]), HM.out.below fun _ _ => trivial⟩

end Go.Proofs.Ytgpkdfefgcpbiaa

namespace Go.Proofs.Ytgpkdfefgcpbiaa
set_option linter.unusedVariables false
set_option linter.unusedSimpArgs false
open Go Go.RowKit

section
variable {P : Program} {f : FuncId}

/-- A contract of before: what is handed back is known, nothing has turned. -/
theorem old_ok {args : List AV} {S : List It} {x : Value} (h : ∀ (φ : Nat → Prop) (w : World) (ρ : Nat → Value), (∀ i d, lst S i = .dat d → RD w φ d (ρ i)) → Calls P f (AV.vals ρ args).toArray w fun e w' => e = .returned x ∧ Below w.heap.size w w') : Ctr.ok P (fnC f args S (.v x)) := by
  intro ι φ ψ w0 w F ρ M
  refine (h (FrF φ (lay F ρ (lst S))) w ρ fun i d hi => M.datAt hi).mono ?_
  rintro e w' ⟨rfl, hb⟩
  exact ⟨ρ, fun _ _ => rfl, rfl, M.call hb⟩
end
theorem rd_form {w : World} {φ : Nat → Prop} {d : D} {v : Value} (h : RD w φ d v) : ∃ a cap, v = .slice a d.len cap ∧ d.len ≤ 9223372036854775807 := by
  obtain ⟨a, cap, h1, h2, h3, _⟩ := h.open
  unfold maxLen at h3
  exact ⟨a, cap, h1, by omega⟩

theorem c_within (n lo hi : Int) : Ctr.ok Try.prog (fnC 140 [iA n, iA lo, iA hi] [] (bA (decide (lo ≤ n) && decide (n ≤ hi)))) :=
  old_ok fun φ w ρ _ => (impl_within n lo hi w).mono fun e w' h => ⟨h.1, h.2 ▸ Below.refl _ _⟩
theorem c_l2Heads (p : LProg) : Ctr.ok Try.prog (fnC 136 [pA 0] (pS p) (bA (headsB p.vars p.arrays))) :=
  old_ok fun φ w ρ h => spec_l2Heads (ρ 0) (ρ 1) (ρ 2) _ _ w (RowF.row (h 0 _ rfl)) (RowF.row (h 1 _ rfl))
theorem c_declared (vs ars : List Int) : Ctr.ok Try.prog (fnC 138 [.ref 0, .ref 1] [.dat (.ints vs), .dat (.ints ars)] (bA (headsB vs ars))) :=
  old_ok fun φ w ρ h => (impl_declared (ρ 0) (ρ 1) _ _ w (RowF.row (h 0 _ rfl)) (RowF.row (h 1 _ rfl))).mono fun e w' h => ⟨h.1, h.2 ▸ Below.refl _ _⟩
theorem c_expr (p : LProg) (e : LExpr) : Ctr.ok Try.prog (fnC 112 [pA 0, eA e 3] (pS p ++ eS e) (bA (rightB p.vars.length p.arrays.length e))) :=
  old_ok fun φ w ρ h => by
    obtain ⟨a1, c1, h1, l1⟩ := rd_form (h 0 _ rfl)
    obtain ⟨a2, c2, h2, l2⟩ := rd_form (h 1 _ rfl)
    simp only [AV.vals, AV.val, h1, h2]
    exact impl_expr a1 a2 _ c1 _ c2 (ρ 2) l1 l2 e φ _ w ⟨_, rfl, h 3 _ rfl⟩
theorem c_l2Block (p : LProg) (ss : List LStmt) (n : Int) (hn : n = 5) : Ctr.ok Try.prog (fnC 144 [pA 0, .ref 3, iA n] (pS p ++ [.dat (.stmts ss)]) (bA (blockB p.vars.length p.arrays.length 5 ss))) :=
  old_ok fun φ w ρ h => by
    subst hn
    obtain ⟨a1, c1, h1, l1⟩ := rd_form (h 0 _ rfl)
    obtain ⟨a2, c2, h2, l2⟩ := rd_form (h 1 _ rfl)
    simp only [AV.vals, AV.val, h1, h2]
    exact l2Block_of a1 a2 _ c1 _ c2 (ρ 2) 5 (by omega) (l2Stmt_of a1 a2 _ c1 _ c2 (ρ 2) l1 l2 5 (by omega)) ss φ _ w (h 3 _ rfl)
theorem c_isPlain (e : LExpr) : Ctr.ok Try.prog (fnC 193 [eA e 0] (eS e) (bA (atomB e))) :=
  old_ok fun φ w ρ h => impl_isPlain e.kind e.value (ρ 0) w

theorem nS_def (s : LStmt) : nS s = 1 + nSs s.body + nSs s.els := by cases s; simp only [nS]; rfl
/-- Valid statements end within their depth: a kind without blocks has none. -/
theorem stmtB_blocks {nv na d : Nat} {s : LStmt} (h : stmtB nv na (d + 1) s = true) : s.body.all (stmtB nv na d) = true ∧ s.els.all (stmtB nv na d) = true := by
  rw [stmtB, Bool.and_eq_true] at h
  obtain ⟨h1, h2⟩ := h
  unfold partsB at h1
  by_cases k3 : s.kind = 3
  · rw [if_neg (by omega), if_neg (by omega), if_pos k3] at h2
    simp only [Bool.and_eq_true] at h2
    exact ⟨h2.1.2, h2.2⟩
  by_cases k4 : s.kind = 4
  · rw [if_neg (by omega), if_neg (by omega), if_neg (by omega), if_pos k4] at h2
    rw [if_pos (.inr k4), if_pos k4] at h1
    simp only [Bool.and_eq_true, decide_eq_true_eq] at h1
    exact ⟨h2, by rw [List.eq_nil_of_length_eq_zero h1.2.1.1.1.1]; rfl⟩
  · rw [if_neg (by omega)] at h1
    simp only [Bool.and_eq_true, decide_eq_true_eq] at h1
    exact ⟨by rw [List.eq_nil_of_length_eq_zero h1.1.1.1]; rfl, by rw [List.eq_nil_of_length_eq_zero h1.1.1.2]; rfl⟩

theorem szS_parts (s : LStmt) : szSs s.body ≤ szS s ∧ szSs s.els ≤ szS s := by
  rcases s with ⟨_, _, _, _, _, b, e⟩
  simp only [szS, LStmt.body, LStmt.els]
  omega
theorem flat_nSs {nv na : Nat} : ∀ {ss : List LStmt}, (∀ s ∈ ss, stmtB nv na 1 s = true) → nSs ss = ss.length
  | [], _ => rfl
  | s :: r, h => by
    have h1 := stmtB_blocks (h s List.mem_cons_self)
    have key : ∀ l : List LStmt, l.all (stmtB nv na 0) = true → l = [] := fun l hl => by
      cases l with
      | nil => rfl
      | cons a r => simp [stmtB] at hl
    have h2 := flat_nSs (ss := r) fun x hx => h x (List.mem_cons_of_mem _ hx)
    rw [nSs, nS_def, key _ h1.1, key _ h1.2, h2]
    simp [nSs]; omega

end Go.Proofs.Ytgpkdfefgcpbiaa

namespace Go.Proofs.Ytgpkdfefgcpbiaa
set_option linter.unusedVariables false
set_option linter.unusedSimpArgs false
open Go Go.RowKit

/-- The last thing is another one over again. -/
theorem Ctr.dup {P : Program} {f : FuncId} {args args' : List AV} {S S' : List It} {d : D} {res : AV} {i : Nat} (hc : Ctr.ok P ⟨f, args, S ++ [.dat d], S' ++ [.dat d], res⟩) (hi : S[i]? = some (.dat d)) (hl : S'.length = S.length)
    (hS : S.all (fun x => ltAll S.length x.ids) = true) (ha : ∀ ρ : Nat → Value, ρ S.length = ρ i → AV.vals ρ args = AV.vals ρ args') (hg : ltAll S.length (AV.idsL args') = true) : Ctr.ok P ⟨f, args', S, S', res⟩ := by
  intro ι φ ψ w0 w F ρ M
  have hi' : lst S i = .dat d := by simp [lst, hi]
  have hlt : i < S.length := (List.getElem?_eq_some_iff.1 hi).1
  have hinv : Inv (lst S) ρ [S.length] := fun ρ' h j => by
    by_cases hj : j < S.length
    · refine It.res_congr _ (fun k hk => h k ?_) (.inr (.inr (h j (by simp; omega))))
      have h1 := ltAll_iff (List.all_eq_true.1 hS (S[j]) (List.getElem_mem hj)) k (by simpa [lst, List.getD_eq_getElem?_getD, List.getElem?_eq_getElem hj] using hk)
      simp; omega
    · rw [show lst S j = .none by simp only [lst, List.getD_eq_getElem?_getD, List.getElem?_eq_none (Nat.le_of_not_lt hj)]; rfl]; rfl
  obtain ⟨ρ', h1, M1, h2⟩ := M.newDat (id := S.length) (by simp [lst]) hinv (M.datAt hi')
  have e : updS (lst S) [(S.length, .dat d)] = lst (S ++ [.dat d]) := by
    funext j
    simp only [updS, lst, List.getD_eq_getElem?_getD]
    by_cases hj : j = S.length
    · subst hj; simp
    · rw [if_neg hj]
      by_cases hj2 : j < S.length
      · rw [List.getElem?_append_left hj2]
      · rw [List.getElem?_eq_none (by omega), List.getElem?_eq_none (by simp; omega)]
  rw [e] at M1
  have hρ : ρ' i = ρ i := h1 i (by simp; omega)
  have ea : AV.vals ρ args' = AV.vals ρ' args := by
    rw [ha ρ' (by rw [← h2, hρ])]
    exact (AV.vals_congr _ fun k hk => by
      have := ltAll_iff hg k hk
      exact h1 k (by simp; omega)).symm
  simp only
  rw [ea]
  refine (hc ι φ ψ w0 w F ρ' M1).mono ?_
  rintro x w' ⟨ρ2, g1, g2, M2⟩
  refine ⟨ρ2, fun k hk => ?_, g2, ?_⟩
  · rw [g1 k (by simp; omega)]; exact h1 k (by simp; omega)
  · refine M2.map (fun k => match k with | .inl i => some (.inl i) | .inr j => if j < S'.length then some (.inr j) else none) ?_ ?_
    · intro k k' x h1 h2
      match k, k' with
      | .inl i, .inl i' => simp at h1 h2; rw [h1, h2]
      | .inl i, .inr j => simp at h1; subst h1; simp at h2
      | .inr j, .inl i => simp at h2; subst h2; simp at h1
      | .inr j, .inr j' => simp at h1 h2; rw [← h1.2] at h2; rw [Sum.inr.inj h2.2]
    · intro k
      match k with
      | .inl i => exact .inl ⟨.inl i, rfl, rfl⟩
      | .inr j =>
        by_cases hj : j < S'.length
        · refine .inl ⟨.inr j, by simp [hj], ?_⟩
          simp only [lay, lst, List.getD_eq_getElem?_getD, List.getElem?_append_left hj]
        · refine .inr ?_
          simp only [lay, lst, List.getD_eq_getElem?_getD, List.getElem?_eq_none (Nat.le_of_not_lt hj)]
          rfl

end Go.Proofs.Ytgpkdfefgcpbiaa

namespace Go.Proofs.Ytgpkdfefgcpbiaa
set_option linter.unusedVariables false
set_option linter.unusedSimpArgs false
open Go Go.RowKit

theorem sameEs_at {ks ls : List LExpr} {k : Nat} (h1 : k < ks.length) (h2 : k < ls.length) (h : sameE ks[k] ls[k] = false) : sameEs ks ls = false := by
  cases hs : sameEs ks ls
  · rfl
  · have := (sameEs_eq ks ls).1 hs
    subst this
    rw [(sameE_eq _ _).2 rfl] at h; cases h
theorem sameSs_at {ks ls : List LStmt} {k : Nat} (h1 : k < ks.length) (h2 : k < ls.length) (h : sameS ks[k] ls[k] = false) : sameSs ks ls = false := by
  cases hs : sameSs ks ls
  · rfl
  · have := (sameSs_eq ks ls).1 hs
    subst this
    rw [(sameS_eq _ _).2 rfl] at h; cases h

def EqE (e : LExpr) : Prop := ∀ (φ φ' : Nat → Prop) (v u : Value) (e' : LExpr) (w : World), ExprV w φ v e → ExprV w φ' u e' →
  Calls Try.prog 24 #[v, u] w fun x w' => x = .returned (.bool (sameE e e')) ∧ Below w.heap.size w w'

set_option maxHeartbeats 1000000 in
theorem eqExprS_of (ks : List LExpr) (ih : ∀ e ∈ ks, EqE e) (φ φ' : Nat → Prop) (v u : Value) (ls : List LExpr) (w : World) (h : KidsV w φ v ks) (h' : KidsV w φ' u ls) :
    Calls Try.prog 78 #[v, u] w fun x w' => x = .returned (.bool (sameEs ks ls)) ∧ Below w.heap.size w w' := by
  obtain ⟨a, cap, rfl, -, hn, -, hc⟩ := h.open
  obtain ⟨a', cap', rfl, -, hn', -, hc'⟩ := h'.open
  have HC := show Hid _ from hc
  have HC' := show Hid _ from hc'
  clear hc hc' h h'
  by_cases hl : ks.length = ls.length
  · have heq : ((ks.length : Int) == (ls.length : Int)) = true := by simp; omega
    have HL := show Hid _ from hl
    clear hl
    go_enter Try.func78, Try.ntmps78
    go_wp2
    go_loopw [5] (fun i wr => ∃ k : Nat, k ≤ ks.length ∧ i = .int .i64 k ∧ ks.take k = ls.take k ∧ Below w.heap.size w wr) (fun i _ => ks.length - (intOf i).toNat)
    case atStart => exact ⟨0, Nat.zero_le _, rfl, rfl, Below.refl _ _⟩
    case round =>
      obtain ⟨k, hk, rfl, ht, hb⟩ := hrel
      have HT := show Hid _ from ht
      have HB := show Hid _ from hb
      clear ht hb
      by_cases hlt : k < ks.length
      · have hlt2 : k < ls.length := by have := HL.out; omega
        obtain ⟨b, off, kv, rfl, hbk, hf, c0, c1, c2, hkv⟩ := HC.out k hlt
        obtain ⟨b', off', kv', rfl, hbk', hf', d0, d1, d2, hkv'⟩ := HC'.out k hlt2
        rw [← (bcell HB.out).1 _ _ hbk] at c0 c1 c2
        rw [← (bcell HB.out).1 _ _ hbk'] at d0 d1 d2
        obtain ⟨q, hq⟩ : ∃ q, q = sameE ks[k] ls[k] := ⟨_, rfl⟩
        have HC3 : Hid (∀ X, Calls Try.prog 24 #[.agg #[.int .i64 ks[k].kind, .int .i64 ks[k].value, kv], .agg #[.int .i64 ls[k].kind, .int .i64 ls[k].value, kv']] (wr.ext X) fun e w'' => e = .returned (.bool q) ∧ ∃ Y, w'' = wr.ext Y) := fun X => by
          have bb := HB.out.trans ((ext_below wr X).mono HB.out.size)
          rw [hq]
          exact Calls.ext_of' (ih _ (List.getElem_mem hlt) φ φ' _ _ _ _ ⟨kv, rfl, KidsV.nice _ _ _ _ _ _ (Agr.below bb) hkv⟩ ⟨kv', rfl, KidsV.nice _ _ _ _ _ _ (Agr.below bb) hkv'⟩)
        have HQ := show Hid _ from hq
        have j0 := fun X => ext_cell c0 X
        have j1 := fun X => ext_cell c1 X
        have j2 := fun X => ext_cell c2 X
        have i0 := fun X => ext_cell d0 X
        have i1 := fun X => ext_cell d1 X
        have i2 := fun X => ext_cell d2 X
        clear hkv hkv' hq c0 c1 c2 d0 d1 d2
        cases q
        · go_wp2_with fail
          refine wp_region_ext (by kernel_rfl) (by kernel_rfl) ?_
          repeat (any_goals (first | go_big_quiet_step (((go_at_call 24; exact HC3.out _))) | quiet_step (((go_at_call 24; exact HC3.out _)))))
          refine wpQuiet_nil ?_
          rintro _ ⟨X, rfl⟩
          go_wp2_with fail
          go_ret
          exact ⟨ret_bool (sameEs_at hlt hlt2 HQ.out.symm).symm, HB.out.trans ((ext_below wr X).mono HB.out.size)⟩
        · go_wp2_with fail
          refine wp_region_ext (by kernel_rfl) (by kernel_rfl) ?_
          repeat (any_goals (first | go_big_quiet_step (((go_at_call 24; exact HC3.out _))) | quiet_step (((go_at_call 24; exact HC3.out _)))))
          refine wpQuiet_nil ?_
          rintro _ ⟨X, rfl⟩
          go_wp2_with fail
          exact ⟨⟨k + 1, by omega, by go_num, take_eq_succ HT.out hlt hlt2 ((sameE_eq _ _).1 HQ.out.symm), HB.out.trans ((ext_below wr X).mono HB.out.size)⟩, by simp [intOf]; omega⟩
      · have hge : ¬ ((k : Int) < (ks.length : Int)) := by omega
        go_wp2_with fail
        go_ret
        exact ⟨ret_bool (by rw [take_eq_all HT.out (by omega) (by have := HL.out; omega)]; exact ((sameEs_eq _ _).2 rfl).symm), HB.out⟩
  · have hne : ((ks.length : Int) == (ls.length : Int)) = false := by simp; omega
    have HL := show Hid _ from hl
    clear hl
    go_enter Try.func78, Try.ntmps78
    go_wp2
    go_ret
    exact ⟨ret_bool (sameEs_len HL.out).symm, Below.refl _ _⟩

set_option maxHeartbeats 1000000 in
theorem eqExpr_all (e : LExpr) : EqE e := by
  refine LExpr.ind (P := EqE) (fun k n ks ih => ?_) e
  intro φ φ' v u e' w h h'
  obtain ⟨kv, rfl, hk⟩ := h
  obtain ⟨ku, rfl, hk'⟩ := h'
  simp only [LExpr.kind, LExpr.value, LExpr.kids] at hk ⊢
  cases e' with
  | mk k' n' ks' =>
  have HS : Hid (sameE ⟨k, n, ks⟩ ⟨k', n', ks'⟩ = (decide (k = k') && decide (n = n') && sameEs ks ks')) := rfl
  simp only [LExpr.kind, LExpr.value, LExpr.kids] at hk' ⊢
  obtain ⟨W, hW, M⟩ : ∃ W, W = (w.alloc (.cells #[.int .i64 k, .int .i64 n, kv] 41)).alloc (.cells #[.int .i64 k', .int .i64 n', ku] 41) ∧ Mem (fun _ => True) (fun _ => True) w W [.box w.heap.size [.int .i64 k, .int .i64 n, kv], .box (w.heap.size + 1) [.int .i64 k', .int .i64 n', ku]] :=
    ⟨_, rfl, ((Mem.start fun _ _ => trivial).box _ _).box' _ _ (by simp)⟩
  have HK := show Hid (KidsV W φ kv ks ∧ KidsV W φ' ku ks') from ⟨KidsV.nice _ _ _ _ _ _ (Agr.below (M.below fun _ _ => trivial)) hk, KidsV.nice _ _ _ _ _ _ (Agr.below (M.below fun _ _ => trivial)) hk'⟩
  have HB := show Hid _ from M.below fun _ _ => trivial
  have c0 := M.c 0 0 rfl rfl
  have c1 := M.c 0 1 rfl rfl
  have c2 := M.c 0 2 rfl rfl
  have d0 := M.c 1 0 rfl rfl
  have d1 := M.c 1 1 rfl rfl
  have d2 := M.c 1 2 rfl rfl
  rw [hW] at c0 c1 c2 d0 d1 d2
  clear hk hk' M
  by_cases q0 : k = k'
  · have p0 : (k == k') = true := by simp [q0]
    by_cases q1 : n = n'
    · have p1 : (n == n') = true := by simp [q1]
      have Q := show Hid _ from And.intro q0 q1
      clear q0 q1
      go_enter Try.func24, Try.ntmps24
      go_wp2_with fail
      rw [← hW]
      clear hW c0 c1 c2 d0 d1 d2
      refine (eqExprS_of ks ih φ φ' kv ku ks' _ HK.out.1 HK.out.2).mono ?_
      rintro x w1 ⟨rfl, b1⟩
      have B1 := show Hid _ from HB.out.trans (b1.mono HB.out.size)
      obtain ⟨q, hq⟩ : ∃ q, q = sameEs ks ks' := ⟨_, rfl⟩
      rw [← hq]
      have HQ := show Hid _ from hq
      clear hq
      cases q
      · go_wp2_with fail
        go_ret
        exact ⟨ret_bool (by rw [HS.out, ← HQ.out]; simp), B1.out⟩
      · go_wp2_with fail
        go_ret
        exact ⟨ret_bool (by rw [HS.out, ← HQ.out]; simp [Q.out.1, Q.out.2]), B1.out⟩
    · have p1 : (n == n') = false := by simp [q1]
      have Q := show Hid _ from q1
      clear q0 q1
      go_enter Try.func24, Try.ntmps24
      go_wp2_with fail
      go_ret
      exact ⟨ret_bool (by rw [HS.out, show decide (n = n') = false from decide_eq_false Q.out]; simp), by rw [← hW]; exact HB.out⟩
  · have p0 : (k == k') = false := by simp [q0]
    have Q := show Hid _ from q0
    clear q0
    go_enter Try.func24, Try.ntmps24
    go_wp2_with fail
    go_ret
    exact ⟨ret_bool (by rw [HS.out, show decide (k = k') = false from decide_eq_false Q.out]; simp), by rw [← hW]; exact HB.out⟩

def EqS (e : LStmt) : Prop := ∀ (φ φ' : Nat → Prop) (v u : Value) (e' : LStmt) (w : World), StmtV w φ v e → StmtV w φ' u e' →
  Calls Try.prog 135 #[v, u] w fun x w' => x = .returned (.bool (sameS e e')) ∧ Below w.heap.size w w'

set_option maxHeartbeats 1000000 in
theorem eqStmtS_of (ks : List LStmt) (ih : ∀ e ∈ ks, EqS e) (φ φ' : Nat → Prop) (v u : Value) (ls : List LStmt) (w : World) (h : BlockV w φ v ks) (h' : BlockV w φ' u ls) :
    Calls Try.prog 71 #[v, u] w fun x w' => x = .returned (.bool (sameSs ks ls)) ∧ Below w.heap.size w w' := by
  obtain ⟨a, cap, rfl, -, hn, -, hc⟩ := h.open
  obtain ⟨a', cap', rfl, -, hn', -, hc'⟩ := h'.open
  have HC := show Hid _ from hc
  have HC' := show Hid _ from hc'
  clear hc hc' h h'
  by_cases hl : ks.length = ls.length
  · have heq : ((ks.length : Int) == (ls.length : Int)) = true := by simp; omega
    have HL := show Hid _ from hl
    clear hl
    go_enter Try.func71, Try.ntmps71
    go_wp2
    go_loopw [5] (fun i wr => ∃ k : Nat, k ≤ ks.length ∧ i = .int .i64 k ∧ ks.take k = ls.take k ∧ Below w.heap.size w wr) (fun i _ => ks.length - (intOf i).toNat)
    case atStart => exact ⟨0, Nat.zero_le _, rfl, rfl, Below.refl _ _⟩
    case round =>
      obtain ⟨k, hk, rfl, ht, hb⟩ := hrel
      have HT := show Hid _ from ht
      have HB := show Hid _ from hb
      clear ht hb
      by_cases hlt : k < ks.length
      · have hlt2 : k < ls.length := by have := HL.out; omega
        obtain ⟨b, off, iv, vv, bv, ev, rfl, hbk, hf, ⟨c0, c1, c2, c3, c4, c5, c6, c7, c8, c9, c10⟩, g1, g2, g3, g4⟩ := HC.out k hlt
        obtain ⟨b', off', iv', vv', bv', ev', rfl, hbk', hf', ⟨d0, d1, d2, d3, d4, d5, d6, d7, d8, d9, d10⟩, g1', g2', g3', g4'⟩ := HC'.out k hlt2
        rw [← (bcell HB.out).1 _ _ hbk] at c0 c1 c2 c3 c4 c5 c6 c7 c8 c9 c10
        rw [← (bcell HB.out).1 _ _ hbk'] at d0 d1 d2 d3 d4 d5 d6 d7 d8 d9 d10
        obtain ⟨q, hq⟩ : ∃ q, q = sameS ks[k] ls[k] := ⟨_, rfl⟩
        have HC3 : Hid (∀ X, Calls Try.prog 135 #[.agg #[.int .i64 ks[k].kind, .int .i64 ks[k].target, .int .i64 ks[k].index.kind, .int .i64 ks[k].index.value, iv, .int .i64 ks[k].value.kind, .int .i64 ks[k].value.value, vv, .int .i64 ks[k].count, bv, ev], .agg #[.int .i64 ls[k].kind, .int .i64 ls[k].target, .int .i64 ls[k].index.kind, .int .i64 ls[k].index.value, iv', .int .i64 ls[k].value.kind, .int .i64 ls[k].value.value, vv', .int .i64 ls[k].count, bv', ev']] (wr.ext X) fun e w'' => e = .returned (.bool q) ∧ ∃ Y, w'' = wr.ext Y) := fun X => by
          have bb := HB.out.trans ((ext_below wr X).mono HB.out.size)
          rw [hq]
          exact Calls.ext_of' (ih _ (List.getElem_mem hlt) φ φ' _ _ _ _ (StmtV.nice _ _ _ _ _ _ (Agr.below bb) ⟨iv, vv, bv, ev, rfl, g1, g2, g3, g4⟩) (StmtV.nice _ _ _ _ _ _ (Agr.below bb) ⟨iv', vv', bv', ev', rfl, g1', g2', g3', g4'⟩))
        have HQ := show Hid _ from hq
        have j0 := fun X => ext_cell c0 X
        have j1 := fun X => ext_cell c1 X
        have j2 := fun X => ext_cell c2 X
        have j3 := fun X => ext_cell c3 X
        have j4 := fun X => ext_cell c4 X
        have j5 := fun X => ext_cell c5 X
        have j6 := fun X => ext_cell c6 X
        have j7 := fun X => ext_cell c7 X
        have j8 := fun X => ext_cell c8 X
        have j9 := fun X => ext_cell c9 X
        have j10 := fun X => ext_cell c10 X
        have i0 := fun X => ext_cell d0 X
        have i1 := fun X => ext_cell d1 X
        have i2 := fun X => ext_cell d2 X
        have i3 := fun X => ext_cell d3 X
        have i4 := fun X => ext_cell d4 X
        have i5 := fun X => ext_cell d5 X
        have i6 := fun X => ext_cell d6 X
        have i7 := fun X => ext_cell d7 X
        have i8 := fun X => ext_cell d8 X
        have i9 := fun X => ext_cell d9 X
        have i10 := fun X => ext_cell d10 X
        clear g1 g2 g3 g4 g1' g2' g3' g4' hq c0 d0 c1 d1 c2 d2 c3 d3 c4 d4 c5 d5 c6 d6 c7 d7 c8 d8 c9 d9 c10 d10
        cases q
        · go_wp2_with fail
          refine wp_region_ext (by kernel_rfl) (by kernel_rfl) ?_
          repeat (any_goals (first | go_big_quiet_step (((go_at_call 135; exact HC3.out _))) | quiet_step (((go_at_call 135; exact HC3.out _)))))
          refine wpQuiet_nil ?_
          rintro _ ⟨X, rfl⟩
          go_wp2_with fail
          go_ret
          exact ⟨ret_bool (sameSs_at hlt hlt2 HQ.out.symm).symm, HB.out.trans ((ext_below wr X).mono HB.out.size)⟩
        · go_wp2_with fail
          refine wp_region_ext (by kernel_rfl) (by kernel_rfl) ?_
          repeat (any_goals (first | go_big_quiet_step (((go_at_call 135; exact HC3.out _))) | quiet_step (((go_at_call 135; exact HC3.out _)))))
          refine wpQuiet_nil ?_
          rintro _ ⟨X, rfl⟩
          go_wp2_with fail
          exact ⟨⟨k + 1, by omega, by go_num, take_eq_succ HT.out hlt hlt2 ((sameS_eq _ _).1 HQ.out.symm), HB.out.trans ((ext_below wr X).mono HB.out.size)⟩, by simp [intOf]; omega⟩
      · have hge : ¬ ((k : Int) < (ks.length : Int)) := by omega
        go_wp2_with fail
        go_ret
        exact ⟨ret_bool (by rw [take_eq_all HT.out (by omega) (by have := HL.out; omega)]; exact ((sameSs_eq _ _).2 rfl).symm), HB.out⟩
  · have hne : ((ks.length : Int) == (ls.length : Int)) = false := by simp; omega
    have HL := show Hid _ from hl
    clear hl
    go_enter Try.func71, Try.ntmps71
    go_wp2
    go_ret
    exact ⟨ret_bool (sameSs_len HL.out).symm, Below.refl _ _⟩

set_option maxHeartbeats 4000000 in
theorem eqStmt_all (s : LStmt) : EqS s := by
  refine LStmt.ind (P := EqS) (fun k t i v c b e ihb ihe => ?_) s
  intro φ φ' x u s' w h h'
  obtain ⟨iv, vv, bv, ev, rfl, g1, g2, g3, g4⟩ := h
  obtain ⟨iv', vv', bv', ev', rfl, g1', g2', g3', g4'⟩ := h'
  cases s' with
  | mk k' t' i' v' c' b' e' =>
  have HS : Hid (sameS ⟨k, t, i, v, c, b, e⟩ ⟨k', t', i', v', c', b', e'⟩ = (decide (k = k') && decide (t = t') && sameE i i' && sameE v v' && decide (c = c') && sameSs b b' && sameSs e e')) := rfl
  simp only [LStmt.index, LStmt.value, LStmt.body, LStmt.els, LStmt.kind, LStmt.target, LStmt.count] at g1 g2 g3 g4 g1' g2' g3' g4' ⊢
  obtain ⟨W, hW, M⟩ : ∃ W, W = (w.alloc (.cells #[.int .i64 k, .int .i64 t, .int .i64 i.kind, .int .i64 i.value, iv, .int .i64 v.kind, .int .i64 v.value, vv, .int .i64 c, bv, ev] 135)).alloc (.cells #[.int .i64 k', .int .i64 t', .int .i64 i'.kind, .int .i64 i'.value, iv', .int .i64 v'.kind, .int .i64 v'.value, vv', .int .i64 c', bv', ev'] 135) ∧ Mem (fun _ => True) (fun _ => True) w W [.box w.heap.size [.int .i64 k, .int .i64 t, .int .i64 i.kind, .int .i64 i.value, iv, .int .i64 v.kind, .int .i64 v.value, vv, .int .i64 c, bv, ev], .box (w.heap.size + 1) [.int .i64 k', .int .i64 t', .int .i64 i'.kind, .int .i64 i'.value, iv', .int .i64 v'.kind, .int .i64 v'.value, vv', .int .i64 c', bv', ev']] :=
    ⟨_, rfl, ((Mem.start fun _ _ => trivial).box _ _).box' _ _ (by simp)⟩
  have HG := show Hid (∀ W', Below w.heap.size w W' → ExprV W' φ (.agg #[.int .i64 i.kind, .int .i64 i.value, iv]) i ∧ ExprV W' φ (.agg #[.int .i64 v.kind, .int .i64 v.value, vv]) v ∧ BlockV W' φ bv b ∧ BlockV W' φ ev e) from fun W' k =>
    ⟨⟨iv, rfl, KidsV.nice _ _ _ _ _ _ (Agr.below k) g1⟩, ⟨vv, rfl, KidsV.nice _ _ _ _ _ _ (Agr.below k) g2⟩, BlockV.nice _ _ _ _ _ _ (Agr.below k) g3, BlockV.nice _ _ _ _ _ _ (Agr.below k) g4⟩
  have HG' := show Hid (∀ W', Below w.heap.size w W' → ExprV W' φ' (.agg #[.int .i64 i'.kind, .int .i64 i'.value, iv']) i' ∧ ExprV W' φ' (.agg #[.int .i64 v'.kind, .int .i64 v'.value, vv']) v' ∧ BlockV W' φ' bv' b' ∧ BlockV W' φ' ev' e') from fun W' k =>
    ⟨⟨iv', rfl, KidsV.nice _ _ _ _ _ _ (Agr.below k) g1'⟩, ⟨vv', rfl, KidsV.nice _ _ _ _ _ _ (Agr.below k) g2'⟩, BlockV.nice _ _ _ _ _ _ (Agr.below k) g3', BlockV.nice _ _ _ _ _ _ (Agr.below k) g4'⟩
  clear g1 g2 g3 g4 g1' g2' g3' g4'
  have c0 := M.c 0 0 rfl rfl
  have d0 := M.c 1 0 rfl rfl
  have c1 := M.c 0 1 rfl rfl
  have d1 := M.c 1 1 rfl rfl
  have c2 := M.c 0 2 rfl rfl
  have d2 := M.c 1 2 rfl rfl
  have c3 := M.c 0 3 rfl rfl
  have d3 := M.c 1 3 rfl rfl
  have c4 := M.c 0 4 rfl rfl
  have d4 := M.c 1 4 rfl rfl
  rw [hW] at c0 d0 c1 d1 c2 d2 c3 d3 c4 d4
  have HB0 := show Hid _ from M.below fun _ _ => trivial
  have HM := show Hid _ from M
  clear M
  by_cases q0 : k = k'
  rotate_left
  · have p0 : (k == k') = false := by simp [q0]
    have Q := show Hid _ from q0
    clear q0
    go_enter Try.func135, Try.ntmps135
    go_wp2_with fail
    go_ret
    exact ⟨ret_bool (by rw [HS.out, show decide (k = k') = false from decide_eq_false Q.out]; simp), by rw [← hW]; exact HB0.out⟩
  have p0 : (k == k') = true := by simp [q0]
  by_cases q1 : t = t'
  rotate_left
  · have p1 : (t == t') = false := by simp [q1]
    have Q := show Hid _ from q1
    clear q0 q1
    go_enter Try.func135, Try.ntmps135
    go_wp2_with fail
    go_ret
    exact ⟨ret_bool (by rw [HS.out, show decide (t = t') = false from decide_eq_false Q.out]; simp), by rw [← hW]; exact HB0.out⟩
  have p1 : (t == t') = true := by simp [q1]
  have Q0 := show Hid _ from And.intro q0 q1
  clear q0 q1
  go_enter Try.func135, Try.ntmps135
  go_wp2_with fail
  rw [← hW]
  have M := HM.out
  clear hW HM p0 p1 c0 d0 c1 d1 c2 d2 c3 d3 c4 d4
  refine (eqExpr_all i φ φ' _ _ i' _ (HG.out _ (M.below fun _ _ => trivial)).1 (HG'.out _ (M.below fun _ _ => trivial)).1).mono ?_
  rintro x w1 ⟨rfl, b1⟩
  replace M := M.call b1
  clear b1
  obtain ⟨r1, hq⟩ : ∃ q, q = sameE i i' := ⟨_, rfl⟩
  rw [← hq]
  have Hr1 := show Hid _ from hq
  clear hq
  have HB := show Hid _ from M.below fun _ _ => trivial
  have c5 := M.c 0 5 rfl rfl
  have d5 := M.c 1 5 rfl rfl
  have c6 := M.c 0 6 rfl rfl
  have d6 := M.c 1 6 rfl rfl
  have c7 := M.c 0 7 rfl rfl
  have d7 := M.c 1 7 rfl rfl
  have HM := show Hid _ from M
  clear M
  cases r1
  · go_wp2_with fail
    go_ret
    exact ⟨ret_bool (by rw [HS.out, ← Hr1.out]; simp), HB.out⟩
  go_wp2_with fail
  have M := HM.out
  clear HM HB c5 d5 c6 d6 c7 d7
  refine (eqExpr_all v φ φ' _ _ v' _ (HG.out _ (M.below fun _ _ => trivial)).2.1 (HG'.out _ (M.below fun _ _ => trivial)).2.1).mono ?_
  rintro x w1 ⟨rfl, b1⟩
  replace M := M.call b1
  clear b1
  obtain ⟨r2, hq⟩ : ∃ q, q = sameE v v' := ⟨_, rfl⟩
  rw [← hq]
  have Hr2 := show Hid _ from hq
  clear hq
  have HB := show Hid _ from M.below fun _ _ => trivial
  have c8 := M.c 0 8 rfl rfl
  have d8 := M.c 1 8 rfl rfl
  have c9 := M.c 0 9 rfl rfl
  have d9 := M.c 1 9 rfl rfl
  have HM := show Hid _ from M
  clear M
  cases r2
  · go_wp2_with fail
    go_ret
    exact ⟨ret_bool (by rw [HS.out, ← Hr2.out]; simp), HB.out⟩
  by_cases q4 : c = c'
  rotate_left
  · have p4 : (c == c') = false := by simp [q4]
    have Q := show Hid _ from q4
    clear q4
    go_wp2_with fail
    go_ret
    exact ⟨ret_bool (by rw [HS.out, show decide (c = c') = false from decide_eq_false Q.out]; simp), HB.out⟩
  have p4 : (c == c') = true := by simp [q4]
  have Q4 := show Hid _ from q4
  clear q4
  go_wp2_with fail
  have M := HM.out
  clear HM HB p4 c8 d8 c9 d9
  refine (eqStmtS_of b ihb φ φ' bv bv' b' _ (HG.out _ (M.below fun _ _ => trivial)).2.2.1 (HG'.out _ (M.below fun _ _ => trivial)).2.2.1).mono ?_
  rintro x w1 ⟨rfl, b1⟩
  replace M := M.call b1
  clear b1
  obtain ⟨r3, hq⟩ : ∃ q, q = sameSs b b' := ⟨_, rfl⟩
  rw [← hq]
  have Hr3 := show Hid _ from hq
  clear hq
  have HB := show Hid _ from M.below fun _ _ => trivial
  have c10 := M.c 0 10 rfl rfl
  have d10 := M.c 1 10 rfl rfl
  have HM := show Hid _ from M
  clear M
  cases r3
  · go_wp2_with fail
    go_ret
    exact ⟨ret_bool (by rw [HS.out, ← Hr3.out]; simp), HB.out⟩
  go_wp2_with fail
  have M := HM.out
  clear HM HB c10 d10
  refine (eqStmtS_of e ihe φ φ' ev ev' e' _ (HG.out _ (M.below fun _ _ => trivial)).2.2.2 (HG'.out _ (M.below fun _ _ => trivial)).2.2.2).mono ?_
  rintro x w1 ⟨rfl, b1⟩
  replace M := M.call b1
  clear b1
  obtain ⟨r4, hq⟩ : ∃ q, q = sameSs e e' := ⟨_, rfl⟩
  rw [← hq]
  have Hr4 := show Hid _ from hq
  clear hq
  have HB := show Hid _ from M.below fun _ _ => trivial
  have HM := show Hid _ from M
  clear M
  cases r4
  · go_wp2_with fail
    go_ret
    exact ⟨ret_bool (by rw [HS.out, ← Hr4.out]; simp), HB.out⟩
  go_wp2_with fail
  go_ret
  exact ⟨ret_bool (by rw [HS.out, ← Hr1.out, ← Hr2.out, ← Hr3.out, ← Hr4.out, decide_eq_true Q0.out.1, decide_eq_true Q0.out.2, decide_eq_true Q4.out]; rfl), HB.out⟩

set_option maxHeartbeats 2000000 in
theorem eqProgram_any (φ φ' : Nat → Prop) (x u : Value) (p q : LProg) (w : World) (h : ProgV w φ x p) (h' : ProgV w φ' u q) :
    Calls Try.prog 19 #[x, u] w fun e w' => e = .returned (.bool (p.same q)) ∧ Below w.heap.size w w' := by
  obtain ⟨v1, v2, v3, rfl, h1, h2, h3⟩ := h
  obtain ⟨u1, u2, u3, rfl, k1, k2, k3⟩ := h'
  have HS : Hid (p.same q = (decide (p.vars = q.vars) && decide (p.arrays = q.arrays) && sameSs p.body q.body)) := rfl
  obtain ⟨W, hW, M⟩ : ∃ W, W = (w.alloc (.cells #[v1, v2, v3] 31)).alloc (.cells #[u1, u2, u3] 31) ∧ Mem (fun _ => True) (fun _ => True) w W [.box w.heap.size [v1, v2, v3], .box (w.heap.size + 1) [u1, u2, u3]] :=
    ⟨_, rfl, ((Mem.start fun _ _ => trivial).box _ _).box' _ _ (by simp)⟩
  have HG := show Hid (∀ W', Below w.heap.size w W' → (Row W' v1 p.vars.length 1 (ints p.vars) ∧ Row W' v2 p.arrays.length 1 (ints p.arrays) ∧ BlockV W' φ v3 p.body) ∧ (Row W' u1 q.vars.length 1 (ints q.vars) ∧ Row W' u2 q.arrays.length 1 (ints q.arrays) ∧ BlockV W' φ' u3 q.body)) from fun W' k =>
    ⟨⟨h1.row.below k, h2.row.below k, BlockV.nice _ _ _ _ _ _ (Agr.below k) h3⟩, k1.row.below k, k2.row.below k, BlockV.nice _ _ _ _ _ _ (Agr.below k) k3⟩
  clear h1 h2 h3 k1 k2 k3
  have c0 := M.c 0 0 rfl rfl
  have d0 := M.c 1 0 rfl rfl
  rw [hW] at c0 d0
  have HM := show Hid _ from M
  clear M
  go_enter Try.func19, Try.ntmps19
  go_wp2_with fail
  rw [← hW]
  have M := HM.out
  clear hW HM c0 d0
  refine (eqIntS_any _ _ p.vars q.vars _ (HG.out _ (M.below fun _ _ => trivial)).1.1 (HG.out _ (M.below fun _ _ => trivial)).2.1).mono ?_
  rintro x w1 ⟨rfl, n1, rfl⟩
  replace M := M.call (below_drewN (Below.refl _ _) n1)
  obtain ⟨r1, hq⟩ : ∃ r, r = decide (p.vars = q.vars) := ⟨_, rfl⟩
  rw [← hq]
  have Hr1 := show Hid _ from hq
  clear hq
  have HB := show Hid _ from M.below fun _ _ => trivial
  have c1 := M.c 0 1 rfl rfl
  have d1 := M.c 1 1 rfl rfl
  have HM := show Hid _ from M
  clear M
  cases r1
  · go_wp2_with fail
    go_ret
    exact ⟨ret_bool (by rw [HS.out, ← Hr1.out]; simp), HB.out⟩
  go_wp2_with fail
  have M := HM.out
  clear HM HB c1 d1
  refine (eqIntS_any _ _ p.arrays q.arrays _ (HG.out _ (M.below fun _ _ => trivial)).1.2.1 (HG.out _ (M.below fun _ _ => trivial)).2.2.1).mono ?_
  rintro x w1 ⟨rfl, n2, rfl⟩
  replace M := M.call (below_drewN (Below.refl _ _) n2)
  rw [World.drewN_drewN] at M
  obtain ⟨r2, hq⟩ : ∃ r, r = decide (p.arrays = q.arrays) := ⟨_, rfl⟩
  rw [← hq]
  have Hr2 := show Hid _ from hq
  clear hq
  have HB := show Hid _ from M.below fun _ _ => trivial
  have c2 := M.c 0 2 rfl rfl
  have d2 := M.c 1 2 rfl rfl
  have HM := show Hid _ from M
  clear M
  cases r2
  · go_wp2_with fail
    go_ret
    exact ⟨ret_bool (by rw [HS.out, ← Hr2.out]; simp), HB.out⟩
  go_wp2_with fail
  have M := HM.out
  clear HM HB c2 d2
  refine (eqStmtS_of p.body (fun s _ => eqStmt_all s) φ φ' v3 u3 q.body _ (HG.out _ (M.below fun _ _ => trivial)).1.2.2 (HG.out _ (M.below fun _ _ => trivial)).2.2.2).mono ?_
  rintro x w1 ⟨rfl, b1⟩
  replace M := M.call b1
  clear b1
  obtain ⟨r3, hq⟩ : ∃ r, r = sameSs p.body q.body := ⟨_, rfl⟩
  rw [← hq]
  have Hr3 := show Hid _ from hq
  clear hq
  have HB := show Hid _ from M.below fun _ _ => trivial
  clear M
  cases r3
  · go_wp2_with fail
    go_ret
    exact ⟨ret_bool (by rw [HS.out, ← Hr3.out]; simp), HB.out⟩
  go_wp2_with fail
  go_ret
  exact ⟨ret_bool (by rw [HS.out, ← Hr1.out, ← Hr2.out, ← Hr3.out]; rfl), HB.out⟩

end Go.Proofs.Ytgpkdfefgcpbiaa

namespace Go.Proofs.Ytgpkdfefgcpbiaa
set_option linter.unusedVariables false
set_option linter.unusedSimpArgs false
open Go Go.RowKit

theorem c_szProgram (p : LProg) (m : Int) (hm : 0 ≤ m) (hm2 : m ≤ 1048576) : Ctr.ok Try.prog (fnC 15 [pA 0, iA m] (pS p) (iA (szRes m p.size))) :=
  old_ok fun φ w ρ h => szProgram_any φ _ p m w ⟨ρ 0, ρ 1, ρ 2, rfl, h 0 _ rfl, h 1 _ rfl, h 2 _ rfl⟩ hm hm2
theorem c_eqProgram (p q : LProg) : Ctr.ok Try.prog (fnC 19 [pA 0, pA 3] (pS p ++ pS q) (bA (p.same q))) :=
  old_ok fun φ w ρ h => eqProgram_any φ φ _ _ p q w ⟨ρ 0, ρ 1, ρ 2, rfl, h 0 _ rfl, h 1 _ rfl, h 2 _ rfl⟩ ⟨ρ 3, ρ 4, ρ 5, rfl, h 3 _ rfl, h 4 _ rfl, h 5 _ rfl⟩

/-- A contract of before that hands back a new program: three new slices. -/
theorem new_prog {P : Program} {f : FuncId} {args : List AV} {S : List It} {q : LProg} (hS : S.all (fun x => ltAll S.length x.ids) = true)
    (h : ∀ (φ : Nat → Prop) (w : World) (ρ : Nat → Value), (∀ i d, lst S i = .dat d → RD w φ d (ρ i)) → Calls P f (AV.vals ρ args).toArray w fun e w' => ∃ v1 v2 v3, e = .returned (.agg #[v1, v2, v3]) ∧ ProgV w' (fun b => w.heap.size ≤ b) (.agg #[v1, v2, v3]) q ∧ Below w.heap.size w w') :
    Ctr.ok P ⟨f, args, S, S ++ pS q, pA S.length⟩ := by
  intro ι φ ψ w0 w F ρ M
  refine (h (FrF φ (lay F ρ (lst S))) w ρ fun i d hi => M.datAt hi).mono ?_
  rintro e w' ⟨v1, v2, v3, rfl, hp, hb⟩
  have M1 := M.call hb
  obtain ⟨u1, u2, u3, hu, h1, h2, h3⟩ := hp
  cases hu
  have ha : Agr (fun b => w.heap.size ≤ b) (FrF φ (lay F ρ (lst S))) w' w' := Agr.mono fun b _ hf => M.frFresh b hf
  have hx : XHs w' (FrF φ (lay F ρ (lst S))) [.sl (.ints q.vars), .sl (.ints q.arrays), .sl (.stmts q.body)] [v1, v2, v3] :=
    ⟨RD.nice (.ints q.vars) _ _ _ _ _ ha h1, RD.nice (.ints q.arrays) _ _ _ _ _ ha h2, RD.nice (.stmts q.body) _ _ _ _ _ ha h3, trivial⟩
  have hlen : ∀ j, S.length ≤ j → lst S j = .none := fun j hj => by simp only [lst, List.getD_eq_getElem?_getD, List.getElem?_eq_none hj]; rfl
  obtain ⟨ρ', g1, M2, g2⟩ := MemF.dats [.sl (.ints q.vars), .sl (.ints q.arrays), .sl (.stmts q.body)] [v1, v2, v3] S.length M1 hx (fun j hj => hlen j (by simp [xnew] at hj; omega)) (fun ρ' ha j => by
    by_cases hj : j < S.length
    · refine It.res_congr _ (fun k hk => ha k ?_) (.inr (.inr (ha j (by simp [xnew]; omega))))
      have h1 := ltAll_iff (List.all_eq_true.1 hS (S[j]) (List.getElem_mem hj)) k (by simpa [lst, List.getD_eq_getElem?_getD, List.getElem?_eq_getElem hj] using hk)
      simp [xnew]; omega
    · rw [hlen j (by omega)]; rfl)
  have e : updS (lst S) (xnew [.sl (.ints q.vars), .sl (.ints q.arrays), .sl (.stmts q.body)] S.length) = lst (S ++ pS q) := by
    funext j
    simp only [xnew, updS, lst, List.getD_eq_getElem?_getD]
    by_cases h0 : j = S.length
    · subst h0; simp
    by_cases h1 : j = S.length + 1
    · subst h1
      rw [if_neg (by omega), if_pos rfl, List.getElem?_append_right (by omega), show S.length + 1 - S.length = 1 by omega]; rfl
    by_cases h2 : j = S.length + 1 + 1
    · subst h2
      rw [if_neg (by omega), if_neg (by omega), if_pos rfl, List.getElem?_append_right (by omega), show S.length + 1 + 1 - S.length = 2 by omega]; rfl
    rw [if_neg h0, if_neg h1, if_neg h2]
    by_cases hj : j < S.length
    · rw [List.getElem?_append_left hj]
    · rw [List.getElem?_eq_none (by omega), List.getElem?_eq_none (by simp; omega)]
  rw [e] at M2
  refine ⟨ρ', fun k hk => g1 k (by have hk : k < S.length := hk; simp [xnew]; omega), ?_, M2⟩
  simp only [xav, AV.vals, AV.val, List.cons.injEq, and_true] at g2
  obtain ⟨rfl, rfl, rfl⟩ := g2
  rfl
theorem c_toProgram (p : LProg) (hb : p.size ≤ 1048576) : Ctr.ok Try.prog ⟨17, [pA 0], pS p, pS p ++ pS p, pA 3⟩ :=
  new_prog (S := pS p) (q := p) rfl fun φ w ρ h => (toProgram_any φ _ p w ⟨ρ 0, ρ 1, ρ 2, rfl, h 0 _ rfl, h 1 _ rfl, h 2 _ rfl⟩ hb).mono fun e w' ⟨a1, k1, a2, k2, a3, k3, S, e1, e2, e3, e4⟩ => ⟨_, _, _, e1, e2.read fun b hb => (e3 b hb).1, e4⟩

/-- A law over one program, told as before. -/
theorem prog_law {P : Program} {f : FuncId} {x : Value} {p : LProg} {post : List It} (hc : Ctr.ok P ⟨f, [pA 0], pS p, post, .v x⟩) (u : Value) (w : World) (hp : ProgV w (fun _ => True) u p) :
    Calls P f #[u] w fun e w' => e = .returned x ∧ Below w.heap.size w w' := by
  obtain ⟨v1, v2, v3, rfl, h1, h2, h3⟩ := hp
  have M0 : MemF (fun _ => True) (fun _ => True) w w (lay (fun _ : Empty => Rs.none) (fun _ => undef) (lst [])) := by
    refine (MemF.start (ι := Empty ⊕ Nat) (w0 := w) (φ := fun _ => True) (ψ := fun _ => True) fun _ _ => trivial).map (fun k => some k) (fun k k' i a b => by cases a; cases b; rfl) fun k => ?_
    cases k with
    | inl e => exact e.elim
    | inr j => exact .inr rfl
  have ha : Agr (fun _ => True) (FrF (fun _ => True) (lay (fun _ : Empty => Rs.none) (fun _ => undef) (lst []))) w w := Agr.mono fun b _ _ => ⟨trivial, fun i => by
    cases i with
    | inl e => exact e.elim
    | inr j => exact fun h => h.elim⟩
  obtain ⟨ρ', g1, M2, g2⟩ := MemF.dats [.sl (.ints p.vars), .sl (.ints p.arrays), .sl (.stmts p.body)] [v1, v2, v3] 0 M0
    ⟨RD.nice (.ints p.vars) _ _ _ _ _ ha h1, RD.nice (.ints p.arrays) _ _ _ _ _ ha h2, RD.nice (.stmts p.body) _ _ _ _ _ ha h3, trivial⟩ (fun _ _ => rfl) (fun _ _ _ => rfl)
  have e : updS (lst []) (xnew [.sl (.ints p.vars), .sl (.ints p.arrays), .sl (.stmts p.body)] 0) = lst (pS p) := by
    funext j
    match j with
    | 0 => rfl
    | 1 => rfl
    | 2 => rfl
    | j + 3 => simp [xnew, updS, lst]
  rw [e] at M2
  simp only [xav, AV.vals, AV.val, List.cons.injEq, and_true] at g2
  obtain ⟨rfl, rfl, rfl⟩ := g2
  refine (hc Empty _ _ w w _ ρ' M2).mono ?_
  rintro e w' ⟨ρ2, -, rfl, M3⟩
  exact ⟨rfl, M3.below fun _ _ => trivial⟩

end Go.Proofs.Ytgpkdfefgcpbiaa

namespace Go.Proofs.Ytgpkdfefgcpbiaa
set_option linter.unusedVariables false
set_option linter.unusedSimpArgs false
open Go Go.RowKit

def HeldSs (ss : List LStmt) : Prop := ∀ (φ : Nat → Prop) (v : Value) (k : Int) (w : World), BlockV w φ v (mkSs ss k) → 0 ≤ k → k + mkN ss ≤ 9000000000000000000 →
  Calls Try.prog 88 #[v, .int .i64 k] w fun x w' => x = .returned (.int .i64 (k + mkN ss)) ∧ Below w.heap.size w w'

set_option maxRecDepth 100000 in
set_option maxHeartbeats 4000000 in
theorem heldStmtS_of (ks : List LStmt) (ih : ∀ s ∈ ks, HeldSs s.body ∧ HeldSs s.els) : HeldSs ks := by
  intro φ v k0 w h hk0 hkb
  obtain ⟨a, cap, rfl, -, hn, -, hc⟩ := h.open
  rw [mkSs_len] at hn ⊢
  have HC := show Hid _ from hc
  have HKB := show Hid _ from hkb
  clear hc h hkb
  go_enter Try.func88, Try.ntmps88
  go_wp2_with fail
  go_loopw [1, 5] (fun q i wr => ∃ (j : Nat) (y : Int), j ≤ ks.length ∧ i = .int .i64 j ∧ q = .int .i64 y ∧ y = k0 + mkN (ks.take j) ∧ Below w.heap.size w wr) (fun _ i _ => ks.length - (intOf i).toNat)
  case atStart => exact ⟨0, k0, Nat.zero_le _, rfl, rfl, by simp [mkN], Below.refl _ _⟩
  case round =>
    obtain ⟨j, y, hj, rfl, rfl, hy, hb⟩ := hrel
    have HY := show Hid _ from hy
    have HB := show Hid _ from hb
    clear hy hb
    by_cases hlt : j < ks.length
    · obtain ⟨b, off, iv, vv, bv, ev, rfl, hbk, hf, hcell, g1, g2, g3, g4⟩ := HC.out j (by rw [mkSs_len]; exact hlt)
      have hge := mkSs_get ks k0 j hlt
      rw [← HY.out, List.getElem?_eq_getElem (by rw [mkSs_len]; exact hlt)] at hge
      rw [Option.some.inj hge] at hcell g1 g2 g3 g4
      have hih := ih _ (List.getElem_mem hlt)
      have ht1 := mkN_take1 hlt
      have hdr := mkN_drop ks (j + 1)
      obtain ⟨s, hsj⟩ : ∃ s, s = ks[j] := ⟨_, rfl⟩
      rw [← hsj] at hcell g1 g2 g3 g4 hih ht1
      have hdef := mkN1_def s
      have hnb := (mkN_nonneg s.body).1
      have hne := (mkN_nonneg s.els).1
      have hnt := (mkN_nonneg (ks.take j)).1
      have hnd := (mkN_nonneg (ks.drop (j + 1))).1
      obtain ⟨A, hA⟩ : ∃ A : Int, A = 2 * szEs s.index.kids := ⟨_, rfl⟩
      obtain ⟨B, hB⟩ : ∃ B : Int, B = 2 * szEs s.value.kids := ⟨_, rfl⟩
      obtain ⟨C, hC⟩ : ∃ C : Int, C = mkN s.body := ⟨_, rfl⟩
      obtain ⟨D, hD⟩ : ∃ D : Int, D = mkN s.els := ⟨_, rfl⟩
      have hA0 : 0 ≤ A := by omega
      have hB0 : 0 ≤ B := by omega
      have hC0 : 0 ≤ C := by omega
      have hD0 : 0 ≤ D := by omega
      have hy0 : 0 ≤ y := by have := HY.out; omega
      have hy1 : y + 7 + A + B + C + D ≤ 9000000000000000000 := by have := HY.out; have := HKB.out; omega
      have hyn : y + 7 + A + B + C + D = k0 + mkN (ks.take (j + 1)) := by have := HY.out; omega
      rw [mkS_def s y A B hA hB, ← hC] at hcell g1 g2 g3 g4
      simp only [LStmt.kind, LStmt.target, LStmt.index, LStmt.value, LStmt.count, LStmt.body, LStmt.els, LExpr.kind, LExpr.value, LExpr.kids] at hcell g1 g2 g3 g4
      have HCC := show Hid (∀ W, Below w.heap.size w W → ∀ o, W.cell? ⟨b, o, none⟩ = w.cell? ⟨b, o, none⟩) from fun W hW o => (bcell hW).1 _ _ hbk
      have HG := show Hid _ from And.intro g1 (And.intro g2 (And.intro g3 g4))
      have HE := show Hid _ from And.intro hA (And.intro hB (And.intro hC hD))
      have HIH := show Hid _ from hih
      have HYN := show Hid _ from hyn
      have HCE := show Hid _ from hcell
      clear hih hA hB hC hD hcell g1 g2 g3 g4 hge ht1 hdr hdef hnb hne hnt hnd hsj hyn
      obtain ⟨c0, c1, c2, c3, c4, c5, c6, c7, c8, c9, c10⟩ := HCE.out
      rw [← HCC.out _ HB.out] at c0 c1 c2 c3 c4
      clear c5 c6 c7 c8 c9 c10
      go_wp2_with fail
      clear c0 c1 c2 c3 c4
      refine (heldExprS_all s.index.kids φ iv (y + 1 + 1 + 1 + 1) _ (KidsV.nice _ _ _ _ _ _ (Agr.below HB.out) HG.out.1) (by omega) (by have := HE.out.1; omega)).mono ?_
      rintro x w1 ⟨rfl, b1⟩
      rw [← HE.out.1]
      have B1 := show Hid _ from HB.out.trans (b1.mono HB.out.size)
      clear b1
      obtain ⟨c0, c1, c2, c3, c4, c5, c6, c7, c8, c9, c10⟩ := HCE.out
      rw [← HCC.out _ B1.out] at c5 c6 c7
      clear c0 c1 c2 c3 c4 c8 c9 c10
      go_wp2_with fail
      clear c5 c6 c7
      refine (heldExprS_all s.value.kids φ vv (y + 1 + 1 + 1 + 1 + A + 1 + 1) _ (KidsV.nice _ _ _ _ _ _ (Agr.below B1.out) HG.out.2.1) (by omega) (by have := HE.out.2.1; omega)).mono ?_
      rintro x w2 ⟨rfl, b1⟩
      rw [← HE.out.2.1]
      have B2 := show Hid _ from B1.out.trans (b1.mono B1.out.size)
      clear b1
      obtain ⟨c0, c1, c2, c3, c4, c5, c6, c7, c8, c9, c10⟩ := HCE.out
      rw [← HCC.out _ B2.out] at c8 c9
      clear c0 c1 c2 c3 c4 c5 c6 c7 c10
      go_wp2_with fail
      clear c8 c9
      refine (HIH.out.1 φ bv (y + 1 + 1 + 1 + 1 + A + 1 + 1 + B + 1) _ (BlockV.nice _ _ _ _ _ _ (Agr.below B2.out) HG.out.2.2.1) (by omega) (by have := HE.out.2.2.1; omega)).mono ?_
      rintro x w3 ⟨rfl, b1⟩
      rw [← HE.out.2.2.1]
      have B3 := show Hid _ from B2.out.trans (b1.mono B2.out.size)
      clear b1
      obtain ⟨c0, c1, c2, c3, c4, c5, c6, c7, c8, c9, c10⟩ := HCE.out
      rw [← HCC.out _ B3.out] at c10
      clear c0 c1 c2 c3 c4 c5 c6 c7 c8 c9
      go_wp2_with fail
      clear c10
      refine (HIH.out.2 φ ev (y + 1 + 1 + 1 + 1 + A + 1 + 1 + B + 1 + C) _ (BlockV.nice _ _ _ _ _ _ (Agr.below B3.out) HG.out.2.2.2) (by omega) (by have := HE.out.2.2.2; omega)).mono ?_
      rintro x w4 ⟨rfl, b1⟩
      rw [← HE.out.2.2.2]
      have B4 := show Hid _ from B3.out.trans (b1.mono B3.out.size)
      clear b1
      obtain ⟨z, hz⟩ : ∃ z : Int, z = y + 1 + 1 + 1 + 1 + A + 1 + 1 + B + 1 + C + D := ⟨_, rfl⟩
      have HZ := show Hid _ from hz
      rw [← hz]
      have hz0 : 0 ≤ z := by omega
      have hz1 : z ≤ 9000000000000000000 := by omega
      clear hz hy1
      go_wp2_with fail
      exact ⟨⟨j + 1, _, by omega, by go_num, rfl, by have := HZ.out; have := HYN.out; omega, B4.out⟩, by simp [intOf]; omega⟩
    · have hjn : j = ks.length := by omega
      subst hjn
      go_wp2_with fail
      go_ret
      exact ⟨ret_int (by have := HY.out; rw [List.take_of_length_le (Nat.le_refl _)] at this; exact this), HB.out⟩
theorem heldStmtS_all (s : LStmt) : HeldSs s.body ∧ HeldSs s.els :=
  LStmt.ind (P := fun s => HeldSs s.body ∧ HeldSs s.els) (fun _ _ _ _ _ b e ihb ihe => ⟨heldStmtS_of b ihb, heldStmtS_of e ihe⟩) s
theorem heldStmtS_any (ks : List LStmt) : HeldSs ks := heldStmtS_of ks fun s _ => heldStmtS_all s

theorem markIntS_row (v : Value) (xs : List Int) (K : Nat) (w : World) (h : w.ownsRow 0 3 1 v xs.length (ints xs)) (hK : K + xs.length ≤ 9000000000000000000) :
    Calls Try.prog 34 #[v, .int .i64 K] w fun e w' => e = .returned (.int .i64 (K + xs.length : Nat)) ∧ w'.ownsRow 0 3 1 v xs.length (ints (marksI K xs.length)) ∧ Kept (fun b => ¬ v.ownBlock = some b) w w' := by
  obtain ⟨lo, hi, _, _, ho, hb⟩ := (Own.mk' h).tight
  refine (markIntS_any v xs K lo hi w ho hK).mono ?_
  rintro e w1 ⟨rfl, h1, h2⟩
  refine ⟨rfl, owns_base h1.1 (Nat.zero_le _), h2.os, h2.tape, h2.output, h2.size, fun b hb1 hb2 => h2.block b hb1 ?_⟩
  rcases Nat.lt_or_ge b lo with h3 | h3
  · exact .inl h3
  · rcases Nat.lt_or_ge b hi with h4 | h4
    · exact absurd (hb b h3 h4) hb2
    · exact .inr h4
/-- A call that turns a row of ints. -/
theorem Mem.turnRow {φ ψ : Nat → Prop} {w0 w w' : World} {L : List Res} (M : Mem φ ψ w0 w L) (i : Nat) {e : TypeId} {sz : Nat} {v : Value} {n : Nat} {xs xs' : List Value} (hi : L[i]? = some (.row e sz v n xs)) (hk : Kept (fun b => ¬ v.ownBlock = some b) w w') (h : w'.ownsRow 0 e sz v n xs') : Mem φ ψ w0 w' (L.set i (.row e sz v n xs')) :=
  M.put hi _ hk h fun _ hg => .inl hg

/-- The marks of a program. -/
def mkP (p : LProg) (k : Nat) : LProg := ⟨marksI k p.vars.length, marksI (k + p.vars.length) p.arrays.length, mkSs p.body ((k + p.vars.length + p.arrays.length : Nat) : Int)⟩
def mkPN (p : LProg) : Int := p.vars.length + p.arrays.length + mkN p.body

set_option maxHeartbeats 1000000 in
theorem markProgram_any (v : Value) (p : LProg) (k : Nat) (w : World) (S : Nat → Prop) (h : ProgO w v p S) (hb : k + mkPN p ≤ 9000000000000000000) :
    Calls Try.prog 25 #[v, .int .i64 k] w fun x w' => x = .returned (.int .i64 (k + mkPN p)) ∧ ProgO w' v (mkP p k) S ∧ Kept (fun b => ¬ S b) w w' := by
  obtain ⟨v1, v2, v3, S3, rfl, h1, h2, h3, d1, d2, d3⟩ := h
  have hnn := (mkN_nonneg p.body).1
  have hbb : (k : Int) + p.vars.length + p.arrays.length + mkN p.body ≤ 9000000000000000000 := by unfold mkPN at hb; omega
  obtain ⟨W, hW, M⟩ : ∃ W, W = w.alloc (.cells #[v1, v2, v3] 31) ∧ Mem (fun _ => True) (fun b => ¬ S b) w W [.box w.heap.size [v1, v2, v3], .row 3 1 v1 p.vars.length (ints p.vars), .row 3 1 v2 p.arrays.length (ints p.arrays), .own (fun b => S3 b ∧ b < w.heap.size) (fun w' => BlockO w' v3 p.body (fun b => S3 b ∧ b < w.heap.size))] := by
    refine ⟨_, rfl, (((((Mem.start fun _ _ => trivial).box [v1, v2, v3] 31).adopt (.row 3 1 v1 p.vars.length (ints p.vars)) ?_ trivial (owns_same h1 fun g hg => ?_) ?_ ?_).adopt (.row 3 1 v2 p.arrays.length (ints p.arrays)) ?_ trivial (owns_same h2 fun g hg => ?_) ?_ ?_).adopt (.own (fun b => S3 b ∧ b < w.heap.size) (fun w' => BlockO w' v3 p.body (fun b => S3 b ∧ b < w.heap.size))) ?_ trivial ⟨fun _ _ h hs => BlockO.same h hs, h3.cut.same fun b hb hl => ?_, fun b hb => ?_⟩ ?_ ?_)⟩
    · intro a ha; simp at ha; subst ha; trivial
    · exact (Below.refl _ _ |>.alloc (Nat.le_refl _) _).block g (World.ownsRow.lt h1 g hg).2
    · intro a ha g hg h; simp at ha; subst ha; cases h; have := (World.ownsRow.lt h1 _ hg).2; omega
    · intro g hg hn; exact hn (d1 g hg).1
    · intro a ha; simp at ha; rcases ha with rfl | rfl <;> trivial
    · exact (Below.refl _ _ |>.alloc (Nat.le_refl _) _).block g (World.ownsRow.lt h2 g hg).2
    · intro a ha g hg h; simp at ha; rcases ha with rfl | rfl
      · cases h; have := (World.ownsRow.lt h2 _ hg).2; omega
      · exact (d1 g h).2.2 hg
    · intro g hg hn; exact hn (d2 g hg).1
    · intro a ha; simp at ha; rcases ha with rfl | rfl | rfl <;> trivial
    · exact (Below.refl _ _ |>.alloc (Nat.le_refl _) _).block b hb.2
    · simp; have := hb.2; omega
    · intro a ha g hg h; simp at ha; rcases ha with rfl | rfl | rfl
      · cases h; have := hg.2; omega
      · exact (d1 g h).2.1 hg.1
      · exact (d2 g h).2 hg.1
    · intro g hg hn; exact hn (d3 g hg.1)
  have HD := show Hid _ from And.intro d1 (And.intro d2 d3)
  clear h1 h2 h3 d1 d2 d3
  have c0 := M.c 0 0 rfl rfl
  rw [hW] at c0
  go_enter Try.func25, Try.ntmps25
  go_wp2_with fail
  rw [← hW]
  clear hW c0
  refine (markIntS_row v1 p.vars k _ (M.r 1 rfl) (by omega)).mono ?_
  rintro x w1 ⟨rfl, k1, kp1⟩
  replace M := M.turnRow 1 rfl kp1 k1
  clear k1 kp1
  have c1 := M.c 0 1 rfl rfl
  have HM := show Hid _ from M
  clear M
  go_wp2_with fail
  have M := HM.out
  clear HM c1
  refine (markIntS_row v2 p.arrays (k + p.vars.length) _ (M.r 2 rfl) (by omega)).mono ?_
  rintro x w2 ⟨rfl, k1, kp1⟩
  replace M := M.turnRow 2 rfl kp1 k1
  clear k1 kp1
  have c2 := M.c 0 2 rfl rfl
  have HM := show Hid _ from M
  clear M
  go_wp2_with fail
  have M := HM.out
  clear HM c2
  refine (markStmtS_any p.body v3 ((k + p.vars.length + p.arrays.length : Nat) : Int) _ _ (M.o 3 rfl) (by omega) (by omega)).mono ?_
  rintro x w3 ⟨rfl, k1, kp1⟩
  replace M := M.turn 3 rfl kp1 (fun _ _ h hs => BlockO.same h hs) k1
  clear k1 kp1
  have HM := show Hid _ from M
  clear M
  go_wp2_with fail
  go_ret
  have M := HM.out
  obtain ⟨d1, d2, d3⟩ := HD.out
  refine ⟨ret_int (by unfold mkPN; omega), ⟨v1, v2, v3, S3, rfl, ?_, ?_, (show BlockO _ v3 (mkSs p.body _) _ from M.o 3 rfl).mono fun _ h => h.1, d1, d2, d3⟩, M.kept⟩
  · rw [show (mkP p k).vars = marksI k p.vars.length from rfl, marksI_len]; exact M.r 1 rfl
  · rw [show (mkP p k).arrays = marksI (k + p.vars.length) p.arrays.length from rfl, marksI_len]; exact M.r 2 rfl

set_option maxHeartbeats 1000000 in
theorem heldProgram_any (φ : Nat → Prop) (v : Value) (p : LProg) (k : Nat) (w : World) (h : ProgV w φ v (mkP p k)) (hb : k + mkPN p ≤ 9000000000000000000) :
    Calls Try.prog 30 #[v, .int .i64 k] w fun x w' => x = .returned (.int .i64 (k + mkPN p)) ∧ Below w.heap.size w w' := by
  obtain ⟨v1, v2, v3, rfl, h1, h2, h3⟩ := h
  rw [show (mkP p k).vars = marksI k p.vars.length from rfl, marksI_len] at h1
  rw [show (mkP p k).arrays = marksI (k + p.vars.length) p.arrays.length from rfl, marksI_len] at h2
  have hnn := (mkN_nonneg p.body).1
  have hbb : (k : Int) + p.vars.length + p.arrays.length + mkN p.body ≤ 9000000000000000000 := by unfold mkPN at hb; omega
  obtain ⟨W, hW, M⟩ : ∃ W, W = w.alloc (.cells #[v1, v2, v3] 31) ∧ Mem (fun _ => True) (fun _ => True) w W [.box w.heap.size [v1, v2, v3]] :=
    ⟨_, rfl, (Mem.start fun _ _ => trivial).box _ _⟩
  have HG := show Hid (∀ W', Below w.heap.size w W' → Row W' v1 p.vars.length 1 (ints (marksI k p.vars.length)) ∧ Row W' v2 p.arrays.length 1 (ints (marksI (k + p.vars.length) p.arrays.length)) ∧ BlockV W' φ v3 (mkSs p.body ((k + p.vars.length + p.arrays.length : Nat) : Int))) from fun W' k =>
    ⟨h1.row.below k, h2.row.below k, BlockV.nice _ _ _ _ _ _ (Agr.below k) h3⟩
  clear h1 h2 h3
  have c0 := M.c 0 0 rfl rfl
  have c1 := M.c 0 1 rfl rfl
  have c2 := M.c 0 2 rfl rfl
  have HB0 := show Hid _ from M.below fun _ _ => trivial
  clear M
  rw [hW] at c0
  go_enter Try.func30, Try.ntmps30
  go_wp2_with fail
  rw [← hW]
  clear hW c0
  refine (heldIntS_any v1 p.vars.length k _ (HG.out _ HB0.out).1 (by omega)).mono ?_
  rintro x w1 ⟨rfl, n1, rfl⟩
  go_wp2_with fail
  have B1 := show Hid _ from below_drewN HB0.out n1
  refine (heldIntS_any v2 p.arrays.length (k + p.vars.length) _ (HG.out _ B1.out).2.1 (by omega)).mono ?_
  rintro x w2 ⟨rfl, n2, rfl⟩
  go_wp2_with fail
  have B2 := show Hid _ from below_drewN HB0.out (n1 + n2)
  have hcast : ((k + p.vars.length + p.arrays.length : Nat) : Int) = (k : Int) + p.vars.length + p.arrays.length := by omega
  have HBB : BlockV (W.drewN (n1 + n2)) φ v3 (mkSs p.body ((k : Int) + p.vars.length + p.arrays.length)) := by rw [← hcast]; exact (HG.out _ B2.out).2.2
  clear hcast
  refine (heldStmtS_any p.body φ v3 ((k : Int) + p.vars.length + p.arrays.length) _ HBB (by omega) (by omega)).mono ?_
  rintro x w3 ⟨rfl, b1⟩
  have HB := show Hid _ from B2.out.trans (b1.mono B2.out.size)
  clear b1 HBB
  have hn1 : ¬ ((k : Int) + p.vars.length + p.arrays.length + mkN p.body < 0) := by omega
  go_wp2_with fail
  go_ret
  exact ⟨ret_int (by unfold mkPN; omega), HB.out⟩

end Go.Proofs.Ytgpkdfefgcpbiaa
