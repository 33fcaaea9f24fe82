/-
  Texts of this claim, part 3: what the functions on the way do, and plain laws. Conditions: as each statement says.
-/
import Derived.Test.YthikdkjjdeehoaaGreatK2
set_option maxRecDepth 100000
set_option maxHeartbeats 16000000
open Bool renaming and_eq_false_iff → bY1, and_eq_true → bV8, and_eq_true_iff → bY2, not_eq_false' → bW8, not_eq_true' → bW7
open Inhabited renaming default → bV3
open List renaming all_eq_true → bX0, eq_nil_of_length_eq_zero → bY8, getD_eq_getElem?_getD → bW2, getElem?_append_left → bX7, getElem?_eq_getElem → bW0, getElem?_eq_none → bY0, getElem?_eq_some_iff → bW9, getElem_mem → bX2, length_cons → bV6, map_cons → bY9, mem_cons_of_mem → bX9, mem_cons_self → bX6, take → bV9, take_of_length_le → bW5
open Nat renaming add_zero → bZ5, le_refl → bW6, le_trans → bX8, mul_le_mul_right → bZ3, succ_mul → bY3, zero_add → bZ2, zero_le → bX5
open True renaming intro → bW1

namespace Go.Proofs.YthikdkjjdeehoaaGreat
set_option linter.unusedVariables false
set_option linter.unusedSimpArgs false
open Go Go.RowKit
theorem Y0 (l : Int) (w : World) : Calls Tryz.prog 192 #[.int .i64 l] w fun e w' => e = .returned (.bool (m0 l)) ∧ w = w' := by
 go_enter Tryz.func192, Tryz.ntmps192
 go_wp2
 all_goals go_ret
 all_goals exact ⟨k8 (by simp [m0]; try omega), rfl⟩
theorem aT7 (v1 v2 v3 : Value) (vars arrays : List Int) (w : World) (h1 : V9 w v1 vars.length 1 (ints vars)) (h2 : V9 w v2 arrays.length 1 (ints arrays)) :
  Calls Tryz.prog 129 #[.agg #[v1, v2, v3]] w fun e w' => e = .returned (.bool (L9 vars arrays)) ∧ Below w.heap.size w w' := by
 have B0 : Below w.heap.size w (w.alloc (.cells #[v1, v2, v3] 26)) := by go_grown
 obtain ⟨a1, c1, rfl, -, hm1, -, hc1⟩ := (h1.below B0).open1
 obtain ⟨a2, c2, rfl, -, hm2, -, hc2⟩ := (h2.below B0).open1
 have HT : Hid (L9 vars arrays = (vars.all m0 && arrays.all m0 && decide (1 ≤ vars.length) && decide (vars.length ≤ 12) && decide (arrays.length ≤ 2))) := rfl
 clear h1 h2
 go_enter Tryz.func129, Tryz.ntmps129
 go_wp2_with fail
 go_loop [3] (fun i => ∃ k : Nat, k ≤ vars.length ∧ i = .int .i64 k ∧ (vars.take k).all m0 = true) (fun i => vars.length - (intOf i).toNat)
 case atStart => exact ⟨0, bX5 _, rfl, rfl⟩
 case round =>
  obtain ⟨k, hk, rfl, ha⟩ := hrel
  have HA := show Hid _ from ha
  clear ha
  by_cases hlt : k < vars.length
  ·obtain ⟨b1, o1, rfl, hb1, hx⟩ := hc1 k hlt
   rw [af8 _ _ hlt] at hx
   have HS := show Hid _ from ap4 m0 vars k hlt
   clear hc1 hc2
   cases hl : m0 vars[k]
   all_goals
    have HL := show Hid _ from hl
    clear hl
    go_wp2_with fail
    refine (Y0 _ _).mono ?_
    rintro e w1 ⟨rfl, rfl⟩
    rw [HL.out]
    go_wp2_with fail
   ·go_ret
    exact ⟨k8 (by rw [HT.out, bf6 hlt HL.out]; rfl), B0⟩
   ·go_round
    case rel => exact ⟨k + 1, by omega, by go_num, by rw [HS.out, HA.out, HL.out]; rfl⟩
    case measure => simp [intOf]; omega
  ·have HA' := show Hid (vars.all m0 = true) from by have := HA.out; rwa [bW5 (by omega)] at this
   clear HA hc1
   go_wp2_with fail
   go_loop [4] (fun i => ∃ k : Nat, k ≤ arrays.length ∧ i = .int .i64 k ∧ (arrays.take k).all m0 = true) (fun i => arrays.length - (intOf i).toNat)
   case atStart => exact ⟨0, bX5 _, rfl, rfl⟩
   case round =>
    obtain ⟨j, hj, rfl, ha⟩ := hrel
    have HB := show Hid _ from ha
    clear ha
    by_cases hlj : j < arrays.length
    ·obtain ⟨b1, o1, rfl, hb1, hx⟩ := hc2 j hlj
     rw [af8 _ _ hlj] at hx
     have HS := show Hid _ from ap4 m0 arrays j hlj
     clear hc2
     cases hl : m0 arrays[j]
     all_goals
      have HL := show Hid _ from hl
      clear hl
      go_wp2_with fail
      refine (Y0 _ _).mono ?_
      rintro e w1 ⟨rfl, rfl⟩
      rw [HL.out]
      go_wp2_with fail
     ·go_ret
      exact ⟨k8 (by rw [HT.out, bf6 hlj HL.out]; simp), B0⟩
     ·go_round
      case rel => exact ⟨j + 1, by omega, by go_num, by rw [HS.out, HB.out, HL.out]; rfl⟩
      case measure => simp [intOf]; omega
    ·have HB' := show Hid (arrays.all m0 = true) from by have := HB.out; rwa [bW5 (by omega)] at this
     clear HB hc2
     go_wp2_with fail
     all_goals go_ret
     all_goals refine ⟨k8 ?_, B0⟩
     all_goals rw [HT.out, HA'.out, HB'.out]
     all_goals rw [Bool.eq_iff_iff]
     all_goals simp
     all_goals omega
theorem aT9 (k : Int) (w : World) : Calls Tryz.prog 261 #[.int .i64 k] w fun e w' => e = .returned (.int .i64 (K7 k)) ∧ w = w' := by
 go_enter Tryz.func261, Tryz.ntmps261
 go_wp2
 all_goals
  go_ret
  exact ⟨C1 (by unfold K7; (repeat' split) <;> simp_all <;> omega), rfl⟩
theorem aB5 (k n : Int) (kv : Value) (w : World) : Calls Tryz.prog 234 #[.agg #[.int .i64 k, .int .i64 n, kv]] w fun e w' => e = .returned (.bool (decide (k = 1) || decide (k = 2))) ∧ Below w.heap.size w w' := by
 by_cases h1 : k = 1
 ·have p1 : (k == 1) = true := by simp [h1]
  have Q := show Hid _ from h1
  clear h1
  go_enter Tryz.func234, Tryz.ntmps234
  go_wp2
  go_ret
  exact ⟨k8 (by simp [Q.out]), by go_grown⟩
 ·have p1 : (k == 1) = false := by simp [h1]
  have Q := show Hid _ from h1
  clear h1
  by_cases h2 : k = 2
  ·have p2 : (k == 2) = true := by simp [h2]
   have Q2 := show Hid _ from h2
   clear h2
   go_enter Tryz.func234, Tryz.ntmps234
   go_wp2
   go_ret
   exact ⟨k8 (by simp [Q2.out]), by go_grown⟩
  ·have p2 : (k == 2) = false := by simp [h2]
   have Q2 := show Hid _ from h2
   clear h2
   go_enter Tryz.func234, Tryz.ntmps234
   go_wp2
   go_ret
   exact ⟨k8 (by rw [decide_eq_false Q.out, decide_eq_false Q2.out]; rfl), by go_grown⟩
theorem aT6 (a1 a2 : Option Addr) (nv c1 na c2 : Nat) (v3 : Value) (k : Int) (w : World) (h1 : nv ≤ 9223372036854775807) (h2 : na ≤ 9223372036854775807) :
  Calls Tryz.prog 262 #[.agg #[.slice a1 nv c1, .slice a2 na c2, v3], .int .i64 k] w fun e w' => e = .returned (.int .i64 (N6 nv na k)) ∧ Below w.heap.size w w' := by
 go_enter Tryz.func262, Tryz.ntmps262
 go_wp2
 all_goals
  go_ret
  exact ⟨C1 (by unfold N6; (repeat' split) <;> simp_all), by go_grown⟩
theorem aP1 {e : b5} (h3 : e.kind = 3) (hl : 0 < e.kids.length) : T6 e = (decide (e.kids[0].kind = 1) || decide (e.kids[0].kind = 2)) := by
 rcases e with ⟨k, n, ks⟩
 cases ks with
 | nil => simp [b5.kids] at hl
 | cons a r =>
  have h3' : k = 3 := h3
  subst h3'
  simp only [T6, b5.kids, List.getElem_cons_zero, atomB]
  rw [decide_eq_false (by simp [b5.kind])]
  rfl
theorem aT4 (a1 a2 : Option Addr) (nv c1 na c2 : Nat) (v3 : Value) (h1 : nv ≤ 9223372036854775807) (h2 : na ≤ 9223372036854775807) : ∀ d : Nat, d ≤ 5 → ∀ (e : b5) (φ : Nat → Prop) (v : Value) (w : World), K8 w φ v e →
  Calls Tryz.prog 252 #[.agg #[.slice a1 nv c1, .slice a2 na c2, v3], v, .int .i64 d] w fun x w' => x = .returned (.bool (l9 nv na d e)) ∧ Below w.heap.size w w' := by
 intro d
 induction d with
 | zero =>
  intro _ e φ v w h
  obtain ⟨kv, rfl, hk⟩ := h
  have HS : Hid (l9 nv na 0 e = false) := rfl
  obtain ⟨W, hW, M⟩ : ∃ W, W = (w.alloc (.cells #[.slice a1 nv c1, .slice a2 na c2, v3] 26)).alloc (.cells #[.int .i64 e.kind, .int .i64 e.value, kv] 104) ∧ C2 (fun _ => True) (fun _ => True) w W [.box w.heap.size [.slice a1 nv c1, .slice a2 na c2, v3], .box (w.heap.size + 1) [.int .i64 e.kind, .int .i64 e.value, kv]] :=
   ⟨_, rfl, ((C2.start fun _ _ => trivial).box _ _).box' _ _ (by simp)⟩
  have HB := show Hid _ from M.below fun _ _ => trivial
  clear hk M
  go_enter Tryz.func252, Tryz.ntmps252
  go_wp2_with fail
  rw [← hW]
  clear hW
  refine v6 (by kernel_rfl) (by kernel_rfl) ?_
  repeat (any_goals (first | go_big_quiet_step (((fail))) | quiet_step (((fail)))))
  refine wpQuiet_nil ?_
  rintro _ ⟨X, rfl⟩
  go_wp2_with fail
  go_ret
  exact ⟨k8 HS.out.symm, HB.out.trans ((A0 W X).mono HB.out.size)⟩
 | succ d ih =>
  intro hd5 e φ v w h
  obtain ⟨kv, rfl, hk⟩ := h
  obtain ⟨ak, ck, rfl, -, hn, -, hc⟩ := hk.open
  have hd0 : (d : Int) ≤ 5 := by omega
  have p0 : decide ((d : Int) + 1 < 1) = false := by simp; omega
  have HS : Hid (l9 nv na (d + 1) e = (E3 nv na e && e.kids.all (l9 nv na d) && T6 e)) := rfl
  obtain ⟨W, hW, M⟩ : ∃ W, W = (w.alloc (.cells #[.slice a1 nv c1, .slice a2 na c2, v3] 26)).alloc (.cells #[.int .i64 e.kind, .int .i64 e.value, .slice ak e.kids.length ck] 104) ∧ C2 (fun _ => True) (fun _ => True) w W [.box w.heap.size [.slice a1 nv c1, .slice a2 na c2, v3], .box (w.heap.size + 1) [.int .i64 e.kind, .int .i64 e.value, .slice ak e.kids.length ck]] :=
   ⟨_, rfl, ((C2.start fun _ _ => trivial).box _ _).box' _ _ (by simp)⟩
  have HB := show Hid _ from M.below fun _ _ => trivial
  have HA : Hid (∀ X, Calls Tryz.prog 261 #[.int .i64 e.kind] (W.ext X) fun x w'' => x = .returned (.int .i64 (K7 e.kind)) ∧ ∃ Y, w'' = W.ext Y) := fun X =>
   Calls.ext_of' ((aT9 e.kind _).mono fun x w' h => ⟨h.1, h.2 ▸ Below.refl _ _⟩)
  have HL : Hid (∀ X, Calls Tryz.prog 262 #[.agg #[.slice a1 nv c1, .slice a2 na c2, v3], .int .i64 e.kind] (W.ext X) fun x w'' => x = .returned (.int .i64 (N6 nv na e.kind)) ∧ ∃ Y, w'' = W.ext Y) := fun X =>
   Calls.ext_of' (aT6 a1 a2 nv c1 na c2 v3 e.kind _ h1 h2)
  have HM := show Hid _ from M
  have HC := show Hid _ from hc
  have x0 := M.c 0 0 rfl rfl
  have x1 := M.c 0 1 rfl rfl
  have x2 := M.c 0 2 rfl rfl
  have y0 := M.c 1 0 rfl rfl
  have y1 := M.c 1 1 rfl rfl
  have y2 := M.c 1 2 rfl rfl
  have z0 := fun X => n7 x0 X
  have z1 := fun X => n7 x1 X
  have z2 := fun X => n7 x2 X
  have z3 := fun X => n7 y0 X
  have z4 := fun X => n7 y1 X
  have z5 := fun X => n7 y2 X
  clear hk M hc x0 x1 x2 y0 y1 y2
  by_cases q1 : (e.kids.length : Int) = K7 e.kind
  case neg =>
   have p1 : ((e.kids.length : Int) != K7 e.kind) = true := by simp [q1]
   have HN : Hid (E3 nv na e = false) := by unfold Hid E3; simp [q1]
   clear q1
   go_enter Tryz.func252, Tryz.ntmps252
   go_wp2_with fail
   rw [← hW]
   clear hW
   refine v6 (by kernel_rfl) (by kernel_rfl) ?_
   repeat (any_goals (first | go_big_quiet_step (((first | (go_at_call 261; exact HA.out _) | (go_at_call 262; exact HL.out _)))) | quiet_step (((first | (go_at_call 261; exact HA.out _) | (go_at_call 262; exact HL.out _))))))
   refine wpQuiet_nil ?_
   rintro _ ⟨X, rfl⟩
   go_wp2_with fail
   go_ret
   exact ⟨k8 (by rw [HS.out, HN.out]; rfl), HB.out.trans ((A0 W X).mono HB.out.size)⟩
  have p1 : ((e.kids.length : Int) != K7 e.kind) = false := by simp [q1]
  by_cases q2 : e.value < 0
  case pos =>
   have p2 : decide (e.value < 0) = true := by simp [q2]
   have HN : Hid (E3 nv na e = false) := by unfold Hid E3; simp; intro _ h; omega
   clear q1 q2
   go_enter Tryz.func252, Tryz.ntmps252
   go_wp2_with fail
   rw [← hW]
   clear hW
   refine v6 (by kernel_rfl) (by kernel_rfl) ?_
   repeat (any_goals (first | go_big_quiet_step (((first | (go_at_call 261; exact HA.out _) | (go_at_call 262; exact HL.out _)))) | quiet_step (((first | (go_at_call 261; exact HA.out _) | (go_at_call 262; exact HL.out _))))))
   refine wpQuiet_nil ?_
   rintro _ ⟨X, rfl⟩
   go_wp2_with fail
   go_ret
   exact ⟨k8 (by rw [HS.out, HN.out]; rfl), HB.out.trans ((A0 W X).mono HB.out.size)⟩
  have p2 : decide (e.value < 0) = false := by simp; omega
  by_cases q3 : N6 nv na e.kind ≤ e.value
  case pos =>
   have p3 : decide (N6 nv na e.kind ≤ e.value) = true := by simp [q3]
   have HN : Hid (E3 nv na e = false) := by unfold Hid E3; simp; intro _ h; omega
   clear q1 q2 q3
   go_enter Tryz.func252, Tryz.ntmps252
   go_wp2_with fail
   rw [← hW]
   clear hW
   refine v6 (by kernel_rfl) (by kernel_rfl) ?_
   repeat (any_goals (first | go_big_quiet_step (((first | (go_at_call 261; exact HA.out _) | (go_at_call 262; exact HL.out _)))) | quiet_step (((first | (go_at_call 261; exact HA.out _) | (go_at_call 262; exact HL.out _))))))
   refine wpQuiet_nil ?_
   rintro _ ⟨X, rfl⟩
   go_wp2_with fail
   go_ret
   exact ⟨k8 (by rw [HS.out, HN.out]; rfl), HB.out.trans ((A0 W X).mono HB.out.size)⟩
  have p3 : decide (N6 nv na e.kind ≤ e.value) = false := by simp; omega
  have HN : Hid (E3 nv na e = true) := by unfold Hid E3; simp; exact ⟨⟨q1, by omega⟩, by omega⟩
  have HQ := show Hid _ from q1
  clear q1 q2 q3
  go_enter Tryz.func252, Tryz.ntmps252
  go_wp2_with fail
  rw [← hW]
  clear hW
  refine v6 (by kernel_rfl) (by kernel_rfl) ?_
  repeat (any_goals (first | go_big_quiet_step (((first | (go_at_call 261; exact HA.out _) | (go_at_call 262; exact HL.out _)))) | quiet_step (((first | (go_at_call 261; exact HA.out _) | (go_at_call 262; exact HL.out _))))))
  refine wpQuiet_nil ?_
  rintro _ ⟨X, rfl⟩
  have M := HM.out.call (A0 W X)
  generalize W.ext X = W1 at *
  clear HA HL HM HB p1 p2 p3 z0 z1 z2 z3 z4 z5
  go_wp2_with fail
  go_loopw [7] (fun i wr => ∃ k : Nat, k ≤ e.kids.length ∧ i = .int .i64 k ∧ (e.kids.take k).all (l9 nv na d) = true ∧ C2 (fun _ => True) (fun _ => True) w wr [.box w.heap.size [.slice a1 nv c1, .slice a2 na c2, v3], .box (w.heap.size + 1) [.int .i64 e.kind, .int .i64 e.value, .slice ak e.kids.length ck]]) (fun i _ => e.kids.length - (intOf i).toNat)
  case atStart => exact ⟨0, bX5 _, rfl, rfl, M⟩
  case round =>
   clear M
   obtain ⟨k, hk, rfl, hall, M⟩ := hrel
   have HALL := show Hid _ from hall
   clear hall
   have hB := M.below fun _ _ => trivial
   have x0 := M.c 0 0 rfl rfl
   have x1 := M.c 0 1 rfl rfl
   have x2 := M.c 0 2 rfl rfl
   have y0 := M.c 1 0 rfl rfl
   have y2 := M.c 1 2 rfl rfl
   by_cases hlt : k < e.kids.length
   ·obtain ⟨b, off, kv, rfl, hbk, hf, c0, c1', c2', hkv⟩ := HC.out k hlt
    rw [← (ac7 hB).1 _ _ hbk] at c0 c1' c2'
    obtain ⟨q, hq⟩ : ∃ q, q = l9 nv na d e.kids[k] := ⟨_, rfl⟩
    have HC3 : Hid (∀ X, Calls Tryz.prog 252 #[.agg #[.slice a1 nv c1, .slice a2 na c2, v3], .agg #[.int .i64 e.kids[k].kind, .int .i64 e.kids[k].value, kv], .int .i64 d] (wr.ext X) fun x w'' => x = .returned (.bool q) ∧ ∃ Y, w'' = wr.ext Y) := fun X => by
     have bb := hB.trans ((A0 wr X).mono hB.size)
     rw [hq]
     exact Calls.ext_of' (ih (by omega) _ φ _ _ ⟨kv, rfl, t5.nice _ _ _ _ _ _ (N2.below bb) hkv⟩)
    have HQQ := show Hid _ from hq
    have HM := show Hid _ from M
    have j0 := fun X => n7 c0 X
    have j1 := fun X => n7 c1' X
    have j2 := fun X => n7 c2' X
    have z0 := fun X => n7 x0 X
    have z1 := fun X => n7 x1 X
    have z2 := fun X => n7 x2 X
    have z5 := fun X => n7 y2 X
    have hlt' : (k : Int) < e.kids.length := by omega
    clear hkv hq c0 c1' c2' x0 x1 x2 y0 M hB
    cases q
    ·go_wp2_with fail
     refine v6 (by kernel_rfl) (by kernel_rfl) ?_
     repeat (any_goals (first | go_big_quiet_step (((go_at_call 252; exact HC3.out _))) | quiet_step (((go_at_call 252; exact HC3.out _)))))
     refine wpQuiet_nil ?_
     rintro _ ⟨X, rfl⟩
     go_wp2_with fail
     go_ret
     have M := HM.out.call (A0 wr X)
     refine ⟨k8 ?_, M.below fun _ _ => trivial⟩
     have h9 : e.kids.all (l9 nv na d) = false := List.all_eq_false.2 ⟨_, bX2 hlt, by rw [← HQQ.out]; simp⟩
     rw [HS.out, h9, Bool.and_false, Bool.false_and]
    ·go_wp2_with fail
     refine v6 (by kernel_rfl) (by kernel_rfl) ?_
     repeat (any_goals (first | go_big_quiet_step (((go_at_call 252; exact HC3.out _))) | quiet_step (((go_at_call 252; exact HC3.out _)))))
     refine wpQuiet_nil ?_
     rintro _ ⟨X, rfl⟩
     go_wp2_with fail
     refine ⟨⟨k + 1, by omega, by go_num, ?_, HM.out.call (A0 wr X)⟩, by simp [intOf]; omega⟩
     rw [L2 _ _ hlt, List.all_append, HALL.out]
     simp [← HQQ.out]
   ·have hkn : k = e.kids.length := by omega
    subst hkn
    have hall := HALL.out
    rw [bW5 (bW6 _)] at hall
    have HAL := show Hid _ from hall
    have HB := show Hid _ from hB
    have HM := show Hid _ from M
    clear hall x0 x1 x2 M hB
    by_cases q4 : e.kind = 3
    ·have p4 : (e.kind != 3) = false := by simp [q4]
     have hl1 : e.kids.length = 1 := by have := HQ.out; rw [q4] at this; simp [K7] at this; omega
     have HL1 := show Hid _ from hl1
     have hpos : 0 < (e.kids.length : Int) := by omega
     obtain ⟨b, off, kv, rfl, hbk, hf, c0, c1', c2', hkv⟩ := HC.out 0 (by omega)
     rw [← (ac7 HB.out).1 _ _ hbk] at c0 c1' c2'
     simp only [Nat.zero_mul, bZ5] at c0 c1' c2'
     have HR := show Hid _ from aP1 q4 (by omega)
     clear hkv q4
     go_wp2_with fail
     refine (aB5 _ _ _ _).mono ?_
     rintro x w2 ⟨rfl, b2⟩
     have B2 := show Hid _ from HB.out.trans (b2.mono HB.out.size)
     clear b2
     go_wp2_with fail
     go_ret
     exact ⟨k8 (by rw [HS.out, HN.out, HAL.out, HR.out]; rfl), B2.out⟩
    ·have p4 : (e.kind != 3) = true := by simp [q4]
     have HR : Hid (T6 e = true) := by unfold Hid T6; simp [q4]
     clear q4
     go_wp2_with fail
     go_ret
     exact ⟨k8 (by rw [HS.out, HN.out, HAL.out, HR.out]; rfl), HB.out⟩
theorem aM2 {nv na d : Nat} {e : b5} (h : l9 nv na (d + 1) e = true) : e.kids.length ≤ 3 ∧ ∀ x ∈ e.kids, l9 nv na d x = true := by
 simp only [l9, E3, bV8, decide_eq_true_eq, bX0] at h
 refine ⟨?_, h.1.2⟩
 have h1 := h.1.1.1.1
 have : K7 e.kind ≤ 3 := by unfold K7; (repeat' split) <;> omega
 omega
theorem a89 {ks : List b5} {B : Nat} (h : ∀ x ∈ ks, 1 + t2 x ≤ B) : s6 ks ≤ ks.length * B := by
 induction ks with
 | nil => simp [s6]
 | cons a r ih =>
  have h1 := h a bX6
  have h2 := ih fun x hx => h x (bX9 _ hx)
  simp only [s6, bV6, bY3]; omega
theorem aZ5 (nv na : Nat) : ∀ (d : Nat) (e : b5), l9 nv na d e = true → 1 + t2 e ≤ 4 ^ d := by
 intro d
 induction d with
 | zero => intro e h; simp [l9] at h
 | succ d ih =>
  intro e h
  obtain ⟨h1, h2⟩ := aM2 h
  have h3 := a89 (ks := e.kids) fun x hx => ih x (h2 x hx)
  have h4 : e.kids.length * 4 ^ d ≤ 3 * 4 ^ d := bZ3 _ h1
  have h5 : 0 < 4 ^ d := Nat.pos_of_ne_zero (by simp)
  rw [F6, Nat.pow_succ]
  omega
theorem aT8 (nv na : Nat) : ∀ d : Nat, d ≤ 5 → ∀ (e : b5) (φ : Nat → Prop) (v : Value) (w : World), K8 w φ v e → l9 nv na d e = true →
  Calls Tryz.prog 253 #[v, .int .i64 d] w fun x w' => x = .returned (.int .i64 (1 + t2 e : Nat)) ∧ Below w.heap.size w w' := by
 intro d
 induction d with
 | zero => intro _ e φ v w _ hs; simp [l9] at hs
 | succ d ih =>
  intro hd5 e φ v w h hs
  obtain ⟨kv, rfl, hk⟩ := h
  obtain ⟨ak, ck, rfl, -, hn, -, hc⟩ := hk.open
  have hd0 : (d : Int) ≤ 5 := by omega
  have hd1 : decide (0 < (d : Int) + 1) = true := decide_eq_true (by omega)
  have hsz : s6 e.kids ≤ 1024 := by
   have h1 := aZ5 nv na (d + 1) e hs
   have h2 : 4 ^ (d + 1) ≤ 4 ^ 5 := Nat.pow_le_pow_right (by omega) hd5
   rw [F6] at h1; omega
  have HK := show Hid _ from (aM2 hs).2
  obtain ⟨W, hW, M⟩ : ∃ W, W = w.alloc (.cells #[.int .i64 e.kind, .int .i64 e.value, .slice ak e.kids.length ck] 104) ∧ C2 (fun _ => True) (fun _ => True) w W [.box w.heap.size [.int .i64 e.kind, .int .i64 e.value, .slice ak e.kids.length ck]] :=
   ⟨_, rfl, (C2.start fun _ _ => trivial).box _ _⟩
  have HC := show Hid _ from hc
  have HSZ := show Hid _ from F6 e
  clear hk hc hs
  go_enter Tryz.func253, Tryz.ntmps253
  go_wp2_with fail
  rw [← hW]
  clear hW
  go_loopw [5, 6] (fun q i wr => ∃ k : Nat, k ≤ e.kids.length ∧ i = .int .i64 k ∧ q = .int .i64 (1 + s6 (e.kids.take k) : Nat) ∧ C2 (fun _ => True) (fun _ => True) w wr [.box w.heap.size [.int .i64 e.kind, .int .i64 e.value, .slice ak e.kids.length ck]]) (fun _ i _ => e.kids.length - (intOf i).toNat)
  case atStart => exact ⟨0, bX5 _, rfl, rfl, M⟩
  case round =>
   clear M
   obtain ⟨k, hk, rfl, rfl, M⟩ := hrel
   have hB := M.below fun _ _ => trivial
   have y2 := M.c 0 2 rfl rfl
   have htl := Z3 e.kids k
   obtain ⟨z, hz⟩ : ∃ z, z = s6 (e.kids.take k) := ⟨_, rfl⟩
   rw [← hz] at htl ⊢
   have HZ := show Hid _ from hz
   clear hz
   by_cases hlt : k < e.kids.length
   ·obtain ⟨b, off, kv, rfl, hbk, hf, c0, c1', c2', hkv⟩ := HC.out k hlt
    rw [← (ac7 hB).1 _ _ hbk] at c0 c1' c2'
    have HE := show Hid (K8 wr φ (.agg #[.int .i64 e.kids[k].kind, .int .i64 e.kids[k].value, kv]) e.kids[k]) from ⟨kv, rfl, t5.nice _ _ _ _ _ _ (N2.below hB) hkv⟩
    have HM := show Hid _ from M
    have hlt' : (k : Int) < e.kids.length := by omega
    have HT := show Hid _ from L6 hlt
    have htl1 := Z3 e.kids (k + 1)
    rw [HT.out, ← HZ.out] at htl1
    clear hkv M hB
    go_wp2_with fail
    refine (ih (by omega) _ φ _ _ HE.out (HK.out _ (bX2 hlt))).mono ?_
    rintro x w2 ⟨rfl, b2⟩
    have HM2 := show Hid _ from HM.out.call b2
    clear b2 y2
    go_wp2_with fail
    exact ⟨⟨k + 1, by omega, by go_num, by rw [HT.out, ← HZ.out]; go_num, HM2.out⟩, by simp [intOf]; omega⟩
   ·have hkn : k = e.kids.length := by omega
    subst hkn
    have HB := show Hid _ from hB
    clear M hB
    go_wp2_with fail
    go_ret
    exact ⟨C1 (by rw [HZ.out, bW5 (bW6 _), HSZ.out]), HB.out⟩
theorem T1 (a1 a2 : Option Addr) (nv c1 na c2 : Nat) (v3 : Value) (h1 : nv ≤ 9223372036854775807) (h2 : na ≤ 9223372036854775807) (e : b5) (φ : Nat → Prop) (v : Value) (w : World) (h : K8 w φ v e) :
  Calls Tryz.prog 233 #[.agg #[.slice a1 nv c1, .slice a2 na c2, v3], v] w fun x w' => x = .returned (.bool (s0 nv na e)) ∧ Below w.heap.size w w' := by
 obtain ⟨kv, rfl, hk⟩ := h
 have HR : Hid (s0 nv na e = (l9 nv na 5 e && decide (1 + t2 e ≤ 15))) := rfl
 obtain ⟨W, hW, M⟩ : ∃ W, W = (w.alloc (.cells #[.slice a1 nv c1, .slice a2 na c2, v3] 26)).alloc (.cells #[.int .i64 e.kind, .int .i64 e.value, kv] 104) ∧ C2 (fun _ => True) (fun _ => True) w W [.box w.heap.size [.slice a1 nv c1, .slice a2 na c2, v3], .box (w.heap.size + 1) [.int .i64 e.kind, .int .i64 e.value, kv]] :=
  ⟨_, rfl, ((C2.start fun _ _ => trivial).box _ _).box' _ _ (by simp)⟩
 have HE := show Hid (∀ W', Below w.heap.size w W' → K8 W' φ (.agg #[.int .i64 e.kind, .int .i64 e.value, kv]) e) from fun W' k => ⟨kv, rfl, t5.nice _ _ _ _ _ _ (N2.below k) hk⟩
 clear hk
 have x0 := M.c 0 0 rfl rfl
 have x1 := M.c 0 1 rfl rfl
 have x2 := M.c 0 2 rfl rfl
 have y0 := M.c 1 0 rfl rfl
 have y1 := M.c 1 1 rfl rfl
 have y2 := M.c 1 2 rfl rfl
 rw [hW] at x0 x1 x2 y0 y1 y2
 go_enter Tryz.func233, Tryz.ntmps233
 go_wp2_with fail
 rw [← hW]
 clear hW x0 x1 x2 y0 y1 y2
 refine (aT4 a1 a2 nv c1 na c2 v3 h1 h2 5 (by omega) e φ _ _ (HE.out _ (M.below fun _ _ => trivial))).mono ?_
 rintro x w1 ⟨rfl, b1⟩
 replace M := M.call b1
 clear b1
 cases hs : l9 nv na 5 e
 ·have HB := show Hid _ from M.below fun _ _ => trivial
  have HS := show Hid _ from hs
  clear hs M
  go_wp2_with fail
  go_ret
  exact ⟨k8 (by rw [HR.out, HS.out]; rfl), HB.out⟩
 ·have HS := show Hid _ from hs
  have hsz := aZ5 nv na 5 e hs
  have y0 := M.c 1 0 rfl rfl
  have y1 := M.c 1 1 rfl rfl
  have y2 := M.c 1 2 rfl rfl
  have HM := show Hid _ from M
  clear hs M
  go_wp2_with fail
  refine (aT8 nv na 5 (by omega) e φ _ _ (HE.out _ (HM.out.below fun _ _ => trivial)) HS.out).mono ?_
  rintro x w2 ⟨rfl, b1⟩
  have HB := show Hid _ from (HM.out.call b1).below fun _ _ => trivial
  clear b1 y0 y1 y2
  go_wp2_with fail
  go_ret
  exact ⟨k8 (by rw [HR.out, HS.out, Bool.true_and]; exact decide_eq_decide.2 (by omega)), HB.out⟩
theorem F7 (n lo hi : Int) (w : World) : Calls Tryz.prog 101 #[.int .i64 n, .int .i64 lo, .int .i64 hi] w fun e w' => e = .returned (.bool (decide (lo ≤ n) && decide (n ≤ hi))) ∧ w = w' := by
 go_enter Tryz.func101, Tryz.ntmps101
 go_wp2
 all_goals go_ret
 all_goals exact ⟨k8 (by simp; try omega), rfl⟩
theorem aj6 (l : Int) (w : World) : Calls Tryz.prog 105 #[.int .i64 l] w fun e w' => e = .returned (.bool (m0 l)) ∧ w = w' := by
 go_enter Tryz.func105, Tryz.ntmps105
 go_wp2_with fail
 refine (F7 l 0 3 _).mono ?_
 rintro e w1 ⟨rfl, rfl⟩
 go_wp2_with fail
 go_ret
 exact ⟨rfl, rfl⟩
theorem aC4 (l : Int) (w : World) : Calls Tryz.prog 222 #[.int .i64 l] w fun e w' => e = .returned (.bool (!m0 l)) ∧ w = w' := by
 go_enter Tryz.func222, Tryz.ntmps222
 go_wp2_with fail
 refine (aj6 l _).mono ?_
 rintro e w1 ⟨rfl, rfl⟩
 go_wp2_with fail
 go_ret
 exact ⟨rfl, rfl⟩
theorem aN1 (p : Int → Bool) (f : FuncId) (v : Value) (xs : List Int) (w : World) (h : V9 w v xs.length 1 (ints xs)) (he : ∀ args w, (callFunc f args).run Tryz.prog w = .ok (.enter f args) w)
  (hf : ∀ x w', Calls Tryz.prog f #[.int .i64 x] w' fun e w'' => e = .returned (.bool (p x)) ∧ w' = w'') :
  Calls Tryz.prog 245 #[v, .func (.func f) #[] #[]] w fun e w' => ∃ r : Int, e = .returned (.int .i64 r) ∧ decide (0 ≤ r) = xs.any p ∧ w = w' := by
 obtain ⟨a1, c1, rfl, -, hm1, -, hc1⟩ := h.open1
 have HF := show Hid _ from hf
 clear h hf
 go_enter Tryz.func245, Tryz.ntmps245
 go_wp2_with fail
 go_loop [5, 8] (fun _ i => ∃ k : Nat, k ≤ xs.length ∧ i = .int .i64 k ∧ (xs.take k).any p = false) (fun _ i => xs.length - (intOf i).toNat)
 case atStart => exact ⟨0, bX5 _, rfl, rfl⟩
 case round =>
  obtain ⟨k, hk, rfl, ha⟩ := hrel
  have HA := show Hid _ from ha
  clear ha
  by_cases hlt : k < xs.length
  ·obtain ⟨b1, o1, rfl, hb1, hx⟩ := hc1 k hlt
   rw [af8 _ _ hlt] at hx
   clear hc1
   cases hp : p xs[k]
   all_goals
    have HP := show Hid _ from hp
    clear hp
    go_wp2_with fail
    refine (HF.out xs[k] _).mono ?_
    rintro e w1 ⟨rfl, rfl⟩
    rw [HP.out]
    go_wp2_with fail
   ·go_round
    case rel => exact ⟨k + 1, by omega, by go_num, by rw [m8 _ _ hlt, List.any_append, HA.out]; simp [HP.out]⟩
    case measure => simp [intOf]; omega
   ·go_ret
    exact ⟨_, rfl, by rw [decide_eq_true (by omega)]; symm; rw [List.any_eq_true]; exact ⟨_, bX2 hlt, HP.out⟩, rfl⟩
  ·go_wp2_with fail
   go_ret
   refine ⟨_, rfl, ?_, rfl⟩
   have := HA.out
   rw [bW5 (by omega)] at this
   rw [this]; rfl
theorem aA0 (p : Int → Bool) (f : FuncId) (v : Value) (xs : List Int) (w : World) (h : V9 w v xs.length 1 (ints xs)) (he : ∀ args w, (callFunc f args).run Tryz.prog w = .ok (.enter f args) w)
  (hf : ∀ x w', Calls Tryz.prog f #[.int .i64 x] w' fun e w'' => e = .returned (.bool (p x)) ∧ w' = w'') :
  Calls Tryz.prog 221 #[v, .func (.func f) #[] #[]] w fun e w' => e = .returned (.bool (xs.any p)) ∧ w = w' := by
 obtain ⟨a1, c1, rfl, -⟩ := h.open1
 have HF := show Hid _ from hf
 have HE := show Hid _ from he
 clear hf he
 go_enter Tryz.func221, Tryz.ntmps221
 go_wp2_with fail
 refine (aN1 p f _ xs _ h HE.out HF.out).mono ?_
 rintro e w1 ⟨r, rfl, hr, rfl⟩
 have HR := show Hid _ from hr
 clear hr
 go_wp2_with fail
 go_ret
 exact ⟨k8 HR.out, rfl⟩
theorem a67 (xs : List Int) : (!xs.any fun l => !m0 l) = xs.all m0 := by
 induction xs with
 | nil => rfl
 | cons x r ih => simp only [List.any_cons, List.all_cons, ← ih]; cases m0 x <;> simp
theorem ab9 (v : Value) (xs : List Int) (w : World) (h : V9 w v xs.length 1 (ints xs)) :
  Calls Tryz.prog 172 #[v] w fun e w' => e = .returned (.bool (xs.all m0)) ∧ w = w' := by
 obtain ⟨a1, c1, rfl, -⟩ := h.open1
 go_enter Tryz.func172, Tryz.ntmps172
 go_wp2_with fail
 refine (aA0 (fun l => !m0 l) 222 _ xs _ h (aP8 Tryz.func222 (by kernel_rfl) rfl) (fun x w' => aC4 x w')).mono ?_
 rintro e w1 ⟨rfl, rfl⟩
 have HN := show Hid _ from a67 xs
 go_wp2_with fail
 go_ret
 exact ⟨k8 HN.out, rfl⟩
theorem aN3 (v1 v2 : Value) (vars arrays : List Int) (w : World) (h1 : V9 w v1 vars.length 1 (ints vars)) (h2 : V9 w v2 arrays.length 1 (ints arrays)) :
  Calls Tryz.prog 100 #[v1, v2] w fun e w' => e = .returned (.bool (L9 vars arrays)) ∧ w = w' := by
 obtain ⟨a1, c1, rfl, -, q1, -⟩ := h1.open1
 obtain ⟨a2, c2, rfl, -, q2, -⟩ := h2.open1
 have HT : Hid (L9 vars arrays = (vars.all m0 && arrays.all m0 && decide (1 ≤ vars.length) && decide (vars.length ≤ 12) && decide (arrays.length ≤ 2))) := rfl
 by_cases hn : (1 : Int) ≤ (vars.length : Int) ∧ (vars.length : Int) ≤ 12
 ·have hb : (decide ((1 : Int) ≤ vars.length) && decide ((vars.length : Int) ≤ 12)) = true := by simpa using hn
  have HB := show Hid _ from hb
  by_cases hm : (arrays.length : Int) ≤ 2
  ·cases hv : vars.all m0
   ·have HV := show Hid _ from hv
    clear hv hb hn
    go_enter Tryz.func100, Tryz.ntmps100
    go_wp2_with fail
    refine (F7 _ 1 12 _).mono ?_
    rintro e w1 ⟨rfl, rfl⟩
    rw [HB.out]
    go_wp2_with fail
    refine (ab9 _ vars _ h1).mono ?_
    rintro e w1 ⟨rfl, rfl⟩
    rw [HV.out]
    go_wp2_with fail
    go_ret
    exact ⟨k8 (by rw [HT.out, HV.out]; rfl), rfl⟩
   ·have HV := show Hid _ from hv
    have hn' := show Hid _ from hn
    have hm' := show Hid _ from hm
    clear hv hb hn
    go_enter Tryz.func100, Tryz.ntmps100
    go_wp2_with fail
    refine (F7 _ 1 12 _).mono ?_
    rintro e w1 ⟨rfl, rfl⟩
    rw [HB.out]
    go_wp2_with fail
    refine (ab9 _ vars _ h1).mono ?_
    rintro e w1 ⟨rfl, rfl⟩
    rw [HV.out]
    go_wp2_with fail
    refine (ab9 _ arrays _ h2).mono ?_
    rintro e w1 ⟨rfl, rfl⟩
    go_wp2_with fail
    go_ret
    refine ⟨k8 ?_, rfl⟩
    have h3 := hn'.out
    have h4 := hm'.out
    rw [HT.out, HV.out, decide_eq_true (show 1 ≤ vars.length by omega), decide_eq_true (show vars.length ≤ 12 by omega), decide_eq_true (show arrays.length ≤ 2 by omega)]
    simp
  ·have hF : Hid (L9 vars arrays = false) := by unfold Hid; rw [HT.out, decide_eq_false (show ¬ arrays.length ≤ 2 by omega)]; simp
   clear hb hn
   go_enter Tryz.func100, Tryz.ntmps100
   go_wp2_with fail
   refine (F7 _ 1 12 _).mono ?_
   rintro e w1 ⟨rfl, rfl⟩
   rw [HB.out]
   go_wp2_with fail
   go_ret
   exact ⟨k8 hF.out.symm, rfl⟩
 ·have hb : (decide ((1 : Int) ≤ vars.length) && decide ((vars.length : Int) ≤ 12)) = false := by
   rw [Bool.eq_false_iff]; simp only [ne_eq, bV8, decide_eq_true_eq]; exact hn
  have HB := show Hid _ from hb
  have hF : Hid (L9 vars arrays = false) := by
   unfold Hid; rw [HT.out]
   rcases Classical.not_and_iff_not_or_not.1 hn with h | h
   ·rw [decide_eq_false (show ¬ 1 ≤ vars.length by omega)]; simp
   ·rw [decide_eq_false (show ¬ vars.length ≤ 12 by omega)]; simp
  clear hb hn
  go_enter Tryz.func100, Tryz.ntmps100
  go_wp2_with fail
  refine (F7 _ 1 12 _).mono ?_
  rintro e w1 ⟨rfl, rfl⟩
  rw [HB.out]
  go_wp2_with fail
  go_ret
  exact ⟨k8 hF.out.symm, rfl⟩
theorem av6 (k n : Int) (kv : Value) (w : World) : Calls Tryz.prog 228 #[.agg #[.int .i64 k, .int .i64 n, kv]] w fun e w' => e = .returned (.bool (decide (k = 1) || decide (k = 2))) ∧ Below w.heap.size w w' := by
 by_cases h1 : k = 1
 ·have p1 : (k == 1) = true := by simp [h1]
  have Q := show Hid _ from h1
  clear h1
  go_enter Tryz.func228, Tryz.ntmps228
  go_wp2
  go_ret
  exact ⟨k8 (by simp [Q.out]), by go_grown⟩
 ·have p1 : (k == 1) = false := by simp [h1]
  have Q := show Hid _ from h1
  clear h1
  by_cases h2 : k = 2
  ·have p2 : (k == 2) = true := by simp [h2]
   have Q2 := show Hid _ from h2
   clear h2
   go_enter Tryz.func228, Tryz.ntmps228
   go_wp2
   go_ret
   exact ⟨k8 (by simp [Q2.out]), by go_grown⟩
  ·have p2 : (k == 2) = false := by simp [h2]
   have Q2 := show Hid _ from h2
   clear h2
   go_enter Tryz.func228, Tryz.ntmps228
   go_wp2
   go_ret
   exact ⟨k8 (by rw [decide_eq_false Q.out, decide_eq_false Q2.out]; rfl), by go_grown⟩
theorem aN2 (k : Int) (w : World) : Calls Tryz.prog 260 #[.int .i64 k] w fun e w' => e = .returned (.int .i64 (K7 k)) ∧ w = w' := by
 by_cases h1 : k = 1
 ·subst h1
  go_enter Tryz.func260, Tryz.ntmps260
  go_wp2_with fail
  go_ret
  exact ⟨C1 (by simp [K7]), rfl⟩
 by_cases h2 : k = 2
 ·subst h2
  go_enter Tryz.func260, Tryz.ntmps260
  go_wp2_with fail
  go_ret
  exact ⟨C1 (by simp [K7]), rfl⟩
 by_cases h3 : k = 3
 ·subst h3
  go_enter Tryz.func260, Tryz.ntmps260
  go_wp2_with fail
  go_ret
  exact ⟨C1 (by simp [K7]), rfl⟩
 have p1 : (k == 1) = false := by simp [h1]
 have p2 : (k == 2) = false := by simp [h2]
 have p3 : (k == 3) = false := by simp [h3]
 have H := show Hid _ from And.intro h1 (And.intro h2 h3)
 clear h1 h2 h3
 go_enter Tryz.func260, Tryz.ntmps260
 go_wp2_with fail
 refine (F7 k 4 10 _).mono ?_
 rintro x w1 ⟨rfl, rfl⟩
 by_cases h4 : 4 ≤ k ∧ k ≤ 10
 ·have p4 : (decide (4 ≤ k) && decide (k ≤ 10)) = true := by simp [h4]
  rw [p4]
  have H4 := show Hid _ from h4
  clear h4 p4
  go_wp2_with fail
  go_ret
  exact ⟨C1 (by have := H.out; have := H4.out; unfold K7; rw [if_neg (by omega), if_neg (by omega), if_pos (by omega)]), rfl⟩
 ·have p4 : (decide (4 ≤ k) && decide (k ≤ 10)) = false := by simp; omega
  rw [p4]
  have H4 := show Hid _ from h4
  clear h4 p4
  by_cases h5 : k = 11
  ·subst h5
   go_wp2_with fail
   go_ret
   exact ⟨C1 (by simp [K7]), rfl⟩
  ·have p5 : (k == 11) = false := by simp [h5]
   have H5 := show Hid _ from h5
   clear h5
   go_wp2_with fail
   go_ret
   exact ⟨C1 (by have := H.out; have := H4.out; have := H5.out; unfold K7; rw [if_neg (by omega), if_neg (by omega), if_neg (by omega), if_neg (by omega)]), rfl⟩
theorem ah6 {nv na d c : Nat} {e : b5} (h1 : E3 nv na e = true) (h2 : T6 e = true) : D3 nv na (d + 1) c e = C7 nv na d (c + 1) e.kids e.kids.length := by
 unfold D3 C7
 rw [bW5 (bW6 _), l9, h1, h2, F6]
 simp
theorem ad4 {nv na d c k : Nat} {ks : List b5} (hk : k < ks.length) (hs : D3 nv na d (c + s6 (ks.take k)) ks[k] = false) : C7 nv na d c ks ks.length = false := by
 unfold C7
 rw [bW5 (bW6 _)]
 exact aU2 nv na hk hs
theorem T3 {nv na d c : Nat} {e : b5} (h1 : E3 nv na e = false) : D3 nv na (d + 1) c e = false := by
 unfold D3; rw [l9, h1]; rfl
theorem aU3 {nv na d c : Nat} {e : b5} (h1 : T6 e = false) : D3 nv na (d + 1) c e = false := by
 unfold D3; rw [l9, h1]; simp
theorem ai5 {nv na : Nat} {k n h : Int} (hh : h = N6 nv na k - 1) : (decide (0 ≤ n) && decide (n ≤ h)) = (decide (0 ≤ n) && decide (n < N6 nv na k)) := by
 congr 1; exact decide_eq_decide.2 (by omega)
theorem bl5 (a1 a2 : Option Addr) (nv c1 na c2 : Nat) (v3 : Value) (h1 : nv ≤ 9223372036854775807) (h2 : na ≤ 9223372036854775807) : ∀ (d : Nat) (deep : Int), deep + d = 6 → 1 ≤ deep → ∀ (e : b5) (φ : Nat → Prop) (v : Value) (c cb : Nat) (w : World), K8 w φ v e → ¬ φ cb → Blk w cb [.int .i64 c] → c ≤ 15 →
  Calls Tryz.prog 249 #[.agg #[.slice a1 nv c1, .slice a2 na c2, v3], v, .int .i64 deep, .pointer (some ⟨cb, 0, none⟩)] w fun x w' =>
   x = .returned (.bool (D3 nv na d c e)) ∧ (D3 nv na d c e = true → Blk w' cb [.int .i64 (c + 1 + t2 e : Nat)]) ∧ (∃ u, Blk w' cb [u]) ∧ D0 (fun b => ¬ b = cb) w w' := by
 intro d
 induction d with
 | zero =>
  intro deep hdp hd1 e φ v c cb w h hcb hblk hc
  obtain ⟨kv, rfl, hk⟩ := h
  have HF : Hid (D3 nv na 0 c e = false) := rfl
  obtain rfl : deep = 6 := by omega
  have hl := hblk.lt
  have x0 : w.cell? ⟨cb, 0, none⟩ = some (.int .i64 c) := (hblk.cell 0).trans rfl
  have f0 := hblk.free
  obtain ⟨W, hW, M⟩ : ∃ W, W = (((w.setCell ⟨cb, 0, none⟩ (.int .i64 ((c : Int) + 1))).alloc (.cells #[.slice a1 nv c1, .slice a2 na c2, v3] 26)).alloc (.cells #[.int .i64 e.kind, .int .i64 e.value, kv] 104)) ∧ C2 (fun _ => True) (fun b => ¬ b = cb) w W [.box cb [.int .i64 ((c : Int) + 1)]] :=
   ⟨_, rfl, (((C2.start fun _ _ => trivial).adopt (.box cb [.int .i64 c]) (fun _ ha => by cases ha) bW1 hblk (fun _ ha => by cases ha) (fun g hg hn => by cases hg; exact hn rfl)).set 0 rfl 0 (.int .i64 ((c : Int) + 1))).call (by go_grown)⟩
  have y0 := M.c 0 0 rfl rfl
  have z0 := fun X => n7 y0 X
  clear hk y0 hblk
  by_cases q : (15 : Int) < (c : Int) + 1
  ·have p : decide ((15 : Int) < (c : Int) + 1) = true := by simp; omega
   clear q
   go_enter Tryz.func249, Tryz.ntmps249
   go_wp2_with fail
   rw [← hW]
   clear hW
   refine v6 (by kernel_rfl) (by kernel_rfl) ?_
   repeat (any_goals (first | go_big_quiet_step (((fail))) | quiet_step (((fail)))))
   refine wpQuiet_nil ?_
   rintro _ ⟨X, rfl⟩
   replace M := M.call (A0 W X)
   go_wp2_with fail
   go_ret
   exact ⟨k8 (by rw [HF.out]), fun h => absurd (h.symm.trans HF.out) (by simp), ⟨_, M.blk 0 rfl⟩, M.kept⟩
  ·have p : decide ((15 : Int) < (c : Int) + 1) = false := by simp; omega
   clear q
   go_enter Tryz.func249, Tryz.ntmps249
   go_wp2_with fail
   rw [← hW]
   clear hW
   refine v6 (by kernel_rfl) (by kernel_rfl) ?_
   repeat (any_goals (first | go_big_quiet_step (((fail))) | quiet_step (((fail)))))
   refine wpQuiet_nil ?_
   rintro _ ⟨X, rfl⟩
   replace M := M.call (A0 W X)
   go_wp2_with fail
   go_ret
   exact ⟨k8 (by rw [HF.out]), fun h => absurd (h.symm.trans HF.out) (by simp), ⟨_, M.blk 0 rfl⟩, M.kept⟩
 | succ d ih =>
  intro deep hdp hd1 e φ v c cb w h hcb hblk hc
  obtain ⟨kv, rfl, hk⟩ := h
  obtain ⟨ak, ck, rfl, -, hn, -, -⟩ := hk.open
  have hl := hblk.lt
  have hd5 : deep ≤ 5 := by omega
  obtain ⟨φ', hφ'⟩ : ∃ φ' : Nat → Prop, φ' = fun b => φ b ∨ w.heap.size ≤ b := ⟨_, rfl⟩
  have x0 : w.cell? ⟨cb, 0, none⟩ = some (.int .i64 c) := (hblk.cell 0).trans rfl
  have f0 := hblk.free
  obtain ⟨W, hW, M⟩ : ∃ W, W = (((w.setCell ⟨cb, 0, none⟩ (.int .i64 ((c : Int) + 1))).alloc (.cells #[.slice a1 nv c1, .slice a2 na c2, v3] 26)).alloc (.cells #[.int .i64 e.kind, .int .i64 e.value, .slice ak e.kids.length ck] 104)) ∧
    C2 φ' (fun b => ¬ b = cb) w W [.box cb [.int .i64 ((c : Int) + 1)], .box w.heap.size [.slice a1 nv c1, .slice a2 na c2, v3], .box (w.heap.size + 1) [.int .i64 e.kind, .int .i64 e.value, .slice ak e.kids.length ck], .dat (fun w φ => t5 w φ (.slice ak e.kids.length ck) e.kids)] := by
   refine ⟨_, rfl, (((((C2.start (by rw [hφ']; exact fun _ h => .inr h)).adopt (.box cb [.int .i64 c]) (fun _ ha => by cases ha) bW1 hblk (fun _ ha => by cases ha) (fun g hg hn => by cases hg; exact hn rfl)).set 0 rfl 0 (.int .i64 ((c : Int) + 1))).box' _ _ (by simp)).box' _ _ (by simp)).dat (t5.nice _ _) (t5.nice _ _ _ _ _ _ ⟨by simp; omega, fun b hb hf => ⟨⟨by rw [hφ']; exact .inl hf, fun r hr he => ?_⟩, ?_⟩⟩ hk)⟩
   ·simp at hr
    rcases hr with rfl | rfl | rfl
    ·cases he; exact hcb hf
    ·cases he; omega
    ·cases he; omega
   ·have hbc : b ≠ cb := fun he => hcb (he ▸ hf)
    exact (((Below.refl w.heap.size (w.setCell ⟨cb, 0, none⟩ (.int .i64 ((c : Int) + 1)))).alloc (by simp) _ |>.alloc (by simp) _).block b (by simpa using hb)).trans (Below.heap_setCell _ _ _ _ hbc)
  clear hk hblk hφ'
  have y0 := M.c 0 0 rfl rfl
  have y1 := M.c 2 0 rfl rfl
  have y2 := M.c 2 2 rfl rfl
  have z0 := fun X => n7 y0 X
  have z1 := fun X => n7 y1 X
  have z2 := fun X => n7 y2 X
  have HA : Hid (∀ X, Calls Tryz.prog 260 #[.int .i64 e.kind] (W.ext X) fun x w'' => x = .returned (.int .i64 (K7 e.kind)) ∧ ∃ Y, w'' = W.ext Y) := fun X =>
   Calls.ext_of' ((aN2 e.kind _).mono fun x w' h => ⟨h.1, h.2 ▸ Below.refl _ _⟩)
  clear y0 y1 y2
  have p2 : decide ((5 : Int) < deep) = false := decide_eq_false (by omega)
  by_cases q1 : (15 : Int) < (c : Int) + 1
  ·have p1 : decide ((15 : Int) < (c : Int) + 1) = true := decide_eq_true q1
   have HF : Hid (D3 nv na (d + 1) c e = false) := by unfold Hid D3; rw [decide_eq_false (by omega), Bool.and_false]
   clear q1
   go_enter Tryz.func249, Tryz.ntmps249
   go_wp2_with fail
   rw [← hW]
   clear hW
   refine v6 (by kernel_rfl) (by kernel_rfl) ?_
   repeat (any_goals (first | go_big_quiet_step (((go_at_call 260; exact HA.out _))) | quiet_step (((go_at_call 260; exact HA.out _)))))
   refine wpQuiet_nil ?_
   rintro _ ⟨X, rfl⟩
   replace M := M.call (A0 W X)
   go_wp2_with fail
   go_ret
   exact ⟨k8 (by rw [HF.out]), fun h => absurd (h.symm.trans HF.out) (by simp), ⟨_, M.blk 0 rfl⟩, M.kept⟩
  have p1 : decide ((15 : Int) < (c : Int) + 1) = false := decide_eq_false q1
  by_cases q3 : (e.kids.length : Int) = K7 e.kind
  case neg =>
   have p3 : (K7 e.kind != (e.kids.length : Int)) = true := by simp; omega
   have HF : Hid (D3 nv na (d + 1) c e = false) := T3 (by unfold E3; rw [decide_eq_false q3]; rfl)
   clear q1 q3
   go_enter Tryz.func249, Tryz.ntmps249
   go_wp2_with fail
   rw [← hW]
   clear hW
   refine v6 (by kernel_rfl) (by kernel_rfl) ?_
   repeat (any_goals (first | go_big_quiet_step (((go_at_call 260; exact HA.out _))) | quiet_step (((go_at_call 260; exact HA.out _)))))
   refine wpQuiet_nil ?_
   rintro _ ⟨X, rfl⟩
   replace M := M.call (A0 W X)
   go_wp2_with fail
   go_ret
   exact ⟨k8 (by rw [HF.out]), fun h => absurd (h.symm.trans HF.out) (by simp), ⟨_, M.blk 0 rfl⟩, M.kept⟩
  have p3 : (K7 e.kind != (e.kids.length : Int)) = false := by simp; omega
  have HQ := show Hid _ from And.intro q1 q3
  clear q1 q3
  go_enter Tryz.func249, Tryz.ntmps249
  go_wp2_with fail
  rw [← hW]
  clear hW
  refine v6 (by kernel_rfl) (by kernel_rfl) ?_
  repeat (any_goals (first | go_big_quiet_step (((go_at_call 260; exact HA.out _))) | quiet_step (((go_at_call 260; exact HA.out _)))))
  refine wpQuiet_nil ?_
  rintro _ ⟨X, rfl⟩
  replace M := M.call (A0 W X)
  generalize W.ext X = W1 at *
  clear z0 z1 z2 HA p1 p2 p3 f0 x0
  have y0 := M.c 1 0 rfl rfl
  have y1 := M.c 1 1 rfl rfl
  have y2 := M.c 2 0 rfl rfl
  have y3 := M.c 2 1 rfl rfl
  have y4 := M.c 2 2 rfl rfl
  have HM := show Hid _ from M
  clear M
  by_cases k1 : e.kind = 1
  ·have qq1 : (e.kind == 1) = true := by simp [k1]
   have qq2 : (e.kind == 3) = false := by simp [k1]
   have HRD : Hid (T6 e = true) := by unfold Hid T6; simp [k1]
   have hhi : (255 : Int) = N6 nv na e.kind - 1 := by rw [k1]; simp [N6]
   clear k1
   have HNB := show Hid (E3 nv na e = (decide (0 ≤ e.value) && decide (e.value ≤ 255))) from by
    unfold Hid E3; rw [decide_eq_true HQ.out.2, ai5 hhi]; rfl
   clear hhi
   go_wp2_with fail
   refine (F7 e.value 0 _ _).mono ?_
   rintro x w1 ⟨rfl, rfl⟩
   have HNB2 := show Hid (E3 nv na e = (decide (0 ≤ e.value) && decide (e.value ≤ 255))) from HNB.out
   clear HNB
   obtain ⟨qn, hqn⟩ : ∃ qn, qn = (decide (0 ≤ e.value) && decide (e.value ≤ 255)) := ⟨_, rfl⟩
   rw [← hqn]
   have HN := show Hid (E3 nv na e = qn) from HNB2.out.trans hqn.symm
   clear hqn HNB2
   cases qn
   ·have HF : Hid (D3 nv na (d + 1) c e = false) := T3 HN.out
    have M := HM.out
    clear HM
    go_wp2_with fail
    go_ret
    exact ⟨k8 (by rw [HF.out]), fun h => absurd (h.symm.trans HF.out) (by simp), ⟨_, M.blk 0 rfl⟩, M.kept⟩
   have HSC : Hid (D3 nv na (d + 1) c e = C7 nv na d (c + 1) e.kids e.kids.length) := ah6 HN.out HRD.out
   go_wp2_with fail
   clear y0 y1 y2 y3 y4
   have HST : Hid (C7 nv na d (c + 1) e.kids 0 = true ∧ C2 φ' (fun b => ¬ b = cb) w W1 [.box cb [.int .i64 (c + 1 + s6 (e.kids.take 0) : Nat)], .box w.heap.size [.slice a1 nv c1, .slice a2 na c2, v3], .box (w.heap.size + 1) [.int .i64 e.kind, .int .i64 e.value, .slice ak e.kids.length ck], .dat (fun w φ => t5 w φ (.slice ak e.kids.length ck) e.kids)]) := by
    refine ⟨?_, ?_⟩
    ·have := HQ.out.1
     simp [C7, s6]; omega
    ·rw [show ((c + 1 + s6 (e.kids.take 0) : Nat) : Int) = (c : Int) + 1 by simp [s6]]
     exact HM.out
   go_loopw [71] (fun i wr => ∃ k : Nat, k ≤ e.kids.length ∧ i = .int .i64 k ∧ C7 nv na d (c + 1) e.kids k = true ∧ C2 φ' (fun b => ¬ b = cb) w wr [.box cb [.int .i64 (c + 1 + s6 (e.kids.take k) : Nat)], .box w.heap.size [.slice a1 nv c1, .slice a2 na c2, v3], .box (w.heap.size + 1) [.int .i64 e.kind, .int .i64 e.value, .slice ak e.kids.length ck], .dat (fun w φ => t5 w φ (.slice ak e.kids.length ck) e.kids)]) (fun i _ => e.kids.length - (intOf i).toNat)
   case atStart => exact ⟨0, bX5 _, rfl, HST.out.1, HST.out.2⟩
   case round =>
    clear HM
    obtain ⟨k, hk, rfl, hpre, M⟩ := hrel
    have HPRE := show Hid _ from hpre
    have hle : c + 1 + s6 (e.kids.take k) ≤ 15 := by unfold C7 at hpre; simp at hpre; exact hpre.2
    clear hpre
    by_cases hlt : k < e.kids.length
    ·have hncb : ¬ Fr φ' [.box cb [.int .i64 (c + 1 + s6 (e.kids.take k) : Nat)], .box w.heap.size [.slice a1 nv c1, .slice a2 na c2, v3], .box (w.heap.size + 1) [.int .i64 e.kind, .int .i64 e.value, .slice ak e.kids.length ck], .dat (fun w φ => t5 w φ (.slice ak e.kids.length ck) e.kids)] cb := fun h => h.2 _ bX6 rfl
     obtain ⟨a', c', he, -, -, -, hcell⟩ := (M.d 3 rfl).open
     cases he
     obtain ⟨b, off, kv, hbo, hbk, hf, g0, g1, g2, hkk⟩ := hcell k hlt
     cases hbo
     obtain ⟨ka, kc, rfl, -, -, -, -⟩ := hkk.open
     have bz : Below wr.heap.size wr (wr.alloc (.cells #[.int .i64 e.kids[k].kind, .int .i64 e.kids[k].value, .slice ka e.kids[k].kids.length kc] 104)) := by go_grown
     have HE := show Hid _ from t5.nice _ _ _ _ _ _ (N2.below bz) hkk
     have HNCB := show Hid _ from hncb
     have x0 := M.c 1 0 rfl rfl
     have x1 := M.c 1 1 rfl rfl
     have x2 := M.c 1 2 rfl rfl
     have s1 : w.heap.size < wr.heap.size := M.lt (r := .box w.heap.size [.slice a1 nv c1, .slice a2 na c2, v3]) (bX9 _ bX6) rfl
     have HM := show Hid _ from M.box [.int .i64 e.kids[k].kind, .int .i64 e.kids[k].value, .slice ka e.kids[k].kids.length kc] 104
     have HP := show Hid _ from Z6 nv na (d := d) (c := c + 1) hlt
     have HX := show Hid (D3 nv na d (c + 1 + s6 (e.kids.take k)) e.kids[k] = false → D3 nv na (d + 1) c e = false) from fun h => HSC.out.trans (ad4 hlt h)
     have HT := show Hid _ from L6 hlt
     clear hcell hncb bz hkk M
     go_wp2_with fail
     refine (ih (deep + 1) (by omega) (by omega) e.kids[k] _ _ (c + 1 + s6 (e.kids.take k)) cb _ ⟨_, rfl, HE.out⟩ HNCB.out (HM.out.blk 0 rfl) hle).mono ?_
     rintro x w2 ⟨rfl, r1, ⟨u, r2⟩, kp⟩
     obtain ⟨q, hq⟩ : ∃ q, q = D3 nv na d (c + 1 + s6 (e.kids.take k)) e.kids[k] := ⟨_, rfl⟩
     rw [← hq] at r1 ⊢
     have HQ2 := show Hid _ from hq
     clear hq x0 x1 x2 g0 g1 g2
     cases q
     ·have M2 := HM.out.callB 0 rfl kp r2
      have HF := show Hid _ from HX.out HQ2.out.symm
      clear r1 r2 kp
      go_wp2_with fail
      go_ret
      exact ⟨k8 (by rw [HF.out]), fun h => absurd (h.symm.trans HF.out) (by simp), ⟨_, M2.blk 0 rfl⟩, M2.kept⟩
     ·have M2 := (HM.out.callB 0 rfl kp (r1 rfl)).take 4
      have HM2 := show Hid _ from M2
      clear r1 r2 kp M2
      go_wp2_with fail
      refine ⟨⟨k + 1, by omega, by go_num, by rw [HP.out, HPRE.out, ← HQ2.out]; rfl, ?_⟩, by simp [intOf]; omega⟩
      rw [HT.out, show c + 1 + (s6 (e.kids.take k) + (1 + t2 e.kids[k])) = c + 1 + s6 (e.kids.take k) + 1 + t2 e.kids[k] by omega]
      exact HM2.out
    ·have hkn : k = e.kids.length := by omega
     subst hkn
     have HM := show Hid _ from M
     have HS : Hid (D3 nv na (d + 1) c e = true) := HSC.out.trans HPRE.out
     clear M
     go_wp2_with fail
     go_ret
     refine ⟨k8 (by rw [HS.out]), fun _ => ?_, ⟨_, HM.out.blk 0 rfl⟩, HM.out.kept⟩
     have := HM.out.blk 0 rfl
     rw [bW5 (bW6 _)] at this
     rw [F6]
     exact this
  have k1' : (e.kind == 1) = false := by simp [k1]
  by_cases k2 : e.kind = 2
  ·have qq1 : (e.kind == 2) = true := by simp [k2]
   have qq2 : (e.kind == 3) = false := by simp [k2]
   have HRD : Hid (T6 e = true) := by unfold Hid T6; simp [k2]
   have hhi : (nv : Int) - 1 = N6 nv na e.kind - 1 := by rw [k2]; simp [N6]
   clear k1 k2
   have HNB := show Hid (E3 nv na e = (decide (0 ≤ e.value) && decide (e.value ≤ (nv : Int) - 1))) from by
    unfold Hid E3; rw [decide_eq_true HQ.out.2, ai5 hhi]; rfl
   clear hhi
   go_wp2_with fail
   refine (F7 e.value 0 _ _).mono ?_
   rintro x w1 ⟨rfl, rfl⟩
   have HNB2 := show Hid (E3 nv na e = (decide (0 ≤ e.value) && decide (e.value ≤ (nv : Int) - 1))) from HNB.out
   clear HNB
   obtain ⟨qn, hqn⟩ : ∃ qn, qn = (decide (0 ≤ e.value) && decide (e.value ≤ (nv : Int) - 1)) := ⟨_, rfl⟩
   rw [← hqn]
   have HN := show Hid (E3 nv na e = qn) from HNB2.out.trans hqn.symm
   clear hqn HNB2
   cases qn
   ·have HF : Hid (D3 nv na (d + 1) c e = false) := T3 HN.out
    have M := HM.out
    clear HM
    go_wp2_with fail
    go_ret
    exact ⟨k8 (by rw [HF.out]), fun h => absurd (h.symm.trans HF.out) (by simp), ⟨_, M.blk 0 rfl⟩, M.kept⟩
   have HSC : Hid (D3 nv na (d + 1) c e = C7 nv na d (c + 1) e.kids e.kids.length) := ah6 HN.out HRD.out
   go_wp2_with fail
   clear y0 y1 y2 y3 y4
   have HST : Hid (C7 nv na d (c + 1) e.kids 0 = true ∧ C2 φ' (fun b => ¬ b = cb) w W1 [.box cb [.int .i64 (c + 1 + s6 (e.kids.take 0) : Nat)], .box w.heap.size [.slice a1 nv c1, .slice a2 na c2, v3], .box (w.heap.size + 1) [.int .i64 e.kind, .int .i64 e.value, .slice ak e.kids.length ck], .dat (fun w φ => t5 w φ (.slice ak e.kids.length ck) e.kids)]) := by
    refine ⟨?_, ?_⟩
    ·have := HQ.out.1
     simp [C7, s6]; omega
    ·rw [show ((c + 1 + s6 (e.kids.take 0) : Nat) : Int) = (c : Int) + 1 by simp [s6]]
     exact HM.out
   go_loopw [71] (fun i wr => ∃ k : Nat, k ≤ e.kids.length ∧ i = .int .i64 k ∧ C7 nv na d (c + 1) e.kids k = true ∧ C2 φ' (fun b => ¬ b = cb) w wr [.box cb [.int .i64 (c + 1 + s6 (e.kids.take k) : Nat)], .box w.heap.size [.slice a1 nv c1, .slice a2 na c2, v3], .box (w.heap.size + 1) [.int .i64 e.kind, .int .i64 e.value, .slice ak e.kids.length ck], .dat (fun w φ => t5 w φ (.slice ak e.kids.length ck) e.kids)]) (fun i _ => e.kids.length - (intOf i).toNat)
   case atStart => exact ⟨0, bX5 _, rfl, HST.out.1, HST.out.2⟩
   case round =>
    clear HM
    obtain ⟨k, hk, rfl, hpre, M⟩ := hrel
    have HPRE := show Hid _ from hpre
    have hle : c + 1 + s6 (e.kids.take k) ≤ 15 := by unfold C7 at hpre; simp at hpre; exact hpre.2
    clear hpre
    by_cases hlt : k < e.kids.length
    ·have hncb : ¬ Fr φ' [.box cb [.int .i64 (c + 1 + s6 (e.kids.take k) : Nat)], .box w.heap.size [.slice a1 nv c1, .slice a2 na c2, v3], .box (w.heap.size + 1) [.int .i64 e.kind, .int .i64 e.value, .slice ak e.kids.length ck], .dat (fun w φ => t5 w φ (.slice ak e.kids.length ck) e.kids)] cb := fun h => h.2 _ bX6 rfl
     obtain ⟨a', c', he, -, -, -, hcell⟩ := (M.d 3 rfl).open
     cases he
     obtain ⟨b, off, kv, hbo, hbk, hf, g0, g1, g2, hkk⟩ := hcell k hlt
     cases hbo
     obtain ⟨ka, kc, rfl, -, -, -, -⟩ := hkk.open
     have bz : Below wr.heap.size wr (wr.alloc (.cells #[.int .i64 e.kids[k].kind, .int .i64 e.kids[k].value, .slice ka e.kids[k].kids.length kc] 104)) := by go_grown
     have HE := show Hid _ from t5.nice _ _ _ _ _ _ (N2.below bz) hkk
     have HNCB := show Hid _ from hncb
     have x0 := M.c 1 0 rfl rfl
     have x1 := M.c 1 1 rfl rfl
     have x2 := M.c 1 2 rfl rfl
     have s1 : w.heap.size < wr.heap.size := M.lt (r := .box w.heap.size [.slice a1 nv c1, .slice a2 na c2, v3]) (bX9 _ bX6) rfl
     have HM := show Hid _ from M.box [.int .i64 e.kids[k].kind, .int .i64 e.kids[k].value, .slice ka e.kids[k].kids.length kc] 104
     have HP := show Hid _ from Z6 nv na (d := d) (c := c + 1) hlt
     have HX := show Hid (D3 nv na d (c + 1 + s6 (e.kids.take k)) e.kids[k] = false → D3 nv na (d + 1) c e = false) from fun h => HSC.out.trans (ad4 hlt h)
     have HT := show Hid _ from L6 hlt
     clear hcell hncb bz hkk M
     go_wp2_with fail
     refine (ih (deep + 1) (by omega) (by omega) e.kids[k] _ _ (c + 1 + s6 (e.kids.take k)) cb _ ⟨_, rfl, HE.out⟩ HNCB.out (HM.out.blk 0 rfl) hle).mono ?_
     rintro x w2 ⟨rfl, r1, ⟨u, r2⟩, kp⟩
     obtain ⟨q, hq⟩ : ∃ q, q = D3 nv na d (c + 1 + s6 (e.kids.take k)) e.kids[k] := ⟨_, rfl⟩
     rw [← hq] at r1 ⊢
     have HQ2 := show Hid _ from hq
     clear hq x0 x1 x2 g0 g1 g2
     cases q
     ·have M2 := HM.out.callB 0 rfl kp r2
      have HF := show Hid _ from HX.out HQ2.out.symm
      clear r1 r2 kp
      go_wp2_with fail
      go_ret
      exact ⟨k8 (by rw [HF.out]), fun h => absurd (h.symm.trans HF.out) (by simp), ⟨_, M2.blk 0 rfl⟩, M2.kept⟩
     ·have M2 := (HM.out.callB 0 rfl kp (r1 rfl)).take 4
      have HM2 := show Hid _ from M2
      clear r1 r2 kp M2
      go_wp2_with fail
      refine ⟨⟨k + 1, by omega, by go_num, by rw [HP.out, HPRE.out, ← HQ2.out]; rfl, ?_⟩, by simp [intOf]; omega⟩
      rw [HT.out, show c + 1 + (s6 (e.kids.take k) + (1 + t2 e.kids[k])) = c + 1 + s6 (e.kids.take k) + 1 + t2 e.kids[k] by omega]
      exact HM2.out
    ·have hkn : k = e.kids.length := by omega
     subst hkn
     have HM := show Hid _ from M
     have HS : Hid (D3 nv na (d + 1) c e = true) := HSC.out.trans HPRE.out
     clear M
     go_wp2_with fail
     go_ret
     refine ⟨k8 (by rw [HS.out]), fun _ => ?_, ⟨_, HM.out.blk 0 rfl⟩, HM.out.kept⟩
     have := HM.out.blk 0 rfl
     rw [bW5 (bW6 _)] at this
     rw [F6]
     exact this
  have k2' : (e.kind == 2) = false := by simp [k2]
  by_cases k3 : e.kind = 3
  ·have qq1 : (e.kind == 3) = true := by simp [k3]
   have qq2 := k2'
   have HRD : Hid (e.kind = 3) := k3
   have hhi : (na : Int) - 1 = N6 nv na e.kind - 1 := by rw [k3]; simp [N6]
   clear k1 k2 k3
   have HNB := show Hid (E3 nv na e = (decide (0 ≤ e.value) && decide (e.value ≤ (na : Int) - 1))) from by
    unfold Hid E3; rw [decide_eq_true HQ.out.2, ai5 hhi]; rfl
   clear hhi
   go_wp2_with fail
   refine (F7 e.value 0 _ _).mono ?_
   rintro x w1 ⟨rfl, rfl⟩
   have HNB2 := show Hid (E3 nv na e = (decide (0 ≤ e.value) && decide (e.value ≤ (na : Int) - 1))) from HNB.out
   clear HNB
   obtain ⟨qn, hqn⟩ : ∃ qn, qn = (decide (0 ≤ e.value) && decide (e.value ≤ (na : Int) - 1)) := ⟨_, rfl⟩
   rw [← hqn]
   have HN := show Hid (E3 nv na e = qn) from HNB2.out.trans hqn.symm
   clear hqn HNB2
   cases qn
   ·have HF : Hid (D3 nv na (d + 1) c e = false) := T3 HN.out
    have M := HM.out
    clear HM
    go_wp2_with fail
    go_ret
    exact ⟨k8 (by rw [HF.out]), fun h => absurd (h.symm.trans HF.out) (by simp), ⟨_, M.blk 0 rfl⟩, M.kept⟩
   have hl1 : e.kids.length = 1 := by have := HQ.out.2; rw [HRD.out] at this; simp [K7] at this; omega
   have hpos : 0 < (e.kids.length : Int) := by omega
   obtain ⟨a', c', he, -, -, -, hcell⟩ := (HM.out.d 3 rfl).open
   have e1 : ak = a' := by cases he; rfl
   have e2 : ck = c' := by cases he; rfl
   subst e1 e2
   obtain ⟨b, off, kv, rfl, hbk, hf, g0, g1, g2, hkk⟩ := hcell 0 (by omega)
   simp only [Nat.zero_mul, bZ5] at g0 g1 g2
   have HR := show Hid _ from aP1 HRD.out (by omega)
   clear hcell hkk
   go_wp2_with fail
   refine (av6 _ _ _ _).mono ?_
   rintro x w2 ⟨rfl, b2⟩
   replace HM := show Hid _ from HM.out.call b2
   obtain ⟨qr, hqr⟩ : ∃ qr, qr = (decide ((e.kids[0]'(by omega)).kind = 1) || decide ((e.kids[0]'(by omega)).kind = 2)) := ⟨_, rfl⟩
   rw [← hqr]
   have HRR := show Hid (T6 e = qr) from HR.out.trans hqr.symm
   clear hqr b2 HR g0 g1 g2
   cases qr
   ·have HF : Hid (D3 nv na (d + 1) c e = false) := aU3 HRR.out
    have M := HM.out
    clear HM
    go_wp2_with fail
    go_ret
    exact ⟨k8 (by rw [HF.out]), fun h => absurd (h.symm.trans HF.out) (by simp), ⟨_, M.blk 0 rfl⟩, M.kept⟩
   clear y0 y1 y2 y3 y4
   have y4 := HM.out.c 2 2 rfl rfl
   have HSC : Hid (D3 nv na (d + 1) c e = C7 nv na d (c + 1) e.kids e.kids.length) := ah6 HN.out HRR.out
   go_wp2_with fail
   clear y4
   have HST : Hid (C7 nv na d (c + 1) e.kids 0 = true ∧ C2 φ' (fun b => ¬ b = cb) w w2 [.box cb [.int .i64 (c + 1 + s6 (e.kids.take 0) : Nat)], .box w.heap.size [.slice a1 nv c1, .slice a2 na c2, v3], .box (w.heap.size + 1) [.int .i64 e.kind, .int .i64 e.value, .slice (some ⟨b, off, none⟩) e.kids.length ck], .dat (fun w φ => t5 w φ (.slice (some ⟨b, off, none⟩) e.kids.length ck) e.kids)]) := by
    refine ⟨?_, ?_⟩
    ·have := HQ.out.1
     simp [C7, s6]; omega
    ·rw [show ((c + 1 + s6 (e.kids.take 0) : Nat) : Int) = (c : Int) + 1 by simp [s6]]
     exact HM.out
   go_loopw [71] (fun i wr => ∃ k : Nat, k ≤ e.kids.length ∧ i = .int .i64 k ∧ C7 nv na d (c + 1) e.kids k = true ∧ C2 φ' (fun b => ¬ b = cb) w wr [.box cb [.int .i64 (c + 1 + s6 (e.kids.take k) : Nat)], .box w.heap.size [.slice a1 nv c1, .slice a2 na c2, v3], .box (w.heap.size + 1) [.int .i64 e.kind, .int .i64 e.value, .slice (some ⟨b, off, none⟩) e.kids.length ck], .dat (fun w φ => t5 w φ (.slice (some ⟨b, off, none⟩) e.kids.length ck) e.kids)]) (fun i _ => e.kids.length - (intOf i).toNat)
   case atStart => exact ⟨0, bX5 _, rfl, HST.out.1, HST.out.2⟩
   case round =>
    clear HM
    obtain ⟨k, hk, rfl, hpre, M⟩ := hrel
    have HPRE := show Hid _ from hpre
    have hle : c + 1 + s6 (e.kids.take k) ≤ 15 := by unfold C7 at hpre; simp at hpre; exact hpre.2
    clear hpre
    by_cases hlt : k < e.kids.length
    ·have hncb : ¬ Fr φ' [.box cb [.int .i64 (c + 1 + s6 (e.kids.take k) : Nat)], .box w.heap.size [.slice a1 nv c1, .slice a2 na c2, v3], .box (w.heap.size + 1) [.int .i64 e.kind, .int .i64 e.value, .slice (some ⟨b, off, none⟩) e.kids.length ck], .dat (fun w φ => t5 w φ (.slice (some ⟨b, off, none⟩) e.kids.length ck) e.kids)] cb := fun h => h.2 _ bX6 rfl
     obtain ⟨a', c', he, -, -, -, hcell⟩ := (M.d 3 rfl).open
     cases he
     obtain ⟨b, off, kv, hbo, hbk, hf, g0, g1, g2, hkk⟩ := hcell k hlt
     cases hbo
     obtain ⟨ka, kc, rfl, -, -, -, -⟩ := hkk.open
     have bz : Below wr.heap.size wr (wr.alloc (.cells #[.int .i64 e.kids[k].kind, .int .i64 e.kids[k].value, .slice ka e.kids[k].kids.length kc] 104)) := by go_grown
     have HE := show Hid _ from t5.nice _ _ _ _ _ _ (N2.below bz) hkk
     have HNCB := show Hid _ from hncb
     have x0 := M.c 1 0 rfl rfl
     have x1 := M.c 1 1 rfl rfl
     have x2 := M.c 1 2 rfl rfl
     have s1 : w.heap.size < wr.heap.size := M.lt (r := .box w.heap.size [.slice a1 nv c1, .slice a2 na c2, v3]) (bX9 _ bX6) rfl
     have HM := show Hid _ from M.box [.int .i64 e.kids[k].kind, .int .i64 e.kids[k].value, .slice ka e.kids[k].kids.length kc] 104
     have HP := show Hid _ from Z6 nv na (d := d) (c := c + 1) hlt
     have HX := show Hid (D3 nv na d (c + 1 + s6 (e.kids.take k)) e.kids[k] = false → D3 nv na (d + 1) c e = false) from fun h => HSC.out.trans (ad4 hlt h)
     have HT := show Hid _ from L6 hlt
     clear hcell hncb bz hkk M
     go_wp2_with fail
     refine (ih (deep + 1) (by omega) (by omega) e.kids[k] _ _ (c + 1 + s6 (e.kids.take k)) cb _ ⟨_, rfl, HE.out⟩ HNCB.out (HM.out.blk 0 rfl) hle).mono ?_
     rintro x w2 ⟨rfl, r1, ⟨u, r2⟩, kp⟩
     obtain ⟨q, hq⟩ : ∃ q, q = D3 nv na d (c + 1 + s6 (e.kids.take k)) e.kids[k] := ⟨_, rfl⟩
     rw [← hq] at r1 ⊢
     have HQ2 := show Hid _ from hq
     clear hq x0 x1 x2 g0 g1 g2
     cases q
     ·have M2 := HM.out.callB 0 rfl kp r2
      have HF := show Hid _ from HX.out HQ2.out.symm
      clear r1 r2 kp
      go_wp2_with fail
      go_ret
      exact ⟨k8 (by rw [HF.out]), fun h => absurd (h.symm.trans HF.out) (by simp), ⟨_, M2.blk 0 rfl⟩, M2.kept⟩
     ·have M2 := (HM.out.callB 0 rfl kp (r1 rfl)).take 4
      have HM2 := show Hid _ from M2
      clear r1 r2 kp M2
      go_wp2_with fail
      refine ⟨⟨k + 1, by omega, by go_num, by rw [HP.out, HPRE.out, ← HQ2.out]; rfl, ?_⟩, by simp [intOf]; omega⟩
      rw [HT.out, show c + 1 + (s6 (e.kids.take k) + (1 + t2 e.kids[k])) = c + 1 + s6 (e.kids.take k) + 1 + t2 e.kids[k] by omega]
      exact HM2.out
    ·have hkn : k = e.kids.length := by omega
     subst hkn
     have HM := show Hid _ from M
     have HS : Hid (D3 nv na (d + 1) c e = true) := HSC.out.trans HPRE.out
     clear M
     go_wp2_with fail
     go_ret
     refine ⟨k8 (by rw [HS.out]), fun _ => ?_, ⟨_, HM.out.blk 0 rfl⟩, HM.out.kept⟩
     have := HM.out.blk 0 rfl
     rw [bW5 (bW6 _)] at this
     rw [F6]
     exact this
  have qq1 : (e.kind == 3) = false := by simp [k3]
  have qq2 := qq1
  have HRD : Hid (T6 e = true) := by unfold Hid T6; simp [k3]
  have hhi : (0 : Int) = N6 nv na e.kind - 1 := by unfold N6; rw [if_neg k1, if_neg k2, if_neg k3]; rfl
  clear k1 k2 k3
  have HNB := show Hid (E3 nv na e = (decide (0 ≤ e.value) && decide (e.value ≤ 0))) from by
   unfold Hid E3; rw [decide_eq_true HQ.out.2, ai5 hhi]; rfl
  clear hhi
  go_wp2_with fail
  refine (F7 e.value 0 _ _).mono ?_
  rintro x w1 ⟨rfl, rfl⟩
  have HNB2 := show Hid (E3 nv na e = (decide (0 ≤ e.value) && decide (e.value ≤ 0))) from HNB.out
  clear HNB
  obtain ⟨qn, hqn⟩ : ∃ qn, qn = (decide (0 ≤ e.value) && decide (e.value ≤ 0)) := ⟨_, rfl⟩
  rw [← hqn]
  have HN := show Hid (E3 nv na e = qn) from HNB2.out.trans hqn.symm
  clear hqn HNB2
  cases qn
  ·have HF : Hid (D3 nv na (d + 1) c e = false) := T3 HN.out
   have M := HM.out
   clear HM
   go_wp2_with fail
   go_ret
   exact ⟨k8 (by rw [HF.out]), fun h => absurd (h.symm.trans HF.out) (by simp), ⟨_, M.blk 0 rfl⟩, M.kept⟩
  have HSC : Hid (D3 nv na (d + 1) c e = C7 nv na d (c + 1) e.kids e.kids.length) := ah6 HN.out HRD.out
  go_wp2_with fail
  clear y0 y1 y2 y3 y4
  have HST : Hid (C7 nv na d (c + 1) e.kids 0 = true ∧ C2 φ' (fun b => ¬ b = cb) w W1 [.box cb [.int .i64 (c + 1 + s6 (e.kids.take 0) : Nat)], .box w.heap.size [.slice a1 nv c1, .slice a2 na c2, v3], .box (w.heap.size + 1) [.int .i64 e.kind, .int .i64 e.value, .slice ak e.kids.length ck], .dat (fun w φ => t5 w φ (.slice ak e.kids.length ck) e.kids)]) := by
   refine ⟨?_, ?_⟩
   ·have := HQ.out.1
    simp [C7, s6]; omega
   ·rw [show ((c + 1 + s6 (e.kids.take 0) : Nat) : Int) = (c : Int) + 1 by simp [s6]]
    exact HM.out
  go_loopw [71] (fun i wr => ∃ k : Nat, k ≤ e.kids.length ∧ i = .int .i64 k ∧ C7 nv na d (c + 1) e.kids k = true ∧ C2 φ' (fun b => ¬ b = cb) w wr [.box cb [.int .i64 (c + 1 + s6 (e.kids.take k) : Nat)], .box w.heap.size [.slice a1 nv c1, .slice a2 na c2, v3], .box (w.heap.size + 1) [.int .i64 e.kind, .int .i64 e.value, .slice ak e.kids.length ck], .dat (fun w φ => t5 w φ (.slice ak e.kids.length ck) e.kids)]) (fun i _ => e.kids.length - (intOf i).toNat)
  case atStart => exact ⟨0, bX5 _, rfl, HST.out.1, HST.out.2⟩
  case round =>
   clear HM
   obtain ⟨k, hk, rfl, hpre, M⟩ := hrel
   have HPRE := show Hid _ from hpre
   have hle : c + 1 + s6 (e.kids.take k) ≤ 15 := by unfold C7 at hpre; simp at hpre; exact hpre.2
   clear hpre
   by_cases hlt : k < e.kids.length
   ·have hncb : ¬ Fr φ' [.box cb [.int .i64 (c + 1 + s6 (e.kids.take k) : Nat)], .box w.heap.size [.slice a1 nv c1, .slice a2 na c2, v3], .box (w.heap.size + 1) [.int .i64 e.kind, .int .i64 e.value, .slice ak e.kids.length ck], .dat (fun w φ => t5 w φ (.slice ak e.kids.length ck) e.kids)] cb := fun h => h.2 _ bX6 rfl
    obtain ⟨a', c', he, -, -, -, hcell⟩ := (M.d 3 rfl).open
    cases he
    obtain ⟨b, off, kv, hbo, hbk, hf, g0, g1, g2, hkk⟩ := hcell k hlt
    cases hbo
    obtain ⟨ka, kc, rfl, -, -, -, -⟩ := hkk.open
    have bz : Below wr.heap.size wr (wr.alloc (.cells #[.int .i64 e.kids[k].kind, .int .i64 e.kids[k].value, .slice ka e.kids[k].kids.length kc] 104)) := by go_grown
    have HE := show Hid _ from t5.nice _ _ _ _ _ _ (N2.below bz) hkk
    have HNCB := show Hid _ from hncb
    have x0 := M.c 1 0 rfl rfl
    have x1 := M.c 1 1 rfl rfl
    have x2 := M.c 1 2 rfl rfl
    have s1 : w.heap.size < wr.heap.size := M.lt (r := .box w.heap.size [.slice a1 nv c1, .slice a2 na c2, v3]) (bX9 _ bX6) rfl
    have HM := show Hid _ from M.box [.int .i64 e.kids[k].kind, .int .i64 e.kids[k].value, .slice ka e.kids[k].kids.length kc] 104
    have HP := show Hid _ from Z6 nv na (d := d) (c := c + 1) hlt
    have HX := show Hid (D3 nv na d (c + 1 + s6 (e.kids.take k)) e.kids[k] = false → D3 nv na (d + 1) c e = false) from fun h => HSC.out.trans (ad4 hlt h)
    have HT := show Hid _ from L6 hlt
    clear hcell hncb bz hkk M
    go_wp2_with fail
    refine (ih (deep + 1) (by omega) (by omega) e.kids[k] _ _ (c + 1 + s6 (e.kids.take k)) cb _ ⟨_, rfl, HE.out⟩ HNCB.out (HM.out.blk 0 rfl) hle).mono ?_
    rintro x w2 ⟨rfl, r1, ⟨u, r2⟩, kp⟩
    obtain ⟨q, hq⟩ : ∃ q, q = D3 nv na d (c + 1 + s6 (e.kids.take k)) e.kids[k] := ⟨_, rfl⟩
    rw [← hq] at r1 ⊢
    have HQ2 := show Hid _ from hq
    clear hq x0 x1 x2 g0 g1 g2
    cases q
    ·have M2 := HM.out.callB 0 rfl kp r2
     have HF := show Hid _ from HX.out HQ2.out.symm
     clear r1 r2 kp
     go_wp2_with fail
     go_ret
     exact ⟨k8 (by rw [HF.out]), fun h => absurd (h.symm.trans HF.out) (by simp), ⟨_, M2.blk 0 rfl⟩, M2.kept⟩
    ·have M2 := (HM.out.callB 0 rfl kp (r1 rfl)).take 4
     have HM2 := show Hid _ from M2
     clear r1 r2 kp M2
     go_wp2_with fail
     refine ⟨⟨k + 1, by omega, by go_num, by rw [HP.out, HPRE.out, ← HQ2.out]; rfl, ?_⟩, by simp [intOf]; omega⟩
     rw [HT.out, show c + 1 + (s6 (e.kids.take k) + (1 + t2 e.kids[k])) = c + 1 + s6 (e.kids.take k) + 1 + t2 e.kids[k] by omega]
     exact HM2.out
   ·have hkn : k = e.kids.length := by omega
    subst hkn
    have HM := show Hid _ from M
    have HS : Hid (D3 nv na (d + 1) c e = true) := HSC.out.trans HPRE.out
    clear M
    go_wp2_with fail
    go_ret
    refine ⟨k8 (by rw [HS.out]), fun _ => ?_, ⟨_, HM.out.blk 0 rfl⟩, HM.out.kept⟩
    have := HM.out.blk 0 rfl
    rw [bW5 (bW6 _)] at this
    rw [F6]
    exact this
theorem a92 (nv na : Nat) (e : b5) : D3 nv na 5 0 e = s0 nv na e := by
 have h : (0 + 1 + t2 e ≤ 15) = (1 + t2 e ≤ 15) := by rw [bZ2]
 unfold D3 s0
 simp only [h]
theorem bl6 (a1 a2 : Option Addr) (nv c1 na c2 : Nat) (v3 : Value) (h1 : nv ≤ 9223372036854775807) (h2 : na ≤ 9223372036854775807) (e : b5) (φ : Nat → Prop) (v : Value) (w : World) (h : K8 w φ v e) :
  Calls Tryz.prog 227 #[.agg #[.slice a1 nv c1, .slice a2 na c2, v3], v] w fun x w' => x = .returned (.bool (s0 nv na e)) ∧ Below w.heap.size w w' := by
 obtain ⟨kv, rfl, hk⟩ := h
 obtain ⟨W, hW, M⟩ : ∃ W, W = ((w.alloc (.cells #[.slice a1 nv c1, .slice a2 na c2, v3] 26)).alloc (.cells #[.int .i64 e.kind, .int .i64 e.value, kv] 104)).alloc (.cells #[.int .i64 0] 3) ∧ C2 (fun _ => True) (fun _ => True) w W [.box w.heap.size [.slice a1 nv c1, .slice a2 na c2, v3], .box (w.heap.size + 1) [.int .i64 e.kind, .int .i64 e.value, kv], .box (w.heap.size + 1 + 1) [.int .i64 0]] :=
  ⟨_, rfl, (((C2.start fun _ _ => trivial).box _ _).box' _ _ (by simp)).box' _ _ (by simp)⟩
 have hb := M.below fun _ _ => trivial
 have HK := show Hid _ from t5.nice _ _ _ _ φ (fun b => φ b ∧ b < w.heap.size) ⟨hb.size, fun b hl hf => ⟨⟨hf, hl⟩, hb.block b hl⟩⟩ hk
 clear hb hk
 have x0 := M.c 0 0 rfl rfl
 have x1 := M.c 0 1 rfl rfl
 have x2 := M.c 0 2 rfl rfl
 have y0 := M.c 1 0 rfl rfl
 have y1 := M.c 1 1 rfl rfl
 have y2 := M.c 1 2 rfl rfl
 have HM := show Hid _ from M
 rw [hW] at x0 x1 x2 y0 y1 y2
 clear M
 go_enter Tryz.func227, Tryz.ntmps227
 go_wp2_with fail
 rw [← hW]
 clear hW x0 x1 x2 y0 y1 y2
 refine (bl5 a1 a2 nv c1 na c2 v3 h1 h2 5 1 (by omega) (by omega) e _ _ 0 _ _ ⟨kv, rfl, HK.out⟩ (fun h => by have := h.2; omega) (HM.out.blk 2 rfl) (by omega)).mono ?_
 rintro x w1 ⟨rfl, -, ⟨u, r2⟩, kp⟩
 rw [a92]
 have M := HM.out.callB 2 rfl kp r2
 have HB := show Hid _ from M.below fun _ _ => trivial
 clear kp r2 M
 go_wp2_with fail
 go_ret
 exact ⟨rfl, HB.out⟩
theorem ad2 (k n : Int) (a : Option Addr) (len c : Nat) (w : World) (hl : len ≤ 9223372036854775807) : Calls Tryz.prog 251 #[.agg #[.int .i64 k, .int .i64 n, .slice a len c]] w fun e w' => e = .returned (.bool (decide (k = 0) && decide (n = 0) && decide (len = 0))) ∧ Below w.heap.size w w' := by
 by_cases q1 : k = 0
 case neg =>
  have p1 : (k == 0) = false := by simp [q1]
  have HQ := show Hid _ from q1
  clear q1
  go_enter Tryz.func251, Tryz.ntmps251
  go_wp2_with fail
  go_ret
  exact ⟨k8 (by rw [decide_eq_false HQ.out]; rfl), by go_grown⟩
 have p1 : (k == 0) = true := by simp [q1]
 have HQ := show Hid _ from q1
 clear q1
 by_cases q2 : n = 0
 case neg =>
  have p2 : (n == 0) = false := by simp [q2]
  have HQ2 := show Hid _ from q2
  clear q2
  go_enter Tryz.func251, Tryz.ntmps251
  go_wp2_with fail
  go_ret
  exact ⟨k8 (by rw [decide_eq_true HQ.out, decide_eq_false HQ2.out]; rfl), by go_grown⟩
 have p2 : (n == 0) = true := by simp [q2]
 have HQ2 := show Hid _ from q2
 clear q2
 by_cases q3 : len = 0
 case neg =>
  have p3 : ((len : Int) == 0) = false := by simp [q3]
  have HQ3 := show Hid _ from q3
  clear q3
  go_enter Tryz.func251, Tryz.ntmps251
  go_wp2_with fail
  go_ret
  exact ⟨k8 (by rw [decide_eq_true HQ.out, decide_eq_true HQ2.out, decide_eq_false HQ3.out]; rfl), by go_grown⟩
 have p3 : ((len : Int) == 0) = true := by simp [q3]
 have HQ3 := show Hid _ from q3
 clear q3
 go_enter Tryz.func251, Tryz.ntmps251
 go_wp2_with fail
 go_ret
 exact ⟨k8 (by rw [decide_eq_true HQ.out, decide_eq_true HQ2.out, decide_eq_true HQ3.out]; rfl), by go_grown⟩
theorem Q1.form {w : World} {φ : Nat → Prop} {v : Value} {s : b6} (h : Q1 w φ v s) : ∃ ai ci av cv ab cb ae ce, v = .agg #[.int .i64 s.kind, .int .i64 s.target, .int .i64 s.index.kind, .int .i64 s.index.value, .slice ai s.index.kids.length ci, .int .i64 s.value.kind, .int .i64 s.value.value, .slice av s.value.kids.length cv, .int .i64 s.count, .slice ab s.body.length cb, .slice ae s.els.length ce] ∧
  (t5 w φ (.slice ai s.index.kids.length ci) s.index.kids ∧ t5 w φ (.slice av s.value.kids.length cv) s.value.kids ∧ t8 w φ (.slice ab s.body.length cb) s.body ∧ t8 w φ (.slice ae s.els.length ce) s.els) ∧
  (s.index.kids.length ≤ 9223372036854775807 ∧ s.value.kids.length ≤ 9223372036854775807 ∧ s.body.length ≤ 9223372036854775807 ∧ s.els.length ≤ 9223372036854775807) := by
 obtain ⟨iv, vv, bv, ev, rfl, h1, h2, h3, h4⟩ := h
 obtain ⟨ai, ci, rfl, -, l1, -⟩ := h1.open
 obtain ⟨av, cv, rfl, -, l2, -⟩ := h2.open
 obtain ⟨ab, cb, rfl, -, l3, -⟩ := h3.open
 obtain ⟨ae, ce, rfl, -, l4, -⟩ := h4.open
 exact ⟨ai, ci, av, cv, ab, cb, ae, ce, rfl, ⟨h1, h2, h3, h4⟩, l1, l2, l3, l4⟩
theorem aT5 (φ : Nat → Prop) (v : Value) (s : b6) (w : World) (h : Q1 w φ v s) :
  Calls Tryz.prog 232 #[v] w fun x w' => x = .returned (.bool (F5 s)) ∧ Below w.heap.size w w' := by
 obtain ⟨ai, ci, av, cv, ab, cb, ae, ce, rfl, -, hl⟩ := h.form
 have HL := show Hid _ from hl
 have hl3 := hl.2.2.1
 have hl4 := hl.2.2.2
 clear h hl
 have HD : Hid (F5 s = if (s.kind = 3 ∨ s.kind = 4) then decide (s.target = 0) && (if s.kind = 4 then decide (s.els.length = 0) && decide (1 ≤ s.count) && decide (s.count ≤ 3) && noneB s.index && noneB s.value else decide (s.count = 0) && noneB s.index)
   else decide (s.body.length = 0) && decide (s.els.length = 0) && decide (s.count = 0) && (decide (s.kind = 2) || noneB s.index)) := rfl
 obtain ⟨W, hW, M⟩ : ∃ W, W = w.alloc (.cells #[.int .i64 s.kind, .int .i64 s.target, .int .i64 s.index.kind, .int .i64 s.index.value, .slice ai s.index.kids.length ci, .int .i64 s.value.kind, .int .i64 s.value.value, .slice av s.value.kids.length cv, .int .i64 s.count, .slice ab s.body.length cb, .slice ae s.els.length ce] 106) ∧ C2 (fun _ => True) (fun _ => True) w W [.box w.heap.size [.int .i64 s.kind, .int .i64 s.target, .int .i64 s.index.kind, .int .i64 s.index.value, .slice ai s.index.kids.length ci, .int .i64 s.value.kind, .int .i64 s.value.value, .slice av s.value.kids.length cv, .int .i64 s.count, .slice ab s.body.length cb, .slice ae s.els.length ce]] :=
  ⟨_, rfl, (C2.start fun _ _ => trivial).box _ _⟩
 by_cases qk : s.kind = 3
 ·have pk : (s.kind == 3) = true := by simp [qk]
  have pk4 : (s.kind == 4) = false := by simp [qk]
  have pk2 : (s.kind == 2) = false := by simp [qk]
  by_cases qpt : s.target = 0
  case neg =>
   have pt : (s.target != 0) = true := by first | (simp [qpt]; done) | (simp; omega) | exact decide_eq_true (by omega) | exact decide_eq_false (by omega)
   have HP : Hid (F5 s = false) := by rw [Hid, HD.out]; simp [qk, qpt]
   clear qpt qk HD
   have c0 := M.c 0 0 rfl rfl
   have c1 := M.c 0 1 rfl rfl
   have c2 := M.c 0 2 rfl rfl
   have c3 := M.c 0 3 rfl rfl
   have c4 := M.c 0 4 rfl rfl
   have c5 := M.c 0 5 rfl rfl
   have c6 := M.c 0 6 rfl rfl
   have c7 := M.c 0 7 rfl rfl
   have c8 := M.c 0 8 rfl rfl
   have c9 := M.c 0 9 rfl rfl
   have c10 := M.c 0 10 rfl rfl
   have HM := show Hid _ from M
   rw [hW] at c0 c1 c2 c3 c4 c5 c6 c7 c8 c9 c10
   clear M
   go_enter Tryz.func232, Tryz.ntmps232
   go_wp2_with fail
   rw [← hW]
   clear hW
   have M := HM.out
   clear HM c0 c1 c2 c3 c4 c5 c6 c7 c8 c9 c10
   go_ret
   exact ⟨k8 (by rw [HP.out]), M.below fun _ _ => trivial⟩
  have pt : (s.target != 0) = false := by first | (simp [qpt]; done) | (simp; omega) | exact decide_eq_true (by omega) | exact decide_eq_false (by omega)
  by_cases qpc : s.count = 0
  case neg =>
   have pc : (s.count == 0) = false := by first | (simp [qpc]; done) | (simp; omega) | exact decide_eq_true (by omega) | exact decide_eq_false (by omega)
   have HP : Hid (F5 s = false) := by rw [Hid, HD.out]; simp [qk, qpt, qpc]
   clear qpc qk qpt HD
   have c0 := M.c 0 0 rfl rfl
   have c1 := M.c 0 1 rfl rfl
   have c2 := M.c 0 2 rfl rfl
   have c3 := M.c 0 3 rfl rfl
   have c4 := M.c 0 4 rfl rfl
   have c5 := M.c 0 5 rfl rfl
   have c6 := M.c 0 6 rfl rfl
   have c7 := M.c 0 7 rfl rfl
   have c8 := M.c 0 8 rfl rfl
   have c9 := M.c 0 9 rfl rfl
   have c10 := M.c 0 10 rfl rfl
   have HM := show Hid _ from M
   rw [hW] at c0 c1 c2 c3 c4 c5 c6 c7 c8 c9 c10
   clear M
   go_enter Tryz.func232, Tryz.ntmps232
   go_wp2_with fail
   rw [← hW]
   clear hW
   have M := HM.out
   clear HM c0 c1 c2 c3 c4 c5 c6 c7 c8 c9 c10
   go_ret
   exact ⟨k8 (by rw [HP.out]), M.below fun _ _ => trivial⟩
  have pc : (s.count == 0) = true := by first | (simp [qpc]; done) | (simp; omega) | exact decide_eq_true (by omega) | exact decide_eq_false (by omega)
  have HP : Hid (F5 s = noneB s.index) := by rw [Hid, HD.out]; simp [qk, qpt, qpc]
  clear qpt qpc HD qk
  have c0 := M.c 0 0 rfl rfl
  have c1 := M.c 0 1 rfl rfl
  have c2 := M.c 0 2 rfl rfl
  have c3 := M.c 0 3 rfl rfl
  have c4 := M.c 0 4 rfl rfl
  have c5 := M.c 0 5 rfl rfl
  have c6 := M.c 0 6 rfl rfl
  have c7 := M.c 0 7 rfl rfl
  have c8 := M.c 0 8 rfl rfl
  have c9 := M.c 0 9 rfl rfl
  have c10 := M.c 0 10 rfl rfl
  have HM := show Hid _ from M
  rw [hW] at c0 c1 c2 c3 c4 c5 c6 c7 c8 c9 c10
  clear M
  go_enter Tryz.func232, Tryz.ntmps232
  go_wp2_with fail
  rw [← hW]
  clear hW
  have M := HM.out
  clear HM c0 c1 c2 c3 c4 c5 c6 c7 c8 c9 c10
  refine (ad2 s.index.kind s.index.value ai s.index.kids.length ci _ HL.out.1).mono ?_
  rintro x w1 ⟨rfl, b1⟩
  rw [show (decide (s.index.kind = 0) && decide (s.index.value = 0) && decide (s.index.kids.length = 0)) = noneB s.index from rfl]
  replace M := M.call b1
  clear b1
  have HM := show Hid _ from M
  clear M
  go_wp2_with fail
  go_ret
  exact ⟨k8 (by rw [HP.out]), HM.out.below fun _ _ => trivial⟩
 have qk3 := qk
 have pk3 : (s.kind == 3) = false := by simp [qk]
 clear qk
 by_cases qk : s.kind = 4
 ·have pk4 : (s.kind == 4) = true := by simp [qk]
  clear qk3
  by_cases qpt : s.target = 0
  case neg =>
   have pt : (s.target != 0) = true := by first | (simp [qpt]; done) | (simp; omega) | exact decide_eq_true (by omega) | exact decide_eq_false (by omega)
   have HP : Hid (F5 s = false) := by rw [Hid, HD.out]; simp [qk, qpt]
   clear qpt qk HD
   have c0 := M.c 0 0 rfl rfl
   have c1 := M.c 0 1 rfl rfl
   have c2 := M.c 0 2 rfl rfl
   have c3 := M.c 0 3 rfl rfl
   have c4 := M.c 0 4 rfl rfl
   have c5 := M.c 0 5 rfl rfl
   have c6 := M.c 0 6 rfl rfl
   have c7 := M.c 0 7 rfl rfl
   have c8 := M.c 0 8 rfl rfl
   have c9 := M.c 0 9 rfl rfl
   have c10 := M.c 0 10 rfl rfl
   have HM := show Hid _ from M
   rw [hW] at c0 c1 c2 c3 c4 c5 c6 c7 c8 c9 c10
   clear M
   go_enter Tryz.func232, Tryz.ntmps232
   go_wp2_with fail
   rw [← hW]
   clear hW
   have M := HM.out
   clear HM c0 c1 c2 c3 c4 c5 c6 c7 c8 c9 c10
   go_ret
   exact ⟨k8 (by rw [HP.out]), M.below fun _ _ => trivial⟩
  have pt : (s.target != 0) = false := by first | (simp [qpt]; done) | (simp; omega) | exact decide_eq_true (by omega) | exact decide_eq_false (by omega)
  by_cases qpe : s.els.length = 0
  case neg =>
   have pe : ((s.els.length : Int) == 0) = false := by first | (simp [qpe]; done) | (simp; omega) | exact decide_eq_true (by omega) | exact decide_eq_false (by omega)
   have HP : Hid (F5 s = false) := by rw [Hid, HD.out]; simp [qk, qpt, qpe]
   clear qpe qk qpt HD
   have c0 := M.c 0 0 rfl rfl
   have c1 := M.c 0 1 rfl rfl
   have c2 := M.c 0 2 rfl rfl
   have c3 := M.c 0 3 rfl rfl
   have c4 := M.c 0 4 rfl rfl
   have c5 := M.c 0 5 rfl rfl
   have c6 := M.c 0 6 rfl rfl
   have c7 := M.c 0 7 rfl rfl
   have c8 := M.c 0 8 rfl rfl
   have c9 := M.c 0 9 rfl rfl
   have c10 := M.c 0 10 rfl rfl
   have HM := show Hid _ from M
   rw [hW] at c0 c1 c2 c3 c4 c5 c6 c7 c8 c9 c10
   clear M
   go_enter Tryz.func232, Tryz.ntmps232
   go_wp2_with fail
   rw [← hW]
   clear hW
   have M := HM.out
   clear HM c0 c1 c2 c3 c4 c5 c6 c7 c8 c9 c10
   go_ret
   exact ⟨k8 (by rw [HP.out]), M.below fun _ _ => trivial⟩
  have pe : ((s.els.length : Int) == 0) = true := by first | (simp [qpe]; done) | (simp; omega) | exact decide_eq_true (by omega) | exact decide_eq_false (by omega)
  by_cases qp1 : 1 ≤ s.count
  case neg =>
   have p1 : decide (1 ≤ s.count) = false := by first | (simp [qp1]; done) | (simp; omega) | exact decide_eq_true (by omega) | exact decide_eq_false (by omega)
   have HP : Hid (F5 s = false) := by rw [Hid, HD.out]; simp [qk, qpt, qpe, qp1]
   clear qp1 qk qpt qpe HD
   have c0 := M.c 0 0 rfl rfl
   have c1 := M.c 0 1 rfl rfl
   have c2 := M.c 0 2 rfl rfl
   have c3 := M.c 0 3 rfl rfl
   have c4 := M.c 0 4 rfl rfl
   have c5 := M.c 0 5 rfl rfl
   have c6 := M.c 0 6 rfl rfl
   have c7 := M.c 0 7 rfl rfl
   have c8 := M.c 0 8 rfl rfl
   have c9 := M.c 0 9 rfl rfl
   have c10 := M.c 0 10 rfl rfl
   have HM := show Hid _ from M
   rw [hW] at c0 c1 c2 c3 c4 c5 c6 c7 c8 c9 c10
   clear M
   go_enter Tryz.func232, Tryz.ntmps232
   go_wp2_with fail
   rw [← hW]
   clear hW
   have M := HM.out
   clear HM c0 c1 c2 c3 c4 c5 c6 c7 c8 c9 c10
   go_ret
   exact ⟨k8 (by rw [HP.out]), M.below fun _ _ => trivial⟩
  have p1 : decide (1 ≤ s.count) = true := by first | (simp [qp1]; done) | (simp; omega) | exact decide_eq_true (by omega) | exact decide_eq_false (by omega)
  by_cases qp3 : s.count ≤ 3
  case neg =>
   have p3 : decide (s.count ≤ 3) = false := by first | (simp [qp3]; done) | (simp; omega) | exact decide_eq_true (by omega) | exact decide_eq_false (by omega)
   have HP : Hid (F5 s = false) := by rw [Hid, HD.out]; simp [qk, qpt, qpe, qp1, qp3]
   clear qp3 qk qpt qpe qp1 HD
   have c0 := M.c 0 0 rfl rfl
   have c1 := M.c 0 1 rfl rfl
   have c2 := M.c 0 2 rfl rfl
   have c3 := M.c 0 3 rfl rfl
   have c4 := M.c 0 4 rfl rfl
   have c5 := M.c 0 5 rfl rfl
   have c6 := M.c 0 6 rfl rfl
   have c7 := M.c 0 7 rfl rfl
   have c8 := M.c 0 8 rfl rfl
   have c9 := M.c 0 9 rfl rfl
   have c10 := M.c 0 10 rfl rfl
   have HM := show Hid _ from M
   rw [hW] at c0 c1 c2 c3 c4 c5 c6 c7 c8 c9 c10
   clear M
   go_enter Tryz.func232, Tryz.ntmps232
   go_wp2_with fail
   rw [← hW]
   clear hW
   have M := HM.out
   clear HM c0 c1 c2 c3 c4 c5 c6 c7 c8 c9 c10
   go_ret
   exact ⟨k8 (by rw [HP.out]), M.below fun _ _ => trivial⟩
  have p3 : decide (s.count ≤ 3) = true := by first | (simp [qp3]; done) | (simp; omega) | exact decide_eq_true (by omega) | exact decide_eq_false (by omega)
  have HP0 : Hid (F5 s = (noneB s.index && noneB s.value)) := by rw [Hid, HD.out]; simp [qk, qpt, qpe, qp1, qp3]
  clear qpt qpe qp1 qp3 HD qk
  have c0 := M.c 0 0 rfl rfl
  have c1 := M.c 0 1 rfl rfl
  have c2 := M.c 0 2 rfl rfl
  have c3 := M.c 0 3 rfl rfl
  have c4 := M.c 0 4 rfl rfl
  have c5 := M.c 0 5 rfl rfl
  have c6 := M.c 0 6 rfl rfl
  have c7 := M.c 0 7 rfl rfl
  have c8 := M.c 0 8 rfl rfl
  have c9 := M.c 0 9 rfl rfl
  have c10 := M.c 0 10 rfl rfl
  have HM := show Hid _ from M
  rw [hW] at c0 c1 c2 c3 c4 c5 c6 c7 c8 c9 c10
  clear M
  go_enter Tryz.func232, Tryz.ntmps232
  go_wp2_with fail
  rw [← hW]
  clear hW
  have M := HM.out
  clear HM c0 c1 c2 c3 c4 c5 c6 c7 c8 c9 c10
  refine (ad2 s.index.kind s.index.value ai s.index.kids.length ci _ HL.out.1).mono ?_
  rintro x w1 ⟨rfl, b1⟩
  rw [show (decide (s.index.kind = 0) && decide (s.index.value = 0) && decide (s.index.kids.length = 0)) = noneB s.index from rfl]
  replace M := M.call b1
  clear b1
  obtain ⟨b, hb⟩ : ∃ b, b = noneB s.index := ⟨_, rfl⟩
  rw [← hb]
  have HB := show Hid _ from hb
  clear hb
  cases b
  ·have HP : Hid (F5 s = false) := by rw [Hid, HP0.out, ← HB.out]; rfl
   clear HP0
   have HM := show Hid _ from M
   clear M
   go_wp2_with fail
   go_ret
   exact ⟨k8 (by rw [HP.out]), HM.out.below fun _ _ => trivial⟩
  ·have HP : Hid (F5 s = noneB s.value) := by rw [Hid, HP0.out, ← HB.out]; rfl
   clear HP0
   have c5 := M.c 0 5 rfl rfl
   have c6 := M.c 0 6 rfl rfl
   have c7 := M.c 0 7 rfl rfl
   have HM := show Hid _ from M
   clear M
   go_wp2_with fail
   have M := HM.out
   clear HM c5 c6 c7
   refine (ad2 s.value.kind s.value.value av s.value.kids.length cv _ HL.out.2.1).mono ?_
   rintro x w1 ⟨rfl, b1⟩
   rw [show (decide (s.value.kind = 0) && decide (s.value.value = 0) && decide (s.value.kids.length = 0)) = noneB s.value from rfl]
   replace M := M.call b1
   clear b1
   have HM := show Hid _ from M
   clear M
   go_wp2_with fail
   go_ret
   exact ⟨k8 (by rw [HP.out]), HM.out.below fun _ _ => trivial⟩
 have qk4 := qk
 have pk4 : (s.kind == 4) = false := by simp [qk]
 clear qk
 by_cases qpb : s.body.length = 0
 case neg =>
  have pb : decide (0 < s.body.length) = true := by first | (simp [qpb]; done) | (simp; omega) | exact decide_eq_true (by omega) | exact decide_eq_false (by omega)
  have HP : Hid (F5 s = false) := by rw [Hid, HD.out]; simp [qk3, qk4, qpb]
  clear qpb qk3 qk4 HD
  have c0 := M.c 0 0 rfl rfl
  have c1 := M.c 0 1 rfl rfl
  have c2 := M.c 0 2 rfl rfl
  have c3 := M.c 0 3 rfl rfl
  have c4 := M.c 0 4 rfl rfl
  have c5 := M.c 0 5 rfl rfl
  have c6 := M.c 0 6 rfl rfl
  have c7 := M.c 0 7 rfl rfl
  have c8 := M.c 0 8 rfl rfl
  have c9 := M.c 0 9 rfl rfl
  have c10 := M.c 0 10 rfl rfl
  have HM := show Hid _ from M
  rw [hW] at c0 c1 c2 c3 c4 c5 c6 c7 c8 c9 c10
  clear M
  go_enter Tryz.func232, Tryz.ntmps232
  go_wp2_with fail
  rw [← hW]
  clear hW
  have M := HM.out
  clear HM c0 c1 c2 c3 c4 c5 c6 c7 c8 c9 c10
  go_ret
  exact ⟨k8 (by rw [HP.out]), M.below fun _ _ => trivial⟩
 have pb : decide (0 < s.body.length) = false := by first | (simp [qpb]; done) | (simp; omega) | exact decide_eq_true (by omega) | exact decide_eq_false (by omega)
 by_cases qpe : s.els.length = 0
 case neg =>
  have pe : decide (0 < s.els.length) = true := by first | (simp [qpe]; done) | (simp; omega) | exact decide_eq_true (by omega) | exact decide_eq_false (by omega)
  have HP : Hid (F5 s = false) := by rw [Hid, HD.out]; simp [qk3, qk4, qpb, qpe]
  clear qpe qk3 qk4 qpb HD
  have c0 := M.c 0 0 rfl rfl
  have c1 := M.c 0 1 rfl rfl
  have c2 := M.c 0 2 rfl rfl
  have c3 := M.c 0 3 rfl rfl
  have c4 := M.c 0 4 rfl rfl
  have c5 := M.c 0 5 rfl rfl
  have c6 := M.c 0 6 rfl rfl
  have c7 := M.c 0 7 rfl rfl
  have c8 := M.c 0 8 rfl rfl
  have c9 := M.c 0 9 rfl rfl
  have c10 := M.c 0 10 rfl rfl
  have HM := show Hid _ from M
  rw [hW] at c0 c1 c2 c3 c4 c5 c6 c7 c8 c9 c10
  clear M
  go_enter Tryz.func232, Tryz.ntmps232
  go_wp2_with fail
  rw [← hW]
  clear hW
  have M := HM.out
  clear HM c0 c1 c2 c3 c4 c5 c6 c7 c8 c9 c10
  go_ret
  exact ⟨k8 (by rw [HP.out]), M.below fun _ _ => trivial⟩
 have pe : decide (0 < s.els.length) = false := by first | (simp [qpe]; done) | (simp; omega) | exact decide_eq_true (by omega) | exact decide_eq_false (by omega)
 by_cases qpc : s.count = 0
 case neg =>
  have pc : (s.count == 0) = false := by first | (simp [qpc]; done) | (simp; omega) | exact decide_eq_true (by omega) | exact decide_eq_false (by omega)
  have HP : Hid (F5 s = false) := by rw [Hid, HD.out]; simp [qk3, qk4, qpb, qpe, qpc]
  clear qpc qk3 qk4 qpb qpe HD
  have c0 := M.c 0 0 rfl rfl
  have c1 := M.c 0 1 rfl rfl
  have c2 := M.c 0 2 rfl rfl
  have c3 := M.c 0 3 rfl rfl
  have c4 := M.c 0 4 rfl rfl
  have c5 := M.c 0 5 rfl rfl
  have c6 := M.c 0 6 rfl rfl
  have c7 := M.c 0 7 rfl rfl
  have c8 := M.c 0 8 rfl rfl
  have c9 := M.c 0 9 rfl rfl
  have c10 := M.c 0 10 rfl rfl
  have HM := show Hid _ from M
  rw [hW] at c0 c1 c2 c3 c4 c5 c6 c7 c8 c9 c10
  clear M
  go_enter Tryz.func232, Tryz.ntmps232
  go_wp2_with fail
  rw [← hW]
  clear hW
  have M := HM.out
  clear HM c0 c1 c2 c3 c4 c5 c6 c7 c8 c9 c10
  go_ret
  exact ⟨k8 (by rw [HP.out]), M.below fun _ _ => trivial⟩
 have pc : (s.count == 0) = true := by first | (simp [qpc]; done) | (simp; omega) | exact decide_eq_true (by omega) | exact decide_eq_false (by omega)
 by_cases qk2 : s.kind = 2
 ·have pk2 : (s.kind == 2) = true := by simp [qk2]
  have HP : Hid (F5 s = true) := by rw [Hid, HD.out]; simp [qk2, qpb, qpe, qpc]
  clear qk2 qk3 qk4 qpb qpe qpc HD
  have c0 := M.c 0 0 rfl rfl
  have c1 := M.c 0 1 rfl rfl
  have c2 := M.c 0 2 rfl rfl
  have c3 := M.c 0 3 rfl rfl
  have c4 := M.c 0 4 rfl rfl
  have c5 := M.c 0 5 rfl rfl
  have c6 := M.c 0 6 rfl rfl
  have c7 := M.c 0 7 rfl rfl
  have c8 := M.c 0 8 rfl rfl
  have c9 := M.c 0 9 rfl rfl
  have c10 := M.c 0 10 rfl rfl
  have HM := show Hid _ from M
  rw [hW] at c0 c1 c2 c3 c4 c5 c6 c7 c8 c9 c10
  clear M
  go_enter Tryz.func232, Tryz.ntmps232
  go_wp2_with fail
  rw [← hW]
  clear hW
  have M := HM.out
  clear HM c0 c1 c2 c3 c4 c5 c6 c7 c8 c9 c10
  go_ret
  exact ⟨k8 (by rw [HP.out]), M.below fun _ _ => trivial⟩
 ·have pk2 : (s.kind == 2) = false := by simp [qk2]
  have HP : Hid (F5 s = noneB s.index) := by rw [Hid, HD.out]; simp [qk2, qk3, qk4, qpb, qpe, qpc]
  clear qk2 qk3 qk4 qpb qpe qpc HD
  have c0 := M.c 0 0 rfl rfl
  have c1 := M.c 0 1 rfl rfl
  have c2 := M.c 0 2 rfl rfl
  have c3 := M.c 0 3 rfl rfl
  have c4 := M.c 0 4 rfl rfl
  have c5 := M.c 0 5 rfl rfl
  have c6 := M.c 0 6 rfl rfl
  have c7 := M.c 0 7 rfl rfl
  have c8 := M.c 0 8 rfl rfl
  have c9 := M.c 0 9 rfl rfl
  have c10 := M.c 0 10 rfl rfl
  have HM := show Hid _ from M
  rw [hW] at c0 c1 c2 c3 c4 c5 c6 c7 c8 c9 c10
  clear M
  go_enter Tryz.func232, Tryz.ntmps232
  go_wp2_with fail
  rw [← hW]
  clear hW
  have M := HM.out
  clear HM c0 c1 c2 c3 c4 c5 c6 c7 c8 c9 c10
  refine (ad2 s.index.kind s.index.value ai s.index.kids.length ci _ HL.out.1).mono ?_
  rintro x w1 ⟨rfl, b1⟩
  rw [show (decide (s.index.kind = 0) && decide (s.index.value = 0) && decide (s.index.kids.length = 0)) = noneB s.index from rfl]
  replace M := M.call b1
  clear b1
  have HM := show Hid _ from M
  clear M
  go_wp2_with fail
  go_ret
  exact ⟨k8 (by rw [HP.out]), HM.out.below fun _ _ => trivial⟩
def StB (a1 a2 : Option Addr) (nv c1 na c2 : Nat) (v3 : Value) (d : Nat) : Prop := ∀ (s : b6) (φ : Nat → Prop) (v : Value) (w : World), Q1 w φ v s →
 Calls Tryz.prog 193 #[.agg #[.slice a1 nv c1, .slice a2 na c2, v3], v, .int .i64 d] w fun x w' => x = .returned (.bool (m5 nv na d s)) ∧ Below w.heap.size w w'
def BlB (a1 a2 : Option Addr) (nv c1 na c2 : Nat) (v3 : Value) (d : Nat) : Prop := ∀ (ss : List b6) (φ : Nat → Prop) (v : Value) (w : World), t8 w φ v ss →
 Calls Tryz.prog 130 #[.agg #[.slice a1 nv c1, .slice a2 na c2, v3], v, .int .i64 d] w fun x w' => x = .returned (.bool (ss.all (m5 nv na d))) ∧ Below w.heap.size w w'
theorem ai6 (a1 a2 : Option Addr) (nv c1 na c2 : Nat) (v3 : Value) (d : Nat) (hd : d ≤ 5) (ih : StB a1 a2 nv c1 na c2 v3 d) : BlB a1 a2 nv c1 na c2 v3 d := by
 intro ss φ v w h
 obtain ⟨ak, ck, rfl, -, hn, -, hc⟩ := h.open
 obtain ⟨W, hW, M⟩ : ∃ W, W = w.alloc (.cells #[.slice a1 nv c1, .slice a2 na c2, v3] 26) ∧ C2 (fun _ => True) (fun _ => True) w W [.box w.heap.size [.slice a1 nv c1, .slice a2 na c2, v3]] :=
  ⟨_, rfl, (C2.start fun _ _ => trivial).box _ _⟩
 have HC := show Hid _ from hc
 clear h hc
 go_enter Tryz.func130, Tryz.ntmps130
 go_wp2_with fail
 rw [← hW]
 clear hW
 go_loopw [7] (fun i wr => ∃ k : Nat, k ≤ ss.length ∧ i = .int .i64 k ∧ (ss.take k).all (m5 nv na d) = true ∧ C2 (fun _ => True) (fun _ => True) w wr [.box w.heap.size [.slice a1 nv c1, .slice a2 na c2, v3]]) (fun i _ => ss.length - (intOf i).toNat)
 case atStart => exact ⟨0, bX5 _, rfl, rfl, M⟩
 case round =>
  clear M
  obtain ⟨k, hk, rfl, hall, M⟩ := hrel
  have HALL := show Hid _ from hall
  clear hall
  have hB := M.below fun _ _ => trivial
  have x0 := M.c 0 0 rfl rfl
  have x1 := M.c 0 1 rfl rfl
  have x2 := M.c 0 2 rfl rfl
  by_cases hlt : k < ss.length
  ·obtain ⟨b, off, iv, vv, bv, ev, rfl, hbk, hf, ⟨e0, e1, e2, e3, e4, e5, e6, e7, e8, e9, e10⟩, g1, g2, g3, g4⟩ := HC.out k hlt
   rw [← (ac7 hB).1 _ _ hbk] at e0 e1 e2 e3 e4 e5 e6 e7 e8 e9 e10
   obtain ⟨q, hq⟩ : ∃ q, q = m5 nv na d ss[k] := ⟨_, rfl⟩
   have HC3 : Hid (∀ X, Calls Tryz.prog 193 #[.agg #[.slice a1 nv c1, .slice a2 na c2, v3], .agg #[.int .i64 ss[k].kind, .int .i64 ss[k].target, .int .i64 ss[k].index.kind, .int .i64 ss[k].index.value, iv, .int .i64 ss[k].value.kind, .int .i64 ss[k].value.value, vv, .int .i64 ss[k].count, bv, ev], .int .i64 d] (wr.ext X) fun x w'' => x = .returned (.bool q) ∧ ∃ Y, w'' = wr.ext Y) := fun X => by
    have bb := hB.trans ((A0 wr X).mono hB.size)
    rw [hq]
    exact Calls.ext_of' (ih _ φ _ _ (Q1.nice _ _ _ _ _ _ (N2.below bb) ⟨iv, vv, bv, ev, rfl, g1, g2, g3, g4⟩))
   have HQQ := show Hid _ from hq
   have HM := show Hid _ from M
   have j0 := fun X => n7 e0 X
   have j1 := fun X => n7 e1 X
   have j2 := fun X => n7 e2 X
   have j3 := fun X => n7 e3 X
   have j4 := fun X => n7 e4 X
   have j5 := fun X => n7 e5 X
   have j6 := fun X => n7 e6 X
   have j7 := fun X => n7 e7 X
   have j8 := fun X => n7 e8 X
   have j9 := fun X => n7 e9 X
   have j10 := fun X => n7 e10 X
   have z0 := fun X => n7 x0 X
   have z1 := fun X => n7 x1 X
   have z2 := fun X => n7 x2 X
   have hlt' : (k : Int) < ss.length := by omega
   clear g1 g2 g3 g4 hq e0 e1 e2 e3 e4 e5 e6 e7 e8 e9 e10 x0 x1 x2 M hB
   cases q
   ·go_wp2_with fail
    refine v6 (by kernel_rfl) (by kernel_rfl) ?_
    repeat (any_goals (first | go_big_quiet_step (((go_at_call 193; exact HC3.out _))) | quiet_step (((go_at_call 193; exact HC3.out _)))))
    refine wpQuiet_nil ?_
    rintro _ ⟨X, rfl⟩
    go_wp2_with fail
    go_ret
    exact ⟨k8 (by symm; exact List.all_eq_false.2 ⟨_, bX2 hlt, by rw [← HQQ.out]; simp⟩), (HM.out.call (A0 wr X)).below fun _ _ => trivial⟩
   ·go_wp2_with fail
    refine v6 (by kernel_rfl) (by kernel_rfl) ?_
    repeat (any_goals (first | go_big_quiet_step (((go_at_call 193; exact HC3.out _))) | quiet_step (((go_at_call 193; exact HC3.out _)))))
    refine wpQuiet_nil ?_
    rintro _ ⟨X, rfl⟩
    go_wp2_with fail
    refine ⟨⟨k + 1, by omega, by go_num, ?_, HM.out.call (A0 wr X)⟩, by simp [intOf]; omega⟩
    rw [L2 _ _ hlt, List.all_append, HALL.out]
    simp [← HQQ.out]
  ·have hkn : k = ss.length := by omega
   subst hkn
   have hall := HALL.out
   rw [bW5 (bW6 _)] at hall
   have HAL := show Hid _ from hall
   have HB := show Hid _ from hB
   clear hall x0 x1 x2 M hB
   go_wp2_with fail
   go_ret
   exact ⟨k8 HAL.out.symm, HB.out⟩
theorem bl3 (a1 a2 : Option Addr) (nv c1 na c2 : Nat) (v3 : Value) (h1 : nv ≤ 9223372036854775807) (h2 : na ≤ 9223372036854775807) : ∀ d : Nat, d ≤ 5 → StB a1 a2 nv c1 na c2 v3 d := by
 intro d
 induction d with
 | zero =>
  intro _ s φ v w h
  obtain ⟨ai, ci, av, cv, ab, cb, ae, ce, rfl, -, -⟩ := h.form
  have HP : Hid (m5 nv na 0 s = false) := rfl
  clear h
  go_enter Tryz.func193, Tryz.ntmps193
  go_wp2_with fail
  go_ret
  exact ⟨k8 HP.out.symm, by go_grown⟩
 | succ d ih0 =>
  intro hd5 s φ v w h
  have ih := ih0 (by omega)
  clear ih0
  have hfull := h
  obtain ⟨ai, ci, av, cv, ab, cb, ae, ce, rfl, ⟨g1, g2, g3, g4⟩, -⟩ := h.form
  have hd0 : (d : Int) ≤ 5 := by omega
  have p9 : decide ((d : Int) + 1 < 1) = false := decide_eq_false (by omega)
  have HD0 : Hid (m5 nv na (d + 1) s = (F5 s && (if s.kind = 1 ∨ s.kind = 5 then decide (0 ≤ s.target) && decide (s.target < (nv : Int)) && s0 nv na s.value else if s.kind = 2 then decide (0 ≤ s.target) && decide (s.target < (na : Int)) && s0 nv na s.index && atomB s.index && s0 nv na s.value
   else if s.kind = 3 then s0 nv na s.value && s.body.all (m5 nv na d) && s.els.all (m5 nv na d) else if s.kind = 4 then s.body.all (m5 nv na d) else false))) := rfl
  have HG : Hid (∀ W, Below w.heap.size w W → K8 W φ (.agg #[.int .i64 s.index.kind, .int .i64 s.index.value, .slice ai s.index.kids.length ci]) s.index ∧ K8 W φ (.agg #[.int .i64 s.value.kind, .int .i64 s.value.value, .slice av s.value.kids.length cv]) s.value ∧ t8 W φ (.slice ab s.body.length cb) s.body ∧ t8 W φ (.slice ae s.els.length ce) s.els) := fun W k =>
   ⟨⟨_, rfl, t5.nice _ _ _ _ _ _ (N2.below k) g1⟩, ⟨_, rfl, t5.nice _ _ _ _ _ _ (N2.below k) g2⟩, t8.nice _ _ _ _ _ _ (N2.below k) g3, t8.nice _ _ _ _ _ _ (N2.below k) g4⟩
  have HF : Hid (∀ W, Below w.heap.size w W → Q1 W φ (.agg #[.int .i64 s.kind, .int .i64 s.target, .int .i64 s.index.kind, .int .i64 s.index.value, .slice ai s.index.kids.length ci, .int .i64 s.value.kind, .int .i64 s.value.value, .slice av s.value.kids.length cv, .int .i64 s.count, .slice ab s.body.length cb, .slice ae s.els.length ce]) s) := fun W k => Q1.nice _ _ _ _ _ _ (N2.below k) hfull
  obtain ⟨W, hW, M⟩ : ∃ W, W = (w.alloc (.cells #[.slice a1 nv c1, .slice a2 na c2, v3] 26)).alloc (.cells #[.int .i64 s.kind, .int .i64 s.target, .int .i64 s.index.kind, .int .i64 s.index.value, .slice ai s.index.kids.length ci, .int .i64 s.value.kind, .int .i64 s.value.value, .slice av s.value.kids.length cv, .int .i64 s.count, .slice ab s.body.length cb, .slice ae s.els.length ce] 106) ∧ C2 (fun _ => True) (fun _ => True) w W [.box w.heap.size [.slice a1 nv c1, .slice a2 na c2, v3], .box (w.heap.size + 1) [.int .i64 s.kind, .int .i64 s.target, .int .i64 s.index.kind, .int .i64 s.index.value, .slice ai s.index.kids.length ci, .int .i64 s.value.kind, .int .i64 s.value.value, .slice av s.value.kids.length cv, .int .i64 s.count, .slice ab s.body.length cb, .slice ae s.els.length ce]] :=
   ⟨_, rfl, ((C2.start fun _ _ => trivial).box _ _).box' _ _ (by simp)⟩
  clear g1 g2 g3 g4 h hfull
  have c0 := M.c 1 0 rfl rfl
  have c1 := M.c 1 1 rfl rfl
  have c2 := M.c 1 2 rfl rfl
  have c3 := M.c 1 3 rfl rfl
  have c4 := M.c 1 4 rfl rfl
  have c5 := M.c 1 5 rfl rfl
  have c6 := M.c 1 6 rfl rfl
  have c7 := M.c 1 7 rfl rfl
  have c8 := M.c 1 8 rfl rfl
  have c9 := M.c 1 9 rfl rfl
  have c10 := M.c 1 10 rfl rfl
  have x0 := M.c 0 0 rfl rfl
  have x1 := M.c 0 1 rfl rfl
  have x2 := M.c 0 2 rfl rfl
  have HM := show Hid _ from M
  rw [hW] at c0 c1 c2 c3 c4 c5 c6 c7 c8 c9 c10 x0 x1 x2
  clear M
  go_enter Tryz.func193, Tryz.ntmps193
  go_wp2_with fail
  rw [← hW]
  clear hW
  have M := HM.out
  clear HM c0 c1 c2 c3 c4 c5 c6 c7 c8 c9 c10 x0 x1 x2
  refine (aT5 φ _ s _ (HF.out _ (M.below fun _ _ => trivial))).mono ?_
  rintro x w1 ⟨rfl, b1⟩
  replace M := M.call b1
  clear b1
  obtain ⟨b, hb⟩ : ∃ b, b = F5 s := ⟨_, rfl⟩
  rw [← hb]
  have HB := show Hid _ from hb
  clear hb
  cases b
  ·have HP : Hid (m5 nv na (d + 1) s = false) := by rw [Hid, HD0.out, ← HB.out]; rfl
   clear HD0 HB
   have c0 := M.c 1 0 rfl rfl
   have c1 := M.c 1 1 rfl rfl
   have c2 := M.c 1 2 rfl rfl
   have c3 := M.c 1 3 rfl rfl
   have c4 := M.c 1 4 rfl rfl
   have c5 := M.c 1 5 rfl rfl
   have c6 := M.c 1 6 rfl rfl
   have c7 := M.c 1 7 rfl rfl
   have c8 := M.c 1 8 rfl rfl
   have c9 := M.c 1 9 rfl rfl
   have c10 := M.c 1 10 rfl rfl
   have x0 := M.c 0 0 rfl rfl
   have x1 := M.c 0 1 rfl rfl
   have x2 := M.c 0 2 rfl rfl
   have HM := show Hid _ from M
   clear M
   go_wp2_with fail
   go_ret
   exact ⟨k8 (by rw [HP.out]), HM.out.below fun _ _ => trivial⟩
  have HD := show Hid (m5 nv na (d + 1) s = (if s.kind = 1 ∨ s.kind = 5 then decide (0 ≤ s.target) && decide (s.target < (nv : Int)) && s0 nv na s.value else if s.kind = 2 then decide (0 ≤ s.target) && decide (s.target < (na : Int)) && s0 nv na s.index && atomB s.index && s0 nv na s.value
   else if s.kind = 3 then s0 nv na s.value && s.body.all (m5 nv na d) && s.els.all (m5 nv na d) else if s.kind = 4 then s.body.all (m5 nv na d) else false)) from by rw [Hid, HD0.out, ← HB.out]; rfl
  clear HD0 HB
  by_cases qk : s.kind = 1
  ·have k1 : (s.kind == 1) = true := by simp [qk]
   have k5 : (s.kind == 5) = false := by simp [qk]
   have k2 : (s.kind == 2) = false := by simp [qk]
   have k3 : (s.kind == 3) = false := by simp [qk]
   have k4 : (s.kind == 4) = false := by simp [qk]
   have HP1 := show Hid (m5 nv na (d + 1) s = (decide (0 ≤ s.target) && decide (s.target < (nv : Int)) && s0 nv na s.value)) from by rw [Hid, HD.out, if_pos (.inl qk)]
   clear qk
   have HP0 := show Hid (m5 nv na (d + 1) s = (decide (0 ≤ s.target) && decide (s.target < (nv : Int)) && s0 nv na s.value)) from HP1.out
   clear HP1
   by_cases t0 : 0 ≤ s.target
   case neg =>
    have p0 : decide (0 ≤ s.target) = false := decide_eq_false t0
    have HP : Hid (m5 nv na (d + 1) s = false) := by rw [Hid, HP0.out, p0]; rfl
    clear HP0 t0
    have c0 := M.c 1 0 rfl rfl
    have c1 := M.c 1 1 rfl rfl
    have c2 := M.c 1 2 rfl rfl
    have c3 := M.c 1 3 rfl rfl
    have c4 := M.c 1 4 rfl rfl
    have c5 := M.c 1 5 rfl rfl
    have c6 := M.c 1 6 rfl rfl
    have c7 := M.c 1 7 rfl rfl
    have c8 := M.c 1 8 rfl rfl
    have c9 := M.c 1 9 rfl rfl
    have c10 := M.c 1 10 rfl rfl
    have x0 := M.c 0 0 rfl rfl
    have x1 := M.c 0 1 rfl rfl
    have x2 := M.c 0 2 rfl rfl
    have HM := show Hid _ from M
    clear M
    go_wp2_with fail
    go_ret
    exact ⟨k8 (by rw [HP.out]), HM.out.below fun _ _ => trivial⟩
   have p0 : decide (0 ≤ s.target) = true := decide_eq_true t0
   by_cases t1 : s.target < (nv : Int)
   case neg =>
    have p1 : decide (s.target < (nv : Int)) = false := decide_eq_false t1
    have HP : Hid (m5 nv na (d + 1) s = false) := by rw [Hid, HP0.out, p0, p1]; rfl
    clear HP0 t0 t1
    have c0 := M.c 1 0 rfl rfl
    have c1 := M.c 1 1 rfl rfl
    have c2 := M.c 1 2 rfl rfl
    have c3 := M.c 1 3 rfl rfl
    have c4 := M.c 1 4 rfl rfl
    have c5 := M.c 1 5 rfl rfl
    have c6 := M.c 1 6 rfl rfl
    have c7 := M.c 1 7 rfl rfl
    have c8 := M.c 1 8 rfl rfl
    have c9 := M.c 1 9 rfl rfl
    have c10 := M.c 1 10 rfl rfl
    have x0 := M.c 0 0 rfl rfl
    have x1 := M.c 0 1 rfl rfl
    have x2 := M.c 0 2 rfl rfl
    have HM := show Hid _ from M
    clear M
    go_wp2_with fail
    go_ret
    exact ⟨k8 (by rw [HP.out]), HM.out.below fun _ _ => trivial⟩
   have p1 : decide (s.target < (nv : Int)) = true := decide_eq_true t1
   have HP1 := show Hid (m5 nv na (d + 1) s = (s0 nv na s.value)) from by rw [Hid, HP0.out, p0, p1]; rfl
   clear HP0 t0 t1
   have HP0 := show Hid (m5 nv na (d + 1) s = (s0 nv na s.value)) from HP1.out
   clear HP1
   have c0 := M.c 1 0 rfl rfl
   have c1 := M.c 1 1 rfl rfl
   have c2 := M.c 1 2 rfl rfl
   have c3 := M.c 1 3 rfl rfl
   have c4 := M.c 1 4 rfl rfl
   have c5 := M.c 1 5 rfl rfl
   have c6 := M.c 1 6 rfl rfl
   have c7 := M.c 1 7 rfl rfl
   have c8 := M.c 1 8 rfl rfl
   have c9 := M.c 1 9 rfl rfl
   have c10 := M.c 1 10 rfl rfl
   have x0 := M.c 0 0 rfl rfl
   have x1 := M.c 0 1 rfl rfl
   have x2 := M.c 0 2 rfl rfl
   have HM := show Hid _ from M
   clear M
   go_wp2_with fail
   have M := HM.out
   clear HM c0 c1 c2 c3 c4 c5 c6 c7 c8 c9 c10 x0 x1 x2
   refine (T1 a1 a2 nv c1 na c2 v3 h1 h2 s.value φ _ _ (HG.out _ (M.below fun _ _ => trivial)).2.1).mono ?_
   rintro x w1 ⟨rfl, b1⟩
   replace M := M.call b1
   clear b1
   have HP : Hid (m5 nv na (d + 1) s = s0 nv na s.value) := HP0.out
   clear HP0
   have HM := show Hid _ from M
   clear M
   go_wp2_with fail
   go_ret
   exact ⟨k8 (by rw [HP.out]), HM.out.below fun _ _ => trivial⟩
  have qn1 := qk
  clear qk
  by_cases qk : s.kind = 5
  ·have k1 : (s.kind == 1) = false := by simp [qk]
   have k5 : (s.kind == 5) = true := by simp [qk]
   have k2 : (s.kind == 2) = false := by simp [qk]
   have k3 : (s.kind == 3) = false := by simp [qk]
   have k4 : (s.kind == 4) = false := by simp [qk]
   have HP1 := show Hid (m5 nv na (d + 1) s = (decide (0 ≤ s.target) && decide (s.target < (nv : Int)) && s0 nv na s.value)) from by rw [Hid, HD.out, if_pos (.inr qk)]
   clear qk
   have HP0 := show Hid (m5 nv na (d + 1) s = (decide (0 ≤ s.target) && decide (s.target < (nv : Int)) && s0 nv na s.value)) from HP1.out
   clear HP1
   by_cases t0 : 0 ≤ s.target
   case neg =>
    have p0 : decide (0 ≤ s.target) = false := decide_eq_false t0
    have HP : Hid (m5 nv na (d + 1) s = false) := by rw [Hid, HP0.out, p0]; rfl
    clear HP0 t0
    have c0 := M.c 1 0 rfl rfl
    have c1 := M.c 1 1 rfl rfl
    have c2 := M.c 1 2 rfl rfl
    have c3 := M.c 1 3 rfl rfl
    have c4 := M.c 1 4 rfl rfl
    have c5 := M.c 1 5 rfl rfl
    have c6 := M.c 1 6 rfl rfl
    have c7 := M.c 1 7 rfl rfl
    have c8 := M.c 1 8 rfl rfl
    have c9 := M.c 1 9 rfl rfl
    have c10 := M.c 1 10 rfl rfl
    have x0 := M.c 0 0 rfl rfl
    have x1 := M.c 0 1 rfl rfl
    have x2 := M.c 0 2 rfl rfl
    have HM := show Hid _ from M
    clear M
    go_wp2_with fail
    go_ret
    exact ⟨k8 (by rw [HP.out]), HM.out.below fun _ _ => trivial⟩
   have p0 : decide (0 ≤ s.target) = true := decide_eq_true t0
   by_cases t1 : s.target < (nv : Int)
   case neg =>
    have p1 : decide (s.target < (nv : Int)) = false := decide_eq_false t1
    have HP : Hid (m5 nv na (d + 1) s = false) := by rw [Hid, HP0.out, p0, p1]; rfl
    clear HP0 t0 t1
    have c0 := M.c 1 0 rfl rfl
    have c1 := M.c 1 1 rfl rfl
    have c2 := M.c 1 2 rfl rfl
    have c3 := M.c 1 3 rfl rfl
    have c4 := M.c 1 4 rfl rfl
    have c5 := M.c 1 5 rfl rfl
    have c6 := M.c 1 6 rfl rfl
    have c7 := M.c 1 7 rfl rfl
    have c8 := M.c 1 8 rfl rfl
    have c9 := M.c 1 9 rfl rfl
    have c10 := M.c 1 10 rfl rfl
    have x0 := M.c 0 0 rfl rfl
    have x1 := M.c 0 1 rfl rfl
    have x2 := M.c 0 2 rfl rfl
    have HM := show Hid _ from M
    clear M
    go_wp2_with fail
    go_ret
    exact ⟨k8 (by rw [HP.out]), HM.out.below fun _ _ => trivial⟩
   have p1 : decide (s.target < (nv : Int)) = true := decide_eq_true t1
   have HP1 := show Hid (m5 nv na (d + 1) s = (s0 nv na s.value)) from by rw [Hid, HP0.out, p0, p1]; rfl
   clear HP0 t0 t1
   have HP0 := show Hid (m5 nv na (d + 1) s = (s0 nv na s.value)) from HP1.out
   clear HP1
   have c0 := M.c 1 0 rfl rfl
   have c1 := M.c 1 1 rfl rfl
   have c2 := M.c 1 2 rfl rfl
   have c3 := M.c 1 3 rfl rfl
   have c4 := M.c 1 4 rfl rfl
   have c5 := M.c 1 5 rfl rfl
   have c6 := M.c 1 6 rfl rfl
   have c7 := M.c 1 7 rfl rfl
   have c8 := M.c 1 8 rfl rfl
   have c9 := M.c 1 9 rfl rfl
   have c10 := M.c 1 10 rfl rfl
   have x0 := M.c 0 0 rfl rfl
   have x1 := M.c 0 1 rfl rfl
   have x2 := M.c 0 2 rfl rfl
   have HM := show Hid _ from M
   clear M
   go_wp2_with fail
   have M := HM.out
   clear HM c0 c1 c2 c3 c4 c5 c6 c7 c8 c9 c10 x0 x1 x2
   refine (T1 a1 a2 nv c1 na c2 v3 h1 h2 s.value φ _ _ (HG.out _ (M.below fun _ _ => trivial)).2.1).mono ?_
   rintro x w1 ⟨rfl, b1⟩
   replace M := M.call b1
   clear b1
   have HP : Hid (m5 nv na (d + 1) s = s0 nv na s.value) := HP0.out
   clear HP0
   have HM := show Hid _ from M
   clear M
   go_wp2_with fail
   go_ret
   exact ⟨k8 (by rw [HP.out]), HM.out.below fun _ _ => trivial⟩
  have qn5 := qk
  clear qk
  by_cases qk : s.kind = 2
  ·have k1 : (s.kind == 1) = false := by simp [qk]
   have k5 : (s.kind == 5) = false := by simp [qk]
   have k2 : (s.kind == 2) = true := by simp [qk]
   have k3 : (s.kind == 3) = false := by simp [qk]
   have k4 : (s.kind == 4) = false := by simp [qk]
   have HP1 := show Hid (m5 nv na (d + 1) s = (decide (0 ≤ s.target) && decide (s.target < (na : Int)) && s0 nv na s.index && atomB s.index && s0 nv na s.value)) from by rw [Hid, HD.out, if_neg (by omega), if_pos qk]
   clear qk
   have HP0 := show Hid (m5 nv na (d + 1) s = (decide (0 ≤ s.target) && decide (s.target < (na : Int)) && s0 nv na s.index && atomB s.index && s0 nv na s.value)) from HP1.out
   clear HP1
   by_cases t0 : 0 ≤ s.target
   case neg =>
    have p0 : decide (0 ≤ s.target) = false := decide_eq_false t0
    have HP : Hid (m5 nv na (d + 1) s = false) := by rw [Hid, HP0.out, p0]; rfl
    clear HP0 t0
    have c0 := M.c 1 0 rfl rfl
    have c1 := M.c 1 1 rfl rfl
    have c2 := M.c 1 2 rfl rfl
    have c3 := M.c 1 3 rfl rfl
    have c4 := M.c 1 4 rfl rfl
    have c5 := M.c 1 5 rfl rfl
    have c6 := M.c 1 6 rfl rfl
    have c7 := M.c 1 7 rfl rfl
    have c8 := M.c 1 8 rfl rfl
    have c9 := M.c 1 9 rfl rfl
    have c10 := M.c 1 10 rfl rfl
    have x0 := M.c 0 0 rfl rfl
    have x1 := M.c 0 1 rfl rfl
    have x2 := M.c 0 2 rfl rfl
    have HM := show Hid _ from M
    clear M
    go_wp2_with fail
    go_ret
    exact ⟨k8 (by rw [HP.out]), HM.out.below fun _ _ => trivial⟩
   have p0 : decide (0 ≤ s.target) = true := decide_eq_true t0
   by_cases t1 : s.target < (na : Int)
   case neg =>
    have p1 : decide (s.target < (na : Int)) = false := decide_eq_false t1
    have HP : Hid (m5 nv na (d + 1) s = false) := by rw [Hid, HP0.out, p0, p1]; rfl
    clear HP0 t0 t1
    have c0 := M.c 1 0 rfl rfl
    have c1 := M.c 1 1 rfl rfl
    have c2 := M.c 1 2 rfl rfl
    have c3 := M.c 1 3 rfl rfl
    have c4 := M.c 1 4 rfl rfl
    have c5 := M.c 1 5 rfl rfl
    have c6 := M.c 1 6 rfl rfl
    have c7 := M.c 1 7 rfl rfl
    have c8 := M.c 1 8 rfl rfl
    have c9 := M.c 1 9 rfl rfl
    have c10 := M.c 1 10 rfl rfl
    have x0 := M.c 0 0 rfl rfl
    have x1 := M.c 0 1 rfl rfl
    have x2 := M.c 0 2 rfl rfl
    have HM := show Hid _ from M
    clear M
    go_wp2_with fail
    go_ret
    exact ⟨k8 (by rw [HP.out]), HM.out.below fun _ _ => trivial⟩
   have p1 : decide (s.target < (na : Int)) = true := decide_eq_true t1
   have HP1 := show Hid (m5 nv na (d + 1) s = (s0 nv na s.index && atomB s.index && s0 nv na s.value)) from by rw [Hid, HP0.out, p0, p1]; rfl
   clear HP0 t0 t1
   have HP0 := show Hid (m5 nv na (d + 1) s = (s0 nv na s.index && atomB s.index && s0 nv na s.value)) from HP1.out
   clear HP1
   have c0 := M.c 1 0 rfl rfl
   have c1 := M.c 1 1 rfl rfl
   have c2 := M.c 1 2 rfl rfl
   have c3 := M.c 1 3 rfl rfl
   have c4 := M.c 1 4 rfl rfl
   have c5 := M.c 1 5 rfl rfl
   have c6 := M.c 1 6 rfl rfl
   have c7 := M.c 1 7 rfl rfl
   have c8 := M.c 1 8 rfl rfl
   have c9 := M.c 1 9 rfl rfl
   have c10 := M.c 1 10 rfl rfl
   have x0 := M.c 0 0 rfl rfl
   have x1 := M.c 0 1 rfl rfl
   have x2 := M.c 0 2 rfl rfl
   have HM := show Hid _ from M
   clear M
   go_wp2_with fail
   have M := HM.out
   clear HM c0 c1 c2 c3 c4 c5 c6 c7 c8 c9 c10 x0 x1 x2
   refine (T1 a1 a2 nv c1 na c2 v3 h1 h2 s.index φ _ _ (HG.out _ (M.below fun _ _ => trivial)).1).mono ?_
   rintro x w1 ⟨rfl, b1⟩
   replace M := M.call b1
   clear b1
   obtain ⟨b, hb⟩ : ∃ b, b = s0 nv na s.index := ⟨_, rfl⟩
   rw [← hb]
   have HB := show Hid _ from hb
   clear hb
   cases b
   ·have HP : Hid (m5 nv na (d + 1) s = false) := by rw [Hid, HP0.out, ← HB.out]; rfl
    clear HP0
    have c0 := M.c 1 0 rfl rfl
    have c1 := M.c 1 1 rfl rfl
    have c2 := M.c 1 2 rfl rfl
    have c3 := M.c 1 3 rfl rfl
    have c4 := M.c 1 4 rfl rfl
    have c5 := M.c 1 5 rfl rfl
    have c6 := M.c 1 6 rfl rfl
    have c7 := M.c 1 7 rfl rfl
    have c8 := M.c 1 8 rfl rfl
    have c9 := M.c 1 9 rfl rfl
    have c10 := M.c 1 10 rfl rfl
    have x0 := M.c 0 0 rfl rfl
    have x1 := M.c 0 1 rfl rfl
    have x2 := M.c 0 2 rfl rfl
    have HM := show Hid _ from M
    clear M
    go_wp2_with fail
    go_ret
    exact ⟨k8 (by rw [HP.out]), HM.out.below fun _ _ => trivial⟩
   ·have HP1 := show Hid (m5 nv na (d + 1) s = (atomB s.index && s0 nv na s.value)) from by rw [Hid, HP0.out, ← HB.out]; rfl
    clear HP0 HB
    have HP0 := show Hid (m5 nv na (d + 1) s = (atomB s.index && s0 nv na s.value)) from HP1.out
    clear HP1
    have c0 := M.c 1 0 rfl rfl
    have c1 := M.c 1 1 rfl rfl
    have c2 := M.c 1 2 rfl rfl
    have c3 := M.c 1 3 rfl rfl
    have c4 := M.c 1 4 rfl rfl
    have c5 := M.c 1 5 rfl rfl
    have c6 := M.c 1 6 rfl rfl
    have c7 := M.c 1 7 rfl rfl
    have c8 := M.c 1 8 rfl rfl
    have c9 := M.c 1 9 rfl rfl
    have c10 := M.c 1 10 rfl rfl
    have x0 := M.c 0 0 rfl rfl
    have x1 := M.c 0 1 rfl rfl
    have x2 := M.c 0 2 rfl rfl
    have HM := show Hid _ from M
    clear M
    go_wp2_with fail
    have M := HM.out
    clear HM c0 c1 c2 c3 c4 c5 c6 c7 c8 c9 c10 x0 x1 x2
    refine (aB5 _ _ _ _).mono ?_
    rintro x w1 ⟨rfl, b1⟩
    replace M := M.call b1
    clear b1
    rw [show (decide (s.index.kind = 1) || decide (s.index.kind = 2)) = atomB s.index from rfl]
    obtain ⟨b, hb⟩ : ∃ b, b = atomB s.index := ⟨_, rfl⟩
    rw [← hb]
    have HB := show Hid _ from hb
    clear hb
    cases b
    ·have HP : Hid (m5 nv na (d + 1) s = false) := by rw [Hid, HP0.out, ← HB.out]; rfl
     clear HP0
     have c0 := M.c 1 0 rfl rfl
     have c1 := M.c 1 1 rfl rfl
     have c2 := M.c 1 2 rfl rfl
     have c3 := M.c 1 3 rfl rfl
     have c4 := M.c 1 4 rfl rfl
     have c5 := M.c 1 5 rfl rfl
     have c6 := M.c 1 6 rfl rfl
     have c7 := M.c 1 7 rfl rfl
     have c8 := M.c 1 8 rfl rfl
     have c9 := M.c 1 9 rfl rfl
     have c10 := M.c 1 10 rfl rfl
     have x0 := M.c 0 0 rfl rfl
     have x1 := M.c 0 1 rfl rfl
     have x2 := M.c 0 2 rfl rfl
     have HM := show Hid _ from M
     clear M
     go_wp2_with fail
     go_ret
     exact ⟨k8 (by rw [HP.out]), HM.out.below fun _ _ => trivial⟩
    ·have HP1 := show Hid (m5 nv na (d + 1) s = (s0 nv na s.value)) from by rw [Hid, HP0.out, ← HB.out]; rfl
     clear HP0 HB
     have HP0 := show Hid (m5 nv na (d + 1) s = (s0 nv na s.value)) from HP1.out
     clear HP1
     have c0 := M.c 1 0 rfl rfl
     have c1 := M.c 1 1 rfl rfl
     have c2 := M.c 1 2 rfl rfl
     have c3 := M.c 1 3 rfl rfl
     have c4 := M.c 1 4 rfl rfl
     have c5 := M.c 1 5 rfl rfl
     have c6 := M.c 1 6 rfl rfl
     have c7 := M.c 1 7 rfl rfl
     have c8 := M.c 1 8 rfl rfl
     have c9 := M.c 1 9 rfl rfl
     have c10 := M.c 1 10 rfl rfl
     have x0 := M.c 0 0 rfl rfl
     have x1 := M.c 0 1 rfl rfl
     have x2 := M.c 0 2 rfl rfl
     have HM := show Hid _ from M
     clear M
     go_wp2_with fail
     have M := HM.out
     clear HM c0 c1 c2 c3 c4 c5 c6 c7 c8 c9 c10 x0 x1 x2
     refine (T1 a1 a2 nv c1 na c2 v3 h1 h2 s.value φ _ _ (HG.out _ (M.below fun _ _ => trivial)).2.1).mono ?_
     rintro x w1 ⟨rfl, b1⟩
     replace M := M.call b1
     clear b1
     have HP : Hid (m5 nv na (d + 1) s = s0 nv na s.value) := HP0.out
     clear HP0
     have HM := show Hid _ from M
     clear M
     go_wp2_with fail
     go_ret
     exact ⟨k8 (by rw [HP.out]), HM.out.below fun _ _ => trivial⟩
  have qn2 := qk
  clear qk
  by_cases qk : s.kind = 3
  ·have k1 : (s.kind == 1) = false := by simp [qk]
   have k5 : (s.kind == 5) = false := by simp [qk]
   have k2 : (s.kind == 2) = false := by simp [qk]
   have k3 : (s.kind == 3) = true := by simp [qk]
   have k4 : (s.kind == 4) = false := by simp [qk]
   have HP1 := show Hid (m5 nv na (d + 1) s = (s0 nv na s.value && s.body.all (m5 nv na d) && s.els.all (m5 nv na d))) from by rw [Hid, HD.out, if_neg (by omega), if_neg (by omega), if_pos qk]
   clear qk
   have HP0 := show Hid (m5 nv na (d + 1) s = (s0 nv na s.value && s.body.all (m5 nv na d) && s.els.all (m5 nv na d))) from HP1.out
   clear HP1
   have c0 := M.c 1 0 rfl rfl
   have c1 := M.c 1 1 rfl rfl
   have c2 := M.c 1 2 rfl rfl
   have c3 := M.c 1 3 rfl rfl
   have c4 := M.c 1 4 rfl rfl
   have c5 := M.c 1 5 rfl rfl
   have c6 := M.c 1 6 rfl rfl
   have c7 := M.c 1 7 rfl rfl
   have c8 := M.c 1 8 rfl rfl
   have c9 := M.c 1 9 rfl rfl
   have c10 := M.c 1 10 rfl rfl
   have x0 := M.c 0 0 rfl rfl
   have x1 := M.c 0 1 rfl rfl
   have x2 := M.c 0 2 rfl rfl
   have HM := show Hid _ from M
   clear M
   go_wp2_with fail
   have M := HM.out
   clear HM c0 c1 c2 c3 c4 c5 c6 c7 c8 c9 c10 x0 x1 x2
   refine (T1 a1 a2 nv c1 na c2 v3 h1 h2 s.value φ _ _ (HG.out _ (M.below fun _ _ => trivial)).2.1).mono ?_
   rintro x w1 ⟨rfl, b1⟩
   replace M := M.call b1
   clear b1
   obtain ⟨b, hb⟩ : ∃ b, b = s0 nv na s.value := ⟨_, rfl⟩
   rw [← hb]
   have HB := show Hid _ from hb
   clear hb
   cases b
   ·have HP : Hid (m5 nv na (d + 1) s = false) := by rw [Hid, HP0.out, ← HB.out]; rfl
    clear HP0
    have c0 := M.c 1 0 rfl rfl
    have c1 := M.c 1 1 rfl rfl
    have c2 := M.c 1 2 rfl rfl
    have c3 := M.c 1 3 rfl rfl
    have c4 := M.c 1 4 rfl rfl
    have c5 := M.c 1 5 rfl rfl
    have c6 := M.c 1 6 rfl rfl
    have c7 := M.c 1 7 rfl rfl
    have c8 := M.c 1 8 rfl rfl
    have c9 := M.c 1 9 rfl rfl
    have c10 := M.c 1 10 rfl rfl
    have x0 := M.c 0 0 rfl rfl
    have x1 := M.c 0 1 rfl rfl
    have x2 := M.c 0 2 rfl rfl
    have HM := show Hid _ from M
    clear M
    go_wp2_with fail
    go_ret
    exact ⟨k8 (by rw [HP.out]), HM.out.below fun _ _ => trivial⟩
   ·have HP1 := show Hid (m5 nv na (d + 1) s = (s.body.all (m5 nv na d) && s.els.all (m5 nv na d))) from by rw [Hid, HP0.out, ← HB.out]; rfl
    clear HP0 HB
    have HP0 := show Hid (m5 nv na (d + 1) s = (s.body.all (m5 nv na d) && s.els.all (m5 nv na d))) from HP1.out
    clear HP1
    have c0 := M.c 1 0 rfl rfl
    have c1 := M.c 1 1 rfl rfl
    have c2 := M.c 1 2 rfl rfl
    have c3 := M.c 1 3 rfl rfl
    have c4 := M.c 1 4 rfl rfl
    have c5 := M.c 1 5 rfl rfl
    have c6 := M.c 1 6 rfl rfl
    have c7 := M.c 1 7 rfl rfl
    have c8 := M.c 1 8 rfl rfl
    have c9 := M.c 1 9 rfl rfl
    have c10 := M.c 1 10 rfl rfl
    have x0 := M.c 0 0 rfl rfl
    have x1 := M.c 0 1 rfl rfl
    have x2 := M.c 0 2 rfl rfl
    have HM := show Hid _ from M
    clear M
    go_wp2_with fail
    have M := HM.out
    clear HM c0 c1 c2 c3 c4 c5 c6 c7 c8 c9 c10 x0 x1 x2
    refine (ai6 a1 a2 nv c1 na c2 v3 d (by omega) ih s.body φ _ _ (HG.out _ (M.below fun _ _ => trivial)).2.2.1).mono ?_
    rintro x w1 ⟨rfl, b1⟩
    replace M := M.call b1
    clear b1
    obtain ⟨b, hb⟩ : ∃ b, b = s.body.all (m5 nv na d) := ⟨_, rfl⟩
    rw [← hb]
    have HB := show Hid _ from hb
    clear hb
    cases b
    ·have HP : Hid (m5 nv na (d + 1) s = false) := by rw [Hid, HP0.out, ← HB.out]; rfl
     clear HP0
     have c0 := M.c 1 0 rfl rfl
     have c1 := M.c 1 1 rfl rfl
     have c2 := M.c 1 2 rfl rfl
     have c3 := M.c 1 3 rfl rfl
     have c4 := M.c 1 4 rfl rfl
     have c5 := M.c 1 5 rfl rfl
     have c6 := M.c 1 6 rfl rfl
     have c7 := M.c 1 7 rfl rfl
     have c8 := M.c 1 8 rfl rfl
     have c9 := M.c 1 9 rfl rfl
     have c10 := M.c 1 10 rfl rfl
     have x0 := M.c 0 0 rfl rfl
     have x1 := M.c 0 1 rfl rfl
     have x2 := M.c 0 2 rfl rfl
     have HM := show Hid _ from M
     clear M
     go_wp2_with fail
     go_ret
     exact ⟨k8 (by rw [HP.out]), HM.out.below fun _ _ => trivial⟩
    ·have HP1 := show Hid (m5 nv na (d + 1) s = (s.els.all (m5 nv na d))) from by rw [Hid, HP0.out, ← HB.out]; rfl
     clear HP0 HB
     have HP0 := show Hid (m5 nv na (d + 1) s = (s.els.all (m5 nv na d))) from HP1.out
     clear HP1
     have c0 := M.c 1 0 rfl rfl
     have c1 := M.c 1 1 rfl rfl
     have c2 := M.c 1 2 rfl rfl
     have c3 := M.c 1 3 rfl rfl
     have c4 := M.c 1 4 rfl rfl
     have c5 := M.c 1 5 rfl rfl
     have c6 := M.c 1 6 rfl rfl
     have c7 := M.c 1 7 rfl rfl
     have c8 := M.c 1 8 rfl rfl
     have c9 := M.c 1 9 rfl rfl
     have c10 := M.c 1 10 rfl rfl
     have x0 := M.c 0 0 rfl rfl
     have x1 := M.c 0 1 rfl rfl
     have x2 := M.c 0 2 rfl rfl
     have HM := show Hid _ from M
     clear M
     go_wp2_with fail
     have M := HM.out
     clear HM c0 c1 c2 c3 c4 c5 c6 c7 c8 c9 c10 x0 x1 x2
     refine (ai6 a1 a2 nv c1 na c2 v3 d (by omega) ih s.els φ _ _ (HG.out _ (M.below fun _ _ => trivial)).2.2.2).mono ?_
     rintro x w1 ⟨rfl, b1⟩
     replace M := M.call b1
     clear b1
     have HP : Hid (m5 nv na (d + 1) s = (s.els.all (m5 nv na d))) := HP0.out
     clear HP0
     have HM := show Hid _ from M
     clear M
     go_wp2_with fail
     go_ret
     exact ⟨k8 (by rw [HP.out]), HM.out.below fun _ _ => trivial⟩
  have qn3 := qk
  clear qk
  by_cases qk : s.kind = 4
  ·have k1 : (s.kind == 1) = false := by simp [qk]
   have k5 : (s.kind == 5) = false := by simp [qk]
   have k2 : (s.kind == 2) = false := by simp [qk]
   have k3 : (s.kind == 3) = false := by simp [qk]
   have k4 : (s.kind == 4) = true := by simp [qk]
   have HP1 := show Hid (m5 nv na (d + 1) s = ((s.body.all (m5 nv na d)))) from by rw [Hid, HD.out, if_neg (by omega), if_neg (by omega), if_neg (by omega), if_pos qk]
   clear qk
   have HP0 := show Hid (m5 nv na (d + 1) s = ((s.body.all (m5 nv na d)))) from HP1.out
   clear HP1
   have c0 := M.c 1 0 rfl rfl
   have c1 := M.c 1 1 rfl rfl
   have c2 := M.c 1 2 rfl rfl
   have c3 := M.c 1 3 rfl rfl
   have c4 := M.c 1 4 rfl rfl
   have c5 := M.c 1 5 rfl rfl
   have c6 := M.c 1 6 rfl rfl
   have c7 := M.c 1 7 rfl rfl
   have c8 := M.c 1 8 rfl rfl
   have c9 := M.c 1 9 rfl rfl
   have c10 := M.c 1 10 rfl rfl
   have x0 := M.c 0 0 rfl rfl
   have x1 := M.c 0 1 rfl rfl
   have x2 := M.c 0 2 rfl rfl
   have HM := show Hid _ from M
   clear M
   go_wp2_with fail
   have M := HM.out
   clear HM c0 c1 c2 c3 c4 c5 c6 c7 c8 c9 c10 x0 x1 x2
   refine (ai6 a1 a2 nv c1 na c2 v3 d (by omega) ih s.body φ _ _ (HG.out _ (M.below fun _ _ => trivial)).2.2.1).mono ?_
   rintro x w1 ⟨rfl, b1⟩
   replace M := M.call b1
   clear b1
   have HP : Hid (m5 nv na (d + 1) s = (s.body.all (m5 nv na d))) := HP0.out
   clear HP0
   have HM := show Hid _ from M
   clear M
   go_wp2_with fail
   go_ret
   exact ⟨k8 (by rw [HP.out]), HM.out.below fun _ _ => trivial⟩
  have HP : Hid (m5 nv na (d + 1) s = false) := by rw [Hid, HD.out, if_neg (by omega), if_neg qn2, if_neg qn3, if_neg qk]
  have k1 : (s.kind == 1) = false := by simp [qn1]
  have k5 : (s.kind == 5) = false := by simp [qn5]
  have k2 : (s.kind == 2) = false := by simp [qn2]
  have k3 : (s.kind == 3) = false := by simp [qn3]
  have k4 : (s.kind == 4) = false := by simp [qk]
  clear HD qn1 qn5 qn2 qn3 qk
  have c0 := M.c 1 0 rfl rfl
  have c1 := M.c 1 1 rfl rfl
  have c2 := M.c 1 2 rfl rfl
  have c3 := M.c 1 3 rfl rfl
  have c4 := M.c 1 4 rfl rfl
  have c5 := M.c 1 5 rfl rfl
  have c6 := M.c 1 6 rfl rfl
  have c7 := M.c 1 7 rfl rfl
  have c8 := M.c 1 8 rfl rfl
  have c9 := M.c 1 9 rfl rfl
  have c10 := M.c 1 10 rfl rfl
  have x0 := M.c 0 0 rfl rfl
  have x1 := M.c 0 1 rfl rfl
  have x2 := M.c 0 2 rfl rfl
  have HM := show Hid _ from M
  clear M
  go_wp2_with fail
  go_ret
  exact ⟨k8 (by rw [HP.out]), HM.out.below fun _ _ => trivial⟩
section
variable {P : Program} {f : FuncId}
theorem ae6 {args : List AV} {S : List It} {x : Value} (h : ∀ (φ : Nat → Prop) (w : World) (ρ : Nat → Value), (∀ i d, w7 S i = .dat d → RD w φ d (ρ i)) → Calls P f (AV.vals ρ args).toArray w fun e w' => e = .returned x ∧ Below w.heap.size w w') : p6.ok P (P3 f args S (.v x)) := by
 intro ι φ ψ w0 w F ρ M
 refine (h (FrF φ (v9 F ρ (w7 S))) w ρ fun i d hi => M.datAt hi).mono ?_
 rintro e w' ⟨rfl, hb⟩
 exact ⟨ρ, fun _ _ => rfl, rfl, M.call hb⟩
end
theorem aD3 {w : World} {φ : Nat → Prop} {d : D} {v : Value} (h : RD w φ d v) : ∃ a cap, v = .slice a d.len cap ∧ d.len ≤ 9223372036854775807 := by
 obtain ⟨a, cap, h1, h2, h3, _⟩ := h.open
 unfold maxLen at h3
 exact ⟨a, cap, h1, by omega⟩
theorem G6 (l : Int) : p6.ok Tryz.prog (P3 192 [iA l] [] (bA (m0 l))) :=
 ae6 fun φ w ρ _ => (Y0 l w).mono fun e w' h => ⟨h.1, h.2 ▸ Below.refl _ _⟩
theorem W5 (l : Int) : p6.ok Tryz.prog (P3 105 [iA l] [] (bA (m0 l))) :=
 ae6 fun φ w ρ _ => (aj6 l w).mono fun e w' h => ⟨h.1, h.2 ▸ Below.refl _ _⟩
theorem E0 (n lo hi : Int) : p6.ok Tryz.prog (P3 101 [iA n, iA lo, iA hi] [] (bA (decide (lo ≤ n) && decide (n ≤ hi)))) :=
 ae6 fun φ w ρ _ => (F7 n lo hi w).mono fun e w' h => ⟨h.1, h.2 ▸ Below.refl _ _⟩
theorem aA4 (p : k6) : p6.ok Tryz.prog (P3 129 [pA 0] (pS p) (bA (L9 p.vars p.arrays))) :=
 ae6 fun φ w ρ h => aT7 (ρ 0) (ρ 1) (ρ 2) _ _ w (E9.row (h 0 _ rfl)) (E9.row (h 1 _ rfl))
theorem aL6 (vs ars : List Int) : p6.ok Tryz.prog (P3 100 [.ref 0, .ref 1] [.dat (.ints vs), .dat (.ints ars)] (bA (L9 vs ars))) :=
 ae6 fun φ w ρ h => (aN3 (ρ 0) (ρ 1) _ _ w (E9.row (h 0 _ rfl)) (E9.row (h 1 _ rfl))).mono fun e w' h => ⟨h.1, h.2 ▸ Below.refl _ _⟩
theorem Y4 (p : k6) (e : b5) : p6.ok Tryz.prog (P3 227 [pA 0, eA e 3] (pS p ++ eS e) (bA (s0 p.vars.length p.arrays.length e))) :=
 ae6 fun φ w ρ h => by
  obtain ⟨a1, c1, h1, l1⟩ := aD3 (h 0 _ rfl)
  obtain ⟨a2, c2, h2, l2⟩ := aD3 (h 1 _ rfl)
  simp only [AV.vals, AV.val, h1, h2]
  exact bl6 a1 a2 _ c1 _ c2 (ρ 2) l1 l2 e φ _ w ⟨_, rfl, h 3 _ rfl⟩
theorem bn2 (p : k6) (ss : List b6) (n : Int) (hn : n = 5) : p6.ok Tryz.prog (P3 130 [pA 0, .ref 3, iA n] (pS p ++ [.dat (.stmts ss)]) (bA (ac6 p.vars.length p.arrays.length 5 ss))) :=
 ae6 fun φ w ρ h => by
  subst hn
  obtain ⟨a1, c1, h1, l1⟩ := aD3 (h 0 _ rfl)
  obtain ⟨a2, c2, h2, l2⟩ := aD3 (h 1 _ rfl)
  simp only [AV.vals, AV.val, h1, h2]
  exact ai6 a1 a2 _ c1 _ c2 (ρ 2) 5 (by omega) (bl3 a1 a2 _ c1 _ c2 (ρ 2) l1 l2 5 (by omega)) ss φ _ w (h 3 _ rfl)
theorem aA5 (e : b5) : p6.ok Tryz.prog (P3 228 [eA e 0] (eS e) (bA (atomB e))) :=
 ae6 fun φ w ρ h => av6 e.kind e.value (ρ 0) w
mutual
theorem bP2 : ∀ s : b6, nS s ≤ 1 + J4 s
 | ⟨_, _, _, _, _, b, e⟩ => by
  have h1 := aI5 b
  have h2 := aI5 e
  simp only [nS, J4]; omega
theorem aI5 : ∀ ss : List b6, J0 ss ≤ l8 ss
 | [] => bW6 _
 | s :: r => by
  have h1 := bP2 s
  have h2 := aI5 r
  simp only [J0, l8]; omega
end
theorem ah9 (a b : List b6) : J0 (a ++ b) = J0 a + J0 b := by
 induction a with
 | nil => simp [J0]
 | cons x r ih => simp [J0, ih]; omega
theorem bk8 {ss : List b6} {k : Nat} (h : k < ss.length) : J0 (ss.take (k + 1)) = J0 (ss.take k) + nS ss[k] := by
 rw [m8 _ _ h, ah9]; simp [J0]
theorem a19 (ss : List b6) (k : Nat) : J0 (ss.take k) ≤ J0 ss := by
 have := ah9 (ss.take k) (ss.drop k)
 rw [List.take_append_drop] at this
 omega
theorem ai0 (s : b6) : nS s = 1 + J0 s.body + J0 s.els := by cases s; simp only [nS]; rfl
theorem ah4 {nv na d : Nat} {s : b6} (h : m5 nv na (d + 1) s = true) : s.body.all (m5 nv na d) = true ∧ s.els.all (m5 nv na d) = true := by
 rw [m5, bV8] at h
 obtain ⟨h1, h2⟩ := h
 unfold F5 at h1
 by_cases k3 : s.kind = 3
 ·rw [if_neg (by omega), if_neg (by omega), if_pos k3] at h2
  simp only [bV8] at h2
  exact ⟨h2.1.2, h2.2⟩
 by_cases k4 : s.kind = 4
 ·rw [if_neg (by omega), if_neg (by omega), if_neg (by omega), if_pos k4] at h2
  rw [if_pos (.inr k4), if_pos k4] at h1
  simp only [bV8, decide_eq_true_eq] at h1
  exact ⟨h2, by rw [bY8 h1.2.1.1.1.1]; rfl⟩
 ·rw [if_neg (by omega)] at h1
  simp only [bV8, decide_eq_true_eq] at h1
  exact ⟨by rw [bY8 h1.1.1.1]; rfl, by rw [bY8 h1.1.1.2]; rfl⟩
theorem aO1 (s : b6) : l8 s.body ≤ J4 s ∧ l8 s.els ≤ J4 s := by
 rcases s with ⟨_, _, _, _, _, b, e⟩
 simp only [J4, b6.body, b6.els]
 omega
theorem a36 {nv na : Nat} : ∀ {ss : List b6}, (∀ s ∈ ss, m5 nv na 1 s = true) → J0 ss = ss.length
 | [], _ => rfl
 | s :: r, h => by
  have h1 := ah4 (h s bX6)
  have key : ∀ l : List b6, l.all (m5 nv na 0) = true → l = [] := fun l hl => by
   cases l with
   | nil => rfl
   | cons a r => simp [m5] at hl
  have h2 := a36 (ss := r) fun x hx => h x (bX9 _ hx)
  rw [J0, ai0, key _ h1.1, key _ h1.2, h2]
  simp [J0]; omega
def n6 (x y : Int) : Int := IntKind.i64.wrap ((BitVec.ofInt (IntKind.bits .i64) x ||| BitVec.ofInt (IntKind.bits .i64) y).toNat : Int)
def a70 (x y : Int) : Int := IntKind.i64.wrap ((BitVec.ofInt (IntKind.bits .i64) x &&& BitVec.ofInt (IntKind.bits .i64) y).toNat : Int)
def bS8 (x y : Int) : Int := IntKind.i64.wrap ((BitVec.ofInt (IntKind.bits .i64) x ^^^ BitVec.ofInt (IntKind.bits .i64) y).toNat : Int)
def anI (x y : Int) : Int := IntKind.i64.wrap ((BitVec.ofInt (IntKind.bits .i64) x &&& ~~~(BitVec.ofInt (IntKind.bits .i64) y)).toNat : Int)
theorem p6.dup {P : Program} {f : FuncId} {args args' : List AV} {S S' : List It} {d : D} {res : AV} {i : Nat} (hc : p6.ok P ⟨f, args, S ++ [.dat d], S' ++ [.dat d], res⟩) (hi : S[i]? = some (.dat d)) (hl : S'.length = S.length)
  (hS : S.all (fun x => ab7 S.length x.ids) = true) (ha : ∀ ρ : Nat → Value, ρ S.length = ρ i → AV.vals ρ args = AV.vals ρ args') (hg : ab7 S.length (AV.idsL args') = true) : p6.ok P ⟨f, args', S, S', res⟩ := by
 intro ι φ ψ w0 w F ρ M
 have hi' : w7 S i = .dat d := by simp [w7, hi]
 have hlt : i < S.length := (bW9.1 hi).1
 have hinv : Inv (w7 S) ρ [S.length] := fun ρ' h j => by
  by_cases hj : j < S.length
  ·refine It.res_congr _ (fun k hk => h k ?_) (.inr (.inr (h j (by simp; omega))))
   have h1 := I3 (bX0.1 hS (S[j]) (bX2 hj)) k (by simpa [w7, bW2, bW0 hj] using hk)
   simp; omega
  ·rw [show w7 S j = .none by simp only [w7, bW2, bY0 (Nat.le_of_not_lt hj)]; rfl]; rfl
 obtain ⟨ρ', h1, M1, h2⟩ := M.newDat (id := S.length) (by simp [w7]) hinv (M.datAt hi')
 have e : v8 (w7 S) [(S.length, .dat d)] = w7 (S ++ [.dat d]) := by
  funext j
  simp only [v8, w7, bW2]
  by_cases hj : j = S.length
  ·subst hj; simp
  ·rw [if_neg hj]
   by_cases hj2 : j < S.length
   ·rw [bX7 hj2]
   ·rw [bY0 (by omega), bY0 (by simp; omega)]
 rw [e] at M1
 have hρ : ρ' i = ρ i := h1 i (by simp; omega)
 have ea : AV.vals ρ args' = AV.vals ρ' args := by
  rw [ha ρ' (by rw [← h2, hρ])]
  exact (AV.vals_congr _ fun k hk => by
   have := I3 hg k hk
   exact h1 k (by simp; omega)).symm
 simp only
 rw [ea]
 refine (hc ι φ ψ w0 w F ρ' M1).mono ?_
 rintro x w' ⟨ρ2, g1, g2, M2⟩
 refine ⟨ρ2, fun k hk => ?_, g2, ?_⟩
 ·rw [g1 k (by simp; omega)]; exact h1 k (by simp; omega)
 ·refine M2.map (fun k => match k with | .inl i => some (.inl i) | .inr j => if j < S'.length then some (.inr j) else none) ?_ ?_
  ·intro k k' x h1 h2
   match k, k' with
   | .inl i, .inl i' => simp at h1 h2; rw [h1, h2]
   | .inl i, .inr j => simp at h1; subst h1; simp at h2
   | .inr j, .inl i => simp at h2; subst h2; simp at h1
   | .inr j, .inr j' => simp at h1 h2; rw [← h1.2] at h2; rw [Sum.inr.inj h2.2]
  ·intro k
   match k with
   | .inl i => exact .inl ⟨.inl i, rfl, rfl⟩
   | .inr j =>
    by_cases hj : j < S'.length
    ·refine .inl ⟨.inr j, by simp [hj], ?_⟩
     simp only [v9, w7, bW2, bX7 hj]
    ·refine .inr ?_
     simp only [v9, w7, bW2, bY0 (Nat.le_of_not_lt hj)]
     rfl
theorem M7 (e : b5) : p6.ok Tryz.prog ⟨229, [.agg [.v (.int .i64 e.kind), .v (.int .i64 e.value), .ref 0]], [.dat (.exprs e.kids)], [.dat (.exprs e.kids)], .v (.bool (noneB e))⟩ := by
  refine H9 17 Tryz.func229 [dE e.kids] [(0, eA e 0)] fun G => ?_; refine wp_seq (s4 G l6 [0, 1] [dE e.kids, .box (eL e 0)] [(1, .ptr 1 0), (2, bA false)] fun G => b7 (wp_seq ?_)); cases h0 : (e.kind == 0)
  · have q0 := ne_of_beq_false h0; refine s4 G (hhF (fc h0 (fc (b := false) rfl fz)) (us [(4, 6, 0), (1007, 1007, 0), (9, 12, 1), (1013, 1013, 1)])) [0] [dE e.kids] [(2, bA false)] fun G => b7 (wp_ret ?_); exact S6 false G [0] (by rw [Bool.eq_iff_iff]; simp [noneB, h0, q0]; done)
  ·
   have q0 := eq_of_beq h0; cases h1 : (e.value == 0)
   · have q1 := ne_of_beq_false h1; refine s4 G (hhF (fc h0 (fc h1 fz)) (us [(4, 6, 0), (1007, 1007, 0), (9, 12, 1), (1013, 1013, 1)])) [0] [dE e.kids] [(2, bA false)] fun G => b7 (wp_ret ?_); exact S6 false G [0] (by rw [Bool.eq_iff_iff]; simp [noneB, h0, q0, h1, q1]; done)
   · have q1 := eq_of_beq h1; refine s4 G (hhF (fc h0 (fc h1 fz)) (us [(4, 6, 0), (1007, 1007, 0), (9, 12, 1), (1013, 1013, 1)])) [0] [dE e.kids] [(2, bA ((e.kids.length : Int) == 0))] fun G => b7 (wp_ret ?_); exact S6 ((e.kids.length : Int) == 0) G [0] (by rw [Bool.eq_iff_iff]; simp [noneB, h0, q0, h1, q1]; done)
section
variable {nv na d : Nat} {e : b5}
end
def H8 : Nat → List b6 → Nat
 | 0, ss => ss.length
 | d + 1, ss => ss.length + (ss.map fun s => H8 d s.body + H8 d s.els).sum
def szP (d : Nat) (ss : List b6) (k : Nat) : Nat := ss.length + ((ss.take k).map fun s => H8 d s.body + H8 d s.els).sum
theorem bz4 (d : Nat) (ss : List b6) {k : Nat} (h : ss.length ≤ k) : szP d ss k = H8 (d + 1) ss := by unfold szP; rw [bW5 h, H8]
theorem M5 {d : Nat} {ss : List b6} {k : Nat} (h : k < ss.length) : szP d ss (k + 1) = szP d ss k + (H8 d (ss.getD k bV3).body + H8 d (ss.getD k bV3).els) := by
 unfold szP
 rw [L2 ss k h, List.map_append, List.sum_append, A1 h]
 simp; omega
theorem bq0 : ∀ (d : Nat) (ss : List b6), H8 d ss ≤ l8 ss := by
 intro d
 induction d with
 | zero => intro ss; exact D8 ss
 | succ d ih =>
  intro ss
  induction ss with
  | nil => simp [H8]
  | cons s r ihr =>
   have h1 := ih s.body
   have h2 := ih s.els
   have h3 := aO1 s
   simp only [H8, bY9, List.sum_cons, bV6, l8] at ihr ⊢
   have h4 : l8 s.body + l8 s.els ≤ J4 s := by
    rcases s with ⟨_, _, _, _, _, b, e⟩
    simp only [J4, b6.body, b6.els]; omega
   omega
theorem X9 {d : Nat} {ss : List b6} {k : Nat} : szP d ss k ≤ l8 ss := by
 refine bX8 ?_ (bq0 (d + 1) ss)
 unfold szP
 rw [H8]
 have : ∀ (l : List Nat) (k : Nat), (l.take k).sum ≤ l.sum := fun l k => by
  have := List.sum_append (l₁ := l.take k) (l₂ := l.drop k)
  rw [List.take_append_drop] at this; omega
 have h := this (ss.map fun s => H8 d s.body + H8 d s.els) k
 rw [← List.map_take] at h
 omega
theorem bi5 {ss : List b6} {k B : Nat} (h : l8 ss ≤ B) (hk : k < ss.length) : l8 (ss.getD k bV3).body ≤ B ∧ l8 (ss.getD k bV3).els ≤ B := by
 rw [A1 hk]
 have h1 := L5 (bX2 hk)
 have h2 := aO1 ss[k]
 omega
theorem bn1 (ss : List b6) (n : Int) (hn : n = 1) (hb : l8 ss ≤ 1048576) : p6.ok Tryz.prog (P3 131 [.ref 0, iA n] [.dat (.stmts ss)] (iA (H8 0 ss : Nat))) := by
 have h100 : decide (n > 1) = false := by simp; omega
 refine H9 39 Tryz.func131 [dT ss] [(0, .ref 0), (1, iA n)] fun G => ?_; refine wp_seq (n9 G l6 [(4, iA 0)] fun G => b7 (wp_seq (n9 G l6 [(5, iA (ss.length : Int))] fun G => b7 (wp_seq (wp_seq (J5 G l6 [(0, .ref 0), (1, iA n), (4, iA 0), (5, iA (ss.length : Int)), (6, iA 0)] fun G => b7 (wp_block ?_))))))); refine A3 (κ := Nat) (fun k => k = 0) (fun k => 0) (fun k => [dT ss]) (fun k => [(0, .ref 0), (1, iA n), (4, iA 0), (5, iA (ss.length : Nat)), (6, iA k)]) 0 (by kernel_rfl) (A9.at G _ _) ?_; clear G; intro k ρ a w hp G; replace G := A9.at G [dT ss] [(0, .ref 0), (1, iA n), (4, iA 0), (5, iA (ss.length : Int)), (6, iA k)]; refine wp_seq (wp_seq ?_); cases h0 : (decide ((k : Int) < ss.length))
 ·have q0 := dFf h0; refine n9 G (hhF (fc h0 fz) [(5, 0), (6, 0), (1007, 0)]) [(16, bA false)] fun G => b7 (rF G false (by kernel_rfl) (wp_exit (A2 (A2 (w9 (b7 (wp_seq (n9 G l6 [(4, iA (ss.length : Int))] fun G => b7 (wp_ret ?_))))))))); exact O9 G [0]
 ·have q0 := dTt h0; refine n9 G (hhF (fc h0 fz) [(5, 0), (6, 0), (1007, 0)]) [(16, bA (decide (n > 1)))] fun G => b7 (rF G (decide (n > 1)) (by assumption) (wp_exit (A2 (A2 (w9 (b7 (wp_seq (n9 G l6 [(4, iA (ss.length : Int))] fun G => b7 (wp_ret ?_))))))))); exact O9 G [0]
theorem bm9 (d : Nat) (hd : d ≤ 5) (ih : ∀ (ss : List b6) (n : Int), n = (d + 1 : Nat) → l8 ss ≤ 1048576 → p6.ok Tryz.prog (P3 131 [.ref 0, iA n] [.dat (.stmts ss)] (iA (H8 d ss : Nat))))
  (ss : List b6) (n : Int) (hn : n = (d + 2 : Nat)) (hb : l8 ss ≤ 1048576) : p6.ok Tryz.prog (P3 131 [.ref 0, iA n] [.dat (.stmts ss)] (iA (H8 (d + 1) ss : Nat))) := by
 have h100 : decide (n > 1) = true := by simp; omega
 refine H9 39 Tryz.func131 [dT ss] [(0, .ref 0), (1, iA n)] fun G => ?_; refine wp_seq (n9 G l6 [(4, iA 0)] fun G => b7 (wp_seq (n9 G l6 [(5, iA (ss.length : Int))] fun G => b7 (wp_seq (wp_seq (J5 G l6 [(0, .ref 0), (1, iA n), (4, iA 0), (5, iA (ss.length : Int)), (6, iA 0)] fun G => b7 (wp_block ?_))))))); refine A3 (κ := Nat) (fun k => k ≤ ss.length) (fun k => ss.length - k) (fun k => [dT ss]) (fun k => [(0, .ref 0), (1, iA n), (4, iA 0), (5, iA (szP d ss k : Nat)), (6, iA k)]) 0 (by simp [h100]) (A9.at G _ _) ?_; clear G; intro k ρ a w hp G; replace G := A9.at G [dT ss] [(0, .ref 0), (1, iA n), (4, iA 0), (5, iA (↑(szP d ss k) : Int)), (6, iA k)]; have hlen := D8 ss; refine wp_seq (wp_seq ?_); cases h0 : (decide ((k : Int) < ss.length))
 ·have q0 := dFf h0; refine n9 G (hhF (fc h0 fz) [(5, 0), (6, 0), (1007, 0)]) [(16, bA false)] fun G => b7 (rF G false (by kernel_rfl) (wp_exit (A2 (A2 (w9 (b7 (wp_seq (n9 G l6 [(4, iA (↑(szP d ss k) : Int))] fun G => b7 (wp_ret ?_))))))))); exact Z7 ((↑(szP d ss k) : Int)) G [0] (by have h1 := bz4 d ss (k := k) (by omega); omega)
 ·have q0 := dTt h0; refine n9 G (hhF (fc h0 fz) [(5, 0), (6, 0), (1007, 0)]) [(16, bA (decide (n > 1)))] fun G => b7 (rT G (decide (n > 1)) (by assumption) (wp_skip (b7 (wp_seq (wp_block (au3 G (E5 (t4 8 [41] (ih ((ss.getD k bV3).body) (n - 1) (by have h1 := M5 (d := d) (ss := ss) (k := k) (by omega); have h2 := X9 (d := d) (ss := ss) (k := k + 1); omega) ((bi5 hb (by omega)).1)) (t4 17 [113] (ih ((ss.getD k bV3).els) (n - 1) (by have h1 := M5 (d := d) (ss := ss) (k := k) (by omega); have h2 := X9 (d := d) (ss := ss) (k := k + 1); omega) ((bi5 hb (by omega)).2)) E4)) fz []) [0, 0, 0, 6, 14, 30, 0, 64, 254, 511, 0, 0, 3072, 7168, 15360, 0, 32768, 130558, 262143, 524287] [(5, iA ((↑(szP d ss k) : Int) + (↑(H8 d (ss.getD k bV3).body) : Int) + (↑(H8 d (ss.getD k bV3).els) : Int)))] (iX k k ss.length ((wO (n - 1)) :: ((wO ((↑(szP d ss k) : Int) + (↑(H8 d (ss.getD k bV3).body) : Int))) :: (iX k k ss.length ((wO (n - 1)) :: ((wO ((↑(szP d ss k) : Int) + (↑(H8 d (ss.getD k bV3).body) : Int) + (↑(H8 d (ss.getD k bV3).els) : Int))) :: [])))))) (iK (by have h1 := M5 (d := d) (ss := ss) (k := k) (by omega); have h2 := X9 (d := d) (ss := ss) (k := k + 1); omega) ⟨(by have h1 := M5 (d := d) (ss := ss) (k := k) (by omega); have h2 := X9 (d := d) (ss := ss) (k := k + 1); exact w64 (by omega) (by omega)), ⟨(by have h1 := M5 (d := d) (ss := ss) (k := k) (by omega); have h2 := X9 (d := d) (ss := ss) (k := k + 1); exact w64 (by omega) (by omega)), (iK (by have h1 := M5 (d := d) (ss := ss) (k := k) (by omega); have h2 := X9 (d := d) (ss := ss) (k := k + 1); omega) ⟨(by have h1 := M5 (d := d) (ss := ss) (k := k) (by omega); have h2 := X9 (d := d) (ss := ss) (k := k + 1); exact w64 (by omega) (by omega)), ⟨(by have h1 := M5 (d := d) (ss := ss) (k := k) (by omega); have h2 := X9 (d := d) (ss := ss) (k := k + 1); exact w64 (by omega) (by omega)), bW1⟩⟩)⟩⟩) fun G => w5 (b7 (J2 G l6 [(6, iA ((k : Int) + 1))] [wO ((k : Int) + 1)] ⟨(by have h1 := M5 (d := d) (ss := ss) (k := k) (by omega); have h2 := X9 (d := d) (ss := ss) (k := k + 1); exact w64 (by omega) (by omega)), bW1⟩ fun G => b7 ?_)))))))); exact Y3 G (k + 1) (by have h1 := M5 (d := d) (ss := ss) (k := k) (by omega); have h2 := X9 (d := d) (ss := ss) (k := k + 1); omega) (by have h1 := M5 (d := d) (ss := ss) (k := k) (by omega); have h2 := X9 (d := d) (ss := ss) (k := k + 1); omega) [0] (ht := by have e1 : ((↑(szP d ss (k + 1)) : Int) : Int) = ((↑(szP d ss k) : Int) + (↑(H8 d (ss.getD k bV3).body) : Int) + (↑(H8 d (ss.getD k bV3).els) : Int)) := (by have h1 := M5 (d := d) (ss := ss) (k := k) (by omega); have h2 := X9 (d := d) (ss := ss) (k := k + 1); omega); (first | rw [e1] | simp only [e1]) <;> rfl)
theorem bn0 : ∀ d, d ≤ 5 → ∀ (ss : List b6) (n : Int), n = (d + 1 : Nat) → l8 ss ≤ 1048576 → p6.ok Tryz.prog (P3 131 [.ref 0, iA n] [.dat (.stmts ss)] (iA (H8 d ss : Nat))) := by
 intro d
 induction d with
 | zero => intro _ ss n hn hb; exact bn1 ss n (by omega) hb
 | succ d ih => intro hd ss n hn hb; exact bm9 d (by omega) (fun ss n hn hb => ih (by omega) ss n hn hb) ss n (by omega) hb
theorem by2 (ss : List b6) (n : Int) (hn : n = 5) (hb : l8 ss ≤ 1048576) : p6.ok Tryz.prog (P3 131 [.ref 0, iA n] [.dat (.stmts ss)] (iA (H8 4 ss : Nat))) :=
 bn0 4 (by omega) ss n (by omega) hb
theorem bq1 {nv na : Nat} : ∀ (d : Nat) (ss : List b6), (∀ s ∈ ss, m5 nv na (d + 1) s = true) → H8 d ss = J0 ss := by
 intro d
 induction d with
 | zero => intro ss h; rw [a36 h]; rfl
 | succ d ih =>
  intro ss
  induction ss with
  | nil => intro _; rfl
  | cons s r ihr =>
   intro h
   have h1 := ah4 (h s bX6)
   have h2 := ih s.body fun x hx => bX0.1 h1.1 x hx
   have h3 := ih s.els fun x hx => bX0.1 h1.2 x hx
   have h4 := ihr fun x hx => h x (bX9 _ hx)
   rw [J0, ai0, ← h2, ← h3, ← h4]
   simp [H8]; omega
theorem aB6 {p : k6} (h : L9 p.vars p.arrays = false) : s9 p = false := by simp [s9, h]
theorem a11 {p : k6} (h : ac6 p.vars.length p.arrays.length 5 p.body = false) : s9 p = false := by simp [s9, h]
theorem ba1 {p : k6} (h1 : L9 p.vars p.arrays = true) (h2 : ac6 p.vars.length p.arrays.length 5 p.body = true) : s9 p = decide ((H8 4 p.body : Int) ≤ 60) := by
 have h3 := bq1 (nv := p.vars.length) (na := p.arrays.length) 4 p.body (fun x hx => bX0.1 h2 x hx)
 rw [s9, h1, h2, h3]
 simp
 exact ⟨fun h => by omega, fun h => by omega⟩
theorem a58 (p : k6) (n : Int) (hn : n = 5) : p6.ok Tryz.prog (P3 130 [pA 0, .ref 2, iA n] (pS p) (bA (ac6 p.vars.length p.arrays.length 5 p.body))) :=
 p6.dup (S := pS p) (S' := pS p) (d := .stmts p.body) (i := 2) (bn2 p p.body n hn) rfl rfl rfl (fun ρ h => by simp only [AV.vals, AV.val]; rw [show ρ 3 = ρ 2 from h]) rfl
theorem ac5 (p : k6) (hb : l8 p.body ≤ 1048576) : p6.ok Tryz.prog (P3 62 [pA 0] (pS p) (bA (s9 p))) := by
  refine H9 17 Tryz.func62 [dI p.vars, dI p.arrays, dT p.body] [(0, pA 0)] fun G => ?_; refine wp_seq (s4 G l6 (rg 4) [dI p.vars, dI p.arrays, dT p.body, .box (pL 0)] [(1, .ptr 3 0), (2, bA false)] fun G => b7 (wp_seq ?_)); cases h0 : (L9 p.vars p.arrays)
  · refine s4 G (E5 (t4 1 [0, 1, 2] (aA4 p) E4) (fc h0 (fc (b := false) rfl fz)) (us [(3, 6, 0), (1007, 1007, 0), (9, 12, 1), (1013, 1013, 1)])) [0, 1, 2] [dI p.vars, dI p.arrays, dT p.body] [(2, bA false)] fun G => b7 (wp_ret ?_); exact S6 false G [0, 1, 2] (aB6 (by assumption))
  ·
   cases h1 : (ac6 p.vars.length p.arrays.length (5 : Nat) p.body)
   · refine s4 G (E5 (t4 1 [0, 1, 2] (aA4 p) (t4 6 [0, 1, 2] (a58 p 5 (by kernel_rfl)) E4)) (fc h0 (fc h1 fz)) (us [(3, 6, 0), (1007, 1007, 0), (9, 12, 1), (1013, 1013, 1)])) [0, 1, 2] [dI p.vars, dI p.arrays, dT p.body] [(2, bA false)] fun G => b7 (wp_ret ?_); exact S6 false G [0, 1, 2] (a11 (by assumption))
   · refine s4 G (E5 (t4 1 [0, 1, 2] (aA4 p) (t4 6 [0, 1, 2] (a58 p 5 (by kernel_rfl)) (t4 11 [2] (by2 p.body 5 (by kernel_rfl) (by assumption)) E4))) (fc h0 (fc h1 fz)) (us [(3, 6, 0), (1007, 1007, 0), (9, 12, 1), (1013, 1013, 1)])) [0, 1, 2] [dI p.vars, dI p.arrays, dT p.body] [(2, bA (decide ((↑(H8 4 p.body) : Int) ≤ 60)))] fun G => b7 (wp_ret ?_); exact S6 (decide ((↑(H8 4 p.body) : Int) ≤ 60)) G [0, 1, 2] (ba1 (by assumption) (by assumption))
def C9 (nv na : Nat) (s : b6) : Bool := F5 s &&
    (if s.kind = 1 ∨ s.kind = 5 then decide (0 ≤ s.target) && decide (s.target < nv) && s0 nv na s.value
     else if s.kind = 2 then decide (0 ≤ s.target) && decide (s.target < na) && s0 nv na s.index && atomB s.index && s0 nv na s.value
     else if s.kind = 3 then s0 nv na s.value
     else decide (s.kind = 4))
theorem L7 {nv na d : Nat} {s : b6} : m5 nv na (d + 1) s = (C9 nv na s && (s.body.all (m5 nv na d) && s.els.all (m5 nv na d))) := by
 rw [Bool.eq_iff_iff]
 constructor
 ·intro h
  have h1 := ah4 h
  rw [h1.1, h1.2, Bool.and_true, Bool.and_true]
  rw [m5, bV8] at h
  rw [C9, h.1, Bool.true_and]
  obtain ⟨-, h⟩ := h
  split at h
  ·rw [if_pos (by assumption)]; exact h
  split at h
  ·rw [if_neg (by assumption), if_pos (by assumption)]; exact h
  split at h
  ·rw [if_neg (by assumption), if_neg (by assumption), if_pos (by assumption)]
   simp only [bV8] at h; exact h.1.1
  split at h
  ·rw [if_neg (by assumption), if_neg (by assumption), if_neg (by assumption)]; simp [*]
  ·simp at h
 ·intro h
  simp only [bV8] at h
  obtain ⟨h, hb, he⟩ := h
  rw [C9, bV8] at h
  obtain ⟨h0, h⟩ := h
  rw [m5, h0, Bool.true_and]
  split at h
  ·rw [if_pos (by assumption)]; exact h
  split at h
  ·rw [if_neg (by assumption), if_pos (by assumption)]; exact h
  split at h
  ·rw [if_neg (by assumption), if_neg (by assumption), if_pos (by assumption), h, hb, he]; rfl
  ·rw [if_neg (by assumption), if_neg (by assumption), if_neg (by assumption), if_pos (by simpa using h), hb]
def F9 (F : Nat → b6 → Bool × Nat) : Nat → List b6 → Bool × Nat
 | c, [] => (true, c)
 | c, s :: r => if (F c s).1 then F9 F (F c s).2 r else F c s
def C5 (nv na : Nat) : Nat → Nat → b6 → Bool × Nat
 | 0, c, _ => (false, c + 1)
 | d + 1, c, s => if 60 < c + 1 then (false, c + 1) else if C9 nv na s then
   (if (F9 (C5 nv na d) (c + 1) s.body).1 then F9 (C5 nv na d) (F9 (C5 nv na d) (c + 1) s.body).2 s.els else F9 (C5 nv na d) (c + 1) s.body)
   else (false, c + 1)
abbrev s5 (nv na d c : Nat) (ss : List b6) : Bool × Nat := F9 (C5 nv na d) c ss
theorem ai7 (F : Nat → b6 → Bool × Nat) : ∀ (a b : List b6) (c : Nat), F9 F c (a ++ b) = if (F9 F c a).1 then F9 F (F9 F c a).2 b else F9 F c a
 | [], b, c => by simp [F9]
 | x :: r, b, c => by
  simp only [List.cons_append, F9]
  by_cases h : (F c x).1 = true
  ·simp only [h, if_true]; exact ai7 F r b _
  ·simp [h]
theorem as0 {F : Nat → b6 → Bool × Nat} {c k : Nat} {ss : List b6} (h : (F9 F c (ss.take k)).1 = true) (hk : k < ss.length) : F9 F c (ss.take (k + 1)) = F (F9 F c (ss.take k)).2 (ss.getD k bV3) := by
 rw [m8 _ _ hk, ai7, if_pos h, A1 hk]
 simp only [F9]
 split
 ·rename_i h; exact Prod.ext h.symm rfl
 ·rfl
theorem aK1 {F : Nat → b6 → Bool × Nat} {c k : Nat} {ss : List b6} (h : (F9 F c (ss.take k)).1 = true) (hk : k < ss.length) (hf : (F (F9 F c (ss.take k)).2 (ss.getD k bV3)).1 = false) : F9 F c ss = F (F9 F c (ss.take k)).2 (ss.getD k bV3) := by
 conv => lhs; rw [← List.take_append_drop (k + 1) ss]
 rw [ai7, as0 h hk, hf]
 rfl
theorem aK2 {F : Nat → b6 → Bool × Nat} {c k : Nat} {ss : List b6} (hk : ss.length ≤ k) : F9 F c (ss.take k) = F9 F c ss := by rw [bW5 hk]
theorem av7 {F : Nat → b6 → Bool × Nat} (hF : ∀ c s, c ≤ 60 → (F c s).2 ≤ 61 ∧ ((F c s).1 = true → (F c s).2 ≤ 60)) : ∀ (ss : List b6) (c : Nat), c ≤ 60 → (F9 F c ss).2 ≤ 61 ∧ ((F9 F c ss).1 = true → (F9 F c ss).2 ≤ 60)
 | [], c, h => ⟨by simp only [F9]; omega, fun _ => by simp only [F9]; omega⟩
 | s :: r, c, h => by
  simp only [F9]
  by_cases h1 : (F c s).1 = true
  ·rw [if_pos h1]; exact av7 hF r _ ((hF c s h).2 h1)
  ·rw [if_neg h1]; exact hF c s h
theorem at9 {nv na : Nat} : ∀ (d c : Nat) (s : b6), c ≤ 60 → (C5 nv na d c s).2 ≤ 61 ∧ ((C5 nv na d c s).1 = true → (C5 nv na d c s).2 ≤ 60)
 | 0, c, s, h => by simp [C5]; omega
 | d + 1, c, s, h => by
  rw [C5]
  by_cases h1 : 60 < c + 1
  ·rw [if_pos h1]; simp; omega
  rw [if_neg h1]
  by_cases h2 : C9 nv na s = true
  ·rw [if_pos h2]
   have h3 := av7 (at9 (nv := nv) (na := na) d) s.body (c + 1) (by omega)
   by_cases h4 : (F9 (C5 nv na d) (c + 1) s.body).1 = true
   ·rw [if_pos h4]; exact av7 (at9 d) s.els _ (h3.2 h4)
   ·rw [if_neg h4]; exact h3
  ·rw [if_neg h2]; simp; omega
theorem V0 {nv na d c : Nat} {ss : List b6} (h : c ≤ 60) (h1 : (s5 nv na d c ss).1 = true) : (s5 nv na d c ss).2 ≤ 60 := (av7 (at9 d) ss c h).2 h1
section
variable {nv na d c : Nat} {s : b6}
theorem ar1 (h : 60 < c + 1) : C5 nv na d c s = (false, c + 1) := by cases d with
 | zero => rfl
 | succ d => rw [C5, if_pos h]
theorem m6 (h : C9 nv na s = false) : C5 nv na d c s = (false, c + 1) := by cases d with
 | zero => rfl
 | succ d => rw [C5, h]; simp
theorem H7 (h1 : c + 1 ≤ 60) (h : C9 nv na s = true) (h2 : (s5 nv na d (c + 1) s.body).1 = false) : C5 nv na (d + 1) c s = s5 nv na d (c + 1) s.body := by
 rw [C5, if_neg (by omega), if_pos h, if_neg (by simp [h2])]
theorem K4 (h1 : c + 1 ≤ 60) (h : C9 nv na s = true) (h2 : (s5 nv na d (c + 1) s.body).1 = true) : C5 nv na (d + 1) c s = s5 nv na d (s5 nv na d (c + 1) s.body).2 s.els := by
 rw [C5, if_neg (by omega), if_pos h, if_pos h2]
end
theorem av8 {nv na d : Nat} (hF : ∀ c s, c ≤ 60 → ((C5 nv na d c s).1 = (m5 nv na d s && decide (c + nS s ≤ 60))) ∧ ((C5 nv na d c s).1 = true → (C5 nv na d c s).2 = c + nS s)) : ∀ (ss : List b6) (c : Nat), c ≤ 60 → ((s5 nv na d c ss).1 = (ss.all (m5 nv na d) && decide (c + J0 ss ≤ 60))) ∧ ((s5 nv na d c ss).1 = true → (s5 nv na d c ss).2 = c + J0 ss)
 | [], c, h => by simp [F9, J0, h]
 | s :: r, c, h => by
  obtain ⟨h1, h2⟩ := hF c s h
  simp only [s5, F9]
  by_cases h3 : (C5 nv na d c s).1 = true
  ·rw [if_pos h3]
   have e := h2 h3
   have l := (at9 d c s h).2 h3
   obtain ⟨h4, h5⟩ := av8 hF r (C5 nv na d c s).2 l
   rw [h1, bV8] at h3
   constructor
   ·rw [show F9 (C5 nv na d) (C5 nv na d c s).2 r = s5 nv na d (C5 nv na d c s).2 r from rfl, h4, List.all_cons, h3.1, Bool.true_and, e, J0, Nat.add_assoc]
   ·intro h6; rw [show F9 (C5 nv na d) (C5 nv na d c s).2 r = s5 nv na d (C5 nv na d c s).2 r from rfl, h5 h6, e, J0]; omega
  ·rw [if_neg h3]
   refine ⟨?_, fun h => absurd h h3⟩
   have h4 := h3
   rw [h1] at h4
   rw [Bool.eq_false_iff.2 h3, List.all_cons, J0]
   cases ha : m5 nv na d s
   ·simp
   ·rw [ha, Bool.true_and, decide_eq_true_eq] at h4
    rw [Bool.true_and, show decide (c + (nS s + J0 r) ≤ 60) = false from decide_eq_false (by omega), Bool.and_false]
theorem aH2 {nv na : Nat} : ∀ (d c : Nat) (s : b6), c ≤ 60 → ((C5 nv na d c s).1 = (m5 nv na d s && decide (c + nS s ≤ 60))) ∧ ((C5 nv na d c s).1 = true → (C5 nv na d c s).2 = c + nS s)
 | 0, c, s, h => by simp [C5, m5]
 | d + 1, c, s, h => by
  have hs := ai0 s
  by_cases h1 : 60 < c + 1
  ·rw [ar1 h1, show decide (c + nS s ≤ 60) = false from decide_eq_false (by omega), Bool.and_false]; simp
  cases h2 : C9 nv na s
  ·rw [m6 h2, L7, h2]; simp
  obtain ⟨b1, b2⟩ := av8 (aH2 (nv := nv) (na := na) d) s.body (c + 1) (by omega)
  rw [L7, h2, Bool.true_and]
  cases h3 : (s5 nv na d (c + 1) s.body).1
  ·rw [H7 (by omega) h2 h3, h3]
   refine ⟨?_, fun h => by simp at h⟩
   rw [h3] at b1
   cases h4 : s.body.all (m5 nv na d)
   ·simp
   ·rw [h4, Bool.true_and] at b1
    have := of_decide_eq_false b1.symm
    rw [show decide (c + nS s ≤ 60) = false from decide_eq_false (by omega), Bool.and_false]
  ·rw [K4 (by omega) h2 h3]
   have e := b2 h3
   have l := V0 (nv := nv) (na := na) (d := d) (c := c + 1) (by omega) h3
   obtain ⟨e1, e2⟩ := av8 (aH2 (nv := nv) (na := na) d) s.els _ l
   rw [h3] at b1
   have b3 := b1.symm
   rw [bV8] at b3
   rw [b3.1, Bool.true_and, e1, e]
   refine ⟨by rw [show c + 1 + J0 s.body + J0 s.els = c + nS s by omega], fun h => ?_⟩
   have h' : (s5 nv na d (s5 nv na d (c + 1) s.body).2 s.els).1 = true := by rw [e1, e]; exact h
   have := e2 h'
   rw [e] at this
   rw [this]; omega
theorem aZ3 {p : k6} (h : L9 p.vars p.arrays = true) : (s5 p.vars.length p.arrays.length 5 0 p.body).1 = s9 p := by
 rw [(av8 (aH2 5) p.body 0 (by omega)).1, s9, h, Bool.true_and, ac6]; simp
theorem bE1 (p : k6) (s : b6) (c : Nat) (hc : c ≤ 60) (n : Int) (hn : n = 6) : p6.ok Tryz.prog ⟨186, [pA 0, sA s 4, iA n, .ptr 3 0], pS p ++ [.box [iA c]] ++ sS s, pS p ++ [.box [iA (C5 p.vars.length p.arrays.length 0 c s).2]] ++ sS s, bA false⟩ := by
 have h100 : decide (n > 5) = true := by simp; omega
 refine H9 149 Tryz.func186 [dI p.vars, dI p.arrays, dT p.body, .box [iA c], dE s.index.kids, dE s.value.kids, dT s.body, dT s.els] [(0, pA 0), (1, sA s 4), (2, iA n), (3, .ptr 3 0)] fun G => ?_; refine wp_seq (s4 G l6 [0, 1, 2, 3, 4, 5, 6, 7, 8, 16] [dI p.vars, dI p.arrays, dT p.body, .box [iA c], dE s.index.kids, dE s.value.kids, dT s.body, dT s.els, .box (pL 0), .box (sL s 4)] [(2, iA n), (3, .ptr 3 0), (4, .ptr 8 0), (5, .ptr 9 0), (8, bA false)] fun G => b7 (wp_seq (R6 G l6 (rg 10) [dI p.vars, dI p.arrays, dT p.body, .box [iA ((c : Int) + 1)], dE s.index.kids, dE s.value.kids, dT s.body, dT s.els, .box (pL 0), .box (sL s 4)] [(2, iA n), (3, .ptr 3 0), (4, .ptr 8 0), (5, .ptr 9 0), (8, bA false)] [wO ((c : Int) + 1)] (o1 (by omega)) fun G => b7 (wp_seq (wp_seq ?_))))); cases h0 : (decide ((c : Int) + 1 > 60))
 ·have q0 := dFf h0; refine n9 G (hhF (fc h0 fz) [(5, 0), (6, 0), (1007, 0)]) [(27, bA (decide (n > 5)))] fun G => b7 (rT G (decide (n > 5)) (by assumption) (wp_seq (n9 G l6 [] fun G => b7 (wp_ret (t6 ?_))))); exact O9 G (rg 8)
 ·have q0 := dTt h0; refine n9 G (hhF (fc h0 fz) [(5, 0), (6, 0), (1007, 0)]) [(27, bA true)] fun G => b7 (rT G true (by kernel_rfl) (wp_seq (n9 G l6 [] fun G => b7 (wp_ret (t6 ?_))))); exact O9 G (rg 8)
abbrev bG1 (p : k6) (d c : Nat) (s : b6) (n : Int) : p6 := ⟨186, [pA 0, sA s 4, iA n, .ptr 3 0], pS p ++ [.box [iA c]] ++ sS s, pS p ++ [.box [iA (C5 p.vars.length p.arrays.length d c s).2]] ++ sS s, bA (C5 p.vars.length p.arrays.length d c s).1⟩
abbrev a90 (p : k6) (d c : Nat) (ss : List b6) (n : Int) : p6 := ⟨125, [pA 0, .ref 4, iA n, .ptr 3 0], pS p ++ [.box [iA c]] ++ [.dat (.stmts ss)], pS p ++ [.box [iA (s5 p.vars.length p.arrays.length d c ss).2]] ++ [.dat (.stmts ss)], bA (s5 p.vars.length p.arrays.length d c ss).1⟩
theorem a51 (p : k6) (d : Nat) (hd : d ≤ 5) (ih : ∀ (s : b6) (c : Nat) (n : Int), c ≤ 60 → n = 6 - (d : Int) → p6.ok Tryz.prog (bG1 p d c s n))
    (ss : List b6) (c : Nat) (n : Int) (hc : c ≤ 60) (hn : n = 6 - (d : Int)) : p6.ok Tryz.prog (a90 p d c ss n) := by
  refine H9 24 Tryz.func125 [dI p.vars, dI p.arrays, dT p.body, .box [iA c], dT ss] [(0, pA 0), (1, .ref 4), (2, iA n), (3, .ptr 3 0)] fun G => ?_; refine wp_seq (s4 G l6 (rg 6) [dI p.vars, dI p.arrays, dT p.body, .box [iA c], dT ss, .box (pL 0)] [(1, .ref 4), (2, iA n), (3, .ptr 3 0), (4, .ptr 5 0), (8, bA false)] fun G => b7 (wp_seq (wp_seq (J5 G l6 [(2, iA n), (3, .ptr 3 0), (4, .ptr 5 0), (8, bA false), (11, .ref 4), (12, iA (ss.length : Int)), (13, iA 0)] fun G => b7 (wp_block ?_))))); have hlen : ss.length ≤ 9223372036854775807 := G.len 4 (d := .stmts ss) (by kernel_rfl); refine A3 (κ := Nat) (fun k => k ≤ ss.length ∧ (s5 p.vars.length p.arrays.length d c (ss.take k)).1 = true) (fun k => ss.length - k) (fun k => [dI p.vars, dI p.arrays, dT p.body, .box [iA (s5 p.vars.length p.arrays.length d c (ss.take k)).2], dT ss, .box (pL 0)]) (fun k => [(2, iA n), (3, .ptr 3 0), (4, .ptr 5 0), (8, bA false), (11, .ref 4), (12, iA (ss.length : Int)), (13, iA k)]) 0 (by simp [s5, F9]; done) (A9.at G _ _) ?_; clear G; intro k ρ a w hp G; replace G := A9.at G [dI p.vars, dI p.arrays, dT p.body, .box [iA ((s5 p.vars.length p.arrays.length d c (bV9 k ss)).snd : Int)], dT ss, .box (pL 0)] [(2, iA n), (3, .ptr 3 0), (4, .ptr 5 0), (8, bA false), (11, .ref 4), (12, iA (ss.length : Int)), (13, iA k)]; refine wp_seq (n9 G l6 [(14, bA (decide ((k : Int) < ss.length)))] fun G => b7 (wp_seq (rcD G (fun h0 q0 => ?_) fun h0 q0 => ?_)))
  · refine wp_exit (A2 (A2 (w9 (b7 (wp_seq (s4 G l6 (rg 5) [dI p.vars, dI p.arrays, dT p.body, .box [iA ((s5 p.vars.length p.arrays.length d c (bV9 k ss)).snd : Int)], dT ss] [(8, bA true)] fun G => b7 (wp_ret ?_))))))); exact S6 true G (rg 5) (by rw [s5, ← aK2 (k := k) (by omega)]; exact hp.2) (by show _ = mR (rg 5) [dI p.vars, dI p.arrays, dT p.body, .box [iA ((s5 p.vars.length p.arrays.length d c ss).snd : Int)], dT ss]; have e1 : (((s5 p.vars.length p.arrays.length d c ss).snd : Int) : Int) = (((s5 p.vars.length p.arrays.length d c (bV9 k ss)).snd : Int)) := (by rw [s5, ← aK2 (k := k) (by omega)]); (first | rw [e1] | simp only [e1]) <;> rfl)
  ·
   refine wp_skip (b7 (wp_seq (wp_block (wp_seq (R6 G l6 [0, 1, 2, 3, 4, 5, 14, 15, 16, 17, 22] [dI p.vars, dI p.arrays, dT p.body, .box [iA ((s5 p.vars.length p.arrays.length d c (bV9 k ss)).snd : Int)], dT ss, .box (pL 0), dE (ss.getD k bV3).index.kids, dE (ss.getD k bV3).value.kids, dT (ss.getD k bV3).body, dT (ss.getD k bV3).els, .box (sL (ss.getD k bV3) 6)] [(2, iA n), (3, .ptr 3 0), (4, .ptr 5 0), (8, bA false), (10, .ptr 10 0), (11, .ref 4), (12, iA (ss.length : Int)), (13, iA k)] (iX k k ss.length []) (iK (by have hp := hp; omega) bW1) fun G => b7 (wp_seq (s4 G (B5 4 [0, 1, 2, 3, 6, 7, 8, 9] (ih (ss.getD k bV3) ((s5 p.vars.length p.arrays.length d c (bV9 k ss)).snd) n (V0 (by omega) hp.2) (by assumption))) (rg 6) [dI p.vars, dI p.arrays, dT p.body, .box [iA ((C5 p.vars.length p.arrays.length d (s5 p.vars.length p.arrays.length d c (bV9 k ss)).snd (ss.getD k bV3)).snd : Int)], dT ss, .box (pL 0)] [(2, iA n), (3, .ptr 3 0), (4, .ptr 5 0), (8, bA false), (11, .ref 4), (12, iA (ss.length : Int)), (13, iA k), (22, .v (.bool !(C5 p.vars.length p.arrays.length d (s5 p.vars.length p.arrays.length d c (bV9 k ss)).snd (ss.getD k bV3)).fst))] fun G => b7 ?_))))))); cases h1 : (!(C5 p.vars.length p.arrays.length d (s5 p.vars.length p.arrays.length d c (bV9 k ss)).snd (ss.getD k bV3)).fst)
   · have q1 : ((C5 p.vars.length p.arrays.length d (s5 p.vars.length p.arrays.length d c (bV9 k ss)).snd (ss.getD k bV3)).fst) = true := (Eq.mp (bW8 _) h1); refine rF G _ h1 (wp_skip (w5 (b7 (J2 G l6 [(13, iA ((k : Int) + 1))] [wO ((k : Int) + 1)] (o1 (by omega)) fun G => b7 ?_)))); exact Y3 G (k + 1) (⟨by omega, by rw [s5, as0 hp.2 (by omega)]; assumption⟩) (by have hp := hp; omega) (rg 6) (by have e1 : (((s5 p.vars.length p.arrays.length d c (bV9 (k + 1) ss)).snd : Int) : Int) = (((C5 p.vars.length p.arrays.length d (s5 p.vars.length p.arrays.length d c (bV9 k ss)).snd (ss.getD k bV3)).snd : Int)) := (by rw [s5, as0 hp.2 (by omega)]); (first | rw [e1] | simp only [e1]) <;> rfl)
   · have q1 : ((C5 p.vars.length p.arrays.length d (s5 p.vars.length p.arrays.length d c (bV9 k ss)).snd (ss.getD k bV3)).fst) = false := (Eq.mp (bW7 _) h1); refine rT G _ h1 (wp_seq (n9 G l6 [] fun G => b7 (wp_ret (M8 (t6 (t6 (M8 (t6 ?_)))))))); exact S6 false G (rg 5) (by rw [s5, aK1 hp.2 (by omega) (by assumption)]; assumption) (by show _ = mR (rg 5) [dI p.vars, dI p.arrays, dT p.body, .box [iA ((s5 p.vars.length p.arrays.length d c ss).snd : Int)], dT ss]; have e1 : (((s5 p.vars.length p.arrays.length d c ss).snd : Int) : Int) = (((C5 p.vars.length p.arrays.length d (s5 p.vars.length p.arrays.length d c (bV9 k ss)).snd (ss.getD k bV3)).snd : Int)) := (by rw [s5, aK1 hp.2 (by omega) (by assumption)]); (first | rw [e1] | simp only [e1]) <;> rfl)
section
variable {nv na : Nat} {s : b6}
theorem F8 (k : s.kind = 1 ∨ s.kind = 5) : C9 nv na s = (decide (0 ≤ s.target ∧ s.target < nv ∧ s.body.length = 0 ∧ s.els.length = 0 ∧ s.count = 0) && (noneB s.index && s0 nv na s.value)) := by
 rw [C9, F5, if_pos k, if_neg (by omega), show decide (s.kind = 2) = false from decide_eq_false (by omega), Bool.eq_iff_iff]
 simp only [bV8, decide_eq_true_eq, Bool.false_or]
 constructor
 ·rintro ⟨⟨⟨⟨a, b⟩, c⟩, d⟩, ⟨e, f⟩, g⟩; exact ⟨⟨e, f, a, b, c⟩, d, g⟩
 ·rintro ⟨⟨e, f, a, b, c⟩, d, g⟩; exact ⟨⟨⟨⟨a, b⟩, c⟩, d⟩, ⟨e, f⟩, g⟩
theorem O4 (k : s.kind = 2) : C9 nv na s = (decide (0 ≤ s.target ∧ s.target < na ∧ s.body.length = 0 ∧ s.els.length = 0 ∧ s.count = 0) && (s0 nv na s.index && (atomB s.index && s0 nv na s.value))) := by
 rw [C9, F5, if_neg (by omega), if_pos k, if_neg (by omega), show decide (s.kind = 2) = true from decide_eq_true k, Bool.eq_iff_iff]
 simp only [bV8, decide_eq_true_eq, Bool.true_or]
 constructor
 ·rintro ⟨⟨⟨⟨a, b⟩, c⟩, -⟩, ⟨⟨⟨e, f⟩, i⟩, j⟩, g⟩; exact ⟨⟨e, f, a, b, c⟩, i, j, g⟩
 ·rintro ⟨⟨e, f, a, b, c⟩, i, j, g⟩; exact ⟨⟨⟨⟨a, b⟩, c⟩, bW1⟩, ⟨⟨⟨e, f⟩, i⟩, j⟩, g⟩
theorem ad7 (k : s.kind = 3) : C9 nv na s = (decide (s.target = 0 ∧ s.count = 0) && (noneB s.index && s0 nv na s.value)) := by
 rw [C9, F5, if_pos (show s.kind = 3 ∨ s.kind = 4 from .inl k), if_neg (show ¬ s.kind = 4 by omega), if_neg (by omega), if_neg (by omega), if_pos k, Bool.eq_iff_iff]
 simp only [bV8, decide_eq_true_eq]
 constructor
 ·rintro ⟨⟨a, b, c⟩, d⟩; exact ⟨⟨a, b⟩, c, d⟩
 ·rintro ⟨⟨a, b⟩, c, d⟩; exact ⟨⟨a, b, c⟩, d⟩
theorem ac0 (k : s.kind = 4) : C9 nv na s = (decide (s.target = 0 ∧ s.els.length = 0 ∧ 1 ≤ s.count ∧ s.count ≤ 3) && (noneB s.index && noneB s.value)) := by
 rw [C9, F5, if_pos (show s.kind = 3 ∨ s.kind = 4 from .inr k), if_pos k, if_neg (by omega), if_neg (by omega), if_neg (by omega), show decide (s.kind = 4) = true from decide_eq_true k, Bool.eq_iff_iff]
 simp only [bV8, decide_eq_true_eq]
 constructor
 ·rintro ⟨⟨a, ⟨⟨⟨b, c⟩, d⟩, e⟩, f⟩, -⟩; exact ⟨⟨a, b, c, d⟩, e, f⟩
 ·rintro ⟨⟨a, b, c, d⟩, e, f⟩; exact ⟨⟨a, ⟨⟨⟨b, c⟩, d⟩, e⟩, f⟩, bW1⟩
theorem P6 (k : ¬ s.kind = 1 ∧ ¬ s.kind = 2 ∧ ¬ s.kind = 3 ∧ ¬ s.kind = 4 ∧ ¬ s.kind = 5) : C9 nv na s = false := by
 rw [C9, if_neg (by omega), if_neg (by omega), if_neg (by omega), show decide (s.kind = 4) = false from decide_eq_false (by omega), Bool.and_false]
theorem Z0 {p : Prop} [Decidable p] {a b : Bool} (hp : p) (ha : a = true) (hb : b = true) : (decide p && (a && b)) = true := by rw [ha, hb, decide_eq_true hp]; rfl
theorem aY2 {p : Prop} [Decidable p] {a b c : Bool} (hp : p) (ha : a = true) (hb : b = true) (hc : c = true) : (decide p && (a && (b && c))) = true := by rw [ha, hb, hc, decide_eq_true hp]; rfl
end
abbrev ao6 (p : k6) (d : Nat) (s : b6) (c : Nat) := s5 p.vars.length p.arrays.length d (s5 p.vars.length p.arrays.length d (c + 1) s.body).snd s.els
abbrev ao5 (p : k6) (d : Nat) (s : b6) (c : Nat) := s5 p.vars.length p.arrays.length d (c + 1) s.body
abbrev s8 (p : k6) (d : Nat) (s : b6) (c : Nat) : List It := [dI p.vars, dI p.arrays, dT p.body, .box [iA ((C5 p.vars.length p.arrays.length (d + 1) c s).snd : Int)], dE s.index.kids, dE s.value.kids, dT s.body, dT s.els]
abbrev af1 (s : b6) (r0 : List It) : List It := dE s.index.kids :: dE s.value.kids :: dT s.body :: dT s.els :: r0
abbrev af0 (p : k6) (r0 : List It) : List It := dI p.vars :: dI p.arrays :: dT p.body :: r0
theorem bE0 (p : k6) (d : Nat) (hd : d ≤ 4) (ih : ∀ (ss : List b6) (c : Nat) (n : Int), c ≤ 60 → n = 6 - (d : Int) → p6.ok Tryz.prog (a90 p d c ss n))
    (s : b6) (c : Nat) (n : Int) (hc : c ≤ 60) (hn : n = 5 - (d : Int)) : p6.ok Tryz.prog (bG1 p (d + 1) c s n) := by
  have h100 : decide (n > 5) = false := by simp; omega
  refine H9 149 Tryz.func186 (af0 p (.box [iA c] :: (af1 s []))) [(0, pA 0), (1, sA s 4), (2, iA n), (3, .ptr 3 0)] fun G => ?_; have hl0 : p.vars.length ≤ 9223372036854775807 := G.len 0 (d := .ints p.vars) (by kernel_rfl); have hl1 : p.arrays.length ≤ 9223372036854775807 := G.len 1 (d := .ints p.arrays) (by kernel_rfl); refine wp_seq (s4 G l6 [0, 1, 2, 3, 4, 5, 6, 7, 8, 16] (af0 p (.box [iA c] :: (af1 s [.box (pL 0), .box (sL s 4)]))) [(2, iA n), (3, .ptr 3 0), (4, .ptr 8 0), (5, .ptr 9 0), (8, bA false)] fun G => b7 (wp_seq (R6 G l6 (rg 10) (af0 p (.box [iA ((c : Int) + 1)] :: (af1 s [.box (pL 0), .box (sL s 4)]))) [(2, iA n), (3, .ptr 3 0), (4, .ptr 8 0), (5, .ptr 9 0), (8, bA false)] [wO ((c : Int) + 1)] (o1 (by omega)) fun G => b7 (wp_seq (wp_seq ?_))))); cases h0 : (decide ((c : Int) + 1 > 60))
  ·
   have q0 := dFf h0; refine n9 G (hhF (fc h0 fz) [(5, 0), (6, 0), (1007, 0)]) [(27, bA (decide (n > 5)))] fun G => b7 (rF G (decide (n > 5)) (by assumption) (wp_skip (b7 (wp_seq (n9 G l6 [(9, iA 1), (10, bA false), (11, bA true), (12, bA false), (13, bA false), (14, bA false)] fun G => b7 (wp_seq (wp_seq (n9 G l6 [(29, iA s.kind)] fun G => b7 (wp_block (wp_seq (wp_seq (n9 G l6 [(30, bA (s.kind == 1))] fun G => b7 (rcE G (fun h1 q1 => ?_) fun h1 q1 => ?_)))))))))))))
   ·
    refine n9 G l6 [(30, bA (s.kind == 5))] fun G => b7 (rcE G (fun h2 q2 => ?_) fun h2 q2 => ?_)
    ·
     refine wp_seq (n9 G l6 [(36, bA (s.kind == 2))] fun G => b7 (rcE G (fun h3 q3 => ?_) fun h3 q3 => ?_))
     ·
      refine wp_seq (n9 G l6 [(41, bA (s.kind == 3))] fun G => b7 (rcE G (fun h4 q4 => ?_) fun h4 q4 => ?_))
      ·
       refine wp_seq (n9 G l6 [(43, bA (s.kind == 4))] fun G => b7 (rcE G (fun h5 q5 => ?_) fun h5 q5 => ?_))
       · refine wp_seq (n9 G l6 [] fun G => b7 (wp_ret (M8 (t6 ?_)))); exact S6 false G (rg 8) (by rw [m6 (P6 (by omega))]; done) (by show _ = mR (rg 8) (s8 p d s c); unfold s8; rw [m6 (P6 (by omega))] <;> rfl)
       ·
        refine n9 G l6 [(11, bA false), (12, bA true), (13, bA true)] fun G => w5 (b7 (wp_seq (wp_seq ?_))); cases h6 : (!(decide ((0 : Int) ≤ s.target) && decide (s.target ≤ 0)))
        ·
         have q6 : (0 ≤ s.target) ∧ (s.target ≤ 0) := (fun hq => And.imp (fun hq => of_decide_eq_true hq) (fun hq => of_decide_eq_true hq) (bY2.1 hq)) (Eq.mp (bW8 _) h6); cases h7 : (!(decide ((1 : Int) ≤ s.count) && decide (s.count ≤ 3)))
         ·
          have q7 : (1 ≤ s.count) ∧ (s.count ≤ 3) := (fun hq => And.imp (fun hq => of_decide_eq_true hq) (fun hq => of_decide_eq_true hq) (bY2.1 hq)) (Eq.mp (bW8 _) h7); refine J2 G (E5 (t4 4 [] (E0 s.target 0 0) (t4 11 [] (E0 s.count 1 3) E4)) (fc h6 (fc (b := true) rfl (fc h7 (fc (b := false) rfl fz)))) (us [(7, 8, 0), (9, 12, 1), (13, 13, 0), (1013, 1013, 1), (1014, 1014, 0), (16, 18, 2), (19, 21, 3), (22, 22, 2), (1022, 1022, 3), (1023, 1023, 2), (25, 32, 3), (1032, 1033, 3), (35, 37, 3), (38, 41, 1), (42, 42, 3), (1042, 1042, 1), (1043, 1043, 3)])) [(88, bA (decide ((s.els.length : Int) > 0)))] [IntKind.i64.wrap ((1 : Int) - 1) = 1 - 1] ⟨(by kernel_rfl), bW1⟩ fun G => b7 (rcD G (fun h8 q8 => ?_) fun h8 q8 => ?_)
          ·
           refine wp_skip (b7 (wp_seq (wp_seq ?_))); cases h9 : (!noneB s.index)
           ·
            have q9 : (noneB s.index) = true := (Eq.mp (bW8 _) h9); refine n9 G (E5 (t4 20 [4] (M7 s.index) (t4 40 [5] (M7 s.value) E4)) (fc (b := false) rfl (fc (b := true) rfl (fc h9 fz))) (us [(2, 7, 0), (12, 12, 0), (1013, 1013, 0), (15, 17, 0), (18, 21, 1), (22, 22, 0), (1022, 1022, 1), (1023, 1023, 0), (25, 26, 2), (27, 31, 0), (32, 32, 2), (1032, 1032, 0), (1033, 1033, 2), (35, 37, 0), (38, 41, 1), (42, 42, 0), (1042, 1042, 1), (1043, 1043, 0)])) [(132, .v (.bool !noneB s.value))] fun G => b7 ?_; cases h10 : (!noneB s.value)
            ·
             have q10 : (noneB s.value) = true := (Eq.mp (bW8 _) h10); refine rF G _ h10 (wp_skip (b7 (wp_seq ?_))); cases h11 : ((s5 p.vars.length p.arrays.length d (c + (1 : Nat)) s.body).fst)
             · refine R6 G (E5 (t4 6 [0, 1, 2, 3, 6] (ih s.body (c + 1) (n + 1) (by simp; omega) (by omega)) E4) (fc h11 fz) (us [(8, 14, 0), (1015, 1015, 0)])) (rg 8) (af0 p (.box [iA ((ao5 p d s c).snd : Int)] :: (af1 s []))) [(8, bA false)] [wO (n + 1)] (o1 (by omega)) fun G => b7 (wp_ret ?_); exact S6 false G (rg 8) (by rw [H7 (by omega) (by (rw [ac0 (by omega)]; exact Z0 (by omega) (by assumption) (by assumption))) (by assumption)]; assumption) (by show _ = mR (rg 8) (s8 p d s c); unfold s8; rw [H7 (by omega) (by (rw [ac0 (by omega)]; exact Z0 (by omega) (by assumption) (by assumption))) (by assumption)] <;> rfl)
             · refine R6 G (E5 (t4 6 [0, 1, 2, 3, 6] (ih s.body (c + 1) (n + 1) (by simp; omega) (by omega)) (t4 14 [0, 1, 2, 3, 7] (ih s.els ((ao5 p d s c).snd) (n + 1) (V0 (by omega) (by assumption)) (by omega)) E4)) (fc h11 fz) (us [(8, 14, 0), (1015, 1015, 0)])) (rg 8) (af0 p (.box [iA ((ao6 p d s c).snd : Int)] :: (af1 s []))) [(8, bA (ao6 p d s c).fst)] [wO (n + 1), wO (n + 1)] (o2 (by omega)) fun G => b7 (wp_ret ?_); exact S6 ((s5 p.vars.length p.arrays.length d (s5 p.vars.length p.arrays.length d (c + 1) s.body).snd s.els).fst) G (rg 8) (by rw [K4 (by omega) (by (rw [ac0 (by omega)]; exact Z0 (by omega) (by assumption) (by assumption))) (by assumption)]; done) (by show _ = mR (rg 8) (s8 p d s c); unfold s8; rw [K4 (by omega) (by (rw [ac0 (by omega)]; exact Z0 (by omega) (by assumption) (by assumption))) (by assumption)] <;> rfl)
            · have q10 : (noneB s.value) = false := (Eq.mp (bW7 _) h10); refine rT G _ h10 (wp_seq (n9 G l6 [] fun G => b7 (wp_ret (t6 ?_)))); exact S6 false G (rg 8) (by rw [m6 (by (rw [ac0 (by omega)]; simp [h100, h0, q0, h1, q1, h2, q2, h3, q3, h4, q4, h5, q5, h6, q6, h7, q7, h8, q8, h9, q9, h10, q10]; done))]; done) (by show _ = mR (rg 8) (s8 p d s c); unfold s8; rw [m6 (by (rw [ac0 (by omega)]; simp [h100, h0, q0, h1, q1, h2, q2, h3, q3, h4, q4, h5, q5, h6, q6, h7, q7, h8, q8, h9, q9, h10, q10]; done))] <;> rfl)
           · have q9 : (noneB s.index) = false := (Eq.mp (bW7 _) h9); refine n9 G (E5 (t4 20 [4] (M7 s.index) E4) (fc (b := false) rfl (fc (b := true) rfl (fc h9 fz))) (us [(2, 7, 0), (12, 12, 0), (1013, 1013, 0), (15, 17, 0), (18, 21, 1), (22, 22, 0), (1022, 1022, 1), (1023, 1023, 0), (25, 26, 2), (32, 32, 2), (1033, 1033, 2), (35, 37, 1), (42, 42, 1), (1043, 1043, 1)])) [(132, bA true)] fun G => b7 (rT G true (by kernel_rfl) (wp_seq (n9 G l6 [] fun G => b7 (wp_ret (t6 ?_))))); exact S6 false G (rg 8) (by rw [m6 (by (rw [ac0 (by omega)]; simp [h100, h0, q0, h1, q1, h2, q2, h3, q3, h4, q4, h5, q5, h6, q6, h7, q7, h8, q8, h9, q9]; done))]; done) (by show _ = mR (rg 8) (s8 p d s c); unfold s8; rw [m6 (by (rw [ac0 (by omega)]; simp [h100, h0, q0, h1, q1, h2, q2, h3, q3, h4, q4, h5, q5, h6, q6, h7, q7, h8, q8, h9, q9]; done))] <;> rfl)
          · refine wp_seq (n9 G l6 [] fun G => b7 (wp_ret (t6 ?_))); exact S6 false G (rg 8) (by rw [m6 (by (rw [ac0 (by omega), decide_eq_false (by omega)]; rfl))]; done) (by show _ = mR (rg 8) (s8 p d s c); unfold s8; rw [m6 (by (rw [ac0 (by omega), decide_eq_false (by omega)]; rfl))] <;> rfl)
         · have q7 : (¬ (1 ≤ s.count)) ∨ (¬ (s.count ≤ 3)) := (fun hq => Or.imp (fun hq => of_decide_eq_false hq) (fun hq => of_decide_eq_false hq) (bY1.1 hq)) (Eq.mp (bW7 _) h7); refine J2 G (E5 (t4 4 [] (E0 s.target 0 0) (t4 11 [] (E0 s.count 1 3) E4)) (fc h6 (fc (b := true) rfl (fc h7 fz))) (us [(7, 8, 0), (9, 12, 1), (13, 13, 0), (1013, 1013, 1), (1014, 1014, 0), (16, 18, 2), (22, 22, 2), (1023, 1023, 2), (25, 27, 1), (32, 32, 1), (1033, 1033, 1), (35, 37, 1), (42, 42, 1), (1043, 1043, 1)])) [(88, bA true)] [IntKind.i64.wrap ((1 : Int) - 1) = 1 - 1] ⟨(by kernel_rfl), bW1⟩ fun G => b7 (rT G true (by kernel_rfl) (wp_seq (n9 G l6 [] fun G => b7 (wp_ret (t6 ?_))))); exact S6 false G (rg 8) (by rw [m6 (by (rw [ac0 (by omega), decide_eq_false (by omega)]; rfl))]; done) (by show _ = mR (rg 8) (s8 p d s c); unfold s8; rw [m6 (by (rw [ac0 (by omega), decide_eq_false (by omega)]; rfl))] <;> rfl)
        · have q6 : (¬ (0 ≤ s.target)) ∨ (¬ (s.target ≤ 0)) := (fun hq => Or.imp (fun hq => of_decide_eq_false hq) (fun hq => of_decide_eq_false hq) (bY1.1 hq)) (Eq.mp (bW7 _) h6); refine J2 G (E5 (t4 4 [] (E0 s.target 0 0) E4) (fc h6 (fc (b := true) rfl fz)) [(7, 0), (8, 0), (13, 0), (1014, 0), (16, 1), (17, 1), (18, 1), (22, 1), (1023, 1), (25, 1), (26, 1), (27, 1), (32, 1), (1033, 1), (35, 1), (36, 1), (37, 1), (42, 1), (1043, 1)]) [(88, bA true)] [IntKind.i64.wrap ((1 : Int) - 1) = 1 - 1] ⟨(by kernel_rfl), bW1⟩ fun G => b7 (rT G true (by kernel_rfl) (wp_seq (n9 G l6 [] fun G => b7 (wp_ret (t6 ?_))))); exact S6 false G (rg 8) (by rw [m6 (by (rw [ac0 (by omega), decide_eq_false (by omega)]; rfl))]; done) (by show _ = mR (rg 8) (s8 p d s c); unfold s8; rw [m6 (by (rw [ac0 (by omega), decide_eq_false (by omega)]; rfl))] <;> rfl)
      ·
       refine n9 G l6 [(13, bA true), (14, bA true)] fun G => w5 (b7 (wp_seq (wp_seq ?_))); cases h12 : (!(decide ((0 : Int) ≤ s.target) && decide (s.target ≤ 0)))
       ·
        have q12 : (0 ≤ s.target) ∧ (s.target ≤ 0) := (fun hq => And.imp (fun hq => of_decide_eq_true hq) (fun hq => of_decide_eq_true hq) (bY2.1 hq)) (Eq.mp (bW8 _) h12); cases h13 : (s.count != 0)
        ·
         have q13 := bne_eq_false_iff_eq.1 h13; refine J2 G (E5 (t4 4 [] (E0 s.target 0 0) E4) (fc h12 (fc (b := false) rfl (fc (b := true) rfl (fc h13 fz)))) (us [(7, 8, 0), (9, 12, 1), (13, 13, 0), (1013, 1013, 1), (1014, 1014, 0), (16, 18, 1), (19, 21, 2), (22, 22, 1), (1022, 1022, 2), (1023, 1023, 1), (25, 27, 3), (28, 31, 1), (32, 32, 3), (1032, 1032, 1), (1033, 1033, 3), (35, 42, 1), (1042, 1043, 1)])) [(88, bA false)] [IntKind.i64.wrap ((1 : Int) - 1) = 1 - 1] ⟨(by kernel_rfl), bW1⟩ fun G => b7 (rF G false (by kernel_rfl) (wp_skip (b7 (wp_seq (wp_seq ?_))))); cases h14 : (!noneB s.index)
         ·
          have q14 : (noneB s.index) = true := (Eq.mp (bW8 _) h14); cases h15 : (!s0 p.vars.length p.arrays.length s.value)
          ·
           have q15 : (s0 p.vars.length p.arrays.length s.value) = true := (Eq.mp (bW8 _) h15); refine n9 G (E5 (t4 20 [4] (M7 s.index) (t4 30 [0, 1, 2, 5] (Y4 p s.value) E4)) (fc (b := false) rfl (fc (b := true) rfl (fc h14 (fc h15 fz)))) (us [(2, 7, 0), (12, 12, 0), (1013, 1013, 0), (15, 17, 0), (18, 21, 1), (22, 22, 0), (1022, 1022, 1), (1023, 1023, 0), (25, 26, 2), (27, 31, 1), (32, 32, 2), (1032, 1032, 1), (1033, 1033, 2), (35, 37, 3), (38, 41, 0), (42, 42, 3), (1042, 1042, 0), (1043, 1043, 3)])) [(132, bA false)] fun G => b7 (rF G false (by kernel_rfl) (wp_skip (b7 (wp_seq ?_)))); cases h16 : ((s5 p.vars.length p.arrays.length d (c + (1 : Nat)) s.body).fst)
           · refine R6 G (E5 (t4 6 [0, 1, 2, 3, 6] (ih s.body (c + 1) (n + 1) (by simp; omega) (by omega)) E4) (fc h16 fz) (us [(8, 14, 0), (1015, 1015, 0)])) (rg 8) (af0 p (.box [iA ((ao5 p d s c).snd : Int)] :: (af1 s []))) [(8, bA false)] [wO (n + 1)] (o1 (by omega)) fun G => b7 (wp_ret ?_); exact S6 false G (rg 8) (by rw [H7 (by omega) (by (rw [ad7 (by omega)]; exact Z0 (by omega) (by assumption) (by assumption))) (by assumption)]; assumption) (by show _ = mR (rg 8) (s8 p d s c); unfold s8; rw [H7 (by omega) (by (rw [ad7 (by omega)]; exact Z0 (by omega) (by assumption) (by assumption))) (by assumption)] <;> rfl)
           · refine R6 G (E5 (t4 6 [0, 1, 2, 3, 6] (ih s.body (c + 1) (n + 1) (by simp; omega) (by omega)) (t4 14 [0, 1, 2, 3, 7] (ih s.els ((ao5 p d s c).snd) (n + 1) (V0 (by omega) (by assumption)) (by omega)) E4)) (fc h16 fz) (us [(8, 14, 0), (1015, 1015, 0)])) (rg 8) (af0 p (.box [iA ((ao6 p d s c).snd : Int)] :: (af1 s []))) [(8, bA (ao6 p d s c).fst)] [wO (n + 1), wO (n + 1)] (o2 (by omega)) fun G => b7 (wp_ret ?_); exact S6 ((s5 p.vars.length p.arrays.length d (s5 p.vars.length p.arrays.length d (c + 1) s.body).snd s.els).fst) G (rg 8) (by rw [K4 (by omega) (by (rw [ad7 (by omega)]; exact Z0 (by omega) (by assumption) (by assumption))) (by assumption)]; done) (by show _ = mR (rg 8) (s8 p d s c); unfold s8; rw [K4 (by omega) (by (rw [ad7 (by omega)]; exact Z0 (by omega) (by assumption) (by assumption))) (by assumption)] <;> rfl)
          · have q15 : (s0 p.vars.length p.arrays.length s.value) = false := (Eq.mp (bW7 _) h15); refine n9 G (E5 (t4 20 [4] (M7 s.index) (t4 30 [0, 1, 2, 5] (Y4 p s.value) E4)) (fc (b := false) rfl (fc (b := true) rfl (fc h14 (fc h15 fz)))) (us [(2, 7, 0), (12, 12, 0), (1013, 1013, 0), (15, 17, 0), (18, 21, 1), (22, 22, 0), (1022, 1022, 1), (1023, 1023, 0), (25, 26, 2), (27, 31, 1), (32, 32, 2), (1032, 1032, 1), (1033, 1033, 2), (35, 37, 3), (42, 42, 3), (1043, 1043, 3)])) [(132, bA true)] fun G => b7 (rT G true (by kernel_rfl) (wp_seq (n9 G l6 [] fun G => b7 (wp_ret (t6 ?_))))); exact S6 false G (rg 8) (by rw [m6 (by (rw [ad7 (by omega)]; simp [h100, h0, q0, h1, q1, h2, q2, h3, q3, h4, q4, h12, q12, h13, q13, h14, q14, h15, q15]; done))]; done) (by show _ = mR (rg 8) (s8 p d s c); unfold s8; rw [m6 (by (rw [ad7 (by omega)]; simp [h100, h0, q0, h1, q1, h2, q2, h3, q3, h4, q4, h12, q12, h13, q13, h14, q14, h15, q15]; done))] <;> rfl)
         · have q14 : (noneB s.index) = false := (Eq.mp (bW7 _) h14); refine n9 G (E5 (t4 20 [4] (M7 s.index) E4) (fc (b := false) rfl (fc (b := true) rfl (fc h14 fz))) (us [(2, 7, 0), (12, 12, 0), (1013, 1013, 0), (15, 17, 0), (18, 21, 1), (22, 22, 0), (1022, 1022, 1), (1023, 1023, 0), (25, 26, 2), (32, 32, 2), (1033, 1033, 2), (35, 37, 1), (42, 42, 1), (1043, 1043, 1)])) [(132, bA true)] fun G => b7 (rT G true (by kernel_rfl) (wp_seq (n9 G l6 [] fun G => b7 (wp_ret (t6 ?_))))); exact S6 false G (rg 8) (by rw [m6 (by (rw [ad7 (by omega)]; simp [h100, h0, q0, h1, q1, h2, q2, h3, q3, h4, q4, h12, q12, h13, q13, h14, q14]; done))]; done) (by show _ = mR (rg 8) (s8 p d s c); unfold s8; rw [m6 (by (rw [ad7 (by omega)]; simp [h100, h0, q0, h1, q1, h2, q2, h3, q3, h4, q4, h12, q12, h13, q13, h14, q14]; done))] <;> rfl)
        · have q13 := bne_iff_ne.1 h13; refine J2 G (E5 (t4 4 [] (E0 s.target 0 0) E4) (fc h12 (fc (b := false) rfl (fc (b := true) rfl (fc h13 fz)))) (us [(7, 8, 0), (9, 12, 1), (13, 13, 0), (1013, 1013, 1), (1014, 1014, 0), (16, 18, 1), (19, 21, 2), (22, 22, 1), (1022, 1022, 2), (1023, 1023, 1), (25, 27, 3), (32, 32, 3), (1033, 1033, 3), (35, 37, 2), (42, 42, 2), (1043, 1043, 2)])) [(88, bA true)] [IntKind.i64.wrap ((1 : Int) - 1) = 1 - 1] ⟨(by kernel_rfl), bW1⟩ fun G => b7 (rT G true (by kernel_rfl) (wp_seq (n9 G l6 [] fun G => b7 (wp_ret (t6 ?_))))); exact S6 false G (rg 8) (by rw [m6 (by (rw [ad7 (by omega), decide_eq_false (by omega)]; rfl))]; done) (by show _ = mR (rg 8) (s8 p d s c); unfold s8; rw [m6 (by (rw [ad7 (by omega), decide_eq_false (by omega)]; rfl))] <;> rfl)
       · have q12 : (¬ (0 ≤ s.target)) ∨ (¬ (s.target ≤ 0)) := (fun hq => Or.imp (fun hq => of_decide_eq_false hq) (fun hq => of_decide_eq_false hq) (bY1.1 hq)) (Eq.mp (bW7 _) h12); refine J2 G (E5 (t4 4 [] (E0 s.target 0 0) E4) (fc h12 (fc (b := true) rfl fz)) [(7, 0), (8, 0), (13, 0), (1014, 0), (16, 1), (17, 1), (18, 1), (22, 1), (1023, 1), (25, 1), (26, 1), (27, 1), (32, 1), (1033, 1), (35, 1), (36, 1), (37, 1), (42, 1), (1043, 1)]) [(88, bA true)] [IntKind.i64.wrap ((1 : Int) - 1) = 1 - 1] ⟨(by kernel_rfl), bW1⟩ fun G => b7 (rT G true (by kernel_rfl) (wp_seq (n9 G l6 [] fun G => b7 (wp_ret (t6 ?_))))); exact S6 false G (rg 8) (by rw [m6 (by (rw [ad7 (by omega), decide_eq_false (by omega)]; rfl))]; done) (by show _ = mR (rg 8) (s8 p d s c); unfold s8; rw [m6 (by (rw [ad7 (by omega), decide_eq_false (by omega)]; rfl))] <;> rfl)
     ·
      refine n9 G l6 [(9, iA (p.arrays.length : Int)), (10, bA true)] fun G => w5 (b7 (wp_seq (wp_seq ?_))); cases h17 : (!(decide ((0 : Int) ≤ s.target) && decide (s.target ≤ (p.arrays.length : Int) - 1)))
      ·
       have q17 : (0 ≤ s.target) ∧ (s.target ≤ (p.arrays.length : Int) - 1) := (fun hq => And.imp (fun hq => of_decide_eq_true hq) (fun hq => of_decide_eq_true hq) (bY2.1 hq)) (Eq.mp (bW8 _) h17); cases h18 : (s.count != 0)
       ·
        have q18 := bne_eq_false_iff_eq.1 h18; cases h19 : (decide ((s.body.length : Int) > 0))
        ·
         have q19 := dFf h19; refine J2 G (E5 (t4 4 [] (E0 s.target 0 ((p.arrays.length : Int) - 1)) E4) (fc h17 (fc (b := false) rfl (fc (b := true) rfl (fc h18 (fc h19 fz))))) (us [(7, 8, 0), (9, 12, 1), (13, 13, 0), (1013, 1013, 1), (1014, 1014, 0), (16, 18, 1), (19, 21, 2), (22, 22, 1), (1022, 1022, 2), (1023, 1023, 1), (25, 27, 3), (28, 31, 2), (32, 32, 3), (1032, 1032, 2), (1033, 1033, 3), (35, 37, 4), (38, 41, 2), (42, 42, 4), (1042, 1042, 2), (1043, 1043, 4)])) [(88, bA (decide ((s.els.length : Int) > 0)))] [wO ((p.arrays.length : Int) - 1)] (o1 (by omega)) fun G => b7 (rcD G (fun h20 q20 => ?_) fun h20 q20 => ?_)
         ·
          refine wp_skip (b7 (wp_seq (wp_seq ?_))); cases h21 : (!s0 p.vars.length p.arrays.length s.index)
          ·
           have q21 : (s0 p.vars.length p.arrays.length s.index) = true := (Eq.mp (bW8 _) h21); cases h22 : (!atomB s.index)
           ·
            have q22 : (atomB s.index) = true := (Eq.mp (bW8 _) h22); cases h23 : (!s0 p.vars.length p.arrays.length s.value)
            ·
             have q23 : (s0 p.vars.length p.arrays.length s.value) = true := (Eq.mp (bW8 _) h23); refine n9 G (E5 (t4 5 [0, 1, 2, 4] (Y4 p s.index) (t4 10 [4] (aA5 s.index) (t4 30 [0, 1, 2, 5] (Y4 p s.value) E4))) (fc (b := true) rfl (fc h21 (fc h22 (fc (b := false) rfl (fc h23 fz))))) (us [(2, 7, 0), (8, 11, 1), (12, 12, 0), (1012, 1012, 1), (1013, 1013, 0), (15, 17, 2), (18, 21, 3), (22, 22, 2), (1022, 1022, 3), (1023, 1023, 2), (25, 26, 3), (27, 31, 0), (32, 32, 3), (1032, 1032, 0), (1033, 1033, 3), (35, 37, 4), (38, 41, 3), (42, 42, 4), (1042, 1042, 3), (1043, 1043, 4)])) [(132, bA false)] fun G => b7 (rF G false (by kernel_rfl) (wp_skip (b7 (wp_seq ?_)))); cases h24 : ((s5 p.vars.length p.arrays.length d (c + (1 : Nat)) s.body).fst)
             · refine R6 G (E5 (t4 6 [0, 1, 2, 3, 6] (ih s.body (c + 1) (n + 1) (by simp; omega) (by omega)) E4) (fc h24 fz) (us [(8, 14, 0), (1015, 1015, 0)])) (rg 8) (af0 p (.box [iA ((ao5 p d s c).snd : Int)] :: (af1 s []))) [(8, bA false)] [wO (n + 1)] (o1 (by omega)) fun G => b7 (wp_ret ?_); exact S6 false G (rg 8) (by rw [H7 (by omega) (by (rw [O4 (by omega)]; exact aY2 (by omega) (by assumption) (by assumption) (by assumption))) (by assumption)]; assumption) (by show _ = mR (rg 8) (s8 p d s c); unfold s8; rw [H7 (by omega) (by (rw [O4 (by omega)]; exact aY2 (by omega) (by assumption) (by assumption) (by assumption))) (by assumption)] <;> rfl)
             · refine R6 G (E5 (t4 6 [0, 1, 2, 3, 6] (ih s.body (c + 1) (n + 1) (by simp; omega) (by omega)) (t4 14 [0, 1, 2, 3, 7] (ih s.els ((ao5 p d s c).snd) (n + 1) (V0 (by omega) (by assumption)) (by omega)) E4)) (fc h24 fz) (us [(8, 14, 0), (1015, 1015, 0)])) (rg 8) (af0 p (.box [iA ((ao6 p d s c).snd : Int)] :: (af1 s []))) [(8, bA (ao6 p d s c).fst)] [wO (n + 1), wO (n + 1)] (o2 (by omega)) fun G => b7 (wp_ret ?_); exact S6 ((s5 p.vars.length p.arrays.length d (s5 p.vars.length p.arrays.length d (c + 1) s.body).snd s.els).fst) G (rg 8) (by rw [K4 (by omega) (by (rw [O4 (by omega)]; exact aY2 (by omega) (by assumption) (by assumption) (by assumption))) (by assumption)]; done) (by show _ = mR (rg 8) (s8 p d s c); unfold s8; rw [K4 (by omega) (by (rw [O4 (by omega)]; exact aY2 (by omega) (by assumption) (by assumption) (by assumption))) (by assumption)] <;> rfl)
            · have q23 : (s0 p.vars.length p.arrays.length s.value) = false := (Eq.mp (bW7 _) h23); refine n9 G (E5 (t4 5 [0, 1, 2, 4] (Y4 p s.index) (t4 10 [4] (aA5 s.index) (t4 30 [0, 1, 2, 5] (Y4 p s.value) E4))) (fc (b := true) rfl (fc h21 (fc h22 (fc (b := false) rfl (fc h23 fz))))) (us [(2, 7, 0), (8, 11, 1), (12, 12, 0), (1012, 1012, 1), (1013, 1013, 0), (15, 17, 2), (18, 21, 3), (22, 22, 2), (1022, 1022, 3), (1023, 1023, 2), (25, 26, 3), (27, 31, 0), (32, 32, 3), (1032, 1032, 0), (1033, 1033, 3), (35, 37, 4), (42, 42, 4), (1043, 1043, 4)])) [(132, bA true)] fun G => b7 (rT G true (by kernel_rfl) (wp_seq (n9 G l6 [] fun G => b7 (wp_ret (t6 ?_))))); exact S6 false G (rg 8) (by rw [m6 (by (rw [O4 (by omega)]; simp [h100, h0, q0, h1, q1, h2, q2, h3, q3, h17, q17, h18, q18, h19, q19, h20, q20, h21, q21, h22, q22, h23, q23]; done))]; done) (by show _ = mR (rg 8) (s8 p d s c); unfold s8; rw [m6 (by (rw [O4 (by omega)]; simp [h100, h0, q0, h1, q1, h2, q2, h3, q3, h17, q17, h18, q18, h19, q19, h20, q20, h21, q21, h22, q22, h23, q23]; done))] <;> rfl)
           · have q22 : (atomB s.index) = false := (Eq.mp (bW7 _) h22); refine n9 G (E5 (t4 5 [0, 1, 2, 4] (Y4 p s.index) (t4 10 [4] (aA5 s.index) E4)) (fc (b := true) rfl (fc h21 (fc h22 fz))) (us [(2, 7, 0), (8, 11, 1), (12, 12, 0), (1012, 1012, 1), (1013, 1013, 0), (15, 17, 2), (22, 22, 2), (1023, 1023, 2), (25, 26, 0), (32, 32, 0), (1033, 1033, 0), (35, 37, 0), (42, 42, 0), (1043, 1043, 0)])) [(132, bA true)] fun G => b7 (rT G true (by kernel_rfl) (wp_seq (n9 G l6 [] fun G => b7 (wp_ret (t6 ?_))))); exact S6 false G (rg 8) (by rw [m6 (by (rw [O4 (by omega)]; simp [h100, h0, q0, h1, q1, h2, q2, h3, q3, h17, q17, h18, q18, h19, q19, h20, q20, h21, q21, h22, q22]; done))]; done) (by show _ = mR (rg 8) (s8 p d s c); unfold s8; rw [m6 (by (rw [O4 (by omega)]; simp [h100, h0, q0, h1, q1, h2, q2, h3, q3, h17, q17, h18, q18, h19, q19, h20, q20, h21, q21, h22, q22]; done))] <;> rfl)
          · have q21 : (s0 p.vars.length p.arrays.length s.index) = false := (Eq.mp (bW7 _) h21); refine n9 G (E5 (t4 5 [0, 1, 2, 4] (Y4 p s.index) E4) (fc (b := true) rfl (fc h21 fz)) (us [(2, 7, 0), (8, 11, 1), (12, 12, 0), (1012, 1012, 1), (1013, 1013, 0), (15, 17, 0), (22, 22, 0), (1023, 1023, 0), (25, 26, 0), (32, 32, 0), (1033, 1033, 0), (35, 37, 0), (42, 42, 0), (1043, 1043, 0)])) [(132, bA true)] fun G => b7 (rT G true (by kernel_rfl) (wp_seq (n9 G l6 [] fun G => b7 (wp_ret (t6 ?_))))); exact S6 false G (rg 8) (by rw [m6 (by (rw [O4 (by omega)]; simp [h100, h0, q0, h1, q1, h2, q2, h3, q3, h17, q17, h18, q18, h19, q19, h20, q20, h21, q21]; done))]; done) (by show _ = mR (rg 8) (s8 p d s c); unfold s8; rw [m6 (by (rw [O4 (by omega)]; simp [h100, h0, q0, h1, q1, h2, q2, h3, q3, h17, q17, h18, q18, h19, q19, h20, q20, h21, q21]; done))] <;> rfl)
         · refine wp_seq (n9 G l6 [] fun G => b7 (wp_ret (t6 ?_))); exact S6 false G (rg 8) (by rw [m6 (by (rw [O4 (by omega), decide_eq_false (by omega)]; rfl))]; done) (by show _ = mR (rg 8) (s8 p d s c); unfold s8; rw [m6 (by (rw [O4 (by omega), decide_eq_false (by omega)]; rfl))] <;> rfl)
        · have q19 := dTt h19; refine J2 G (E5 (t4 4 [] (E0 s.target 0 ((p.arrays.length : Int) - 1)) E4) (fc h17 (fc (b := false) rfl (fc (b := true) rfl (fc h18 (fc h19 fz))))) (us [(7, 8, 0), (9, 12, 1), (13, 13, 0), (1013, 1013, 1), (1014, 1014, 0), (16, 18, 1), (19, 21, 2), (22, 22, 1), (1022, 1022, 2), (1023, 1023, 1), (25, 27, 3), (28, 31, 2), (32, 32, 3), (1032, 1032, 2), (1033, 1033, 3), (35, 37, 4), (42, 42, 4), (1043, 1043, 4)])) [(88, bA true)] [wO ((p.arrays.length : Int) - 1)] (o1 (by omega)) fun G => b7 (rT G true (by kernel_rfl) (wp_seq (n9 G l6 [] fun G => b7 (wp_ret (t6 ?_))))); exact S6 false G (rg 8) (by rw [m6 (by (rw [O4 (by omega), decide_eq_false (by omega)]; rfl))]; done) (by show _ = mR (rg 8) (s8 p d s c); unfold s8; rw [m6 (by (rw [O4 (by omega), decide_eq_false (by omega)]; rfl))] <;> rfl)
       · have q18 := bne_iff_ne.1 h18; refine J2 G (E5 (t4 4 [] (E0 s.target 0 ((p.arrays.length : Int) - 1)) E4) (fc h17 (fc (b := false) rfl (fc (b := true) rfl (fc h18 fz)))) (us [(7, 8, 0), (9, 12, 1), (13, 13, 0), (1013, 1013, 1), (1014, 1014, 0), (16, 18, 1), (19, 21, 2), (22, 22, 1), (1022, 1022, 2), (1023, 1023, 1), (25, 27, 3), (32, 32, 3), (1033, 1033, 3), (35, 37, 2), (42, 42, 2), (1043, 1043, 2)])) [(88, bA true)] [wO ((p.arrays.length : Int) - 1)] (o1 (by omega)) fun G => b7 (rT G true (by kernel_rfl) (wp_seq (n9 G l6 [] fun G => b7 (wp_ret (t6 ?_))))); exact S6 false G (rg 8) (by rw [m6 (by (rw [O4 (by omega), decide_eq_false (by omega)]; rfl))]; done) (by show _ = mR (rg 8) (s8 p d s c); unfold s8; rw [m6 (by (rw [O4 (by omega), decide_eq_false (by omega)]; rfl))] <;> rfl)
      · have q17 : (¬ (0 ≤ s.target)) ∨ (¬ (s.target ≤ (p.arrays.length : Int) - 1)) := (fun hq => Or.imp (fun hq => of_decide_eq_false hq) (fun hq => of_decide_eq_false hq) (bY1.1 hq)) (Eq.mp (bW7 _) h17); refine J2 G (E5 (t4 4 [] (E0 s.target 0 ((p.arrays.length : Int) - 1)) E4) (fc h17 (fc (b := true) rfl fz)) [(7, 0), (8, 0), (13, 0), (1014, 0), (16, 1), (17, 1), (18, 1), (22, 1), (1023, 1), (25, 1), (26, 1), (27, 1), (32, 1), (1033, 1), (35, 1), (36, 1), (37, 1), (42, 1), (1043, 1)]) [(88, bA true)] [wO ((p.arrays.length : Int) - 1)] (o1 (by omega)) fun G => b7 (rT G true (by kernel_rfl) (wp_seq (n9 G l6 [] fun G => b7 (wp_ret (t6 ?_))))); exact S6 false G (rg 8) (by rw [m6 (by (rw [O4 (by omega), decide_eq_false (by omega)]; rfl))]; done) (by show _ = mR (rg 8) (s8 p d s c); unfold s8; rw [m6 (by (rw [O4 (by omega), decide_eq_false (by omega)]; rfl))] <;> rfl)
    ·
     refine n9 G l6 [(9, iA (p.vars.length : Int))] fun G => w5 (b7 (wp_seq (wp_seq ?_))); cases h25 : (!(decide ((0 : Int) ≤ s.target) && decide (s.target ≤ (p.vars.length : Int) - 1)))
     ·
      have q25 : (0 ≤ s.target) ∧ (s.target ≤ (p.vars.length : Int) - 1) := (fun hq => And.imp (fun hq => of_decide_eq_true hq) (fun hq => of_decide_eq_true hq) (bY2.1 hq)) (Eq.mp (bW8 _) h25); cases h26 : (s.count != 0)
      ·
       have q26 := bne_eq_false_iff_eq.1 h26; cases h27 : (decide ((s.body.length : Int) > 0))
       ·
        have q27 := dFf h27; refine J2 G (E5 (t4 4 [] (E0 s.target 0 ((p.vars.length : Int) - 1)) E4) (fc h25 (fc (b := false) rfl (fc (b := true) rfl (fc h26 (fc h27 fz))))) (us [(7, 8, 0), (9, 12, 1), (13, 13, 0), (1013, 1013, 1), (1014, 1014, 0), (16, 18, 1), (19, 21, 2), (22, 22, 1), (1022, 1022, 2), (1023, 1023, 1), (25, 27, 3), (28, 31, 2), (32, 32, 3), (1032, 1032, 2), (1033, 1033, 3), (35, 37, 4), (38, 41, 2), (42, 42, 4), (1042, 1042, 2), (1043, 1043, 4)])) [(88, bA (decide ((s.els.length : Int) > 0)))] [wO ((p.vars.length : Int) - 1)] (o1 (by omega)) fun G => b7 (rcD G (fun h28 q28 => ?_) fun h28 q28 => ?_)
        ·
         refine wp_skip (b7 (wp_seq (wp_seq ?_))); cases h29 : (!noneB s.index)
         ·
          have q29 : (noneB s.index) = true := (Eq.mp (bW8 _) h29); cases h30 : (!s0 p.vars.length p.arrays.length s.value)
          ·
           have q30 : (s0 p.vars.length p.arrays.length s.value) = true := (Eq.mp (bW8 _) h30); refine n9 G (E5 (t4 20 [4] (M7 s.index) (t4 30 [0, 1, 2, 5] (Y4 p s.value) E4)) (fc (b := false) rfl (fc (b := true) rfl (fc h29 (fc h30 fz)))) (us [(2, 7, 0), (12, 12, 0), (1013, 1013, 0), (15, 17, 0), (18, 21, 1), (22, 22, 0), (1022, 1022, 1), (1023, 1023, 0), (25, 26, 2), (27, 31, 1), (32, 32, 2), (1032, 1032, 1), (1033, 1033, 2), (35, 37, 3), (38, 41, 0), (42, 42, 3), (1042, 1042, 0), (1043, 1043, 3)])) [(132, bA false)] fun G => b7 (rF G false (by kernel_rfl) (wp_skip (b7 (wp_seq ?_)))); cases h31 : ((s5 p.vars.length p.arrays.length d (c + (1 : Nat)) s.body).fst)
           · refine R6 G (E5 (t4 6 [0, 1, 2, 3, 6] (ih s.body (c + 1) (n + 1) (by simp; omega) (by omega)) E4) (fc h31 fz) (us [(8, 14, 0), (1015, 1015, 0)])) (rg 8) (af0 p (.box [iA ((ao5 p d s c).snd : Int)] :: (af1 s []))) [(8, bA false)] [wO (n + 1)] (o1 (by omega)) fun G => b7 (wp_ret ?_); exact S6 false G (rg 8) (by rw [H7 (by omega) (by (rw [F8 (by omega)]; exact Z0 (by omega) (by assumption) (by assumption))) (by assumption)]; assumption) (by show _ = mR (rg 8) (s8 p d s c); unfold s8; rw [H7 (by omega) (by (rw [F8 (by omega)]; exact Z0 (by omega) (by assumption) (by assumption))) (by assumption)] <;> rfl)
           · refine R6 G (E5 (t4 6 [0, 1, 2, 3, 6] (ih s.body (c + 1) (n + 1) (by simp; omega) (by omega)) (t4 14 [0, 1, 2, 3, 7] (ih s.els ((ao5 p d s c).snd) (n + 1) (V0 (by omega) (by assumption)) (by omega)) E4)) (fc h31 fz) (us [(8, 14, 0), (1015, 1015, 0)])) (rg 8) (af0 p (.box [iA ((ao6 p d s c).snd : Int)] :: (af1 s []))) [(8, bA (ao6 p d s c).fst)] [wO (n + 1), wO (n + 1)] (o2 (by omega)) fun G => b7 (wp_ret ?_); exact S6 ((s5 p.vars.length p.arrays.length d (s5 p.vars.length p.arrays.length d (c + 1) s.body).snd s.els).fst) G (rg 8) (by rw [K4 (by omega) (by (rw [F8 (by omega)]; exact Z0 (by omega) (by assumption) (by assumption))) (by assumption)]; done) (by show _ = mR (rg 8) (s8 p d s c); unfold s8; rw [K4 (by omega) (by (rw [F8 (by omega)]; exact Z0 (by omega) (by assumption) (by assumption))) (by assumption)] <;> rfl)
          · have q30 : (s0 p.vars.length p.arrays.length s.value) = false := (Eq.mp (bW7 _) h30); refine n9 G (E5 (t4 20 [4] (M7 s.index) (t4 30 [0, 1, 2, 5] (Y4 p s.value) E4)) (fc (b := false) rfl (fc (b := true) rfl (fc h29 (fc h30 fz)))) (us [(2, 7, 0), (12, 12, 0), (1013, 1013, 0), (15, 17, 0), (18, 21, 1), (22, 22, 0), (1022, 1022, 1), (1023, 1023, 0), (25, 26, 2), (27, 31, 1), (32, 32, 2), (1032, 1032, 1), (1033, 1033, 2), (35, 37, 3), (42, 42, 3), (1043, 1043, 3)])) [(132, bA true)] fun G => b7 (rT G true (by kernel_rfl) (wp_seq (n9 G l6 [] fun G => b7 (wp_ret (t6 ?_))))); exact S6 false G (rg 8) (by rw [m6 (by (rw [F8 (by omega)]; simp [h100, h0, q0, h1, q1, h2, q2, h25, q25, h26, q26, h27, q27, h28, q28, h29, q29, h30, q30]; done))]; done) (by show _ = mR (rg 8) (s8 p d s c); unfold s8; rw [m6 (by (rw [F8 (by omega)]; simp [h100, h0, q0, h1, q1, h2, q2, h25, q25, h26, q26, h27, q27, h28, q28, h29, q29, h30, q30]; done))] <;> rfl)
         · have q29 : (noneB s.index) = false := (Eq.mp (bW7 _) h29); refine n9 G (E5 (t4 20 [4] (M7 s.index) E4) (fc (b := false) rfl (fc (b := true) rfl (fc h29 fz))) (us [(2, 7, 0), (12, 12, 0), (1013, 1013, 0), (15, 17, 0), (18, 21, 1), (22, 22, 0), (1022, 1022, 1), (1023, 1023, 0), (25, 26, 2), (32, 32, 2), (1033, 1033, 2), (35, 37, 1), (42, 42, 1), (1043, 1043, 1)])) [(132, bA true)] fun G => b7 (rT G true (by kernel_rfl) (wp_seq (n9 G l6 [] fun G => b7 (wp_ret (t6 ?_))))); exact S6 false G (rg 8) (by rw [m6 (by (rw [F8 (by omega)]; simp [h100, h0, q0, h1, q1, h2, q2, h25, q25, h26, q26, h27, q27, h28, q28, h29, q29]; done))]; done) (by show _ = mR (rg 8) (s8 p d s c); unfold s8; rw [m6 (by (rw [F8 (by omega)]; simp [h100, h0, q0, h1, q1, h2, q2, h25, q25, h26, q26, h27, q27, h28, q28, h29, q29]; done))] <;> rfl)
        · refine wp_seq (n9 G l6 [] fun G => b7 (wp_ret (t6 ?_))); exact S6 false G (rg 8) (by rw [m6 (by (rw [F8 (by omega), decide_eq_false (by omega)]; rfl))]; done) (by show _ = mR (rg 8) (s8 p d s c); unfold s8; rw [m6 (by (rw [F8 (by omega), decide_eq_false (by omega)]; rfl))] <;> rfl)
       · have q27 := dTt h27; refine J2 G (E5 (t4 4 [] (E0 s.target 0 ((p.vars.length : Int) - 1)) E4) (fc h25 (fc (b := false) rfl (fc (b := true) rfl (fc h26 (fc h27 fz))))) (us [(7, 8, 0), (9, 12, 1), (13, 13, 0), (1013, 1013, 1), (1014, 1014, 0), (16, 18, 1), (19, 21, 2), (22, 22, 1), (1022, 1022, 2), (1023, 1023, 1), (25, 27, 3), (28, 31, 2), (32, 32, 3), (1032, 1032, 2), (1033, 1033, 3), (35, 37, 4), (42, 42, 4), (1043, 1043, 4)])) [(88, bA true)] [wO ((p.vars.length : Int) - 1)] (o1 (by omega)) fun G => b7 (rT G true (by kernel_rfl) (wp_seq (n9 G l6 [] fun G => b7 (wp_ret (t6 ?_))))); exact S6 false G (rg 8) (by rw [m6 (by (rw [F8 (by omega), decide_eq_false (by omega)]; rfl))]; done) (by show _ = mR (rg 8) (s8 p d s c); unfold s8; rw [m6 (by (rw [F8 (by omega), decide_eq_false (by omega)]; rfl))] <;> rfl)
      · have q26 := bne_iff_ne.1 h26; refine J2 G (E5 (t4 4 [] (E0 s.target 0 ((p.vars.length : Int) - 1)) E4) (fc h25 (fc (b := false) rfl (fc (b := true) rfl (fc h26 fz)))) (us [(7, 8, 0), (9, 12, 1), (13, 13, 0), (1013, 1013, 1), (1014, 1014, 0), (16, 18, 1), (19, 21, 2), (22, 22, 1), (1022, 1022, 2), (1023, 1023, 1), (25, 27, 3), (32, 32, 3), (1033, 1033, 3), (35, 37, 2), (42, 42, 2), (1043, 1043, 2)])) [(88, bA true)] [wO ((p.vars.length : Int) - 1)] (o1 (by omega)) fun G => b7 (rT G true (by kernel_rfl) (wp_seq (n9 G l6 [] fun G => b7 (wp_ret (t6 ?_))))); exact S6 false G (rg 8) (by rw [m6 (by (rw [F8 (by omega), decide_eq_false (by omega)]; rfl))]; done) (by show _ = mR (rg 8) (s8 p d s c); unfold s8; rw [m6 (by (rw [F8 (by omega), decide_eq_false (by omega)]; rfl))] <;> rfl)
     · have q25 : (¬ (0 ≤ s.target)) ∨ (¬ (s.target ≤ (p.vars.length : Int) - 1)) := (fun hq => Or.imp (fun hq => of_decide_eq_false hq) (fun hq => of_decide_eq_false hq) (bY1.1 hq)) (Eq.mp (bW7 _) h25); refine J2 G (E5 (t4 4 [] (E0 s.target 0 ((p.vars.length : Int) - 1)) E4) (fc h25 (fc (b := true) rfl fz)) [(7, 0), (8, 0), (13, 0), (1014, 0), (16, 1), (17, 1), (18, 1), (22, 1), (1023, 1), (25, 1), (26, 1), (27, 1), (32, 1), (1033, 1), (35, 1), (36, 1), (37, 1), (42, 1), (1043, 1)]) [(88, bA true)] [wO ((p.vars.length : Int) - 1)] (o1 (by omega)) fun G => b7 (rT G true (by kernel_rfl) (wp_seq (n9 G l6 [] fun G => b7 (wp_ret (t6 ?_))))); exact S6 false G (rg 8) (by rw [m6 (by (rw [F8 (by omega), decide_eq_false (by omega)]; rfl))]; done) (by show _ = mR (rg 8) (s8 p d s c); unfold s8; rw [m6 (by (rw [F8 (by omega), decide_eq_false (by omega)]; rfl))] <;> rfl)
   ·
    refine wp_skip (b7 (rT G _ h1 (n9 G l6 [(9, iA (p.vars.length : Int))] fun G => w5 (b7 (wp_seq (wp_seq ?_)))))); cases h32 : (!(decide ((0 : Int) ≤ s.target) && decide (s.target ≤ (p.vars.length : Int) - 1)))
    ·
     have q32 : (0 ≤ s.target) ∧ (s.target ≤ (p.vars.length : Int) - 1) := (fun hq => And.imp (fun hq => of_decide_eq_true hq) (fun hq => of_decide_eq_true hq) (bY2.1 hq)) (Eq.mp (bW8 _) h32); cases h33 : (s.count != 0)
     ·
      have q33 := bne_eq_false_iff_eq.1 h33; cases h34 : (decide ((s.body.length : Int) > 0))
      ·
       have q34 := dFf h34; refine J2 G (E5 (t4 4 [] (E0 s.target 0 ((p.vars.length : Int) - 1)) E4) (fc h32 (fc (b := false) rfl (fc (b := true) rfl (fc h33 (fc h34 fz))))) (us [(7, 8, 0), (9, 12, 1), (13, 13, 0), (1013, 1013, 1), (1014, 1014, 0), (16, 18, 1), (19, 21, 2), (22, 22, 1), (1022, 1022, 2), (1023, 1023, 1), (25, 27, 3), (28, 31, 2), (32, 32, 3), (1032, 1032, 2), (1033, 1033, 3), (35, 37, 4), (38, 41, 2), (42, 42, 4), (1042, 1042, 2), (1043, 1043, 4)])) [(88, bA (decide ((s.els.length : Int) > 0)))] [wO ((p.vars.length : Int) - 1)] (o1 (by omega)) fun G => b7 (rcD G (fun h35 q35 => ?_) fun h35 q35 => ?_)
       ·
        refine wp_skip (b7 (wp_seq (wp_seq ?_))); cases h36 : (!noneB s.index)
        ·
         have q36 : (noneB s.index) = true := (Eq.mp (bW8 _) h36); cases h37 : (!s0 p.vars.length p.arrays.length s.value)
         ·
          have q37 : (s0 p.vars.length p.arrays.length s.value) = true := (Eq.mp (bW8 _) h37); refine n9 G (E5 (t4 20 [4] (M7 s.index) (t4 30 [0, 1, 2, 5] (Y4 p s.value) E4)) (fc (b := false) rfl (fc (b := true) rfl (fc h36 (fc h37 fz)))) (us [(2, 7, 0), (12, 12, 0), (1013, 1013, 0), (15, 17, 0), (18, 21, 1), (22, 22, 0), (1022, 1022, 1), (1023, 1023, 0), (25, 26, 2), (27, 31, 1), (32, 32, 2), (1032, 1032, 1), (1033, 1033, 2), (35, 37, 3), (38, 41, 0), (42, 42, 3), (1042, 1042, 0), (1043, 1043, 3)])) [(132, bA false)] fun G => b7 (rF G false (by kernel_rfl) (wp_skip (b7 (wp_seq ?_)))); cases h38 : ((s5 p.vars.length p.arrays.length d (c + (1 : Nat)) s.body).fst)
          · refine R6 G (E5 (t4 6 [0, 1, 2, 3, 6] (ih s.body (c + 1) (n + 1) (by simp; omega) (by omega)) E4) (fc h38 fz) (us [(8, 14, 0), (1015, 1015, 0)])) (rg 8) (af0 p (.box [iA ((ao5 p d s c).snd : Int)] :: (af1 s []))) [(8, bA false)] [wO (n + 1)] (o1 (by omega)) fun G => b7 (wp_ret ?_); exact S6 false G (rg 8) (by rw [H7 (by omega) (by (rw [F8 (by omega)]; exact Z0 (by omega) (by assumption) (by assumption))) (by assumption)]; assumption) (by show _ = mR (rg 8) (s8 p d s c); unfold s8; rw [H7 (by omega) (by (rw [F8 (by omega)]; exact Z0 (by omega) (by assumption) (by assumption))) (by assumption)] <;> rfl)
          · refine R6 G (E5 (t4 6 [0, 1, 2, 3, 6] (ih s.body (c + 1) (n + 1) (by simp; omega) (by omega)) (t4 14 [0, 1, 2, 3, 7] (ih s.els ((ao5 p d s c).snd) (n + 1) (V0 (by omega) (by assumption)) (by omega)) E4)) (fc h38 fz) (us [(8, 14, 0), (1015, 1015, 0)])) (rg 8) (af0 p (.box [iA ((ao6 p d s c).snd : Int)] :: (af1 s []))) [(8, bA (ao6 p d s c).fst)] [wO (n + 1), wO (n + 1)] (o2 (by omega)) fun G => b7 (wp_ret ?_); exact S6 ((s5 p.vars.length p.arrays.length d (s5 p.vars.length p.arrays.length d (c + 1) s.body).snd s.els).fst) G (rg 8) (by rw [K4 (by omega) (by (rw [F8 (by omega)]; exact Z0 (by omega) (by assumption) (by assumption))) (by assumption)]; done) (by show _ = mR (rg 8) (s8 p d s c); unfold s8; rw [K4 (by omega) (by (rw [F8 (by omega)]; exact Z0 (by omega) (by assumption) (by assumption))) (by assumption)] <;> rfl)
         · have q37 : (s0 p.vars.length p.arrays.length s.value) = false := (Eq.mp (bW7 _) h37); refine n9 G (E5 (t4 20 [4] (M7 s.index) (t4 30 [0, 1, 2, 5] (Y4 p s.value) E4)) (fc (b := false) rfl (fc (b := true) rfl (fc h36 (fc h37 fz)))) (us [(2, 7, 0), (12, 12, 0), (1013, 1013, 0), (15, 17, 0), (18, 21, 1), (22, 22, 0), (1022, 1022, 1), (1023, 1023, 0), (25, 26, 2), (27, 31, 1), (32, 32, 2), (1032, 1032, 1), (1033, 1033, 2), (35, 37, 3), (42, 42, 3), (1043, 1043, 3)])) [(132, bA true)] fun G => b7 (rT G true (by kernel_rfl) (wp_seq (n9 G l6 [] fun G => b7 (wp_ret (t6 ?_))))); exact S6 false G (rg 8) (by rw [m6 (by (rw [F8 (by omega)]; simp [h100, h0, q0, h1, q1, h32, q32, h33, q33, h34, q34, h35, q35, h36, q36, h37, q37]; done))]; done) (by show _ = mR (rg 8) (s8 p d s c); unfold s8; rw [m6 (by (rw [F8 (by omega)]; simp [h100, h0, q0, h1, q1, h32, q32, h33, q33, h34, q34, h35, q35, h36, q36, h37, q37]; done))] <;> rfl)
        · have q36 : (noneB s.index) = false := (Eq.mp (bW7 _) h36); refine n9 G (E5 (t4 20 [4] (M7 s.index) E4) (fc (b := false) rfl (fc (b := true) rfl (fc h36 fz))) (us [(2, 7, 0), (12, 12, 0), (1013, 1013, 0), (15, 17, 0), (18, 21, 1), (22, 22, 0), (1022, 1022, 1), (1023, 1023, 0), (25, 26, 2), (32, 32, 2), (1033, 1033, 2), (35, 37, 1), (42, 42, 1), (1043, 1043, 1)])) [(132, bA true)] fun G => b7 (rT G true (by kernel_rfl) (wp_seq (n9 G l6 [] fun G => b7 (wp_ret (t6 ?_))))); exact S6 false G (rg 8) (by rw [m6 (by (rw [F8 (by omega)]; simp [h100, h0, q0, h1, q1, h32, q32, h33, q33, h34, q34, h35, q35, h36, q36]; done))]; done) (by show _ = mR (rg 8) (s8 p d s c); unfold s8; rw [m6 (by (rw [F8 (by omega)]; simp [h100, h0, q0, h1, q1, h32, q32, h33, q33, h34, q34, h35, q35, h36, q36]; done))] <;> rfl)
       · refine wp_seq (n9 G l6 [] fun G => b7 (wp_ret (t6 ?_))); exact S6 false G (rg 8) (by rw [m6 (by (rw [F8 (by omega), decide_eq_false (by omega)]; rfl))]; done) (by show _ = mR (rg 8) (s8 p d s c); unfold s8; rw [m6 (by (rw [F8 (by omega), decide_eq_false (by omega)]; rfl))] <;> rfl)
      · have q34 := dTt h34; refine J2 G (E5 (t4 4 [] (E0 s.target 0 ((p.vars.length : Int) - 1)) E4) (fc h32 (fc (b := false) rfl (fc (b := true) rfl (fc h33 (fc h34 fz))))) (us [(7, 8, 0), (9, 12, 1), (13, 13, 0), (1013, 1013, 1), (1014, 1014, 0), (16, 18, 1), (19, 21, 2), (22, 22, 1), (1022, 1022, 2), (1023, 1023, 1), (25, 27, 3), (28, 31, 2), (32, 32, 3), (1032, 1032, 2), (1033, 1033, 3), (35, 37, 4), (42, 42, 4), (1043, 1043, 4)])) [(88, bA true)] [wO ((p.vars.length : Int) - 1)] (o1 (by omega)) fun G => b7 (rT G true (by kernel_rfl) (wp_seq (n9 G l6 [] fun G => b7 (wp_ret (t6 ?_))))); exact S6 false G (rg 8) (by rw [m6 (by (rw [F8 (by omega), decide_eq_false (by omega)]; rfl))]; done) (by show _ = mR (rg 8) (s8 p d s c); unfold s8; rw [m6 (by (rw [F8 (by omega), decide_eq_false (by omega)]; rfl))] <;> rfl)
     · have q33 := bne_iff_ne.1 h33; refine J2 G (E5 (t4 4 [] (E0 s.target 0 ((p.vars.length : Int) - 1)) E4) (fc h32 (fc (b := false) rfl (fc (b := true) rfl (fc h33 fz)))) (us [(7, 8, 0), (9, 12, 1), (13, 13, 0), (1013, 1013, 1), (1014, 1014, 0), (16, 18, 1), (19, 21, 2), (22, 22, 1), (1022, 1022, 2), (1023, 1023, 1), (25, 27, 3), (32, 32, 3), (1033, 1033, 3), (35, 37, 2), (42, 42, 2), (1043, 1043, 2)])) [(88, bA true)] [wO ((p.vars.length : Int) - 1)] (o1 (by omega)) fun G => b7 (rT G true (by kernel_rfl) (wp_seq (n9 G l6 [] fun G => b7 (wp_ret (t6 ?_))))); exact S6 false G (rg 8) (by rw [m6 (by (rw [F8 (by omega), decide_eq_false (by omega)]; rfl))]; done) (by show _ = mR (rg 8) (s8 p d s c); unfold s8; rw [m6 (by (rw [F8 (by omega), decide_eq_false (by omega)]; rfl))] <;> rfl)
    · have q32 : (¬ (0 ≤ s.target)) ∨ (¬ (s.target ≤ (p.vars.length : Int) - 1)) := (fun hq => Or.imp (fun hq => of_decide_eq_false hq) (fun hq => of_decide_eq_false hq) (bY1.1 hq)) (Eq.mp (bW7 _) h32); refine J2 G (E5 (t4 4 [] (E0 s.target 0 ((p.vars.length : Int) - 1)) E4) (fc h32 (fc (b := true) rfl fz)) [(7, 0), (8, 0), (13, 0), (1014, 0), (16, 1), (17, 1), (18, 1), (22, 1), (1023, 1), (25, 1), (26, 1), (27, 1), (32, 1), (1033, 1), (35, 1), (36, 1), (37, 1), (42, 1), (1043, 1)]) [(88, bA true)] [wO ((p.vars.length : Int) - 1)] (o1 (by omega)) fun G => b7 (rT G true (by kernel_rfl) (wp_seq (n9 G l6 [] fun G => b7 (wp_ret (t6 ?_))))); exact S6 false G (rg 8) (by rw [m6 (by (rw [F8 (by omega), decide_eq_false (by omega)]; rfl))]; done) (by show _ = mR (rg 8) (s8 p d s c); unfold s8; rw [m6 (by (rw [F8 (by omega), decide_eq_false (by omega)]; rfl))] <;> rfl)
  · have q0 := dTt h0; refine n9 G (hhF (fc h0 fz) [(5, 0), (6, 0), (1007, 0)]) [(27, bA true)] fun G => b7 (rT G true (by kernel_rfl) (wp_seq (n9 G l6 [] fun G => b7 (wp_ret (t6 ?_))))); exact S6 false G (rg 8) (by simp [ar1 (d := d + 1) (s := s) (show 60 < c + 1 by omega)]; done) (by show _ = mR (rg 8) (s8 p d s c); unfold s8; have e1 : (((C5 p.vars.length p.arrays.length (d + 1) c s).snd : Int) : Int) = ((c : Int) + 1) := (by simp [ar1 (d := d + 1) (s := s) (show 60 < c + 1 by omega)]; done); (first | rw [e1] | simp only [e1]) <;> rfl)
theorem bx7 (p : k6) : ∀ (d : Nat), d ≤ 5 → ∀ (ss : List b6) (c : Nat) (n : Int), c ≤ 60 → n = 6 - (d : Int) → p6.ok Tryz.prog (a90 p d c ss n) := by
 intro d
 induction d with
 | zero => intro hd ss c n hc hn; exact a51 p 0 hd (fun s c n hc hn => bE1 p s c hc n (by omega)) ss c n hc hn
 | succ d ih => intro hd ss c n hc hn; exact a51 p (d + 1) hd (fun s c n hc hn => bE0 p d (by omega) (ih (by omega)) s c n hc (by omega)) ss c n hc hn
theorem a52 (p : k6) (n : Int) (hn : n = 1) : p6.ok Tryz.prog ⟨125, [pA 0, .ref 2, iA n, .ptr 3 0], pS p ++ [.box [iA 0]], pS p ++ [.box [iA (s5 p.vars.length p.arrays.length 5 0 p.body).2]], bA (s5 p.vars.length p.arrays.length 5 0 p.body).1⟩ :=
 p6.dup (S := pS p ++ [.box [iA 0]]) (S' := pS p ++ [.box [iA (s5 p.vars.length p.arrays.length 5 0 p.body).2]]) (d := .stmts p.body) (i := 2) (bx7 p 5 (by omega) p.body 0 n (by omega) (by omega)) rfl rfl rfl (fun ρ h => by simp only [AV.vals, AV.val]; rw [show ρ 4 = ρ 2 from h]) rfl
theorem Q8 (p : k6) : p6.ok Tryz.prog (P3 57 [pA 0] (pS p) (bA (s9 p))) := by
 refine H9 15 Tryz.func57 [dI p.vars, dI p.arrays, dT p.body] [(0, pA 0)] fun G => ?_; refine wp_seq (s4 G l6 (rg 4) [dI p.vars, dI p.arrays, dT p.body, .box (pL 0)] [(1, .ptr 3 0), (2, bA false)] fun G => b7 (wp_seq (s4 G l6 (rg 5) [dI p.vars, dI p.arrays, dT p.body, .box (pL 0), .box [iA 0]] [(1, .ptr 3 0), (2, bA false), (3, .ptr 4 0)] fun G => b7 (wp_seq ?_)))); cases h0 : (L9 p.vars p.arrays)
 ·refine s4 G (E5 (t4 4 [0, 1] (aL6 p.vars p.arrays) E4) (fc h0 fz) (us [(6, 9, 0), (1010, 1010, 0)])) [0, 1, 2] [dI p.vars, dI p.arrays, dT p.body] [(2, bA false)] fun G => b7 (wp_ret ?_); exact S6 false G [0, 1, 2] (aB6 (by assumption))
 ·refine s4 G (E5 (t4 4 [0, 1] (aL6 p.vars p.arrays) (t4 9 [0, 1, 2, 4] (a52 p 1 (by kernel_rfl)) E4)) (fc h0 fz) (us [(6, 9, 0), (1010, 1010, 0)])) [0, 1, 2] [dI p.vars, dI p.arrays, dT p.body] [(2, bA (s5 p.vars.length p.arrays.length 5 0 p.body).fst)] fun G => b7 (wp_ret ?_); exact S6 ((s5 p.vars.length p.arrays.length 5 0 p.body).fst) G [0, 1, 2] (by rw [← aZ3 (p := p) (by assumption)])
def ar4 (vs ars : List Int) (e : b5) : Int := if e.kind = 2 then vs.getD e.value.toNat 0 else if e.kind = 3 then ars.getD e.value.toNat 0 else 0
def l5 (vs ars : List Int) : Nat → b5 → Int
 | 0, _ => 0
 | d + 1, e => e.kids.foldl (fun a k => n6 a (l5 vs ars d k)) (ar4 vs ars e)
def w6 (vs ars : List Int) (d : Nat) (x : Int) (ks : List b5) (k : Nat) : Int := (ks.take k).foldl (fun a k => n6 a (l5 vs ars d k)) x
theorem I4 {vs ars : List Int} {d k : Nat} {x : Int} {ks : List b5} (h : k < ks.length) : w6 vs ars d x ks (k + 1) = n6 (w6 vs ars d x ks k) (l5 vs ars d (ks.getD k bV3)) := by
 unfold w6; rw [L2 ks k h, List.foldl_append, A1 h]; rfl
theorem M6 {vs ars : List Int} {d k : Nat} {x : Int} {e : b5} (h : e.kids.length ≤ k) (hx : ar4 vs ars e = x) : l5 vs ars (d + 1) e = w6 vs ars d x e.kids k := by
 unfold w6; rw [bW5 h, l5, hx]
section
variable {nv na d : Nat} {e : b5}
theorem aU0 (h : l9 nv na (d + 1) e = true) : E3 nv na e = true := by simp only [l9, bV8] at h; exact h.1.1
theorem Y1 (h : l9 nv na (d + 1) e = true) (k : e.kind = 2) : 0 ≤ e.value ∧ e.value < nv ∧ e.value.toNat < nv := by
 have := aU0 h
 simp [E3, N6, k] at this; omega
theorem Y2 (h : l9 nv na (d + 1) e = true) (k : e.kind = 3) : 0 ≤ e.value ∧ e.value < na ∧ e.value.toNat < na := by
 have := aU0 h
 simp [E3, N6, k] at this; omega
theorem O3 {k : Nat} (h : l9 nv na (d + 1) e = true) (hk : k < e.kids.length) : l9 nv na d (e.kids.getD k bV3) = true := by
 simp only [l9, bV8] at h
 rw [A1 hk]; exact bX0.1 h.1.2 _ (bX2 hk)
theorem ae2 (h : l9 nv na (d + 1) e = true) (k : e.kind = 3) : 0 < e.kids.length := by
 have := aU0 h
 simp [E3, K7, k] at this; omega
end
theorem an3 {x : Int} (h : m0 x = true) : x = 0 ∨ x = 1 ∨ x = 2 ∨ x = 3 := by simp [m0] at h; omega
theorem N0 (l : Int) : p6.ok Tryz.prog (P3 158 [iA l] [] (bA (m0 l && decide (l % 2 = 1)))) := by
 refine H9 10 Tryz.func158 [] [(0, iA l)] fun G => ?_; refine wp_seq (n9 G l6 [(2, bA false)] fun G => b7 (wp_seq ?_)); cases h0 : (m0 l)
 ·refine n9 G (E5 (t4 1 [] (G6 l) E4) (fc h0 fz) [(3, 0), (4, 0), (5, 0), (1006, 0)]) [] fun G => b7 (wp_ret ?_); exact O9 G []
 ·refine n9 G (E5 (t4 1 [] (G6 l) E4) (fc h0 fz) [(3, 0), (4, 0), (5, 0), (1006, 0)]) [(2, bA (a70 l 1 == 1))] fun G => b7 (wp_ret ?_); exact S6 (a70 l 1 == 1) G [] (by rcases an3 h0 with rfl | rfl | rfl | rfl <;> kernel_rfl)
theorem ac4 (l : Int) : p6.ok Tryz.prog (P3 142 [iA l] [] (bA (m0 l && decide (l % 2 = 1)))) := by
 refine H9 10 Tryz.func142 [] [(0, iA l)] fun G => ?_; refine wp_seq (n9 G l6 [(2, bA false)] fun G => b7 (wp_seq ?_)); cases h0 : (m0 l)
 ·refine n9 G (E5 (t4 1 [] (W5 l) E4) (fc h0 fz) [(3, 0), (4, 0), (5, 0), (1006, 0)]) [] fun G => b7 (wp_ret ?_); exact O9 G []
 ·refine n9 G (E5 (t4 1 [] (W5 l) E4) (fc h0 fz) [(3, 0), (4, 0), (5, 0), (1006, 0)]) [(2, bA (a70 l 1 != 0))] fun G => b7 (wp_ret ?_); exact S6 (a70 l 1 != 0) G [] (by rcases an3 h0 with rfl | rfl | rfl | rfl <;> kernel_rfl)
theorem am2 (l : Int) : p6.ok Tryz.prog (P3 256 [iA l] [] (bA (m0 l && decide (l ≤ 1)))) := by
 refine H9 10 Tryz.func256 [] [(0, iA l)] fun G => ?_; refine wp_seq (n9 G l6 [(2, bA false)] fun G => b7 (wp_seq ?_)); cases h0 : (m0 l)
 ·refine n9 G (E5 (t4 1 [] (G6 l) E4) (fc h0 fz) [(3, 0), (4, 0), (5, 0), (1006, 0)]) [] fun G => b7 (wp_ret ?_); exact O9 G []
 ·refine n9 G (E5 (t4 1 [] (G6 l) E4) (fc h0 fz) [(3, 0), (4, 0), (5, 0), (1006, 0)]) [(2, bA (a70 l 2 == 0))] fun G => b7 (wp_ret ?_); exact S6 (a70 l 2 == 0) G [] (by rcases an3 h0 with rfl | rfl | rfl | rfl <;> kernel_rfl)
theorem aj7 (l : Int) : p6.ok Tryz.prog (P3 140 [iA l] [] (bA (m0 l && decide (l ≤ 1)))) := by
 refine H9 10 Tryz.func140 [] [(0, iA l)] fun G => ?_; refine wp_seq (n9 G l6 [(2, bA false)] fun G => b7 (wp_seq ?_)); cases h0 : (m0 l)
 ·refine n9 G (E5 (t4 1 [] (W5 l) E4) (fc h0 fz) [(3, 0), (4, 0), (5, 0), (1006, 0)]) [] fun G => b7 (wp_ret ?_); exact O9 G []
 ·refine n9 G (E5 (t4 1 [] (W5 l) E4) (fc h0 fz) [(3, 0), (4, 0), (5, 0), (1006, 0)]) [(2, bA (a70 l 2 == 0))] fun G => b7 (wp_ret ?_); exact S6 (a70 l 2 == 0) G [] (by rcases an3 h0 with rfl | rfl | rfl | rfl <;> kernel_rfl)
theorem ax0 (x y : Int) : p6.ok Tryz.prog (P3 255 [iA x, iA y] [] (bA (m0 x && m0 y && (n6 x y == y)))) := by
  refine H9 18 Tryz.func255 [] [(0, iA x), (1, iA y)] fun G => ?_; refine wp_seq (n9 G l6 [(4, bA false)] fun G => b7 (wp_seq ?_)); cases h0 : (m0 x)
  · refine n9 G (E5 (t4 1 [] (G6 x) E4) (fc h0 (fc (b := false) rfl fz)) (us [(3, 4, 0), (1005, 1005, 0), (7, 11, 1), (1012, 1012, 1)])) [] fun G => b7 (wp_ret ?_); exact O9 G []
  ·
   cases h1 : (m0 y)
   · refine n9 G (E5 (t4 1 [] (G6 x) (t4 4 [] (G6 y) E4)) (fc h0 (fc h1 fz)) (us [(3, 4, 0), (1005, 1005, 0), (7, 11, 1), (1012, 1012, 1)])) [] fun G => b7 (wp_ret ?_); exact O9 G []
   · refine n9 G (E5 (t4 1 [] (G6 x) (t4 4 [] (G6 y) E4)) (fc h0 (fc h1 fz)) (us [(3, 4, 0), (1005, 1005, 0), (7, 11, 1), (1012, 1012, 1)])) [(4, bA (n6 x y == y))] fun G => b7 (wp_ret ?_); exact O9 G []
theorem bl7 : ∀ x : Fin 4, ∀ y : Fin 4, (anI x.val y.val == 0) = (n6 x.val y.val == (y.val : Int)) := by decide +kernel
theorem aa0 {x : Int} (h : m0 x = true) : ∃ a : Fin 4, x = (a.val : Int) := by
 simp [m0] at h
 exact ⟨⟨x.toNat, by omega⟩, by simp; omega⟩
theorem a35 {x y : Int} (hx : m0 x = true) (hy : m0 y = true) : (anI x y == 0) = (n6 x y == y) := by
 obtain ⟨a, rfl⟩ := aa0 hx
 obtain ⟨b, rfl⟩ := aa0 hy
 exact bl7 a b
theorem bi4 (x y : Int) : p6.ok Tryz.prog (P3 138 [iA x, iA y] [] (bA (anI x y == 0))) := by
 refine H9 9 Tryz.func138 [] [(0, iA x), (1, iA y)] fun G => ?_; refine wp_seq (n9 G l6 [(4, bA false)] fun G => b7 (wp_seq (n9 G l6 [(4, bA (anI x y == 0))] fun G => b7 (wp_ret ?_)))); exact O9 G []
theorem bd3 (p : k6) (d : Nat) (ih : ∀ (e : b5), l9 p.vars.length p.arrays.length d e = true → p6.ok Tryz.prog (P3 159 [pA 0, eA e 3] (pS p ++ eS e) (iA (l5 p.vars p.arrays d e))))
    (e : b5) (he : l9 p.vars.length p.arrays.length (d + 1) e = true) : p6.ok Tryz.prog (P3 159 [pA 0, eA e 3] (pS p ++ eS e) (iA (l5 p.vars p.arrays (d + 1) e))) := by
  refine H9 42 Tryz.func159 [dI p.vars, dI p.arrays, dT p.body, dE e.kids] [(0, pA 0), (1, eA e 3)] fun G => ?_; refine wp_seq (s4 G l6 [0, 1, 2, 3, 4, 12] [dI p.vars, dI p.arrays, dT p.body, dE e.kids, .box (pL 0), .box (eL e 3)] [(2, .ptr 4 0), (3, .ptr 5 0), (4, iA 0)] fun G => b7 (wp_seq (n9 G l6 [(5, iA 0)] fun G => b7 (wp_seq (wp_seq (n9 G l6 [(8, iA e.kind)] fun G => b7 (wp_block (wp_seq (n9 G l6 [(9, bA (e.kind == 2))] fun G => b7 (rcE G (fun h0 q0 => ?_) fun h0 q0 => ?_))))))))))
  ·
   refine wp_seq (n9 G l6 [(17, bA (e.kind == 3))] fun G => b7 (rcE G (fun h1 q1 => ?_) fun h1 q1 => ?_))
   ·
    refine wp_skip (w5 (b7 (wp_seq (wp_seq (J5 G l6 [(2, .ptr 4 0), (3, .ptr 5 0), (4, iA 0), (5, iA 0), (6, iA 0)] fun G => b7 (wp_block ?_)))))); refine A3 (κ := Nat) (fun k => k ≤ e.kids.length) (fun k => e.kids.length - k) (fun k => [dI p.vars, dI p.arrays, dT p.body, dE e.kids, .box (pL 0), .box (eL e 3)]) (fun k => [(2, .ptr 4 0), (3, .ptr 5 0), (4, iA 0), (5, iA (w6 p.vars p.arrays d 0 e.kids k)), (6, iA k)]) 0 (by simp [he, h0, h1]) (A9.at G _ _) ?_; clear G; intro k ρ a w hp G; have hlen : e.kids.length ≤ 9223372036854775807 := G.len 3 (d := .exprs e.kids) (by kernel_rfl); refine wp_seq (wp_seq (J5 G l6 [(2, .ptr 4 0), (3, .ptr 5 0), (4, iA 0), (5, iA (w6 p.vars p.arrays d 0 e.kids k)), (6, iA k), (29, bA (decide ((k : Int) < e.kids.length)))] fun G => b7 (rcD G (fun h2 q2 => ?_) fun h2 q2 => ?_)))
    · refine wp_exit (A2 (A2 (w9 (b7 (wp_seq (s4 G l6 (rg 4) [dI p.vars, dI p.arrays, dT p.body, dE e.kids] [(4, iA (w6 p.vars p.arrays d 0 e.kids k))] fun G => b7 (wp_ret ?_))))))); exact Z7 (w6 p.vars p.arrays d 0 e.kids k) G (rg 4) (M6 (by omega) (by simp [ar4, h0, q0, h1, q1, h2, q2]; done))
    · refine wp_skip (b7 (wp_seq (wp_block (au3 G (B5 7 [0, 1, 2, 54] (ih (e.kids.getD k bV3) (O3 he (by omega)))) [0, 0, 0, 4, 0, 28, 60, 126, 255, 511] [(5, iA (n6 (w6 p.vars p.arrays d 0 e.kids k) (l5 p.vars p.arrays d (e.kids.getD k bV3))))] (iX k k e.kids.length []) (iK (by omega) bW1) fun G => w5 (b7 (J2 G l6 [(6, iA ((k : Int) + 1))] [wO ((k : Int) + 1)] (o1 (by omega)) fun G => b7 ?_)))))); exact Y3 G (k + 1) (by omega) (by omega) (rg 6) (ht := by have e1 : (w6 p.vars p.arrays d 0 e.kids (k + 1) : Int) = (n6 (w6 p.vars p.arrays d 0 e.kids k) (l5 p.vars p.arrays d (e.kids.getD k bV3))) := (I4 (by omega)); (first | rw [e1] | simp only [e1]) <;> rfl)
   ·
    refine J2 G l6 [(5, iA (p.arrays.getD e.value.toNat 0))] [(0 : Int) ≤ e.value, e.value < (p.arrays.length : Int), e.value.toNat < p.arrays.length] ⟨((Y2 he (by assumption)).1), ((Y2 he (by assumption)).2.1), ((Y2 he (by assumption)).2.2), bW1⟩ fun G => w5 (b7 (wp_seq (wp_seq (J5 G l6 [(2, .ptr 4 0), (3, .ptr 5 0), (4, iA 0), (5, iA (p.arrays.getD e.value.toNat 0)), (6, iA 0)] fun G => b7 (wp_block ?_))))); refine A3 (κ := Nat) (fun k => k ≤ e.kids.length) (fun k => e.kids.length - k) (fun k => [dI p.vars, dI p.arrays, dT p.body, dE e.kids, .box (pL 0), .box (eL e 3)]) (fun k => [(2, .ptr 4 0), (3, .ptr 5 0), (4, iA 0), (5, iA (w6 p.vars p.arrays d (p.arrays.getD e.value.toNat 0) e.kids k)), (6, iA k)]) 0 (by simp [he, h0, h1]) (A9.at G _ _) ?_; clear G; intro k ρ a w hp G; have hlen : e.kids.length ≤ 9223372036854775807 := G.len 3 (d := .exprs e.kids) (by kernel_rfl); refine wp_seq (wp_seq (J5 G l6 [(2, .ptr 4 0), (3, .ptr 5 0), (4, iA 0), (5, iA (w6 p.vars p.arrays d (p.arrays.getD e.value.toNat 0) e.kids k)), (6, iA k), (29, bA (decide ((k : Int) < e.kids.length)))] fun G => b7 (rcD G (fun h3 q3 => ?_) fun h3 q3 => ?_)))
    · refine wp_exit (A2 (A2 (w9 (b7 (wp_seq (s4 G l6 (rg 4) [dI p.vars, dI p.arrays, dT p.body, dE e.kids] [(4, iA (w6 p.vars p.arrays d (p.arrays.getD e.value.toNat 0) e.kids k))] fun G => b7 (wp_ret ?_))))))); exact Z7 (w6 p.vars p.arrays d (p.arrays.getD e.value.toNat 0) e.kids k) G (rg 4) (M6 (by omega) (by simp [ar4, h0, q0, h1, q1, h3, q3]; done))
    · refine wp_skip (b7 (wp_seq (wp_block (au3 G (B5 7 [0, 1, 2, 54] (ih (e.kids.getD k bV3) (O3 he (by omega)))) [0, 0, 0, 4, 0, 28, 60, 126, 255, 511] [(5, iA (n6 (w6 p.vars p.arrays d (p.arrays.getD e.value.toNat 0) e.kids k) (l5 p.vars p.arrays d (e.kids.getD k bV3))))] (iX k k e.kids.length []) (iK (by omega) bW1) fun G => w5 (b7 (J2 G l6 [(6, iA ((k : Int) + 1))] [wO ((k : Int) + 1)] (o1 (by omega)) fun G => b7 ?_)))))); exact Y3 G (k + 1) (by omega) (by omega) (rg 6) (ht := by have e1 : (w6 p.vars p.arrays d (p.arrays.getD e.value.toNat 0) e.kids (k + 1) : Int) = (n6 (w6 p.vars p.arrays d (p.arrays.getD e.value.toNat 0) e.kids k) (l5 p.vars p.arrays d (e.kids.getD k bV3))) := (I4 (by omega)); (first | rw [e1] | simp only [e1]) <;> rfl)
  ·
   refine J2 G l6 [(5, iA (p.vars.getD e.value.toNat 0))] [(0 : Int) ≤ e.value, e.value < (p.vars.length : Int), e.value.toNat < p.vars.length] ⟨((Y1 he (by assumption)).1), ((Y1 he (by assumption)).2.1), ((Y1 he (by assumption)).2.2), bW1⟩ fun G => w5 (b7 (wp_seq (wp_seq (J5 G l6 [(2, .ptr 4 0), (3, .ptr 5 0), (4, iA 0), (5, iA (p.vars.getD e.value.toNat 0)), (6, iA 0)] fun G => b7 (wp_block ?_))))); refine A3 (κ := Nat) (fun k => k ≤ e.kids.length) (fun k => e.kids.length - k) (fun k => [dI p.vars, dI p.arrays, dT p.body, dE e.kids, .box (pL 0), .box (eL e 3)]) (fun k => [(2, .ptr 4 0), (3, .ptr 5 0), (4, iA 0), (5, iA (w6 p.vars p.arrays d (p.vars.getD e.value.toNat 0) e.kids k)), (6, iA k)]) 0 (by simp [he, h0]) (A9.at G _ _) ?_; clear G; intro k ρ a w hp G; have hlen : e.kids.length ≤ 9223372036854775807 := G.len 3 (d := .exprs e.kids) (by kernel_rfl); refine wp_seq (wp_seq (J5 G l6 [(2, .ptr 4 0), (3, .ptr 5 0), (4, iA 0), (5, iA (w6 p.vars p.arrays d (p.vars.getD e.value.toNat 0) e.kids k)), (6, iA k), (29, bA (decide ((k : Int) < e.kids.length)))] fun G => b7 (rcD G (fun h4 q4 => ?_) fun h4 q4 => ?_)))
   · refine wp_exit (A2 (A2 (w9 (b7 (wp_seq (s4 G l6 (rg 4) [dI p.vars, dI p.arrays, dT p.body, dE e.kids] [(4, iA (w6 p.vars p.arrays d (p.vars.getD e.value.toNat 0) e.kids k))] fun G => b7 (wp_ret ?_))))))); exact Z7 (w6 p.vars p.arrays d (p.vars.getD e.value.toNat 0) e.kids k) G (rg 4) (M6 (by omega) (by simp [ar4, h0, q0, h4, q4]; done))
   · refine wp_skip (b7 (wp_seq (wp_block (au3 G (B5 7 [0, 1, 2, 54] (ih (e.kids.getD k bV3) (O3 he (by omega)))) [0, 0, 0, 4, 0, 28, 60, 126, 255, 511] [(5, iA (n6 (w6 p.vars p.arrays d (p.vars.getD e.value.toNat 0) e.kids k) (l5 p.vars p.arrays d (e.kids.getD k bV3))))] (iX k k e.kids.length []) (iK (by omega) bW1) fun G => w5 (b7 (J2 G l6 [(6, iA ((k : Int) + 1))] [wO ((k : Int) + 1)] (o1 (by omega)) fun G => b7 ?_)))))); exact Y3 G (k + 1) (by omega) (by omega) (rg 6) (ht := by have e1 : (w6 p.vars p.arrays d (p.vars.getD e.value.toNat 0) e.kids (k + 1) : Int) = (n6 (w6 p.vars p.arrays d (p.vars.getD e.value.toNat 0) e.kids k) (l5 p.vars p.arrays d (e.kids.getD k bV3))) := (I4 (by omega)); (first | rw [e1] | simp only [e1]) <;> rfl)
abbrev as8 (e : b5) (k : Nat) (r0 : List (Nat × AV)) : List (Nat × AV) := (27, .ref 3) :: (28, iA (e.kids.length : Int)) :: (29, iA (k : Int)) :: r0
abbrev ac8 (p : k6) (e : b5) (r0 : List It) : List It := dI p.vars :: dI p.arrays :: dT p.body :: dE e.kids :: r0
theorem bx9 (p : k6) (d : Nat) (ih : ∀ (e : b5), l9 p.vars.length p.arrays.length d e = true → p6.ok Tryz.prog (P3 141 [pA 0, eA e 3] (pS p ++ eS e) (iA (l5 p.vars p.arrays d e))))
    (e : b5) (he : l9 p.vars.length p.arrays.length (d + 1) e = true) : p6.ok Tryz.prog (P3 141 [pA 0, eA e 3] (pS p ++ eS e) (iA (l5 p.vars p.arrays (d + 1) e))) := by
  refine H9 40 Tryz.func141 (ac8 p e []) [(0, pA 0), (1, eA e 3)] fun G => ?_; refine wp_seq (s4 G l6 [0, 1, 2, 3, 4, 12] (ac8 p e [.box (pL 0), .box (eL e 3)]) [(2, .ptr 4 0), (3, .ptr 5 0), (4, iA 0)] fun G => b7 (wp_seq (n9 G l6 [(5, iA 0)] fun G => b7 (wp_seq (wp_seq (n9 G l6 [(9, iA e.kind)] fun G => b7 (wp_block (wp_seq (n9 G l6 [(10, bA (e.kind == 2))] fun G => b7 (rcE G (fun h0 q0 => ?_) fun h0 q0 => ?_))))))))))
  ·
   refine wp_seq (n9 G l6 [(18, bA (e.kind == 3))] fun G => b7 (rcE G (fun h1 q1 => ?_) fun h1 q1 => ?_))
   ·
    refine wp_skip (w5 (b7 (wp_seq (wp_seq (s4 G l6 (rg 5) (ac8 p e [.box (pL 0)]) [(2, .ptr 4 0), (4, iA 0), (5, iA 0), (27, .ref 3), (28, iA (e.kids.length : Int)), (29, iA 0)] fun G => b7 (wp_block ?_)))))); refine A3 (κ := Nat) (fun k => k ≤ e.kids.length) (fun k => e.kids.length - k) (fun k => [dI p.vars, dI p.arrays, dT p.body, dE e.kids, .box (pL 0)]) (fun k => [(2, .ptr 4 0), (4, iA 0), (5, iA (w6 p.vars p.arrays d 0 e.kids k)), (27, .ref 3), (28, iA (e.kids.length : Int)), (29, iA k)]) 0 (by simp [he, h0, h1]) (A9.at G _ _) ?_; clear G; intro k ρ a w hp G; have hlen : e.kids.length ≤ 9223372036854775807 := G.len 3 (d := .exprs e.kids) (by kernel_rfl); refine wp_seq (J5 G l6 ((2, .ptr 4 0) :: (4, iA 0) :: (5, iA (w6 p.vars p.arrays d 0 e.kids k)) :: (as8 e k [(30, bA (decide ((k : Int) < e.kids.length)))])) fun G => b7 (wp_seq (rcD G (fun h2 q2 => ?_) fun h2 q2 => ?_)))
    · refine wp_exit (A2 (A2 (w9 (b7 (wp_seq (s4 G l6 (rg 4) (ac8 p e []) [(4, iA (w6 p.vars p.arrays d 0 e.kids k))] fun G => b7 (wp_ret ?_))))))); exact Z7 (w6 p.vars p.arrays d 0 e.kids k) G (rg 4) (M6 (by omega) (by simp [ar4, h0, q0, h1, q1, h2, q2]; done))
    · refine wp_skip (b7 (wp_seq (wp_block (wp_seq (R6 G l6 [0, 1, 2, 3, 4, 13, 21] (ac8 p e [.box (pL 0), dE (e.kids.getD k bV3).kids, .box (eL (e.kids.getD k bV3) 5)]) ((2, .ptr 4 0) :: (4, iA 0) :: (5, iA (w6 p.vars p.arrays d 0 e.kids k)) :: (7, .ptr 6 0) :: (as8 e k [])) (iX k k e.kids.length []) (iK (by omega) bW1) fun G => b7 (s4 G (B5 3 [0, 1, 2, 5] (ih (e.kids.getD k bV3) (O3 he (by omega)))) (rg 5) (ac8 p e [.box (pL 0)]) ((2, .ptr 4 0) :: (4, iA 0) :: (5, iA (n6 (w6 p.vars p.arrays d 0 e.kids k) (l5 p.vars p.arrays d (e.kids.getD k bV3)))) :: (as8 e k [])) fun G => w5 (b7 (J2 G l6 [(29, iA ((k : Int) + 1))] [wO ((k : Int) + 1)] (o1 (by omega)) fun G => b7 ?_)))))))); exact Y3 G (k + 1) (by omega) (by omega) (rg 5) (ht := by have e1 : (w6 p.vars p.arrays d 0 e.kids (k + 1) : Int) = (n6 (w6 p.vars p.arrays d 0 e.kids k) (l5 p.vars p.arrays d (e.kids.getD k bV3))) := (I4 (by omega)); (first | rw [e1] | simp only [e1]) <;> rfl)
   ·
    refine J2 G l6 [(5, iA (p.arrays.getD e.value.toNat 0))] [(0 : Int) ≤ e.value, e.value < (p.arrays.length : Int), e.value.toNat < p.arrays.length] ⟨((Y2 he (by assumption)).1), ((Y2 he (by assumption)).2.1), ((Y2 he (by assumption)).2.2), bW1⟩ fun G => w5 (b7 (wp_seq (wp_seq (s4 G l6 (rg 5) (ac8 p e [.box (pL 0)]) [(2, .ptr 4 0), (4, iA 0), (5, iA (p.arrays.getD e.value.toNat 0)), (27, .ref 3), (28, iA (e.kids.length : Int)), (29, iA 0)] fun G => b7 (wp_block ?_))))); refine A3 (κ := Nat) (fun k => k ≤ e.kids.length) (fun k => e.kids.length - k) (fun k => [dI p.vars, dI p.arrays, dT p.body, dE e.kids, .box (pL 0)]) (fun k => [(2, .ptr 4 0), (4, iA 0), (5, iA (w6 p.vars p.arrays d (p.arrays.getD e.value.toNat 0) e.kids k)), (27, .ref 3), (28, iA (e.kids.length : Int)), (29, iA k)]) 0 (by simp [he, h0, h1]) (A9.at G _ _) ?_; clear G; intro k ρ a w hp G; have hlen : e.kids.length ≤ 9223372036854775807 := G.len 3 (d := .exprs e.kids) (by kernel_rfl); refine wp_seq (J5 G l6 ((2, .ptr 4 0) :: (4, iA 0) :: (5, iA (w6 p.vars p.arrays d (p.arrays.getD e.value.toNat 0) e.kids k)) :: (as8 e k [(30, bA (decide ((k : Int) < e.kids.length)))])) fun G => b7 (wp_seq (rcD G (fun h3 q3 => ?_) fun h3 q3 => ?_)))
    · refine wp_exit (A2 (A2 (w9 (b7 (wp_seq (s4 G l6 (rg 4) (ac8 p e []) [(4, iA (w6 p.vars p.arrays d (p.arrays.getD e.value.toNat 0) e.kids k))] fun G => b7 (wp_ret ?_))))))); exact Z7 (w6 p.vars p.arrays d (p.arrays.getD e.value.toNat 0) e.kids k) G (rg 4) (M6 (by omega) (by simp [ar4, h0, q0, h1, q1, h3, q3]; done))
    · refine wp_skip (b7 (wp_seq (wp_block (wp_seq (R6 G l6 [0, 1, 2, 3, 4, 13, 21] (ac8 p e [.box (pL 0), dE (e.kids.getD k bV3).kids, .box (eL (e.kids.getD k bV3) 5)]) ((2, .ptr 4 0) :: (4, iA 0) :: (5, iA (w6 p.vars p.arrays d (p.arrays.getD e.value.toNat 0) e.kids k)) :: (7, .ptr 6 0) :: (as8 e k [])) (iX k k e.kids.length []) (iK (by omega) bW1) fun G => b7 (s4 G (B5 3 [0, 1, 2, 5] (ih (e.kids.getD k bV3) (O3 he (by omega)))) (rg 5) (ac8 p e [.box (pL 0)]) ((2, .ptr 4 0) :: (4, iA 0) :: (5, iA (n6 (w6 p.vars p.arrays d (p.arrays.getD e.value.toNat 0) e.kids k) (l5 p.vars p.arrays d (e.kids.getD k bV3)))) :: (as8 e k [])) fun G => w5 (b7 (J2 G l6 [(29, iA ((k : Int) + 1))] [wO ((k : Int) + 1)] (o1 (by omega)) fun G => b7 ?_)))))))); exact Y3 G (k + 1) (by omega) (by omega) (rg 5) (ht := by have e1 : (w6 p.vars p.arrays d (p.arrays.getD e.value.toNat 0) e.kids (k + 1) : Int) = (n6 (w6 p.vars p.arrays d (p.arrays.getD e.value.toNat 0) e.kids k) (l5 p.vars p.arrays d (e.kids.getD k bV3))) := (I4 (by omega)); (first | rw [e1] | simp only [e1]) <;> rfl)
  ·
   refine J2 G l6 [(5, iA (p.vars.getD e.value.toNat 0))] [(0 : Int) ≤ e.value, e.value < (p.vars.length : Int), e.value.toNat < p.vars.length] ⟨((Y1 he (by assumption)).1), ((Y1 he (by assumption)).2.1), ((Y1 he (by assumption)).2.2), bW1⟩ fun G => w5 (b7 (wp_seq (wp_seq (s4 G l6 (rg 5) (ac8 p e [.box (pL 0)]) [(2, .ptr 4 0), (4, iA 0), (5, iA (p.vars.getD e.value.toNat 0)), (27, .ref 3), (28, iA (e.kids.length : Int)), (29, iA 0)] fun G => b7 (wp_block ?_))))); refine A3 (κ := Nat) (fun k => k ≤ e.kids.length) (fun k => e.kids.length - k) (fun k => [dI p.vars, dI p.arrays, dT p.body, dE e.kids, .box (pL 0)]) (fun k => [(2, .ptr 4 0), (4, iA 0), (5, iA (w6 p.vars p.arrays d (p.vars.getD e.value.toNat 0) e.kids k)), (27, .ref 3), (28, iA (e.kids.length : Int)), (29, iA k)]) 0 (by simp [he, h0]) (A9.at G _ _) ?_; clear G; intro k ρ a w hp G; have hlen : e.kids.length ≤ 9223372036854775807 := G.len 3 (d := .exprs e.kids) (by kernel_rfl); refine wp_seq (J5 G l6 ((2, .ptr 4 0) :: (4, iA 0) :: (5, iA (w6 p.vars p.arrays d (p.vars.getD e.value.toNat 0) e.kids k)) :: (as8 e k [(30, bA (decide ((k : Int) < e.kids.length)))])) fun G => b7 (wp_seq (rcD G (fun h4 q4 => ?_) fun h4 q4 => ?_)))
   · refine wp_exit (A2 (A2 (w9 (b7 (wp_seq (s4 G l6 (rg 4) (ac8 p e []) [(4, iA (w6 p.vars p.arrays d (p.vars.getD e.value.toNat 0) e.kids k))] fun G => b7 (wp_ret ?_))))))); exact Z7 (w6 p.vars p.arrays d (p.vars.getD e.value.toNat 0) e.kids k) G (rg 4) (M6 (by omega) (by simp [ar4, h0, q0, h4, q4]; done))
   · refine wp_skip (b7 (wp_seq (wp_block (wp_seq (R6 G l6 [0, 1, 2, 3, 4, 13, 21] (ac8 p e [.box (pL 0), dE (e.kids.getD k bV3).kids, .box (eL (e.kids.getD k bV3) 5)]) ((2, .ptr 4 0) :: (4, iA 0) :: (5, iA (w6 p.vars p.arrays d (p.vars.getD e.value.toNat 0) e.kids k)) :: (7, .ptr 6 0) :: (as8 e k [])) (iX k k e.kids.length []) (iK (by omega) bW1) fun G => b7 (s4 G (B5 3 [0, 1, 2, 5] (ih (e.kids.getD k bV3) (O3 he (by omega)))) (rg 5) (ac8 p e [.box (pL 0)]) ((2, .ptr 4 0) :: (4, iA 0) :: (5, iA (n6 (w6 p.vars p.arrays d (p.vars.getD e.value.toNat 0) e.kids k) (l5 p.vars p.arrays d (e.kids.getD k bV3)))) :: (as8 e k [])) fun G => w5 (b7 (J2 G l6 [(29, iA ((k : Int) + 1))] [wO ((k : Int) + 1)] (o1 (by omega)) fun G => b7 ?_)))))))); exact Y3 G (k + 1) (by omega) (by omega) (rg 5) (ht := by have e1 : (w6 p.vars p.arrays d (p.vars.getD e.value.toNat 0) e.kids (k + 1) : Int) = (n6 (w6 p.vars p.arrays d (p.vars.getD e.value.toNat 0) e.kids k) (l5 p.vars p.arrays d (e.kids.getD k bV3))) := (I4 (by omega)); (first | rw [e1] | simp only [e1]) <;> rfl)
theorem aL2 (p : k6) : ∀ (d : Nat) (e : b5), l9 p.vars.length p.arrays.length d e = true → p6.ok Tryz.prog (P3 159 [pA 0, eA e 3] (pS p ++ eS e) (iA (l5 p.vars p.arrays d e))) := by
 intro d
 induction d with
 | zero => intro e h; simp [l9] at h
 | succ d ih => intro e h; exact bd3 p d ih e h
theorem by0 (p : k6) : ∀ (d : Nat) (e : b5), l9 p.vars.length p.arrays.length d e = true → p6.ok Tryz.prog (P3 141 [pA 0, eA e 3] (pS p ++ eS e) (iA (l5 p.vars p.arrays d e))) := by
 intro d
 induction d with
 | zero => intro e h; simp [l9] at h
 | succ d ih => intro e h; exact bx9 p d ih e h
def V1 (vs ars : List Int) : Nat → b5 → Bool
 | 0, _ => false
 | d + 1, e => (decide (e.kind = 3) && (m0 (l5 vs ars d (e.kids.getD 0 bV3)) && decide (l5 vs ars d (e.kids.getD 0 bV3) % 2 = 1))) || e.kids.any (V1 vs ars d)
section
variable {vs ars : List Int} {d : Nat} {e : b5}
theorem bI6 (k : e.kind = 3) (h : (m0 (l5 vs ars d (e.kids.getD 0 bV3)) && decide (l5 vs ars d (e.kids.getD 0 bV3) % 2 = 1)) = true) : V1 vs ars (d + 1) e = true := by rw [V1, h]; simp [k]
theorem bI7 (h : e.kids.any (V1 vs ars d) = false) (k : ¬ e.kind = 3) : V1 vs ars (d + 1) e = false := by rw [V1, h]; simp [k]
theorem bz8 (h : e.kids.any (V1 vs ars d) = false) (k : (m0 (l5 vs ars d (e.kids.getD 0 bV3)) && decide (l5 vs ars d (e.kids.getD 0 bV3) % 2 = 1)) = false) : V1 vs ars (d + 1) e = false := by rw [V1, h, k]; simp
end
theorem a68 {α : Type} {l : List α} {k : Nat} {p : α → Bool} {z : α} (h : (l.take k).any p = false) (hk : k < l.length) (hp : p (l.getD k z) = false) : (l.take (k + 1)).any p = false := by
 rw [L2 l k hk, List.any_append, h, ← A1 (d := z) hk, List.any_cons, hp]; rfl
theorem a69 {α : Type} {l : List α} {k : Nat} {p : α → Bool} (h : (l.take k).any p = false) (hk : l.length ≤ k) : l.any p = false := by
 rw [bW5 hk] at h; exact h
theorem bi7 {α : Type} {l : List α} {k : Nat} {p : α → Bool} {z : α} (hk : k < l.length) (hp : p (l.getD k z) = true) : l.any p = true := by
 rw [A1 hk] at hp
 exact List.any_eq_true.2 ⟨_, bX2 hk, hp⟩
theorem a56 (p : k6) (d : Nat) (ih : ∀ (e : b5), l9 p.vars.length p.arrays.length d e = true → p6.ok Tryz.prog (P3 257 [pA 0, eA e 3] (pS p ++ eS e) (bA (V1 p.vars p.arrays d e))))
    (ihl : ∀ (e : b5), l9 p.vars.length p.arrays.length d e = true → p6.ok Tryz.prog (P3 159 [pA 0, eA e 3] (pS p ++ eS e) (iA (l5 p.vars p.arrays d e))))
    (e : b5) (he : l9 p.vars.length p.arrays.length (d + 1) e = true) : p6.ok Tryz.prog (P3 257 [pA 0, eA e 3] (pS p ++ eS e) (bA (V1 p.vars p.arrays (d + 1) e))) := by
  refine H9 32 Tryz.func257 [dI p.vars, dI p.arrays, dT p.body, dE e.kids] [(0, pA 0), (1, eA e 3)] fun G => ?_; have hlen : e.kids.length ≤ 9223372036854775807 := G.len 3 (d := .exprs e.kids) (by kernel_rfl); refine wp_seq (s4 G l6 [0, 1, 2, 3, 4, 12] [dI p.vars, dI p.arrays, dT p.body, dE e.kids, .box (pL 0), .box (eL e 3)] [(2, .ptr 4 0), (3, .ptr 5 0), (4, bA false)] fun G => b7 (wp_seq (wp_seq ?_))); cases h0 : (e.kind == 3)
  ·
   have q0 := ne_of_beq_false h0; refine a07 G (hhF (fc h0 fz) (us [(4, 10, 0), (1011, 1011, 0)])) [0, 1, 3, 7, 15, 15, 47, 111, 239, 511, 1023, 2047] [(17, bA false)] fun G => b7 (rF G false (by kernel_rfl) (wp_skip (b7 (wp_seq (wp_seq (J5 G l6 [(2, .ptr 4 0), (3, .ptr 5 0), (4, bA false), (5, iA 0)] fun G => b7 (wp_block ?_))))))); refine A3 (κ := Nat) (fun k => k ≤ e.kids.length ∧ (e.kids.take k).any (V1 p.vars p.arrays d) = false) (fun k => e.kids.length - k) (fun k => [dI p.vars, dI p.arrays, dT p.body, dE e.kids, .box (pL 0), .box (eL e 3)]) (fun k => [(2, .ptr 4 0), (3, .ptr 5 0), (4, bA false), (5, iA k)]) 0 (by simp [he, h0]) (A9.at G _ _) ?_; clear G; intro k ρ a w hp G; refine wp_seq (wp_seq (n9 G l6 [(22, bA (decide ((k : Int) < e.kids.length)))] fun G => b7 (rcD G (fun h2 q2 => ?_) fun h2 q2 => ?_)))
   · refine wp_exit (A2 (A2 (w9 (b7 (wp_seq (s4 G l6 (rg 4) [dI p.vars, dI p.arrays, dT p.body, dE e.kids] [(4, bA false)] fun G => b7 (wp_ret ?_))))))); exact S6 false G (rg 4) (bI7 (a69 hp.2 (by omega)) (by assumption))
   ·
    refine wp_skip (b7 (wp_seq (wp_block (wp_seq (au3 G (B5 6 [0, 1, 2, 46] (ih (e.kids.getD k bV3) (O3 he (by omega)))) [0, 0, 2, 0, 14, 30, 63] [(31, bA (V1 p.vars p.arrays d (e.kids.getD k bV3)))] (iX k k e.kids.length []) (iK (by have hp := hp; omega) bW1) fun G => b7 (rcB G (fun h3 => ?_) fun h3 => ?_))))))
    · refine wp_skip (w5 (b7 (J2 G l6 [(5, iA ((k : Int) + 1))] [wO ((k : Int) + 1)] (o1 (by omega)) fun G => b7 ?_))); exact Y3 G (k + 1) (⟨by omega, a68 hp.2 (by omega) (by assumption)⟩) (by have hp := hp; omega) (rg 6)
    · refine wp_seq (n9 G l6 [(4, bA true)] fun G => b7 (wp_ret (M8 (t6 (t6 (M8 (t6 ?_))))))); exact S6 true G (rg 4) (by rw [V1, bi7 (k := k) (by omega) (by assumption), Bool.or_true])
  ·
   have q0 := eq_of_beq h0; refine au3 G (E5 (t4 9 [0, 1, 2, 70] (ihl (e.kids.getD 0 bV3) (O3 he (ae2 he (by assumption)))) (t4 10 [] (N0 (l5 p.vars p.arrays d (e.kids.getD 0 bV3))) E4)) (fc h0 fz) (us [(4, 10, 0), (1011, 1011, 0)])) [0, 1, 3, 7, 15, 15, 47, 111, 239, 511, 1023, 2047] [(17, bA (m0 (l5 p.vars p.arrays d (e.kids.getD 0 bV3)) && decide (l5 p.vars p.arrays d (e.kids.getD 0 bV3) % 2 = 1)))] (iX 0 0 e.kids.length []) (iK (by have := ae2 he (by assumption); omega) bW1) fun G => b7 ?_; cases h1 : (m0 (l5 p.vars p.arrays d (e.kids.getD (0 : Nat) bV3)) && decide (l5 p.vars p.arrays d (e.kids.getD (0 : Nat) bV3) % (2 : Int) = 1))
   ·
    have q1 : ((m0 (l5 p.vars p.arrays d (e.kids.getD 0 bV3))) = false) ∨ (¬ (l5 p.vars p.arrays d (e.kids.getD 0 bV3) % 2 = 1)) := Or.imp (fun hq => (hq)) (fun hq => of_decide_eq_false hq) (bY1.1 h1); refine rF G _ h1 (wp_skip (b7 (wp_seq (wp_seq (J5 G l6 [(2, .ptr 4 0), (3, .ptr 5 0), (4, bA false), (5, iA 0)] fun G => b7 (wp_block ?_)))))); refine A3 (κ := Nat) (fun k => k ≤ e.kids.length ∧ (e.kids.take k).any (V1 p.vars p.arrays d) = false) (fun k => e.kids.length - k) (fun k => [dI p.vars, dI p.arrays, dT p.body, dE e.kids, .box (pL 0), .box (eL e 3)]) (fun k => [(2, .ptr 4 0), (3, .ptr 5 0), (4, bA false), (5, iA k)]) 0 (by simp [he, h0, h1]) (A9.at G _ _) ?_; clear G; intro k ρ a w hp G; refine wp_seq (wp_seq (n9 G l6 [(22, bA (decide ((k : Int) < e.kids.length)))] fun G => b7 (rcD G (fun h4 q4 => ?_) fun h4 q4 => ?_)))
    · refine wp_exit (A2 (A2 (w9 (b7 (wp_seq (s4 G l6 (rg 4) [dI p.vars, dI p.arrays, dT p.body, dE e.kids] [(4, bA false)] fun G => b7 (wp_ret ?_))))))); exact S6 false G (rg 4) (bz8 (a69 hp.2 (by omega)) (by assumption))
    ·
     refine wp_skip (b7 (wp_seq (wp_block (wp_seq (au3 G (B5 6 [0, 1, 2, 46] (ih (e.kids.getD k bV3) (O3 he (by omega)))) [0, 0, 2, 0, 14, 30, 63] [(31, bA (V1 p.vars p.arrays d (e.kids.getD k bV3)))] (iX k k e.kids.length []) (iK (by have hp := hp; omega) bW1) fun G => b7 (rcB G (fun h5 => ?_) fun h5 => ?_))))))
     · refine wp_skip (w5 (b7 (J2 G l6 [(5, iA ((k : Int) + 1))] [wO ((k : Int) + 1)] (o1 (by omega)) fun G => b7 ?_))); exact Y3 G (k + 1) (⟨by omega, a68 hp.2 (by omega) (by assumption)⟩) (by have hp := hp; omega) (rg 6)
     · refine wp_seq (n9 G l6 [(4, bA true)] fun G => b7 (wp_ret (M8 (t6 (t6 (M8 (t6 ?_))))))); exact S6 true G (rg 4) (by rw [V1, bi7 (k := k) (by omega) (by assumption), Bool.or_true])
   · have q1 : ((m0 (l5 p.vars p.arrays d (e.kids.getD 0 bV3))) = true) ∧ (l5 p.vars p.arrays d (e.kids.getD 0 bV3) % 2 = 1) := And.imp (fun hq => (hq)) (fun hq => of_decide_eq_true hq) (bY2.1 h1); refine rT G _ h1 (wp_seq (n9 G l6 [(4, bA true)] fun G => b7 (wp_ret (t6 ?_)))); exact S6 true G (rg 4) (bI6 (by assumption) (by assumption))
def flB (x y : Int) : Bool := m0 x && m0 y && (n6 x y == y)
abbrev n8 (p : k6) (e : b5) : Int := l5 p.vars p.arrays 5 e
def ae3 (x : Int) : Bool := m0 x && decide (x % 2 = 1)
def P7 (p : k6) (s : b6) (pc : Int) : Int :=
 if s.kind = 1 then if flB (n6 (n8 p s.value) pc) (p.vars.getD s.target.toNat 0) then 0 else 1
 else if s.kind = 2 then if flB (n6 (n6 (n8 p s.value) (n8 p s.index)) pc) (p.arrays.getD s.target.toNat 0) then 0 else 1
 else if s.kind = 5 then if (m0 (n8 p s.value) && decide (n8 p s.value ≤ 1)) && decide (pc = 0) then 0 else 2
 else 0
def ap0 (p : k6) (s : b6) : Int :=
 if s.kind = 3 ∧ ae3 (n8 p s.value) = true then 3
 else if (s.kind ≠ 4 ∧ V1 p.vars p.arrays 5 s.value = true) ∨ (s.kind = 2 ∧ ae3 (n8 p s.index) = true) then 4 else 0
def W9 (p : k6) (s : b6) (pc : Int) (strict : Bool) : Int := if P7 p s pc = 0 then (if strict then ap0 p s else 0) else P7 p s pc
theorem R8 (p : k6) (e : b5) (he : l9 p.vars.length p.arrays.length 5 e = true) : p6.ok Tryz.prog (P3 159 [pA 0, eA e 3] (pS p ++ eS e) (iA (n8 p e))) := aL2 p 5 e he
theorem a57 (p : k6) : ∀ (d : Nat) (e : b5), l9 p.vars.length p.arrays.length d e = true → p6.ok Tryz.prog (P3 257 [pA 0, eA e 3] (pS p ++ eS e) (bA (V1 p.vars p.arrays d e))) := by
 intro d
 induction d with
 | zero => intro e h; simp [l9] at h
 | succ d ih => intro e h; exact a56 p d ih (aL2 p d) e h
theorem J9 (p : k6) (e : b5) (he : l9 p.vars.length p.arrays.length 5 e = true) : p6.ok Tryz.prog (P3 257 [pA 0, eA e 3] (pS p ++ eS e) (bA (V1 p.vars p.arrays 5 e))) := a57 p 5 e he
section
variable {nv na : Nat} {s : b6}
theorem al1 {e : b5} (h : s0 nv na e = true) : l9 nv na 5 e = true := by unfold s0 at h; simp only [bV8] at h; exact h.1
variable (h : C9 nv na s = true)
include h
theorem C3 (k : ¬ s.kind = 4) : l9 nv na 5 s.value = true := by
 apply al1
 by_cases k1 : s.kind = 1 ∨ s.kind = 5
 ·rw [F8 k1] at h; simp only [bV8] at h; exact h.2.2
 by_cases k2 : s.kind = 2
 ·rw [O4 k2] at h; simp only [bV8] at h; exact h.2.2.2
 by_cases k3 : s.kind = 3
 ·rw [ad7 k3] at h; simp only [bV8] at h; exact h.2.2
 ·rw [P6 (by omega)] at h; cases h
theorem aK0 (k : s.kind = 2) : l9 nv na 5 s.index = true := by
 rw [O4 k] at h; simp only [bV8] at h; exact al1 h.2.1
theorem az4 (k : s.kind = 1 ∨ s.kind = 5) : 0 ≤ s.target ∧ s.target < nv ∧ s.target.toNat < nv := by
 rw [F8 k] at h; simp only [bV8, decide_eq_true_eq] at h; omega
theorem az5 (k : s.kind = 2) : 0 ≤ s.target ∧ s.target < na ∧ s.target.toNat < na := by
 rw [O4 k] at h; simp only [bV8, decide_eq_true_eq] at h; omega
end
section
variable {p : k6} {s : b6} {pc : Int} {strict : Bool} {x : Int}
theorem au6 (h : P7 p s pc = x) (hx : x ≠ 0) : W9 p s pc strict = x := by rw [W9, h, if_neg hx]
theorem al3 (h : P7 p s pc = 0) : W9 p s pc false = 0 := by rw [W9, h]; rfl
theorem D9 (h : P7 p s pc = 0) (hl : ap0 p s = x) : W9 p s pc true = x := by rw [W9, h, hl]; rfl
theorem bL7 (k : s.kind = 1) (h : (!(m0 (n6 (n8 p s.value) pc) && m0 (p.vars.getD s.target.toNat 0) && (n6 (n6 (n8 p s.value) pc) (p.vars.getD s.target.toNat 0) == (p.vars.getD s.target.toNat 0)))) = false) : P7 p s pc = 0 := by rw [P7, if_pos k, if_pos (by unfold flB; first | (rw [bW8] at h; exact h) | (rw [bW7] at h; rw [h]; simp))]
theorem bU9 (k : s.kind = 1) (h : (!(m0 (n6 (n8 p s.value) pc) && m0 (p.vars.getD s.target.toNat 0) && (n6 (n6 (n8 p s.value) pc) (p.vars.getD s.target.toNat 0) == (p.vars.getD s.target.toNat 0)))) = true) : P7 p s pc = 1 := by rw [P7, if_pos k, if_neg (by unfold flB; first | (rw [bW8] at h; exact h) | (rw [bW7] at h; rw [h]; simp))]
theorem bD0 (k : s.kind = 2) (h : (!(m0 (n6 (n6 (n8 p s.value) (n8 p s.index)) pc) && m0 (p.arrays.getD s.target.toNat 0) && (n6 (n6 (n6 (n8 p s.value) (n8 p s.index)) pc) (p.arrays.getD s.target.toNat 0) == (p.arrays.getD s.target.toNat 0)))) = false) : P7 p s pc = 0 := by rw [P7, if_neg (by omega), if_pos k, if_pos (by unfold flB; first | (rw [bW8] at h; exact h) | (rw [bW7] at h; rw [h]; simp))]
theorem bU8 (k : s.kind = 2) (h : (!(m0 (n6 (n6 (n8 p s.value) (n8 p s.index)) pc) && m0 (p.arrays.getD s.target.toNat 0) && (n6 (n6 (n6 (n8 p s.value) (n8 p s.index)) pc) (p.arrays.getD s.target.toNat 0) == (p.arrays.getD s.target.toNat 0)))) = true) : P7 p s pc = 1 := by rw [P7, if_neg (by omega), if_pos k, if_neg (by unfold flB; first | (rw [bW8] at h; exact h) | (rw [bW7] at h; rw [h]; simp))]
theorem bL6 (k : s.kind = 5) (h : (!(m0 (n8 p s.value) && decide (n8 p s.value ≤ 1))) = false) (h2 : pc = 0) : P7 p s pc = 0 := by
 rw [bW8] at h
 rw [P7, if_neg (by omega), if_neg (by omega), if_pos k, h, decide_eq_true h2]; rfl
theorem bR8 (k : s.kind = 5) (h : (!(m0 (n8 p s.value) && decide (n8 p s.value ≤ 1))) = true ∨ ¬ pc = 0) : P7 p s pc = 2 := by
 rw [P7, if_neg (by omega), if_neg (by omega), if_pos k]
 rcases h with h | h
 ·rw [bW7] at h
  rw [h]; rfl
 ·rw [decide_eq_false h, Bool.and_false]; rfl
theorem fl0 (k : ¬ s.kind = 1 ∧ ¬ s.kind = 2 ∧ ¬ s.kind = 5) : P7 p s pc = 0 := by rw [P7, if_neg k.1, if_neg k.2.1, if_neg k.2.2]
theorem lk3 (k : s.kind = 3) (h : (m0 (n8 p s.value) && decide (n8 p s.value % 2 = 1)) = true) : ap0 p s = 3 := by rw [ap0, if_pos ⟨k, (show ae3 _ = true from h)⟩]
theorem lkv (h3 : ¬ s.kind = 3 ∨ (m0 (n8 p s.value) && decide (n8 p s.value % 2 = 1)) = false) (k : ¬ s.kind = 4) (h : V1 p.vars p.arrays 5 s.value = true) : ap0 p s = 4 := by
 rw [ap0, if_neg (by rintro ⟨a, b⟩; exact h3.elim (fun h => h a) (fun h => Bool.false_ne_true (h.symm.trans b))), if_pos (.inl ⟨k, h⟩)]
theorem lki (k : s.kind = 2) (h : (m0 (n8 p s.index) && decide (n8 p s.index % 2 = 1)) = true) : ap0 p s = 4 := by
 rw [ap0, if_neg (by omega), if_pos (.inr ⟨k, (show ae3 _ = true from h)⟩)]
theorem lk0 (h3 : ¬ s.kind = 3 ∨ (m0 (n8 p s.value) && decide (n8 p s.value % 2 = 1)) = false) (h4 : s.kind = 4 ∨ V1 p.vars p.arrays 5 s.value = false) (h2 : ¬ s.kind = 2 ∨ (m0 (n8 p s.index) && decide (n8 p s.index % 2 = 1)) = false) : ap0 p s = 0 := by
 rw [ap0, if_neg (by rintro ⟨a, b⟩; exact h3.elim (fun h => h a) (fun h => Bool.false_ne_true (h.symm.trans b))), if_neg]
 rintro (⟨a, b⟩ | ⟨a, b⟩)
 ·rcases h4 with h | h
  ·exact a h
  ·rw [h] at b; cases b
 ·rcases h2 with h | h
  ·exact h a
  ·exact Bool.false_ne_true (h.symm.trans b)
end
abbrev U8 (p : k6) (s : b6) (r0 : List It) : List It := dI p.vars :: dI p.arrays :: dT p.body :: dE s.index.kids :: dE s.value.kids :: dT s.body :: dT s.els :: r0
theorem bE2 (p : k6) (s : b6) (pc : Int) (strict : Bool) (h : C9 p.vars.length p.arrays.length s = true) : p6.ok Tryz.prog (P3 241 [pA 0, sA s 3, iA pc, bA strict] (pS p ++ sS s) (iA (W9 p s pc strict))) := by
  refine H9 94 Tryz.func241 (U8 p s []) [(0, pA 0), (1, sA s 3), (2, iA pc), (3, bA strict)] fun G => ?_; refine wp_seq (s4 G l6 [0, 1, 2, 3, 4, 5, 6, 7, 15] (U8 p s [.box (pL 0), .box (sL s 3)]) [(2, iA pc), (3, bA strict), (4, .ptr 7 0), (5, .ptr 8 0), (8, iA 0)] fun G => b7 (wp_seq (wp_seq (n9 G l6 [(10, iA s.kind)] fun G => b7 (wp_block (wp_seq (n9 G l6 [(11, bA (s.kind == 1))] fun G => b7 (rcE G (fun h0 q0 => ?_) fun h0 q0 => ?_))))))))
  ·
   refine wp_seq (n9 G l6 [(27, bA (s.kind == 2))] fun G => b7 (rcE G (fun h1 q1 => ?_) fun h1 q1 => ?_))
   ·
    refine wp_seq (n9 G l6 [(48, bA (s.kind == 5))] fun G => b7 (rcE G (fun h2 q2 => ?_) fun h2 q2 => ?_))
    ·
     refine wp_seq (n9 G l6 [(60, bA (s.kind == 3))] fun G => b7 (rcE G (fun h3 q3 => ?_) fun h3 q3 => ?_))
     ·
      refine wp_skip (w5 (b7 (wp_seq (wp_seq ?_)))); cases h4 : (strict)
      · refine s4 G (hhF (fc h4 fz) (us [(2, 5, 0), (10, 11, 0), (22, 22, 0), (1023, 1023, 0)])) (rg 7) (U8 p s []) [(8, iA 0), (93, bA false)] fun G => b7 (rF G false (by kernel_rfl) (wp_skip (b7 (wp_seq (n9 G l6 [] fun G => b7 (wp_ret ?_)))))); exact Z7 0 G (rg 7) (al3 (fl0 (by omega)))
      ·
       cases h5 : (s.kind != 4)
       · have q5 := bne_eq_false_iff_eq.1 h5; refine s4 G (hhF (fc h4 (fc h5 (fc (b := false) rfl (fc h1 fz)))) (us [(2, 5, 0), (6, 9, 1), (10, 10, 0), (1010, 1010, 1), (11, 11, 0), (12, 15, 2), (16, 20, 3), (21, 21, 2), (1021, 1021, 3), (22, 22, 0), (1022, 1022, 2), (1023, 1023, 0)])) (rg 7) (U8 p s []) [(8, iA 0), (93, bA false)] fun G => b7 (rF G false (by kernel_rfl) (wp_skip (b7 (wp_seq (n9 G l6 [] fun G => b7 (wp_ret ?_)))))); exact Z7 0 G (rg 7) (D9 (fl0 (by omega)) (lk0 (by exact .inl (by omega)) (by exact .inl (by omega)) (by exact .inl (by omega))))
       ·
        have q5 := bne_iff_ne.1 h5; cases h6 : (V1 p.vars p.arrays (5 : Nat) s.value)
        · refine s4 G (E5 (t4 9 [0, 1, 2, 4] (J9 p s.value (C3 h (by omega))) E4) (fc h4 (fc h5 (fc h6 (fc h1 fz)))) (us [(2, 5, 0), (6, 9, 1), (10, 10, 0), (1010, 1010, 1), (11, 11, 0), (12, 15, 2), (16, 20, 3), (21, 21, 2), (1021, 1021, 3), (22, 22, 0), (1022, 1022, 2), (1023, 1023, 0)])) (rg 7) (U8 p s []) [(8, iA 0), (93, bA false)] fun G => b7 (rF G false (by kernel_rfl) (wp_skip (b7 (wp_seq (n9 G l6 [] fun G => b7 (wp_ret ?_)))))); exact Z7 0 G (rg 7) (D9 (fl0 (by omega)) (lk0 (by exact .inl (by omega)) (by exact .inr (by with_reducible assumption)) (by exact .inl (by omega))))
        · refine s4 G (E5 (t4 9 [0, 1, 2, 4] (J9 p s.value (C3 h (by omega))) E4) (fc h4 (fc h5 (fc h6 fz))) (us [(2, 5, 0), (6, 9, 1), (10, 10, 0), (1010, 1010, 1), (11, 11, 0), (12, 15, 2), (21, 21, 2), (22, 22, 0), (1022, 1022, 2), (1023, 1023, 0)])) (rg 7) (U8 p s []) [(8, iA 0), (93, bA true)] fun G => b7 (rT G true (by kernel_rfl) (wp_seq (n9 G l6 [(8, iA 4)] fun G => b7 (wp_ret (t6 ?_))))); exact Z7 4 G (rg 7) (D9 (fl0 (by omega)) (lkv (by exact .inl (by omega)) (by omega) (by with_reducible assumption)))
     ·
      refine wp_seq ?_; cases h7 : (strict)
      · refine n9 G (hhF (fc h7 fz) (us [(2, 6, 0), (1007, 1007, 0)])) [(69, bA false)] fun G => b7 (rF G false (by kernel_rfl) (wp_skip (w5 (b7 (wp_seq (wp_seq (s4 G (hhF (fc h7 fz) (us [(2, 5, 0), (10, 11, 0), (22, 22, 0), (1023, 1023, 0)])) (rg 7) (U8 p s []) [(8, iA 0), (93, bA false)] fun G => b7 (rF G false (by kernel_rfl) (wp_skip (b7 (wp_seq (n9 G l6 [] fun G => b7 (wp_ret ?_))))))))))))); exact Z7 0 G (rg 7) (al3 (fl0 (by omega)))
      ·
       refine J5 G (E5 (t4 5 [0, 1, 2, 4] (R8 p s.value (C3 h (by omega))) (t4 6 [] (N0 (n8 p s.value)) E4)) (fc h7 fz) (us [(2, 6, 0), (1007, 1007, 0)])) [(3, bA strict), (4, .ptr 7 0), (5, .ptr 8 0), (8, iA 0), (69, bA (m0 (n8 p s.value) && decide (n8 p s.value % 2 = 1)))] fun G => b7 ?_; cases h8 : (m0 (n8 p s.value) && decide (n8 p s.value % (2 : Int) = 1))
       ·
        have q8 : ((m0 (n8 p s.value)) = false) ∨ (¬ (n8 p s.value % 2 = 1)) := Or.imp (fun hq => (hq)) (fun hq => of_decide_eq_false hq) (bY1.1 h8); refine rF G _ h8 (wp_skip (w5 (b7 (wp_seq (wp_seq ?_))))); cases h9 : (s.kind != 4)
        · have q9 := bne_eq_false_iff_eq.1 h9; exact False.elim (by omega)
        ·
         have q9 := bne_iff_ne.1 h9; cases h10 : (V1 p.vars p.arrays (5 : Nat) s.value)
         · refine s4 G (E5 (t4 9 [0, 1, 2, 4] (J9 p s.value (C3 h (by omega))) E4) (fc h7 (fc h9 (fc h10 (fc h1 fz)))) (us [(2, 5, 0), (6, 9, 1), (10, 10, 0), (1010, 1010, 1), (11, 11, 0), (12, 15, 2), (16, 20, 3), (21, 21, 2), (1021, 1021, 3), (22, 22, 0), (1022, 1022, 2), (1023, 1023, 0)])) (rg 7) (U8 p s []) [(8, iA 0), (93, bA false)] fun G => b7 (rF G false (by kernel_rfl) (wp_skip (b7 (wp_seq (n9 G l6 [] fun G => b7 (wp_ret ?_)))))); exact Z7 0 G (rg 7) (D9 (fl0 (by omega)) (lk0 (by exact .inr (by with_reducible assumption)) (by exact .inr (by with_reducible assumption)) (by exact .inl (by omega))))
         · refine s4 G (E5 (t4 9 [0, 1, 2, 4] (J9 p s.value (C3 h (by omega))) E4) (fc h7 (fc h9 (fc h10 fz))) (us [(2, 5, 0), (6, 9, 1), (10, 10, 0), (1010, 1010, 1), (11, 11, 0), (12, 15, 2), (21, 21, 2), (22, 22, 0), (1022, 1022, 2), (1023, 1023, 0)])) (rg 7) (U8 p s []) [(8, iA 0), (93, bA true)] fun G => b7 (rT G true (by kernel_rfl) (wp_seq (n9 G l6 [(8, iA 4)] fun G => b7 (wp_ret (t6 ?_))))); exact Z7 4 G (rg 7) (D9 (fl0 (by omega)) (lkv (by exact .inr (by with_reducible assumption)) (by omega) (by with_reducible assumption)))
       · have q8 : ((m0 (n8 p s.value)) = true) ∧ (n8 p s.value % 2 = 1) := And.imp (fun hq => (hq)) (fun hq => of_decide_eq_true hq) (bY2.1 h8); refine rT G _ h8 (wp_seq (n9 G l6 [(8, iA 3)] fun G => b7 (wp_ret (M8 (t6 ?_))))); exact Z7 3 G (rg 7) (D9 (fl0 (by omega)) (lk3 (by with_reducible assumption) (by with_reducible assumption)))
    ·
     refine wp_seq ?_; cases h11 : (!(m0 (n8 p s.value) && decide (n8 p s.value ≤ 1)))
     ·
      have q11 : ((m0 (n8 p s.value)) = true) ∧ (n8 p s.value ≤ 1) := (fun hq => And.imp (fun hq => (hq)) (fun hq => of_decide_eq_true hq) (bY2.1 hq)) (Eq.mp (bW8 _) h11); refine J5 G (E5 (t4 3 [0, 1, 2, 4] (R8 p s.value (C3 h (by omega))) (t4 4 [] (am2 (n8 p s.value)) E4)) (fc h11 fz) [(7, 0), (8, 0), (1009, 0)]) [(3, bA strict), (4, .ptr 7 0), (5, .ptr 8 0), (8, iA 0), (59, bA (pc != 0))] fun G => b7 (rcN G (fun h12 q12 => ?_) fun h12 q12 => ?_)
      ·
       refine wp_skip (w5 (b7 (wp_seq (wp_seq ?_)))); cases h13 : (strict)
       · refine s4 G (hhF (fc h13 fz) (us [(2, 5, 0), (10, 11, 0), (22, 22, 0), (1023, 1023, 0)])) (rg 7) (U8 p s []) [(8, iA 0), (93, bA false)] fun G => b7 (rF G false (by kernel_rfl) (wp_skip (b7 (wp_seq (n9 G l6 [] fun G => b7 (wp_ret ?_)))))); exact Z7 0 G (rg 7) (al3 (bL6 (by with_reducible assumption) (by with_reducible assumption) (by with_reducible assumption)))
       ·
        cases h14 : (s.kind != 4)
        · have q14 := bne_eq_false_iff_eq.1 h14; exact False.elim (by omega)
        ·
         have q14 := bne_iff_ne.1 h14; cases h15 : (V1 p.vars p.arrays (5 : Nat) s.value)
         · refine s4 G (E5 (t4 9 [0, 1, 2, 4] (J9 p s.value (C3 h (by omega))) E4) (fc h13 (fc h14 (fc h15 (fc h1 fz)))) (us [(2, 5, 0), (6, 9, 1), (10, 10, 0), (1010, 1010, 1), (11, 11, 0), (12, 15, 2), (16, 20, 3), (21, 21, 2), (1021, 1021, 3), (22, 22, 0), (1022, 1022, 2), (1023, 1023, 0)])) (rg 7) (U8 p s []) [(8, iA 0), (93, bA false)] fun G => b7 (rF G false (by kernel_rfl) (wp_skip (b7 (wp_seq (n9 G l6 [] fun G => b7 (wp_ret ?_)))))); exact Z7 0 G (rg 7) (D9 (bL6 (by with_reducible assumption) (by with_reducible assumption) (by with_reducible assumption)) (lk0 (by exact .inl (by omega)) (by exact .inr (by with_reducible assumption)) (by exact .inl (by omega))))
         · refine s4 G (E5 (t4 9 [0, 1, 2, 4] (J9 p s.value (C3 h (by omega))) E4) (fc h13 (fc h14 (fc h15 fz))) (us [(2, 5, 0), (6, 9, 1), (10, 10, 0), (1010, 1010, 1), (11, 11, 0), (12, 15, 2), (21, 21, 2), (22, 22, 0), (1022, 1022, 2), (1023, 1023, 0)])) (rg 7) (U8 p s []) [(8, iA 0), (93, bA true)] fun G => b7 (rT G true (by kernel_rfl) (wp_seq (n9 G l6 [(8, iA 4)] fun G => b7 (wp_ret (t6 ?_))))); exact Z7 4 G (rg 7) (D9 (bL6 (by with_reducible assumption) (by with_reducible assumption) (by with_reducible assumption)) (lkv (by exact .inl (by omega)) (by omega) (by with_reducible assumption)))
      · refine wp_seq (n9 G l6 [(8, iA 2)] fun G => b7 (wp_ret (M8 (t6 ?_)))); exact Z7 2 G (rg 7) (au6 (bR8 (by with_reducible assumption) (.inr (by with_reducible assumption))) (by decide))
     · have q11 : ((m0 (n8 p s.value)) = false) ∨ (¬ (n8 p s.value ≤ 1)) := (fun hq => Or.imp (fun hq => (hq)) (fun hq => of_decide_eq_false hq) (bY1.1 hq)) (Eq.mp (bW7 _) h11); refine n9 G (E5 (t4 3 [0, 1, 2, 4] (R8 p s.value (C3 h (by omega))) (t4 4 [] (am2 (n8 p s.value)) E4)) (fc h11 fz) [(7, 0), (8, 0), (1009, 0)]) [(59, bA true)] fun G => b7 (rT G true (by kernel_rfl) (wp_seq (n9 G l6 [(8, iA 2)] fun G => b7 (wp_ret (M8 (t6 ?_)))))); exact Z7 2 G (rg 7) (au6 (bR8 (by with_reducible assumption) (.inl (by with_reducible assumption))) (by decide))
   ·
    refine wp_seq (bk4 G (E5 (t4 3 [0, 1, 2, 4] (R8 p s.value (C3 h (by omega))) (t4 7 (rg 4) (R8 p s.index (aK0 h (by with_reducible assumption))) (t4 17 [] (ax0 (n6 (n6 (n8 p s.value) (n8 p s.index)) pc) (p.arrays.getD s.target.toNat 0)) E4))) fz []) [0, 0, 2, 7, 0, 0, 32, 127, 255, 0, 1023, 0, 2048, 0, 8192, 30720, 63488, 131071, 262143] [(3, bA strict), (4, .ptr 7 0), (5, .ptr 8 0), (8, iA 0), (47, .v (.bool !(m0 (n6 (n6 (n8 p s.value) (n8 p s.index)) pc) && m0 (p.arrays.getD s.target.toNat 0) && n6 (n6 (n6 (n8 p s.value) (n8 p s.index)) pc) (p.arrays.getD s.target.toNat 0) == p.arrays.getD s.target.toNat 0)))] [(0 : Int) ≤ s.target, s.target < (p.arrays.length : Int), s.target.toNat < p.arrays.length] ⟨((az5 h (by omega)).1), ((az5 h (by omega)).2.1), ((az5 h (by omega)).2.2), bW1⟩ fun G => b7 ?_); cases h16 : (!(m0 (n6 (n6 (n8 p s.value) (n8 p s.index)) pc) && m0 (p.arrays.getD s.target.toNat (0 : Int)) && n6 (n6 (n6 (n8 p s.value) (n8 p s.index)) pc) (p.arrays.getD s.target.toNat (0 : Int)) == p.arrays.getD s.target.toNat (0 : Int)))
    ·
     have q16 : (((m0 (n6 (n6 (n8 p s.value) (n8 p s.index)) pc)) = true) ∧ ((m0 (p.arrays.getD s.target.toNat 0)) = true)) ∧ (n6 (n6 (n6 (n8 p s.value) (n8 p s.index)) pc) (p.arrays.getD s.target.toNat 0) = p.arrays.getD s.target.toNat 0) := (fun hq => And.imp (fun hq => And.imp (fun hq => (hq)) (fun hq => (hq)) (bY2.1 hq)) (fun hq => eq_of_beq hq) (bY2.1 hq)) (Eq.mp (bW8 _) h16); refine rF G _ h16 (wp_skip (w5 (b7 (wp_seq (wp_seq ?_))))); cases h17 : (strict)
     · refine s4 G (hhF (fc h17 fz) (us [(2, 5, 0), (10, 11, 0), (22, 22, 0), (1023, 1023, 0)])) (rg 7) (U8 p s []) [(8, iA 0), (93, bA false)] fun G => b7 (rF G false (by kernel_rfl) (wp_skip (b7 (wp_seq (n9 G l6 [] fun G => b7 (wp_ret ?_)))))); exact Z7 0 G (rg 7) (al3 (bD0 (by with_reducible assumption) (by with_reducible assumption)))
     ·
      cases h18 : (s.kind != 4)
      · have q18 := bne_eq_false_iff_eq.1 h18; exact False.elim (by omega)
      ·
       have q18 := bne_iff_ne.1 h18; cases h19 : (V1 p.vars p.arrays (5 : Nat) s.value)
       ·
        refine s4 G (E5 (t4 9 [0, 1, 2, 4] (J9 p s.value (C3 h (by omega))) (t4 19 (rg 4) (R8 p s.index (aK0 h (by with_reducible assumption))) (t4 20 [] (N0 (n8 p s.index)) E4))) (fc h17 (fc h18 (fc h19 (fc h1 fz)))) (us [(2, 5, 0), (6, 9, 1), (10, 10, 0), (1010, 1010, 1), (11, 11, 0), (12, 15, 2), (16, 20, 3), (21, 21, 2), (1021, 1021, 3), (22, 22, 0), (1022, 1022, 2), (1023, 1023, 0)])) (rg 7) (U8 p s []) [(8, iA 0), (93, bA (m0 (n8 p s.index) && decide (n8 p s.index % 2 = 1)))] fun G => b7 ?_; cases h20 : (m0 (n8 p s.index) && decide (n8 p s.index % (2 : Int) = 1))
        · have q20 : ((m0 (n8 p s.index)) = false) ∨ (¬ (n8 p s.index % 2 = 1)) := Or.imp (fun hq => (hq)) (fun hq => of_decide_eq_false hq) (bY1.1 h20); refine rF G _ h20 (wp_skip (b7 (wp_seq (n9 G l6 [] fun G => b7 (wp_ret ?_))))); exact Z7 0 G (rg 7) (D9 (bD0 (by with_reducible assumption) (by with_reducible assumption)) (lk0 (by exact .inl (by omega)) (by exact .inr (by with_reducible assumption)) (by exact .inr (by with_reducible assumption))))
        · have q20 : ((m0 (n8 p s.index)) = true) ∧ (n8 p s.index % 2 = 1) := And.imp (fun hq => (hq)) (fun hq => of_decide_eq_true hq) (bY2.1 h20); refine rT G _ h20 (wp_seq (n9 G l6 [(8, iA 4)] fun G => b7 (wp_ret (t6 ?_)))); exact Z7 4 G (rg 7) (D9 (bD0 (by with_reducible assumption) (by with_reducible assumption)) (lki (by with_reducible assumption) (by with_reducible assumption)))
       · refine s4 G (E5 (t4 9 [0, 1, 2, 4] (J9 p s.value (C3 h (by omega))) E4) (fc h17 (fc h18 (fc h19 fz))) (us [(2, 5, 0), (6, 9, 1), (10, 10, 0), (1010, 1010, 1), (11, 11, 0), (12, 15, 2), (21, 21, 2), (22, 22, 0), (1022, 1022, 2), (1023, 1023, 0)])) (rg 7) (U8 p s []) [(8, iA 0), (93, bA true)] fun G => b7 (rT G true (by kernel_rfl) (wp_seq (n9 G l6 [(8, iA 4)] fun G => b7 (wp_ret (t6 ?_))))); exact Z7 4 G (rg 7) (D9 (bD0 (by with_reducible assumption) (by with_reducible assumption)) (lkv (by exact .inl (by omega)) (by omega) (by with_reducible assumption)))
    · have q16 : (((m0 (n6 (n6 (n8 p s.value) (n8 p s.index)) pc)) = false) ∨ ((m0 (p.arrays.getD s.target.toNat 0)) = false)) ∨ (¬ (n6 (n6 (n6 (n8 p s.value) (n8 p s.index)) pc) (p.arrays.getD s.target.toNat 0) = p.arrays.getD s.target.toNat 0)) := (fun hq => Or.imp (fun hq => Or.imp (fun hq => (hq)) (fun hq => (hq)) (bY1.1 hq)) (fun hq => ne_of_beq_false hq) (bY1.1 hq)) (Eq.mp (bW7 _) h16); refine rT G _ h16 (wp_seq (n9 G l6 [(8, iA 1)] fun G => b7 (wp_ret (M8 (t6 ?_))))); exact Z7 1 G (rg 7) (au6 (bU8 (by with_reducible assumption) (by with_reducible assumption)) (by decide))
  ·
   refine wp_seq (bk4 G (E5 (t4 3 [0, 1, 2, 4] (R8 p s.value (C3 h (by omega))) (t4 12 [] (ax0 (n6 (n8 p s.value) pc) (p.vars.getD s.target.toNat 0)) E4)) fz []) [0, 0, 2, 7, 0, 31, 0, 64, 0, 256, 960, 1984, 4095, 8191] [(3, bA strict), (4, .ptr 7 0), (5, .ptr 8 0), (8, iA 0), (26, .v (.bool !(m0 (n6 (n8 p s.value) pc) && m0 (p.vars.getD s.target.toNat 0) && n6 (n6 (n8 p s.value) pc) (p.vars.getD s.target.toNat 0) == p.vars.getD s.target.toNat 0)))] [(0 : Int) ≤ s.target, s.target < (p.vars.length : Int), s.target.toNat < p.vars.length] ⟨((az4 h (by omega)).1), ((az4 h (by omega)).2.1), ((az4 h (by omega)).2.2), bW1⟩ fun G => b7 ?_); cases h21 : (!(m0 (n6 (n8 p s.value) pc) && m0 (p.vars.getD s.target.toNat (0 : Int)) && n6 (n6 (n8 p s.value) pc) (p.vars.getD s.target.toNat (0 : Int)) == p.vars.getD s.target.toNat (0 : Int)))
   ·
    have q21 : (((m0 (n6 (n8 p s.value) pc)) = true) ∧ ((m0 (p.vars.getD s.target.toNat 0)) = true)) ∧ (n6 (n6 (n8 p s.value) pc) (p.vars.getD s.target.toNat 0) = p.vars.getD s.target.toNat 0) := (fun hq => And.imp (fun hq => And.imp (fun hq => (hq)) (fun hq => (hq)) (bY2.1 hq)) (fun hq => eq_of_beq hq) (bY2.1 hq)) (Eq.mp (bW8 _) h21); refine rF G _ h21 (wp_skip (w5 (b7 (wp_seq (wp_seq ?_))))); cases h22 : (strict)
    · refine s4 G (hhF (fc h22 fz) (us [(2, 5, 0), (10, 11, 0), (22, 22, 0), (1023, 1023, 0)])) (rg 7) (U8 p s []) [(8, iA 0), (93, bA false)] fun G => b7 (rF G false (by kernel_rfl) (wp_skip (b7 (wp_seq (n9 G l6 [] fun G => b7 (wp_ret ?_)))))); exact Z7 0 G (rg 7) (al3 (bL7 (by with_reducible assumption) (by with_reducible assumption)))
    ·
     cases h23 : (s.kind != 4)
     · have q23 := bne_eq_false_iff_eq.1 h23; exact False.elim (by omega)
     ·
      have q23 := bne_iff_ne.1 h23; cases h24 : (V1 p.vars p.arrays (5 : Nat) s.value)
      ·
       cases h25 : (s.kind == 2)
       · have q25 := ne_of_beq_false h25; refine s4 G (E5 (t4 9 [0, 1, 2, 4] (J9 p s.value (C3 h (by omega))) E4) (fc h22 (fc h23 (fc h24 (fc h25 fz)))) (us [(2, 5, 0), (6, 9, 1), (10, 10, 0), (1010, 1010, 1), (11, 11, 0), (12, 15, 2), (16, 20, 3), (21, 21, 2), (1021, 1021, 3), (22, 22, 0), (1022, 1022, 2), (1023, 1023, 0)])) (rg 7) (U8 p s []) [(8, iA 0), (93, bA false)] fun G => b7 (rF G false (by kernel_rfl) (wp_skip (b7 (wp_seq (n9 G l6 [] fun G => b7 (wp_ret ?_)))))); exact Z7 0 G (rg 7) (D9 (bL7 (by with_reducible assumption) (by with_reducible assumption)) (lk0 (by exact .inl (by omega)) (by exact .inr (by with_reducible assumption)) (by exact .inl (by omega))))
       · have q25 := eq_of_beq h25; exact False.elim (by omega)
      · refine s4 G (E5 (t4 9 [0, 1, 2, 4] (J9 p s.value (C3 h (by omega))) E4) (fc h22 (fc h23 (fc h24 fz))) (us [(2, 5, 0), (6, 9, 1), (10, 10, 0), (1010, 1010, 1), (11, 11, 0), (12, 15, 2), (21, 21, 2), (22, 22, 0), (1022, 1022, 2), (1023, 1023, 0)])) (rg 7) (U8 p s []) [(8, iA 0), (93, bA true)] fun G => b7 (rT G true (by kernel_rfl) (wp_seq (n9 G l6 [(8, iA 4)] fun G => b7 (wp_ret (t6 ?_))))); exact Z7 4 G (rg 7) (D9 (bL7 (by with_reducible assumption) (by with_reducible assumption)) (lkv (by exact .inl (by omega)) (by omega) (by with_reducible assumption)))
   · have q21 : (((m0 (n6 (n8 p s.value) pc)) = false) ∨ ((m0 (p.vars.getD s.target.toNat 0)) = false)) ∨ (¬ (n6 (n6 (n8 p s.value) pc) (p.vars.getD s.target.toNat 0) = p.vars.getD s.target.toNat 0)) := (fun hq => Or.imp (fun hq => Or.imp (fun hq => (hq)) (fun hq => (hq)) (bY1.1 hq)) (fun hq => ne_of_beq_false hq) (bY1.1 hq)) (Eq.mp (bW7 _) h21); refine rT G _ h21 (wp_seq (n9 G l6 [(8, iA 1)] fun G => b7 (wp_ret (M8 (t6 ?_))))); exact Z7 1 G (rg 7) (au6 (bU9 (by with_reducible assumption) (by with_reducible assumption)) (by decide))
end Go.Proofs.YthikdkjjdeehoaaGreat
