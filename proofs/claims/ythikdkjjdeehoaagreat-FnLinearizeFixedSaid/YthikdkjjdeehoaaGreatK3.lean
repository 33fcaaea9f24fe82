/-
  Texts of this claim, part 3: what the functions on the way do, and plain laws. Conditions: as each statement says.
-/
import Derived.Test.YthikdkjjdeehoaaGreatK2
set_option maxRecDepth 100000
set_option maxHeartbeats 16000000
open Bool renaming and_eq_false_iff → ca4, and_eq_true → b86, and_eq_true_iff → ca6, not_eq_false' → b97, not_eq_true' → b95
open Inhabited renaming default → b85
open List renaming all_eq_true → b93, eq_nil_of_length_eq_zero → ca0, getD_eq_getElem?_getD → b91, getElem?_append_left → ca9, getElem?_eq_getElem → b90, getElem?_eq_none → cb5, getElem?_eq_some_iff → b98, getElem_mem → cb0, length_append → b88, length_cons → b87, map_cons → cb9, mem_append → ca2, mem_cons → cb7, mem_cons_of_mem → ca8, mem_cons_self → ca1, mem_singleton → ca5, take → b96, take_of_length_le → ca3
open Nat renaming le_refl → b99, le_trans → ca7, lt_or_ge → cc0, zero_le → cc1
open True renaming intro → b94

namespace Go.Proofs.YthikdkjjdeehoaaGreat
set_option linter.unusedVariables false
set_option linter.unusedSimpArgs false
open Go Go.RowKit
def StB (a1 a2 : Option Addr) (nv c1 na c2 : Nat) (v3 : Value) (d : Nat) : Prop := ∀ (s : b6) (φ : Nat → Prop) (v : Value) (w : World), aj9 w φ v s →
 Calls Tryz.prog 193 #[.agg #[.slice a1 nv c1, .slice a2 na c2, v3], v, .int .i64 d] w fun x w' => x = .returned (.bool (f6 nv na d s)) ∧ Below w.heap.size w w'
def BlB (a1 a2 : Option Addr) (nv c1 na c2 : Nat) (v3 : Value) (d : Nat) : Prop := ∀ (ss : List b6) (φ : Nat → Prop) (v : Value) (w : World), A8 w φ v ss →
 Calls Tryz.prog 130 #[.agg #[.slice a1 nv c1, .slice a2 na c2, v3], v, .int .i64 d] w fun x w' => x = .returned (.bool (ss.all (f6 nv na d))) ∧ Below w.heap.size w w'
theorem ad5 (a1 a2 : Option Addr) (nv c1 na c2 : Nat) (v3 : Value) (d : Nat) (hd : d ≤ 5) (ih : StB a1 a2 nv c1 na c2 v3 d) : BlB a1 a2 nv c1 na c2 v3 d := by
 intro ss φ v w h
 obtain ⟨ak, ck, rfl, -, hn, -, hc⟩ := h.open
 obtain ⟨W, hW, M⟩ : ∃ W, W = w.alloc (.cells #[.slice a1 nv c1, .slice a2 na c2, v3] 26) ∧ A9 (fun _ => True) (fun _ => True) w W [.box w.heap.size [.slice a1 nv c1, .slice a2 na c2, v3]] :=
  ⟨_, rfl, (A9.start fun _ _ => trivial).box _ _⟩
 have HC := show Hid _ from hc
 clear h hc
 go_enter Tryz.func130, Tryz.ntmps130
 go_wp2_with fail
 rw [← hW]
 clear hW
 go_loopw [7] (fun i wr => ∃ k : Nat, k ≤ ss.length ∧ i = .int .i64 k ∧ (ss.take k).all (f6 nv na d) = true ∧ A9 (fun _ => True) (fun _ => True) w wr [.box w.heap.size [.slice a1 nv c1, .slice a2 na c2, v3]]) (fun i _ => ss.length - (intOf i).toNat)
 case atStart => exact ⟨0, cc1 _, rfl, rfl, M⟩
 case round =>
  clear M
  obtain ⟨k, hk, rfl, hall, M⟩ := hrel
  have HALL := show Hid _ from hall
  clear hall
  have hB := M.below fun _ _ => trivial
  have x0 := M.c 0 0 rfl rfl
  have x1 := M.c 0 1 rfl rfl
  have x2 := M.c 0 2 rfl rfl
  by_cases hlt : k < ss.length
  ·obtain ⟨b, off, iv, vv, bv, ev, rfl, hbk, hf, ⟨e0, e1, e2, e3, e4, e5, e6, e7, e8, e9, e10⟩, g1, g2, g3, g4⟩ := HC.out k hlt
   rw [← (aR3 hB).1 _ _ hbk] at e0 e1 e2 e3 e4 e5 e6 e7 e8 e9 e10
   obtain ⟨q, hq⟩ : ∃ q, q = f6 nv na d ss[k] := ⟨_, rfl⟩
   have HC3 : Hid (∀ X, Calls Tryz.prog 193 #[.agg #[.slice a1 nv c1, .slice a2 na c2, v3], .agg #[.int .i64 ss[k].kind, .int .i64 ss[k].target, .int .i64 ss[k].index.kind, .int .i64 ss[k].index.value, iv, .int .i64 ss[k].value.kind, .int .i64 ss[k].value.value, vv, .int .i64 ss[k].count, bv, ev], .int .i64 d] (wr.ext X) fun x w'' => x = .returned (.bool q) ∧ ∃ Y, w'' = wr.ext Y) := fun X => by
    have bb := hB.trans ((v9 wr X).mono hB.size)
    rw [hq]
    exact Calls.ext_of' (ih _ φ _ _ (aj9.nice _ _ _ _ _ _ (Agr.below bb) ⟨iv, vv, bv, ev, rfl, g1, g2, g3, g4⟩))
   have HQQ := show Hid _ from hq
   have HM := show Hid _ from M
   have j0 := fun X => r6 e0 X
   have j1 := fun X => r6 e1 X
   have j2 := fun X => r6 e2 X
   have j3 := fun X => r6 e3 X
   have j4 := fun X => r6 e4 X
   have j5 := fun X => r6 e5 X
   have j6 := fun X => r6 e6 X
   have j7 := fun X => r6 e7 X
   have j8 := fun X => r6 e8 X
   have j9 := fun X => r6 e9 X
   have j10 := fun X => r6 e10 X
   have z0 := fun X => r6 x0 X
   have z1 := fun X => r6 x1 X
   have z2 := fun X => r6 x2 X
   have hlt' : (k : Int) < ss.length := by omega
   clear g1 g2 g3 g4 hq e0 e1 e2 e3 e4 e5 e6 e7 e8 e9 e10 x0 x1 x2 M hB
   cases q
   ·go_wp2_with fail
    refine s8 (by kernel_rfl) (by kernel_rfl) ?_
    repeat (any_goals (first | go_big_quiet_step (((go_at_call 193; exact HC3.out _))) | quiet_step (((go_at_call 193; exact HC3.out _)))))
    refine wpQuiet_nil ?_
    rintro _ ⟨X, rfl⟩
    go_wp2_with fail
    go_ret
    exact ⟨f7 (by symm; exact List.all_eq_false.2 ⟨_, cb0 hlt, by rw [← HQQ.out]; simp⟩), (HM.out.call (v9 wr X)).below fun _ _ => trivial⟩
   ·go_wp2_with fail
    refine s8 (by kernel_rfl) (by kernel_rfl) ?_
    repeat (any_goals (first | go_big_quiet_step (((go_at_call 193; exact HC3.out _))) | quiet_step (((go_at_call 193; exact HC3.out _)))))
    refine wpQuiet_nil ?_
    rintro _ ⟨X, rfl⟩
    go_wp2_with fail
    refine ⟨⟨k + 1, by omega, by go_num, ?_, HM.out.call (v9 wr X)⟩, by simp [intOf]; omega⟩
    rw [F8 _ _ hlt, List.all_append, HALL.out]
    simp [← HQQ.out]
  ·have hkn : k = ss.length := by omega
   subst hkn
   have hall := HALL.out
   rw [ca3 (b99 _)] at hall
   have HAL := show Hid _ from hall
   have HB := show Hid _ from hB
   clear hall x0 x1 x2 M hB
   go_wp2_with fail
   go_ret
   exact ⟨f7 HAL.out.symm, HB.out⟩
theorem bo9 (a1 a2 : Option Addr) (nv c1 na c2 : Nat) (v3 : Value) (h1 : nv ≤ 9223372036854775807) (h2 : na ≤ 9223372036854775807) : ∀ d : Nat, d ≤ 5 → StB a1 a2 nv c1 na c2 v3 d := by
 intro d
 induction d with
 | zero =>
  intro _ s φ v w h
  obtain ⟨ai, ci, av, cv, ab, cb, ae, ce, rfl, -, -⟩ := h.form
  have HP : Hid (f6 nv na 0 s = false) := rfl
  clear h
  go_enter Tryz.func193, Tryz.ntmps193
  go_wp2_with fail
  go_ret
  exact ⟨f7 HP.out.symm, by go_grown⟩
 | succ d ih0 =>
  intro hd5 s φ v w h
  have ih := ih0 (by omega)
  clear ih0
  have hfull := h
  obtain ⟨ai, ci, av, cv, ab, cb, ae, ce, rfl, ⟨g1, g2, g3, g4⟩, -⟩ := h.form
  have hd0 : (d : Int) ≤ 5 := by omega
  have p9 : decide ((d : Int) + 1 < 1) = false := decide_eq_false (by omega)
  have HD0 : Hid (f6 nv na (d + 1) s = (z6 s && (if s.kind = 1 ∨ s.kind = 5 then decide (0 ≤ s.target) && decide (s.target < (nv : Int)) && l6 nv na s.value else if s.kind = 2 then decide (0 ≤ s.target) && decide (s.target < (na : Int)) && l6 nv na s.index && atomB s.index && l6 nv na s.value
   else if s.kind = 3 then l6 nv na s.value && s.body.all (f6 nv na d) && s.els.all (f6 nv na d) else if s.kind = 4 then s.body.all (f6 nv na d) else false))) := rfl
  have HG : Hid (∀ W, Below w.heap.size w W → ab7 W φ (.agg #[.int .i64 s.index.kind, .int .i64 s.index.value, .slice ai s.index.kids.length ci]) s.index ∧ ab7 W φ (.agg #[.int .i64 s.value.kind, .int .i64 s.value.value, .slice av s.value.kids.length cv]) s.value ∧ A8 W φ (.slice ab s.body.length cb) s.body ∧ A8 W φ (.slice ae s.els.length ce) s.els) := fun W k =>
   ⟨⟨_, rfl, s9.nice _ _ _ _ _ _ (Agr.below k) g1⟩, ⟨_, rfl, s9.nice _ _ _ _ _ _ (Agr.below k) g2⟩, A8.nice _ _ _ _ _ _ (Agr.below k) g3, A8.nice _ _ _ _ _ _ (Agr.below k) g4⟩
  have HF : Hid (∀ W, Below w.heap.size w W → aj9 W φ (.agg #[.int .i64 s.kind, .int .i64 s.target, .int .i64 s.index.kind, .int .i64 s.index.value, .slice ai s.index.kids.length ci, .int .i64 s.value.kind, .int .i64 s.value.value, .slice av s.value.kids.length cv, .int .i64 s.count, .slice ab s.body.length cb, .slice ae s.els.length ce]) s) := fun W k => aj9.nice _ _ _ _ _ _ (Agr.below k) hfull
  obtain ⟨W, hW, M⟩ : ∃ W, W = (w.alloc (.cells #[.slice a1 nv c1, .slice a2 na c2, v3] 26)).alloc (.cells #[.int .i64 s.kind, .int .i64 s.target, .int .i64 s.index.kind, .int .i64 s.index.value, .slice ai s.index.kids.length ci, .int .i64 s.value.kind, .int .i64 s.value.value, .slice av s.value.kids.length cv, .int .i64 s.count, .slice ab s.body.length cb, .slice ae s.els.length ce] 106) ∧ A9 (fun _ => True) (fun _ => True) w W [.box w.heap.size [.slice a1 nv c1, .slice a2 na c2, v3], .box (w.heap.size + 1) [.int .i64 s.kind, .int .i64 s.target, .int .i64 s.index.kind, .int .i64 s.index.value, .slice ai s.index.kids.length ci, .int .i64 s.value.kind, .int .i64 s.value.value, .slice av s.value.kids.length cv, .int .i64 s.count, .slice ab s.body.length cb, .slice ae s.els.length ce]] :=
   ⟨_, rfl, ((A9.start fun _ _ => trivial).box _ _).box' _ _ (by simp)⟩
  clear g1 g2 g3 g4 h hfull
  have c0 := M.c 1 0 rfl rfl
  have c1 := M.c 1 1 rfl rfl
  have c2 := M.c 1 2 rfl rfl
  have c3 := M.c 1 3 rfl rfl
  have c4 := M.c 1 4 rfl rfl
  have c5 := M.c 1 5 rfl rfl
  have c6 := M.c 1 6 rfl rfl
  have c7 := M.c 1 7 rfl rfl
  have c8 := M.c 1 8 rfl rfl
  have c9 := M.c 1 9 rfl rfl
  have c10 := M.c 1 10 rfl rfl
  have x0 := M.c 0 0 rfl rfl
  have x1 := M.c 0 1 rfl rfl
  have x2 := M.c 0 2 rfl rfl
  have HM := show Hid _ from M
  rw [hW] at c0 c1 c2 c3 c4 c5 c6 c7 c8 c9 c10 x0 x1 x2
  clear M
  go_enter Tryz.func193, Tryz.ntmps193
  go_wp2_with fail
  rw [← hW]
  clear hW
  have M := HM.out
  clear HM c0 c1 c2 c3 c4 c5 c6 c7 c8 c9 c10 x0 x1 x2
  refine (aT7 φ _ s _ (HF.out _ (M.below fun _ _ => trivial))).mono ?_
  rintro x w1 ⟨rfl, b1⟩
  replace M := M.call b1
  clear b1
  obtain ⟨b, hb⟩ : ∃ b, b = z6 s := ⟨_, rfl⟩
  rw [← hb]
  have HB := show Hid _ from hb
  clear hb
  cases b
  ·have HP : Hid (f6 nv na (d + 1) s = false) := by rw [Hid, HD0.out, ← HB.out]; rfl
   clear HD0 HB
   have c0 := M.c 1 0 rfl rfl
   have c1 := M.c 1 1 rfl rfl
   have c2 := M.c 1 2 rfl rfl
   have c3 := M.c 1 3 rfl rfl
   have c4 := M.c 1 4 rfl rfl
   have c5 := M.c 1 5 rfl rfl
   have c6 := M.c 1 6 rfl rfl
   have c7 := M.c 1 7 rfl rfl
   have c8 := M.c 1 8 rfl rfl
   have c9 := M.c 1 9 rfl rfl
   have c10 := M.c 1 10 rfl rfl
   have x0 := M.c 0 0 rfl rfl
   have x1 := M.c 0 1 rfl rfl
   have x2 := M.c 0 2 rfl rfl
   have HM := show Hid _ from M
   clear M
   go_wp2_with fail
   go_ret
   exact ⟨f7 (by rw [HP.out]), HM.out.below fun _ _ => trivial⟩
  have HD := show Hid (f6 nv na (d + 1) s = (if s.kind = 1 ∨ s.kind = 5 then decide (0 ≤ s.target) && decide (s.target < (nv : Int)) && l6 nv na s.value else if s.kind = 2 then decide (0 ≤ s.target) && decide (s.target < (na : Int)) && l6 nv na s.index && atomB s.index && l6 nv na s.value
   else if s.kind = 3 then l6 nv na s.value && s.body.all (f6 nv na d) && s.els.all (f6 nv na d) else if s.kind = 4 then s.body.all (f6 nv na d) else false)) from by rw [Hid, HD0.out, ← HB.out]; rfl
  clear HD0 HB
  by_cases qk : s.kind = 1
  ·have k1 : (s.kind == 1) = true := by simp [qk]
   have k5 : (s.kind == 5) = false := by simp [qk]
   have k2 : (s.kind == 2) = false := by simp [qk]
   have k3 : (s.kind == 3) = false := by simp [qk]
   have k4 : (s.kind == 4) = false := by simp [qk]
   have HP1 := show Hid (f6 nv na (d + 1) s = (decide (0 ≤ s.target) && decide (s.target < (nv : Int)) && l6 nv na s.value)) from by rw [Hid, HD.out, if_pos (.inl qk)]
   clear qk
   have HP0 := show Hid (f6 nv na (d + 1) s = (decide (0 ≤ s.target) && decide (s.target < (nv : Int)) && l6 nv na s.value)) from HP1.out
   clear HP1
   by_cases t0 : 0 ≤ s.target
   case neg =>
    have p0 : decide (0 ≤ s.target) = false := decide_eq_false t0
    have HP : Hid (f6 nv na (d + 1) s = false) := by rw [Hid, HP0.out, p0]; rfl
    clear HP0 t0
    have c0 := M.c 1 0 rfl rfl
    have c1 := M.c 1 1 rfl rfl
    have c2 := M.c 1 2 rfl rfl
    have c3 := M.c 1 3 rfl rfl
    have c4 := M.c 1 4 rfl rfl
    have c5 := M.c 1 5 rfl rfl
    have c6 := M.c 1 6 rfl rfl
    have c7 := M.c 1 7 rfl rfl
    have c8 := M.c 1 8 rfl rfl
    have c9 := M.c 1 9 rfl rfl
    have c10 := M.c 1 10 rfl rfl
    have x0 := M.c 0 0 rfl rfl
    have x1 := M.c 0 1 rfl rfl
    have x2 := M.c 0 2 rfl rfl
    have HM := show Hid _ from M
    clear M
    go_wp2_with fail
    go_ret
    exact ⟨f7 (by rw [HP.out]), HM.out.below fun _ _ => trivial⟩
   have p0 : decide (0 ≤ s.target) = true := decide_eq_true t0
   by_cases t1 : s.target < (nv : Int)
   case neg =>
    have p1 : decide (s.target < (nv : Int)) = false := decide_eq_false t1
    have HP : Hid (f6 nv na (d + 1) s = false) := by rw [Hid, HP0.out, p0, p1]; rfl
    clear HP0 t0 t1
    have c0 := M.c 1 0 rfl rfl
    have c1 := M.c 1 1 rfl rfl
    have c2 := M.c 1 2 rfl rfl
    have c3 := M.c 1 3 rfl rfl
    have c4 := M.c 1 4 rfl rfl
    have c5 := M.c 1 5 rfl rfl
    have c6 := M.c 1 6 rfl rfl
    have c7 := M.c 1 7 rfl rfl
    have c8 := M.c 1 8 rfl rfl
    have c9 := M.c 1 9 rfl rfl
    have c10 := M.c 1 10 rfl rfl
    have x0 := M.c 0 0 rfl rfl
    have x1 := M.c 0 1 rfl rfl
    have x2 := M.c 0 2 rfl rfl
    have HM := show Hid _ from M
    clear M
    go_wp2_with fail
    go_ret
    exact ⟨f7 (by rw [HP.out]), HM.out.below fun _ _ => trivial⟩
   have p1 : decide (s.target < (nv : Int)) = true := decide_eq_true t1
   have HP1 := show Hid (f6 nv na (d + 1) s = (l6 nv na s.value)) from by rw [Hid, HP0.out, p0, p1]; rfl
   clear HP0 t0 t1
   have HP0 := show Hid (f6 nv na (d + 1) s = (l6 nv na s.value)) from HP1.out
   clear HP1
   have c0 := M.c 1 0 rfl rfl
   have c1 := M.c 1 1 rfl rfl
   have c2 := M.c 1 2 rfl rfl
   have c3 := M.c 1 3 rfl rfl
   have c4 := M.c 1 4 rfl rfl
   have c5 := M.c 1 5 rfl rfl
   have c6 := M.c 1 6 rfl rfl
   have c7 := M.c 1 7 rfl rfl
   have c8 := M.c 1 8 rfl rfl
   have c9 := M.c 1 9 rfl rfl
   have c10 := M.c 1 10 rfl rfl
   have x0 := M.c 0 0 rfl rfl
   have x1 := M.c 0 1 rfl rfl
   have x2 := M.c 0 2 rfl rfl
   have HM := show Hid _ from M
   clear M
   go_wp2_with fail
   have M := HM.out
   clear HM c0 c1 c2 c3 c4 c5 c6 c7 c8 c9 c10 x0 x1 x2
   refine (J8 a1 a2 nv c1 na c2 v3 h1 h2 s.value φ _ _ (HG.out _ (M.below fun _ _ => trivial)).2.1).mono ?_
   rintro x w1 ⟨rfl, b1⟩
   replace M := M.call b1
   clear b1
   have HP : Hid (f6 nv na (d + 1) s = l6 nv na s.value) := HP0.out
   clear HP0
   have HM := show Hid _ from M
   clear M
   go_wp2_with fail
   go_ret
   exact ⟨f7 (by rw [HP.out]), HM.out.below fun _ _ => trivial⟩
  have qn1 := qk
  clear qk
  by_cases qk : s.kind = 5
  ·have k1 : (s.kind == 1) = false := by simp [qk]
   have k5 : (s.kind == 5) = true := by simp [qk]
   have k2 : (s.kind == 2) = false := by simp [qk]
   have k3 : (s.kind == 3) = false := by simp [qk]
   have k4 : (s.kind == 4) = false := by simp [qk]
   have HP1 := show Hid (f6 nv na (d + 1) s = (decide (0 ≤ s.target) && decide (s.target < (nv : Int)) && l6 nv na s.value)) from by rw [Hid, HD.out, if_pos (.inr qk)]
   clear qk
   have HP0 := show Hid (f6 nv na (d + 1) s = (decide (0 ≤ s.target) && decide (s.target < (nv : Int)) && l6 nv na s.value)) from HP1.out
   clear HP1
   by_cases t0 : 0 ≤ s.target
   case neg =>
    have p0 : decide (0 ≤ s.target) = false := decide_eq_false t0
    have HP : Hid (f6 nv na (d + 1) s = false) := by rw [Hid, HP0.out, p0]; rfl
    clear HP0 t0
    have c0 := M.c 1 0 rfl rfl
    have c1 := M.c 1 1 rfl rfl
    have c2 := M.c 1 2 rfl rfl
    have c3 := M.c 1 3 rfl rfl
    have c4 := M.c 1 4 rfl rfl
    have c5 := M.c 1 5 rfl rfl
    have c6 := M.c 1 6 rfl rfl
    have c7 := M.c 1 7 rfl rfl
    have c8 := M.c 1 8 rfl rfl
    have c9 := M.c 1 9 rfl rfl
    have c10 := M.c 1 10 rfl rfl
    have x0 := M.c 0 0 rfl rfl
    have x1 := M.c 0 1 rfl rfl
    have x2 := M.c 0 2 rfl rfl
    have HM := show Hid _ from M
    clear M
    go_wp2_with fail
    go_ret
    exact ⟨f7 (by rw [HP.out]), HM.out.below fun _ _ => trivial⟩
   have p0 : decide (0 ≤ s.target) = true := decide_eq_true t0
   by_cases t1 : s.target < (nv : Int)
   case neg =>
    have p1 : decide (s.target < (nv : Int)) = false := decide_eq_false t1
    have HP : Hid (f6 nv na (d + 1) s = false) := by rw [Hid, HP0.out, p0, p1]; rfl
    clear HP0 t0 t1
    have c0 := M.c 1 0 rfl rfl
    have c1 := M.c 1 1 rfl rfl
    have c2 := M.c 1 2 rfl rfl
    have c3 := M.c 1 3 rfl rfl
    have c4 := M.c 1 4 rfl rfl
    have c5 := M.c 1 5 rfl rfl
    have c6 := M.c 1 6 rfl rfl
    have c7 := M.c 1 7 rfl rfl
    have c8 := M.c 1 8 rfl rfl
    have c9 := M.c 1 9 rfl rfl
    have c10 := M.c 1 10 rfl rfl
    have x0 := M.c 0 0 rfl rfl
    have x1 := M.c 0 1 rfl rfl
    have x2 := M.c 0 2 rfl rfl
    have HM := show Hid _ from M
    clear M
    go_wp2_with fail
    go_ret
    exact ⟨f7 (by rw [HP.out]), HM.out.below fun _ _ => trivial⟩
   have p1 : decide (s.target < (nv : Int)) = true := decide_eq_true t1
   have HP1 := show Hid (f6 nv na (d + 1) s = (l6 nv na s.value)) from by rw [Hid, HP0.out, p0, p1]; rfl
   clear HP0 t0 t1
   have HP0 := show Hid (f6 nv na (d + 1) s = (l6 nv na s.value)) from HP1.out
   clear HP1
   have c0 := M.c 1 0 rfl rfl
   have c1 := M.c 1 1 rfl rfl
   have c2 := M.c 1 2 rfl rfl
   have c3 := M.c 1 3 rfl rfl
   have c4 := M.c 1 4 rfl rfl
   have c5 := M.c 1 5 rfl rfl
   have c6 := M.c 1 6 rfl rfl
   have c7 := M.c 1 7 rfl rfl
   have c8 := M.c 1 8 rfl rfl
   have c9 := M.c 1 9 rfl rfl
   have c10 := M.c 1 10 rfl rfl
   have x0 := M.c 0 0 rfl rfl
   have x1 := M.c 0 1 rfl rfl
   have x2 := M.c 0 2 rfl rfl
   have HM := show Hid _ from M
   clear M
   go_wp2_with fail
   have M := HM.out
   clear HM c0 c1 c2 c3 c4 c5 c6 c7 c8 c9 c10 x0 x1 x2
   refine (J8 a1 a2 nv c1 na c2 v3 h1 h2 s.value φ _ _ (HG.out _ (M.below fun _ _ => trivial)).2.1).mono ?_
   rintro x w1 ⟨rfl, b1⟩
   replace M := M.call b1
   clear b1
   have HP : Hid (f6 nv na (d + 1) s = l6 nv na s.value) := HP0.out
   clear HP0
   have HM := show Hid _ from M
   clear M
   go_wp2_with fail
   go_ret
   exact ⟨f7 (by rw [HP.out]), HM.out.below fun _ _ => trivial⟩
  have qn5 := qk
  clear qk
  by_cases qk : s.kind = 2
  ·have k1 : (s.kind == 1) = false := by simp [qk]
   have k5 : (s.kind == 5) = false := by simp [qk]
   have k2 : (s.kind == 2) = true := by simp [qk]
   have k3 : (s.kind == 3) = false := by simp [qk]
   have k4 : (s.kind == 4) = false := by simp [qk]
   have HP1 := show Hid (f6 nv na (d + 1) s = (decide (0 ≤ s.target) && decide (s.target < (na : Int)) && l6 nv na s.index && atomB s.index && l6 nv na s.value)) from by rw [Hid, HD.out, if_neg (by omega), if_pos qk]
   clear qk
   have HP0 := show Hid (f6 nv na (d + 1) s = (decide (0 ≤ s.target) && decide (s.target < (na : Int)) && l6 nv na s.index && atomB s.index && l6 nv na s.value)) from HP1.out
   clear HP1
   by_cases t0 : 0 ≤ s.target
   case neg =>
    have p0 : decide (0 ≤ s.target) = false := decide_eq_false t0
    have HP : Hid (f6 nv na (d + 1) s = false) := by rw [Hid, HP0.out, p0]; rfl
    clear HP0 t0
    have c0 := M.c 1 0 rfl rfl
    have c1 := M.c 1 1 rfl rfl
    have c2 := M.c 1 2 rfl rfl
    have c3 := M.c 1 3 rfl rfl
    have c4 := M.c 1 4 rfl rfl
    have c5 := M.c 1 5 rfl rfl
    have c6 := M.c 1 6 rfl rfl
    have c7 := M.c 1 7 rfl rfl
    have c8 := M.c 1 8 rfl rfl
    have c9 := M.c 1 9 rfl rfl
    have c10 := M.c 1 10 rfl rfl
    have x0 := M.c 0 0 rfl rfl
    have x1 := M.c 0 1 rfl rfl
    have x2 := M.c 0 2 rfl rfl
    have HM := show Hid _ from M
    clear M
    go_wp2_with fail
    go_ret
    exact ⟨f7 (by rw [HP.out]), HM.out.below fun _ _ => trivial⟩
   have p0 : decide (0 ≤ s.target) = true := decide_eq_true t0
   by_cases t1 : s.target < (na : Int)
   case neg =>
    have p1 : decide (s.target < (na : Int)) = false := decide_eq_false t1
    have HP : Hid (f6 nv na (d + 1) s = false) := by rw [Hid, HP0.out, p0, p1]; rfl
    clear HP0 t0 t1
    have c0 := M.c 1 0 rfl rfl
    have c1 := M.c 1 1 rfl rfl
    have c2 := M.c 1 2 rfl rfl
    have c3 := M.c 1 3 rfl rfl
    have c4 := M.c 1 4 rfl rfl
    have c5 := M.c 1 5 rfl rfl
    have c6 := M.c 1 6 rfl rfl
    have c7 := M.c 1 7 rfl rfl
    have c8 := M.c 1 8 rfl rfl
    have c9 := M.c 1 9 rfl rfl
    have c10 := M.c 1 10 rfl rfl
    have x0 := M.c 0 0 rfl rfl
    have x1 := M.c 0 1 rfl rfl
    have x2 := M.c 0 2 rfl rfl
    have HM := show Hid _ from M
    clear M
    go_wp2_with fail
    go_ret
    exact ⟨f7 (by rw [HP.out]), HM.out.below fun _ _ => trivial⟩
   have p1 : decide (s.target < (na : Int)) = true := decide_eq_true t1
   have HP1 := show Hid (f6 nv na (d + 1) s = (l6 nv na s.index && atomB s.index && l6 nv na s.value)) from by rw [Hid, HP0.out, p0, p1]; rfl
   clear HP0 t0 t1
   have HP0 := show Hid (f6 nv na (d + 1) s = (l6 nv na s.index && atomB s.index && l6 nv na s.value)) from HP1.out
   clear HP1
   have c0 := M.c 1 0 rfl rfl
   have c1 := M.c 1 1 rfl rfl
   have c2 := M.c 1 2 rfl rfl
   have c3 := M.c 1 3 rfl rfl
   have c4 := M.c 1 4 rfl rfl
   have c5 := M.c 1 5 rfl rfl
   have c6 := M.c 1 6 rfl rfl
   have c7 := M.c 1 7 rfl rfl
   have c8 := M.c 1 8 rfl rfl
   have c9 := M.c 1 9 rfl rfl
   have c10 := M.c 1 10 rfl rfl
   have x0 := M.c 0 0 rfl rfl
   have x1 := M.c 0 1 rfl rfl
   have x2 := M.c 0 2 rfl rfl
   have HM := show Hid _ from M
   clear M
   go_wp2_with fail
   have M := HM.out
   clear HM c0 c1 c2 c3 c4 c5 c6 c7 c8 c9 c10 x0 x1 x2
   refine (J8 a1 a2 nv c1 na c2 v3 h1 h2 s.index φ _ _ (HG.out _ (M.below fun _ _ => trivial)).1).mono ?_
   rintro x w1 ⟨rfl, b1⟩
   replace M := M.call b1
   clear b1
   obtain ⟨b, hb⟩ : ∃ b, b = l6 nv na s.index := ⟨_, rfl⟩
   rw [← hb]
   have HB := show Hid _ from hb
   clear hb
   cases b
   ·have HP : Hid (f6 nv na (d + 1) s = false) := by rw [Hid, HP0.out, ← HB.out]; rfl
    clear HP0
    have c0 := M.c 1 0 rfl rfl
    have c1 := M.c 1 1 rfl rfl
    have c2 := M.c 1 2 rfl rfl
    have c3 := M.c 1 3 rfl rfl
    have c4 := M.c 1 4 rfl rfl
    have c5 := M.c 1 5 rfl rfl
    have c6 := M.c 1 6 rfl rfl
    have c7 := M.c 1 7 rfl rfl
    have c8 := M.c 1 8 rfl rfl
    have c9 := M.c 1 9 rfl rfl
    have c10 := M.c 1 10 rfl rfl
    have x0 := M.c 0 0 rfl rfl
    have x1 := M.c 0 1 rfl rfl
    have x2 := M.c 0 2 rfl rfl
    have HM := show Hid _ from M
    clear M
    go_wp2_with fail
    go_ret
    exact ⟨f7 (by rw [HP.out]), HM.out.below fun _ _ => trivial⟩
   ·have HP1 := show Hid (f6 nv na (d + 1) s = (atomB s.index && l6 nv na s.value)) from by rw [Hid, HP0.out, ← HB.out]; rfl
    clear HP0 HB
    have HP0 := show Hid (f6 nv na (d + 1) s = (atomB s.index && l6 nv na s.value)) from HP1.out
    clear HP1
    have c0 := M.c 1 0 rfl rfl
    have c1 := M.c 1 1 rfl rfl
    have c2 := M.c 1 2 rfl rfl
    have c3 := M.c 1 3 rfl rfl
    have c4 := M.c 1 4 rfl rfl
    have c5 := M.c 1 5 rfl rfl
    have c6 := M.c 1 6 rfl rfl
    have c7 := M.c 1 7 rfl rfl
    have c8 := M.c 1 8 rfl rfl
    have c9 := M.c 1 9 rfl rfl
    have c10 := M.c 1 10 rfl rfl
    have x0 := M.c 0 0 rfl rfl
    have x1 := M.c 0 1 rfl rfl
    have x2 := M.c 0 2 rfl rfl
    have HM := show Hid _ from M
    clear M
    go_wp2_with fail
    have M := HM.out
    clear HM c0 c1 c2 c3 c4 c5 c6 c7 c8 c9 c10 x0 x1 x2
    refine (az7 _ _ _ _).mono ?_
    rintro x w1 ⟨rfl, b1⟩
    replace M := M.call b1
    clear b1
    rw [show (decide (s.index.kind = 1) || decide (s.index.kind = 2)) = atomB s.index from rfl]
    obtain ⟨b, hb⟩ : ∃ b, b = atomB s.index := ⟨_, rfl⟩
    rw [← hb]
    have HB := show Hid _ from hb
    clear hb
    cases b
    ·have HP : Hid (f6 nv na (d + 1) s = false) := by rw [Hid, HP0.out, ← HB.out]; rfl
     clear HP0
     have c0 := M.c 1 0 rfl rfl
     have c1 := M.c 1 1 rfl rfl
     have c2 := M.c 1 2 rfl rfl
     have c3 := M.c 1 3 rfl rfl
     have c4 := M.c 1 4 rfl rfl
     have c5 := M.c 1 5 rfl rfl
     have c6 := M.c 1 6 rfl rfl
     have c7 := M.c 1 7 rfl rfl
     have c8 := M.c 1 8 rfl rfl
     have c9 := M.c 1 9 rfl rfl
     have c10 := M.c 1 10 rfl rfl
     have x0 := M.c 0 0 rfl rfl
     have x1 := M.c 0 1 rfl rfl
     have x2 := M.c 0 2 rfl rfl
     have HM := show Hid _ from M
     clear M
     go_wp2_with fail
     go_ret
     exact ⟨f7 (by rw [HP.out]), HM.out.below fun _ _ => trivial⟩
    ·have HP1 := show Hid (f6 nv na (d + 1) s = (l6 nv na s.value)) from by rw [Hid, HP0.out, ← HB.out]; rfl
     clear HP0 HB
     have HP0 := show Hid (f6 nv na (d + 1) s = (l6 nv na s.value)) from HP1.out
     clear HP1
     have c0 := M.c 1 0 rfl rfl
     have c1 := M.c 1 1 rfl rfl
     have c2 := M.c 1 2 rfl rfl
     have c3 := M.c 1 3 rfl rfl
     have c4 := M.c 1 4 rfl rfl
     have c5 := M.c 1 5 rfl rfl
     have c6 := M.c 1 6 rfl rfl
     have c7 := M.c 1 7 rfl rfl
     have c8 := M.c 1 8 rfl rfl
     have c9 := M.c 1 9 rfl rfl
     have c10 := M.c 1 10 rfl rfl
     have x0 := M.c 0 0 rfl rfl
     have x1 := M.c 0 1 rfl rfl
     have x2 := M.c 0 2 rfl rfl
     have HM := show Hid _ from M
     clear M
     go_wp2_with fail
     have M := HM.out
     clear HM c0 c1 c2 c3 c4 c5 c6 c7 c8 c9 c10 x0 x1 x2
     refine (J8 a1 a2 nv c1 na c2 v3 h1 h2 s.value φ _ _ (HG.out _ (M.below fun _ _ => trivial)).2.1).mono ?_
     rintro x w1 ⟨rfl, b1⟩
     replace M := M.call b1
     clear b1
     have HP : Hid (f6 nv na (d + 1) s = l6 nv na s.value) := HP0.out
     clear HP0
     have HM := show Hid _ from M
     clear M
     go_wp2_with fail
     go_ret
     exact ⟨f7 (by rw [HP.out]), HM.out.below fun _ _ => trivial⟩
  have qn2 := qk
  clear qk
  by_cases qk : s.kind = 3
  ·have k1 : (s.kind == 1) = false := by simp [qk]
   have k5 : (s.kind == 5) = false := by simp [qk]
   have k2 : (s.kind == 2) = false := by simp [qk]
   have k3 : (s.kind == 3) = true := by simp [qk]
   have k4 : (s.kind == 4) = false := by simp [qk]
   have HP1 := show Hid (f6 nv na (d + 1) s = (l6 nv na s.value && s.body.all (f6 nv na d) && s.els.all (f6 nv na d))) from by rw [Hid, HD.out, if_neg (by omega), if_neg (by omega), if_pos qk]
   clear qk
   have HP0 := show Hid (f6 nv na (d + 1) s = (l6 nv na s.value && s.body.all (f6 nv na d) && s.els.all (f6 nv na d))) from HP1.out
   clear HP1
   have c0 := M.c 1 0 rfl rfl
   have c1 := M.c 1 1 rfl rfl
   have c2 := M.c 1 2 rfl rfl
   have c3 := M.c 1 3 rfl rfl
   have c4 := M.c 1 4 rfl rfl
   have c5 := M.c 1 5 rfl rfl
   have c6 := M.c 1 6 rfl rfl
   have c7 := M.c 1 7 rfl rfl
   have c8 := M.c 1 8 rfl rfl
   have c9 := M.c 1 9 rfl rfl
   have c10 := M.c 1 10 rfl rfl
   have x0 := M.c 0 0 rfl rfl
   have x1 := M.c 0 1 rfl rfl
   have x2 := M.c 0 2 rfl rfl
   have HM := show Hid _ from M
   clear M
   go_wp2_with fail
   have M := HM.out
   clear HM c0 c1 c2 c3 c4 c5 c6 c7 c8 c9 c10 x0 x1 x2
   refine (J8 a1 a2 nv c1 na c2 v3 h1 h2 s.value φ _ _ (HG.out _ (M.below fun _ _ => trivial)).2.1).mono ?_
   rintro x w1 ⟨rfl, b1⟩
   replace M := M.call b1
   clear b1
   obtain ⟨b, hb⟩ : ∃ b, b = l6 nv na s.value := ⟨_, rfl⟩
   rw [← hb]
   have HB := show Hid _ from hb
   clear hb
   cases b
   ·have HP : Hid (f6 nv na (d + 1) s = false) := by rw [Hid, HP0.out, ← HB.out]; rfl
    clear HP0
    have c0 := M.c 1 0 rfl rfl
    have c1 := M.c 1 1 rfl rfl
    have c2 := M.c 1 2 rfl rfl
    have c3 := M.c 1 3 rfl rfl
    have c4 := M.c 1 4 rfl rfl
    have c5 := M.c 1 5 rfl rfl
    have c6 := M.c 1 6 rfl rfl
    have c7 := M.c 1 7 rfl rfl
    have c8 := M.c 1 8 rfl rfl
    have c9 := M.c 1 9 rfl rfl
    have c10 := M.c 1 10 rfl rfl
    have x0 := M.c 0 0 rfl rfl
    have x1 := M.c 0 1 rfl rfl
    have x2 := M.c 0 2 rfl rfl
    have HM := show Hid _ from M
    clear M
    go_wp2_with fail
    go_ret
    exact ⟨f7 (by rw [HP.out]), HM.out.below fun _ _ => trivial⟩
   ·have HP1 := show Hid (f6 nv na (d + 1) s = (s.body.all (f6 nv na d) && s.els.all (f6 nv na d))) from by rw [Hid, HP0.out, ← HB.out]; rfl
    clear HP0 HB
    have HP0 := show Hid (f6 nv na (d + 1) s = (s.body.all (f6 nv na d) && s.els.all (f6 nv na d))) from HP1.out
    clear HP1
    have c0 := M.c 1 0 rfl rfl
    have c1 := M.c 1 1 rfl rfl
    have c2 := M.c 1 2 rfl rfl
    have c3 := M.c 1 3 rfl rfl
    have c4 := M.c 1 4 rfl rfl
    have c5 := M.c 1 5 rfl rfl
    have c6 := M.c 1 6 rfl rfl
    have c7 := M.c 1 7 rfl rfl
    have c8 := M.c 1 8 rfl rfl
    have c9 := M.c 1 9 rfl rfl
    have c10 := M.c 1 10 rfl rfl
    have x0 := M.c 0 0 rfl rfl
    have x1 := M.c 0 1 rfl rfl
    have x2 := M.c 0 2 rfl rfl
    have HM := show Hid _ from M
    clear M
    go_wp2_with fail
    have M := HM.out
    clear HM c0 c1 c2 c3 c4 c5 c6 c7 c8 c9 c10 x0 x1 x2
    refine (ad5 a1 a2 nv c1 na c2 v3 d (by omega) ih s.body φ _ _ (HG.out _ (M.below fun _ _ => trivial)).2.2.1).mono ?_
    rintro x w1 ⟨rfl, b1⟩
    replace M := M.call b1
    clear b1
    obtain ⟨b, hb⟩ : ∃ b, b = s.body.all (f6 nv na d) := ⟨_, rfl⟩
    rw [← hb]
    have HB := show Hid _ from hb
    clear hb
    cases b
    ·have HP : Hid (f6 nv na (d + 1) s = false) := by rw [Hid, HP0.out, ← HB.out]; rfl
     clear HP0
     have c0 := M.c 1 0 rfl rfl
     have c1 := M.c 1 1 rfl rfl
     have c2 := M.c 1 2 rfl rfl
     have c3 := M.c 1 3 rfl rfl
     have c4 := M.c 1 4 rfl rfl
     have c5 := M.c 1 5 rfl rfl
     have c6 := M.c 1 6 rfl rfl
     have c7 := M.c 1 7 rfl rfl
     have c8 := M.c 1 8 rfl rfl
     have c9 := M.c 1 9 rfl rfl
     have c10 := M.c 1 10 rfl rfl
     have x0 := M.c 0 0 rfl rfl
     have x1 := M.c 0 1 rfl rfl
     have x2 := M.c 0 2 rfl rfl
     have HM := show Hid _ from M
     clear M
     go_wp2_with fail
     go_ret
     exact ⟨f7 (by rw [HP.out]), HM.out.below fun _ _ => trivial⟩
    ·have HP1 := show Hid (f6 nv na (d + 1) s = (s.els.all (f6 nv na d))) from by rw [Hid, HP0.out, ← HB.out]; rfl
     clear HP0 HB
     have HP0 := show Hid (f6 nv na (d + 1) s = (s.els.all (f6 nv na d))) from HP1.out
     clear HP1
     have c0 := M.c 1 0 rfl rfl
     have c1 := M.c 1 1 rfl rfl
     have c2 := M.c 1 2 rfl rfl
     have c3 := M.c 1 3 rfl rfl
     have c4 := M.c 1 4 rfl rfl
     have c5 := M.c 1 5 rfl rfl
     have c6 := M.c 1 6 rfl rfl
     have c7 := M.c 1 7 rfl rfl
     have c8 := M.c 1 8 rfl rfl
     have c9 := M.c 1 9 rfl rfl
     have c10 := M.c 1 10 rfl rfl
     have x0 := M.c 0 0 rfl rfl
     have x1 := M.c 0 1 rfl rfl
     have x2 := M.c 0 2 rfl rfl
     have HM := show Hid _ from M
     clear M
     go_wp2_with fail
     have M := HM.out
     clear HM c0 c1 c2 c3 c4 c5 c6 c7 c8 c9 c10 x0 x1 x2
     refine (ad5 a1 a2 nv c1 na c2 v3 d (by omega) ih s.els φ _ _ (HG.out _ (M.below fun _ _ => trivial)).2.2.2).mono ?_
     rintro x w1 ⟨rfl, b1⟩
     replace M := M.call b1
     clear b1
     have HP : Hid (f6 nv na (d + 1) s = (s.els.all (f6 nv na d))) := HP0.out
     clear HP0
     have HM := show Hid _ from M
     clear M
     go_wp2_with fail
     go_ret
     exact ⟨f7 (by rw [HP.out]), HM.out.below fun _ _ => trivial⟩
  have qn3 := qk
  clear qk
  by_cases qk : s.kind = 4
  ·have k1 : (s.kind == 1) = false := by simp [qk]
   have k5 : (s.kind == 5) = false := by simp [qk]
   have k2 : (s.kind == 2) = false := by simp [qk]
   have k3 : (s.kind == 3) = false := by simp [qk]
   have k4 : (s.kind == 4) = true := by simp [qk]
   have HP1 := show Hid (f6 nv na (d + 1) s = ((s.body.all (f6 nv na d)))) from by rw [Hid, HD.out, if_neg (by omega), if_neg (by omega), if_neg (by omega), if_pos qk]
   clear qk
   have HP0 := show Hid (f6 nv na (d + 1) s = ((s.body.all (f6 nv na d)))) from HP1.out
   clear HP1
   have c0 := M.c 1 0 rfl rfl
   have c1 := M.c 1 1 rfl rfl
   have c2 := M.c 1 2 rfl rfl
   have c3 := M.c 1 3 rfl rfl
   have c4 := M.c 1 4 rfl rfl
   have c5 := M.c 1 5 rfl rfl
   have c6 := M.c 1 6 rfl rfl
   have c7 := M.c 1 7 rfl rfl
   have c8 := M.c 1 8 rfl rfl
   have c9 := M.c 1 9 rfl rfl
   have c10 := M.c 1 10 rfl rfl
   have x0 := M.c 0 0 rfl rfl
   have x1 := M.c 0 1 rfl rfl
   have x2 := M.c 0 2 rfl rfl
   have HM := show Hid _ from M
   clear M
   go_wp2_with fail
   have M := HM.out
   clear HM c0 c1 c2 c3 c4 c5 c6 c7 c8 c9 c10 x0 x1 x2
   refine (ad5 a1 a2 nv c1 na c2 v3 d (by omega) ih s.body φ _ _ (HG.out _ (M.below fun _ _ => trivial)).2.2.1).mono ?_
   rintro x w1 ⟨rfl, b1⟩
   replace M := M.call b1
   clear b1
   have HP : Hid (f6 nv na (d + 1) s = (s.body.all (f6 nv na d))) := HP0.out
   clear HP0
   have HM := show Hid _ from M
   clear M
   go_wp2_with fail
   go_ret
   exact ⟨f7 (by rw [HP.out]), HM.out.below fun _ _ => trivial⟩
  have HP : Hid (f6 nv na (d + 1) s = false) := by rw [Hid, HD.out, if_neg (by omega), if_neg qn2, if_neg qn3, if_neg qk]
  have k1 : (s.kind == 1) = false := by simp [qn1]
  have k5 : (s.kind == 5) = false := by simp [qn5]
  have k2 : (s.kind == 2) = false := by simp [qn2]
  have k3 : (s.kind == 3) = false := by simp [qn3]
  have k4 : (s.kind == 4) = false := by simp [qk]
  clear HD qn1 qn5 qn2 qn3 qk
  have c0 := M.c 1 0 rfl rfl
  have c1 := M.c 1 1 rfl rfl
  have c2 := M.c 1 2 rfl rfl
  have c3 := M.c 1 3 rfl rfl
  have c4 := M.c 1 4 rfl rfl
  have c5 := M.c 1 5 rfl rfl
  have c6 := M.c 1 6 rfl rfl
  have c7 := M.c 1 7 rfl rfl
  have c8 := M.c 1 8 rfl rfl
  have c9 := M.c 1 9 rfl rfl
  have c10 := M.c 1 10 rfl rfl
  have x0 := M.c 0 0 rfl rfl
  have x1 := M.c 0 1 rfl rfl
  have x2 := M.c 0 2 rfl rfl
  have HM := show Hid _ from M
  clear M
  go_wp2_with fail
  go_ret
  exact ⟨f7 (by rw [HP.out]), HM.out.below fun _ _ => trivial⟩
section
variable {P : Program} {f : FuncId}
theorem ac8 {args : List AV} {S : List It} {x : Value} (h : ∀ (φ : Nat → Prop) (w : World) (ρ : Nat → Value), (∀ i d, s0 S i = .dat d → RD w φ d (ρ i)) → Calls P f (AV.vals ρ args).toArray w fun e w' => e = .returned x ∧ Below w.heap.size w w') : k6.ok P (F6 f args S (.v x)) := by
 intro ι φ ψ w0 w F ρ M
 refine (h (FrF φ (p7 F ρ (s0 S))) w ρ fun i d hi => M.datAt hi).mono ?_
 rintro e w' ⟨rfl, hb⟩
 exact ⟨ρ, fun _ _ => rfl, rfl, M.call hb⟩
end
theorem ak5 {w : World} {φ : Nat → Prop} {d : D} {v : Value} (h : RD w φ d v) : ∃ a cap, v = .slice a d.len cap ∧ d.len ≤ 9223372036854775807 := by
 obtain ⟨a, cap, h1, h2, h3, _⟩ := h.open
 unfold maxLen at h3
 exact ⟨a, cap, h1, by omega⟩
theorem B7 (l : Int) : k6.ok Tryz.prog (F6 192 [iA l] [] (bA (d8 l))) :=
 ac8 fun φ w ρ _ => (R6 l w).mono fun e w' h => ⟨h.1, h.2 ▸ Below.refl _ _⟩
theorem Q3 (l : Int) : k6.ok Tryz.prog (F6 105 [iA l] [] (bA (d8 l))) :=
 ac8 fun φ w ρ _ => (af1 l w).mono fun e w' h => ⟨h.1, h.2 ▸ Below.refl _ _⟩
theorem x9 (n lo hi : Int) : k6.ok Tryz.prog (F6 101 [iA n, iA lo, iA hi] [] (bA (decide (lo ≤ n) && decide (n ≤ hi)))) :=
 ac8 fun φ w ρ _ => (A4 n lo hi w).mono fun e w' h => ⟨h.1, h.2 ▸ Below.refl _ _⟩
theorem ay3 (p : d7) : k6.ok Tryz.prog (F6 129 [pA 0] (pS p) (bA (F4 p.vars p.arrays))) :=
 ac8 fun φ w ρ h => aT9 (ρ 0) (ρ 1) (ρ 2) _ _ w (z9.row (h 0 _ rfl)) (z9.row (h 1 _ rfl))
theorem aK9 (vs ars : List Int) : k6.ok Tryz.prog (F6 100 [.ref 0, .ref 1] [.dat (.ints vs), .dat (.ints ars)] (bA (F4 vs ars))) :=
 ac8 fun φ w ρ h => (aM8 (ρ 0) (ρ 1) _ _ w (z9.row (h 0 _ rfl)) (z9.row (h 1 _ rfl))).mono fun e w' h => ⟨h.1, h.2 ▸ Below.refl _ _⟩
theorem bq8 (p : d7) (e : b5) : k6.ok Tryz.prog (F6 233 [pA 0, eA e 3] (pS p ++ eS e) (bA (l6 p.vars.length p.arrays.length e))) :=
 ac8 fun φ w ρ h => by
  obtain ⟨a1, c1, h1, l1⟩ := ak5 (h 0 _ rfl)
  obtain ⟨a2, c2, h2, l2⟩ := ak5 (h 1 _ rfl)
  simp only [AV.vals, AV.val, h1, h2]
  exact J8 a1 a2 _ c1 _ c2 (ρ 2) l1 l2 e φ _ w ⟨_, rfl, h 3 _ rfl⟩
theorem R9 (p : d7) (e : b5) : k6.ok Tryz.prog (F6 227 [pA 0, eA e 3] (pS p ++ eS e) (bA (l6 p.vars.length p.arrays.length e))) :=
 ac8 fun φ w ρ h => by
  obtain ⟨a1, c1, h1, l1⟩ := ak5 (h 0 _ rfl)
  obtain ⟨a2, c2, h2, l2⟩ := ak5 (h 1 _ rfl)
  simp only [AV.vals, AV.val, h1, h2]
  exact bp3 a1 a2 _ c1 _ c2 (ρ 2) l1 l2 e φ _ w ⟨_, rfl, h 3 _ rfl⟩
theorem bq9 (p : d7) (ss : List b6) (n : Int) (hn : n = 5) : k6.ok Tryz.prog (F6 130 [pA 0, .ref 3, iA n] (pS p ++ [.dat (.stmts ss)]) (bA (ae6 p.vars.length p.arrays.length 5 ss))) :=
 ac8 fun φ w ρ h => by
  subst hn
  obtain ⟨a1, c1, h1, l1⟩ := ak5 (h 0 _ rfl)
  obtain ⟨a2, c2, h2, l2⟩ := ak5 (h 1 _ rfl)
  simp only [AV.vals, AV.val, h1, h2]
  exact ad5 a1 a2 _ c1 _ c2 (ρ 2) 5 (by omega) (bo9 a1 a2 _ c1 _ c2 (ρ 2) l1 l2 5 (by omega)) ss φ _ w (h 3 _ rfl)
theorem ay4 (e : b5) : k6.ok Tryz.prog (F6 228 [eA e 0] (eS e) (bA (atomB e))) :=
 ac8 fun φ w ρ h => au0 e.kind e.value (ρ 0) w
theorem aI3 (a b : List b6) : L8 (a ++ b) = L8 a + L8 b := by
 induction a with
 | nil => simp [L8]
 | cons x r ih => simp [L8, ih]; omega
theorem bo2 {ss : List b6} {k : Nat} (h : k < ss.length) : L8 (ss.take (k + 1)) = L8 (ss.take k) + nS ss[k] := by
 rw [r9 _ _ h, aI3]; simp [L8]
theorem a29 (ss : List b6) (k : Nat) : L8 (ss.take k) ≤ L8 ss := by
 have := aI3 (ss.take k) (ss.drop k)
 rw [List.take_append_drop] at this
 omega
theorem ap4 (s : b6) : nS s = 1 + L8 s.body + L8 s.els := by cases s; simp only [nS]; rfl
theorem ac5 {nv na d : Nat} {s : b6} (h : f6 nv na (d + 1) s = true) : s.body.all (f6 nv na d) = true ∧ s.els.all (f6 nv na d) = true := by
 rw [f6, b86] at h
 obtain ⟨h1, h2⟩ := h
 unfold z6 at h1
 by_cases k3 : s.kind = 3
 ·rw [if_neg (by omega), if_neg (by omega), if_pos k3] at h2
  simp only [b86] at h2
  exact ⟨h2.1.2, h2.2⟩
 by_cases k4 : s.kind = 4
 ·rw [if_neg (by omega), if_neg (by omega), if_neg (by omega), if_pos k4] at h2
  rw [if_pos (.inr k4), if_pos k4] at h1
  simp only [b86, decide_eq_true_eq] at h1
  exact ⟨h2, by rw [ca0 h1.2.1.1.1.1]; rfl⟩
 ·rw [if_neg (by omega)] at h1
  simp only [b86, decide_eq_true_eq] at h1
  exact ⟨by rw [ca0 h1.1.1.1]; rfl, by rw [ca0 h1.1.1.2]; rfl⟩
theorem aO7 (s : b6) : i5 s.body ≤ D7 s ∧ i5 s.els ≤ D7 s := by
 rcases s with ⟨_, _, _, _, _, b, e⟩
 simp only [D7, b6.body, b6.els]
 omega
theorem a46 {nv na : Nat} : ∀ {ss : List b6}, (∀ s ∈ ss, f6 nv na 1 s = true) → L8 ss = ss.length
 | [], _ => rfl
 | s :: r, h => by
  have h1 := ac5 (h s ca1)
  have key : ∀ l : List b6, l.all (f6 nv na 0) = true → l = [] := fun l hl => by
   cases l with
   | nil => rfl
   | cons a r => simp [f6] at hl
  have h2 := a46 (ss := r) fun x hx => h x (ca8 _ hx)
  rw [L8, ap4, key _ h1.1, key _ h1.2, h2]
  simp [L8]; omega
def i6 (x y : Int) : Int := IntKind.i64.wrap ((BitVec.ofInt (IntKind.bits .i64) x ||| BitVec.ofInt (IntKind.bits .i64) y).toNat : Int)
def a76 (x y : Int) : Int := IntKind.i64.wrap ((BitVec.ofInt (IntKind.bits .i64) x &&& BitVec.ofInt (IntKind.bits .i64) y).toNat : Int)
def a87 (x y : Int) : Int := IntKind.i64.wrap ((BitVec.ofInt (IntKind.bits .i64) x ^^^ BitVec.ofInt (IntKind.bits .i64) y).toNat : Int)
def anI (x y : Int) : Int := IntKind.i64.wrap ((BitVec.ofInt (IntKind.bits .i64) x &&& ~~~(BitVec.ofInt (IntKind.bits .i64) y)).toNat : Int)
theorem k6.dup {P : Program} {f : FuncId} {args args' : List AV} {S S' : List It} {d : D} {res : AV} {i : Nat} (hc : k6.ok P ⟨f, args, S ++ [.dat d], S' ++ [.dat d], res⟩) (hi : S[i]? = some (.dat d)) (hl : S'.length = S.length)
  (hS : S.all (fun x => W2 S.length x.ids) = true) (ha : ∀ ρ : Nat → Value, ρ S.length = ρ i → AV.vals ρ args = AV.vals ρ args') (hg : W2 S.length (AV.idsL args') = true) : k6.ok P ⟨f, args', S, S', res⟩ := by
 intro ι φ ψ w0 w F ρ M
 have hi' : s0 S i = .dat d := by simp [s0, hi]
 have hlt : i < S.length := (b98.1 hi).1
 have hinv : Inv (s0 S) ρ [S.length] := fun ρ' h j => by
  by_cases hj : j < S.length
  ·refine It.res_congr _ (fun k hk => h k ?_) (.inr (.inr (h j (by simp; omega))))
   have h1 := D0 (b93.1 hS (S[j]) (cb0 hj)) k (by simpa [s0, b91, b90 hj] using hk)
   simp; omega
  ·rw [show s0 S j = .none by simp only [s0, b91, cb5 (Nat.le_of_not_lt hj)]; rfl]; rfl
 obtain ⟨ρ', h1, M1, h2⟩ := M.newDat (id := S.length) (by simp [s0]) hinv (M.datAt hi')
 have e : o7 (s0 S) [(S.length, .dat d)] = s0 (S ++ [.dat d]) := by
  funext j
  simp only [o7, s0, b91]
  by_cases hj : j = S.length
  ·subst hj; simp
  ·rw [if_neg hj]
   by_cases hj2 : j < S.length
   ·rw [ca9 hj2]
   ·rw [cb5 (by omega), cb5 (by simp; omega)]
 rw [e] at M1
 have hρ : ρ' i = ρ i := h1 i (by simp; omega)
 have ea : AV.vals ρ args' = AV.vals ρ' args := by
  rw [ha ρ' (by rw [← h2, hρ])]
  exact (AV.vals_congr _ fun k hk => by
   have := D0 hg k hk
   exact h1 k (by simp; omega)).symm
 simp only
 rw [ea]
 refine (hc ι φ ψ w0 w F ρ' M1).mono ?_
 rintro x w' ⟨ρ2, g1, g2, M2⟩
 refine ⟨ρ2, fun k hk => ?_, g2, ?_⟩
 ·rw [g1 k (by simp; omega)]; exact h1 k (by simp; omega)
 ·refine M2.map (fun k => match k with | .inl i => some (.inl i) | .inr j => if j < S'.length then some (.inr j) else none) ?_ ?_
  ·intro k k' x h1 h2
   match k, k' with
   | .inl i, .inl i' => simp at h1 h2; rw [h1, h2]
   | .inl i, .inr j => simp at h1; subst h1; simp at h2
   | .inr j, .inl i => simp at h2; subst h2; simp at h1
   | .inr j, .inr j' => simp at h1 h2; rw [← h1.2] at h2; rw [Sum.inr.inj h2.2]
  ·intro k
   match k with
   | .inl i => exact .inl ⟨.inl i, rfl, rfl⟩
   | .inr j =>
    by_cases hj : j < S'.length
    ·refine .inl ⟨.inr j, by simp [hj], ?_⟩
     simp only [p7, s0, b91, ca9 hj]
    ·refine .inr ?_
     simp only [p7, s0, b91, cb5 (Nat.le_of_not_lt hj)]
     rfl
theorem G9 (e : b5) : k6.ok Tryz.prog ⟨229, [.agg [.v (.int .i64 e.kind), .v (.int .i64 e.value), .ref 0]], [.dat (.exprs e.kids)], [.dat (.exprs e.kids)], .v (.bool (noneB e))⟩ := by
  refine A2 17 Tryz.func229 [dE e.kids] [(0, eA e 0)] fun G => ?_; refine wp_seq (k8 G d9 [0, 1] [dE e.kids, .box (eL e 0)] [(1, .ptr 1 0), (2, bA false)] fun G => b7 (wp_seq ?_)); cases h0 : (e.kind == 0)
  · have q0 := ne_of_beq_false h0; refine k8 G (O2 (fc h0 (fc (b := false) rfl fz)) (us [(4, 6, 0), (1007, 1007, 0), (9, 12, 1), (1013, 1013, 1)])) [0] [dE e.kids] [(2, bA false)] fun G => b7 (wp_ret ?_); exact B5 false G [0] (by rw [Bool.eq_iff_iff]; simp [noneB, h0, q0]; done)
  ·
   have q0 := eq_of_beq h0; cases h1 : (e.value == 0)
   · have q1 := ne_of_beq_false h1; refine k8 G (O2 (fc h0 (fc h1 fz)) (us [(4, 6, 0), (1007, 1007, 0), (9, 12, 1), (1013, 1013, 1)])) [0] [dE e.kids] [(2, bA false)] fun G => b7 (wp_ret ?_); exact B5 false G [0] (by rw [Bool.eq_iff_iff]; simp [noneB, h0, q0, h1, q1]; done)
   · have q1 := eq_of_beq h1; refine k8 G (O2 (fc h0 (fc h1 fz)) (us [(4, 6, 0), (1007, 1007, 0), (9, 12, 1), (1013, 1013, 1)])) [0] [dE e.kids] [(2, bA ((e.kids.length : Int) == 0))] fun G => b7 (wp_ret ?_); exact B5 ((e.kids.length : Int) == 0) G [0] (by rw [Bool.eq_iff_iff]; simp [noneB, h0, q0, h1, q1]; done)
theorem br0 (k : Int) : k6.ok Tryz.prog ⟨261, [.v (.int .i64 k)], [], [], .v (.int .i64 (m9 k))⟩ := by
  refine A2 23 Tryz.func261 [] [(0, iA k)] fun G => ?_; refine wp_seq (l5 G d9 [(2, iA 0)] fun G => b7 (wp_seq (wp_block (wp_seq ?_)))); cases h0 : (k == 1)
  ·
   have q0 := ne_of_beq_false h0; refine l5 G (O2 (fc h0 fz) [(3, 0), (4, 0), (1005, 0)]) [(3, bA (k == 2))] fun G => b7 (P9 G (fun h1 q1 => ?_) fun h1 q1 => ?_)
   ·
    refine wp_seq (l5 G d9 [(10, bA (k == 3))] fun G => b7 (P9 G (fun h2 q2 => ?_) fun h2 q2 => ?_))
    ·
     refine wp_seq ?_; cases h3 : (decide (k ≥ 4))
     ·
      have q3 := dFf h3; refine l5 G (O2 (fc h3 fz) [(3, 0), (4, 0), (1005, 0)]) [(13, bA false)] fun G => b7 (rF G false (by kernel_rfl) (wp_seq (C9 G d9 [(2, iA 0), (20, bA (k == 11))] fun G => b7 ?_))); cases h4 : (k == 11)
      · have q4 := ne_of_beq_false h4; refine rF G _ h4 (wp_skip (m6 (b7 (wp_seq (l5 G d9 [(2, iA (-1))] fun G => b7 (wp_ret ?_)))))); exact J9 (-1) G [] (by unfold m9; (repeat' split) <;> omega)
      · have q4 := eq_of_beq h4; exact False.elim (by omega)
     ·
      have q3 := dTt h3; refine l5 G (O2 (fc h3 fz) [(3, 0), (4, 0), (1005, 0)]) [(13, bA (decide (k ≤ 10)))] fun G => b7 (O0 G (fun h5 q5 => ?_) fun h5 q5 => ?_)
      ·
       refine wp_seq (l5 G d9 [(20, bA (k == 11))] fun G => b7 (P9 G (fun h6 q6 => ?_) fun h6 q6 => ?_))
       · refine wp_skip (m6 (b7 (wp_seq (l5 G d9 [(2, iA (-1))] fun G => b7 (wp_ret ?_))))); exact J9 (-1) G [] (by unfold m9; (repeat' split) <;> omega)
       · refine wp_seq (l5 G d9 [(2, iA 3)] fun G => b7 (wp_ret (A0 (l7 ?_)))); exact J9 3 G [] (by unfold m9; (repeat' split) <;> omega)
      · refine wp_seq (l5 G d9 [(2, iA 2)] fun G => b7 (wp_ret (A0 (l7 ?_)))); exact J9 2 G [] (by unfold m9; (repeat' split) <;> omega)
    · refine wp_seq (l5 G d9 [(2, iA 1)] fun G => b7 (wp_ret (A0 (l7 ?_)))); exact J9 1 G [] (by unfold m9; (repeat' split) <;> omega)
   · refine wp_seq (l5 G d9 [] fun G => b7 (wp_ret (A0 (l7 ?_)))); exact J9 0 G [] (by unfold m9; (repeat' split) <;> omega)
  · have q0 := eq_of_beq h0; refine l5 G (O2 (fc h0 fz) [(3, 0), (4, 0), (1005, 0)]) [(3, bA true)] fun G => b7 (rT G true (by kernel_rfl) (wp_seq (l5 G d9 [] fun G => b7 (wp_ret (A0 (l7 ?_)))))); exact J9 0 G [] (by unfold m9; (repeat' split) <;> omega)
section
variable {nv na d : Nat} {e : b5}
end
def C6 : Nat → List b6 → Nat
 | 0, ss => ss.length
 | d + 1, ss => ss.length + (ss.map fun s => C6 d s.body + C6 d s.els).sum
def szP (d : Nat) (ss : List b6) (k : Nat) : Nat := ss.length + ((ss.take k).map fun s => C6 d s.body + C6 d s.els).sum
theorem bG1 (d : Nat) (ss : List b6) {k : Nat} (h : ss.length ≤ k) : szP d ss k = C6 (d + 1) ss := by unfold szP; rw [ca3 h, C6]
theorem G7 {d : Nat} {ss : List b6} {k : Nat} (h : k < ss.length) : szP d ss (k + 1) = szP d ss k + (C6 d (ss.getD k b85).body + C6 d (ss.getD k b85).els) := by
 unfold szP
 rw [F8 ss k h, List.map_append, List.sum_append, n6 h]
 simp; omega
theorem bu8 : ∀ (d : Nat) (ss : List b6), C6 d ss ≤ i5 ss := by
 intro d
 induction d with
 | zero => intro ss; exact C3 ss
 | succ d ih =>
  intro ss
  induction ss with
  | nil => simp [C6]
  | cons s r ihr =>
   have h1 := ih s.body
   have h2 := ih s.els
   have h3 := aO7 s
   simp only [C6, cb9, List.sum_cons, b87, i5] at ihr ⊢
   have h4 : i5 s.body + i5 s.els ≤ D7 s := by
    rcases s with ⟨_, _, _, _, _, b, e⟩
    simp only [D7, b6.body, b6.els]; omega
   omega
theorem R5 {d : Nat} {ss : List b6} {k : Nat} : szP d ss k ≤ i5 ss := by
 refine ca7 ?_ (bu8 (d + 1) ss)
 unfold szP
 rw [C6]
 have : ∀ (l : List Nat) (k : Nat), (l.take k).sum ≤ l.sum := fun l k => by
  have := List.sum_append (l₁ := l.take k) (l₂ := l.drop k)
  rw [List.take_append_drop] at this; omega
 have h := this (ss.map fun s => C6 d s.body + C6 d s.els) k
 rw [← List.map_take] at h
 omega
theorem bm1 {ss : List b6} {k B : Nat} (h : i5 ss ≤ B) (hk : k < ss.length) : i5 (ss.getD k b85).body ≤ B ∧ i5 (ss.getD k b85).els ≤ B := by
 rw [n6 hk]
 have h1 := I3 (cb0 hk)
 have h2 := aO7 ss[k]
 omega
theorem bq7 (ss : List b6) (n : Int) (hn : n = 1) (hb : i5 ss ≤ 1048576) : k6.ok Tryz.prog (F6 131 [.ref 0, iA n] [.dat (.stmts ss)] (iA (C6 0 ss : Nat))) := by
 have h100 : decide (n > 1) = false := by simp; omega
 refine A2 39 Tryz.func131 [dT ss] [(0, .ref 0), (1, iA n)] fun G => ?_; refine wp_seq (l5 G d9 [(4, iA 0)] fun G => b7 (wp_seq (l5 G d9 [(5, iA (ss.length : Int))] fun G => b7 (wp_seq (wp_seq (C9 G d9 [(0, .ref 0), (1, iA n), (4, iA 0), (5, iA (ss.length : Int)), (6, iA 0)] fun G => b7 (wp_block ?_))))))); refine o9 (κ := Nat) (fun k => k = 0) (fun k => 0) (fun k => [dT ss]) (fun k => [(0, .ref 0), (1, iA n), (4, iA 0), (5, iA (ss.length : Nat)), (6, iA k)]) 0 (by kernel_rfl) (s5.at G _ _) ?_; clear G; intro k ρ a w hp G; replace G := s5.at G [dT ss] [(0, .ref 0), (1, iA n), (4, iA 0), (5, iA (ss.length : Int)), (6, iA k)]; refine wp_seq (wp_seq ?_); cases h0 : (decide ((k : Int) < ss.length))
 ·have q0 := dFf h0; refine l5 G (O2 (fc h0 fz) [(5, 0), (6, 0), (1007, 0)]) [(16, bA false)] fun G => b7 (rF G false (by kernel_rfl) (wp_exit (o5 (o5 (n9 (b7 (wp_seq (l5 G d9 [(4, iA (ss.length : Int))] fun G => b7 (wp_ret ?_))))))))); exact F2 G [0]
 ·have q0 := dTt h0; refine l5 G (O2 (fc h0 fz) [(5, 0), (6, 0), (1007, 0)]) [(16, bA (decide (n > 1)))] fun G => b7 (rF G (decide (n > 1)) (by assumption) (wp_exit (o5 (o5 (n9 (b7 (wp_seq (l5 G d9 [(4, iA (ss.length : Int))] fun G => b7 (wp_ret ?_))))))))); exact F2 G [0]
theorem bq5 (d : Nat) (hd : d ≤ 5) (ih : ∀ (ss : List b6) (n : Int), n = (d + 1 : Nat) → i5 ss ≤ 1048576 → k6.ok Tryz.prog (F6 131 [.ref 0, iA n] [.dat (.stmts ss)] (iA (C6 d ss : Nat))))
  (ss : List b6) (n : Int) (hn : n = (d + 2 : Nat)) (hb : i5 ss ≤ 1048576) : k6.ok Tryz.prog (F6 131 [.ref 0, iA n] [.dat (.stmts ss)] (iA (C6 (d + 1) ss : Nat))) := by
 have h100 : decide (n > 1) = true := by simp; omega
 refine A2 39 Tryz.func131 [dT ss] [(0, .ref 0), (1, iA n)] fun G => ?_; refine wp_seq (l5 G d9 [(4, iA 0)] fun G => b7 (wp_seq (l5 G d9 [(5, iA (ss.length : Int))] fun G => b7 (wp_seq (wp_seq (C9 G d9 [(0, .ref 0), (1, iA n), (4, iA 0), (5, iA (ss.length : Int)), (6, iA 0)] fun G => b7 (wp_block ?_))))))); refine o9 (κ := Nat) (fun k => k ≤ ss.length) (fun k => ss.length - k) (fun k => [dT ss]) (fun k => [(0, .ref 0), (1, iA n), (4, iA 0), (5, iA (szP d ss k : Nat)), (6, iA k)]) 0 (by simp [h100]) (s5.at G _ _) ?_; clear G; intro k ρ a w hp G; replace G := s5.at G [dT ss] [(0, .ref 0), (1, iA n), (4, iA 0), (5, iA (↑(szP d ss k) : Int)), (6, iA k)]; have hlen := C3 ss; refine wp_seq (wp_seq ?_); cases h0 : (decide ((k : Int) < ss.length))
 ·have q0 := dFf h0; refine l5 G (O2 (fc h0 fz) [(5, 0), (6, 0), (1007, 0)]) [(16, bA false)] fun G => b7 (rF G false (by kernel_rfl) (wp_exit (o5 (o5 (n9 (b7 (wp_seq (l5 G d9 [(4, iA (↑(szP d ss k) : Int))] fun G => b7 (wp_ret ?_))))))))); exact J9 ((↑(szP d ss k) : Int)) G [0] (by have h1 := bG1 d ss (k := k) (by omega); omega)
 ·have q0 := dTt h0; refine l5 G (O2 (fc h0 fz) [(5, 0), (6, 0), (1007, 0)]) [(16, bA (decide (n > 1)))] fun G => b7 (rT G (decide (n > 1)) (by assumption) (wp_skip (b7 (wp_seq (wp_block (ah9 G (t6 (l8 8 [41] (ih ((ss.getD k b85).body) (n - 1) (by have h1 := G7 (d := d) (ss := ss) (k := k) (by omega); have h2 := R5 (d := d) (ss := ss) (k := k + 1); omega) ((bm1 hb (by omega)).1)) (l8 17 [113] (ih ((ss.getD k b85).els) (n - 1) (by have h1 := G7 (d := d) (ss := ss) (k := k) (by omega); have h2 := R5 (d := d) (ss := ss) (k := k + 1); omega) ((bm1 hb (by omega)).2)) t5)) fz []) [0, 0, 0, 6, 14, 30, 0, 64, 254, 511, 0, 0, 3072, 7168, 15360, 0, 32768, 130558, 262143, 524287] [(5, iA ((↑(szP d ss k) : Int) + (↑(C6 d (ss.getD k b85).body) : Int) + (↑(C6 d (ss.getD k b85).els) : Int)))] (iX k k ss.length ((wO (n - 1)) :: ((wO ((↑(szP d ss k) : Int) + (↑(C6 d (ss.getD k b85).body) : Int))) :: (iX k k ss.length ((wO (n - 1)) :: ((wO ((↑(szP d ss k) : Int) + (↑(C6 d (ss.getD k b85).body) : Int) + (↑(C6 d (ss.getD k b85).els) : Int))) :: [])))))) (iK (by have h1 := G7 (d := d) (ss := ss) (k := k) (by omega); have h2 := R5 (d := d) (ss := ss) (k := k + 1); omega) ⟨(by have h1 := G7 (d := d) (ss := ss) (k := k) (by omega); have h2 := R5 (d := d) (ss := ss) (k := k + 1); exact w64 (by omega) (by omega)), ⟨(by have h1 := G7 (d := d) (ss := ss) (k := k) (by omega); have h2 := R5 (d := d) (ss := ss) (k := k + 1); exact w64 (by omega) (by omega)), (iK (by have h1 := G7 (d := d) (ss := ss) (k := k) (by omega); have h2 := R5 (d := d) (ss := ss) (k := k + 1); omega) ⟨(by have h1 := G7 (d := d) (ss := ss) (k := k) (by omega); have h2 := R5 (d := d) (ss := ss) (k := k + 1); exact w64 (by omega) (by omega)), ⟨(by have h1 := G7 (d := d) (ss := ss) (k := k) (by omega); have h2 := R5 (d := d) (ss := ss) (k := k + 1); exact w64 (by omega) (by omega)), b94⟩⟩)⟩⟩) fun G => m6 (b7 (E2 G d9 [(6, iA ((k : Int) + 1))] [wO ((k : Int) + 1)] ⟨(by have h1 := G7 (d := d) (ss := ss) (k := k) (by omega); have h2 := R5 (d := d) (ss := ss) (k := k + 1); exact w64 (by omega) (by omega)), b94⟩ fun G => b7 ?_)))))))); exact M8 G (k + 1) (by have h1 := G7 (d := d) (ss := ss) (k := k) (by omega); have h2 := R5 (d := d) (ss := ss) (k := k + 1); omega) (by have h1 := G7 (d := d) (ss := ss) (k := k) (by omega); have h2 := R5 (d := d) (ss := ss) (k := k + 1); omega) [0] (ht := by have e1 : ((↑(szP d ss (k + 1)) : Int) : Int) = ((↑(szP d ss k) : Int) + (↑(C6 d (ss.getD k b85).body) : Int) + (↑(C6 d (ss.getD k b85).els) : Int)) := (by have h1 := G7 (d := d) (ss := ss) (k := k) (by omega); have h2 := R5 (d := d) (ss := ss) (k := k + 1); omega); (first | rw [e1] | simp only [e1]) <;> rfl)
theorem bq6 : ∀ d, d ≤ 5 → ∀ (ss : List b6) (n : Int), n = (d + 1 : Nat) → i5 ss ≤ 1048576 → k6.ok Tryz.prog (F6 131 [.ref 0, iA n] [.dat (.stmts ss)] (iA (C6 d ss : Nat))) := by
 intro d
 induction d with
 | zero => intro _ ss n hn hb; exact bq7 ss n (by omega) hb
 | succ d ih => intro hd ss n hn hb; exact bq5 d (by omega) (fun ss n hn hb => ih (by omega) ss n hn hb) ss n (by omega) hb
theorem bE1 (ss : List b6) (n : Int) (hn : n = 5) (hb : i5 ss ≤ 1048576) : k6.ok Tryz.prog (F6 131 [.ref 0, iA n] [.dat (.stmts ss)] (iA (C6 4 ss : Nat))) :=
 bq6 4 (by omega) ss n (by omega) hb
theorem bu9 {nv na : Nat} : ∀ (d : Nat) (ss : List b6), (∀ s ∈ ss, f6 nv na (d + 1) s = true) → C6 d ss = L8 ss := by
 intro d
 induction d with
 | zero => intro ss h; rw [a46 h]; rfl
 | succ d ih =>
  intro ss
  induction ss with
  | nil => intro _; rfl
  | cons s r ihr =>
   intro h
   have h1 := ac5 (h s ca1)
   have h2 := ih s.body fun x hx => b93.1 h1.1 x hx
   have h3 := ih s.els fun x hx => b93.1 h1.2 x hx
   have h4 := ihr fun x hx => h x (ca8 _ hx)
   rw [L8, ap4, ← h2, ← h3, ← h4]
   simp [C6]; omega
theorem az9 {p : d7} (h : F4 p.vars p.arrays = false) : m0 p = false := by simp [m0, h]
theorem a22 {p : d7} (h : ae6 p.vars.length p.arrays.length 5 p.body = false) : m0 p = false := by simp [m0, h]
theorem ba9 {p : d7} (h1 : F4 p.vars p.arrays = true) (h2 : ae6 p.vars.length p.arrays.length 5 p.body = true) : m0 p = decide ((C6 4 p.body : Int) ≤ 60) := by
 have h3 := bu9 (nv := p.vars.length) (na := p.arrays.length) 4 p.body (fun x hx => b93.1 h2 x hx)
 rw [m0, h1, h2, h3]
 simp
 exact ⟨fun h => by omega, fun h => by omega⟩
theorem a64 (p : d7) (n : Int) (hn : n = 5) : k6.ok Tryz.prog (F6 130 [pA 0, .ref 2, iA n] (pS p) (bA (ae6 p.vars.length p.arrays.length 5 p.body))) :=
 k6.dup (S := pS p) (S' := pS p) (d := .stmts p.body) (i := 2) (bq9 p p.body n hn) rfl rfl rfl (fun ρ h => by simp only [AV.vals, AV.val]; rw [show ρ 3 = ρ 2 from h]) rfl
theorem X4 (p : d7) (hb : i5 p.body ≤ 1048576) : k6.ok Tryz.prog (F6 62 [pA 0] (pS p) (bA (m0 p))) := by
  refine A2 17 Tryz.func62 [dI p.vars, dI p.arrays, dT p.body] [(0, pA 0)] fun G => ?_; refine wp_seq (k8 G d9 (rg 4) [dI p.vars, dI p.arrays, dT p.body, .box (pL 0)] [(1, .ptr 3 0), (2, bA false)] fun G => b7 (wp_seq ?_)); cases h0 : (F4 p.vars p.arrays)
  · refine k8 G (t6 (l8 1 [0, 1, 2] (ay3 p) t5) (fc h0 (fc (b := false) rfl fz)) (us [(3, 6, 0), (1007, 1007, 0), (9, 12, 1), (1013, 1013, 1)])) [0, 1, 2] [dI p.vars, dI p.arrays, dT p.body] [(2, bA false)] fun G => b7 (wp_ret ?_); exact B5 false G [0, 1, 2] (az9 (by assumption))
  ·
   cases h1 : (ae6 p.vars.length p.arrays.length (5 : Nat) p.body)
   · refine k8 G (t6 (l8 1 [0, 1, 2] (ay3 p) (l8 6 [0, 1, 2] (a64 p 5 (by kernel_rfl)) t5)) (fc h0 (fc h1 fz)) (us [(3, 6, 0), (1007, 1007, 0), (9, 12, 1), (1013, 1013, 1)])) [0, 1, 2] [dI p.vars, dI p.arrays, dT p.body] [(2, bA false)] fun G => b7 (wp_ret ?_); exact B5 false G [0, 1, 2] (a22 (by assumption))
   · refine k8 G (t6 (l8 1 [0, 1, 2] (ay3 p) (l8 6 [0, 1, 2] (a64 p 5 (by kernel_rfl)) (l8 11 [2] (bE1 p.body 5 (by kernel_rfl) (by assumption)) t5))) (fc h0 (fc h1 fz)) (us [(3, 6, 0), (1007, 1007, 0), (9, 12, 1), (1013, 1013, 1)])) [0, 1, 2] [dI p.vars, dI p.arrays, dT p.body] [(2, bA (decide ((↑(C6 4 p.body) : Int) ≤ 60)))] fun G => b7 (wp_ret ?_); exact B5 (decide ((↑(C6 4 p.body) : Int) ≤ 60)) G [0, 1, 2] (ba9 (by assumption) (by assumption))
def t7 (nv na : Nat) (s : b6) : Bool := z6 s &&
    (if s.kind = 1 ∨ s.kind = 5 then decide (0 ≤ s.target) && decide (s.target < nv) && l6 nv na s.value
     else if s.kind = 2 then decide (0 ≤ s.target) && decide (s.target < na) && l6 nv na s.index && atomB s.index && l6 nv na s.value
     else if s.kind = 3 then l6 nv na s.value
     else decide (s.kind = 4))
theorem D8 {nv na d : Nat} {s : b6} : f6 nv na (d + 1) s = (t7 nv na s && (s.body.all (f6 nv na d) && s.els.all (f6 nv na d))) := by
 rw [Bool.eq_iff_iff]
 constructor
 ·intro h
  have h1 := ac5 h
  rw [h1.1, h1.2, Bool.and_true, Bool.and_true]
  rw [f6, b86] at h
  rw [t7, h.1, Bool.true_and]
  obtain ⟨-, h⟩ := h
  split at h
  ·rw [if_pos (by assumption)]; exact h
  split at h
  ·rw [if_neg (by assumption), if_pos (by assumption)]; exact h
  split at h
  ·rw [if_neg (by assumption), if_neg (by assumption), if_pos (by assumption)]
   simp only [b86] at h; exact h.1.1
  split at h
  ·rw [if_neg (by assumption), if_neg (by assumption), if_neg (by assumption)]; simp [*]
  ·simp at h
 ·intro h
  simp only [b86] at h
  obtain ⟨h, hb, he⟩ := h
  rw [t7, b86] at h
  obtain ⟨h0, h⟩ := h
  rw [f6, h0, Bool.true_and]
  split at h
  ·rw [if_pos (by assumption)]; exact h
  split at h
  ·rw [if_neg (by assumption), if_pos (by assumption)]; exact h
  split at h
  ·rw [if_neg (by assumption), if_neg (by assumption), if_pos (by assumption), h, hb, he]; rfl
  ·rw [if_neg (by assumption), if_neg (by assumption), if_neg (by assumption), if_pos (by simpa using h), hb]
def A5 (F : Nat → b6 → Bool × Nat) : Nat → List b6 → Bool × Nat
 | c, [] => (true, c)
 | c, s :: r => if (F c s).1 then A5 F (F c s).2 r else F c s
def v5 (nv na : Nat) : Nat → Nat → b6 → Bool × Nat
 | 0, c, _ => (false, c + 1)
 | d + 1, c, s => if 60 < c + 1 then (false, c + 1) else if t7 nv na s then
   (if (A5 (v5 nv na d) (c + 1) s.body).1 then A5 (v5 nv na d) (A5 (v5 nv na d) (c + 1) s.body).2 s.els else A5 (v5 nv na d) (c + 1) s.body)
   else (false, c + 1)
abbrev l9 (nv na d c : Nat) (ss : List b6) : Bool × Nat := A5 (v5 nv na d) c ss
theorem ad7 (F : Nat → b6 → Bool × Nat) : ∀ (a b : List b6) (c : Nat), A5 F c (a ++ b) = if (A5 F c a).1 then A5 F (A5 F c a).2 b else A5 F c a
 | [], b, c => by simp [A5]
 | x :: r, b, c => by
  simp only [List.cons_append, A5]
  by_cases h : (F c x).1 = true
  ·simp only [h, if_true]; exact ad7 F r b _
  ·simp [h]
theorem ap9 {F : Nat → b6 → Bool × Nat} {c k : Nat} {ss : List b6} (h : (A5 F c (ss.take k)).1 = true) (hk : k < ss.length) : A5 F c (ss.take (k + 1)) = F (A5 F c (ss.take k)).2 (ss.getD k b85) := by
 rw [r9 _ _ hk, ad7, if_pos h, n6 hk]
 simp only [A5]
 split
 ·rename_i h; exact Prod.ext h.symm rfl
 ·rfl
theorem aJ8 {F : Nat → b6 → Bool × Nat} {c k : Nat} {ss : List b6} (h : (A5 F c (ss.take k)).1 = true) (hk : k < ss.length) (hf : (F (A5 F c (ss.take k)).2 (ss.getD k b85)).1 = false) : A5 F c ss = F (A5 F c (ss.take k)).2 (ss.getD k b85) := by
 conv => lhs; rw [← List.take_append_drop (k + 1) ss]
 rw [ad7, ap9 h hk, hf]
 rfl
theorem aJ9 {F : Nat → b6 → Bool × Nat} {c k : Nat} {ss : List b6} (hk : ss.length ≤ k) : A5 F c (ss.take k) = A5 F c ss := by rw [ca3 hk]
theorem au1 {F : Nat → b6 → Bool × Nat} (hF : ∀ c s, c ≤ 60 → (F c s).2 ≤ 61 ∧ ((F c s).1 = true → (F c s).2 ≤ 60)) : ∀ (ss : List b6) (c : Nat), c ≤ 60 → (A5 F c ss).2 ≤ 61 ∧ ((A5 F c ss).1 = true → (A5 F c ss).2 ≤ 60)
 | [], c, h => ⟨by simp only [A5]; omega, fun _ => by simp only [A5]; omega⟩
 | s :: r, c, h => by
  simp only [A5]
  by_cases h1 : (F c s).1 = true
  ·rw [if_pos h1]; exact au1 hF r _ ((hF c s h).2 h1)
  ·rw [if_neg h1]; exact hF c s h
theorem as4 {nv na : Nat} : ∀ (d c : Nat) (s : b6), c ≤ 60 → (v5 nv na d c s).2 ≤ 61 ∧ ((v5 nv na d c s).1 = true → (v5 nv na d c s).2 ≤ 60)
 | 0, c, s, h => by simp [v5]; omega
 | d + 1, c, s, h => by
  rw [v5]
  by_cases h1 : 60 < c + 1
  ·rw [if_pos h1]; simp; omega
  rw [if_neg h1]
  by_cases h2 : t7 nv na s = true
  ·rw [if_pos h2]
   have h3 := au1 (as4 (nv := nv) (na := na) d) s.body (c + 1) (by omega)
   by_cases h4 : (A5 (v5 nv na d) (c + 1) s.body).1 = true
   ·rw [if_pos h4]; exact au1 (as4 d) s.els _ (h3.2 h4)
   ·rw [if_neg h4]; exact h3
  ·rw [if_neg h2]; simp; omega
theorem O9 {nv na d c : Nat} {ss : List b6} (h : c ≤ 60) (h1 : (l9 nv na d c ss).1 = true) : (l9 nv na d c ss).2 ≤ 60 := (au1 (as4 d) ss c h).2 h1
section
variable {nv na d c : Nat} {s : b6}
theorem ao7 (h : 60 < c + 1) : v5 nv na d c s = (false, c + 1) := by cases d with
 | zero => rfl
 | succ d => rw [v5, if_pos h]
theorem i7 (h : t7 nv na s = false) : v5 nv na d c s = (false, c + 1) := by cases d with
 | zero => rfl
 | succ d => rw [v5, h]; simp
theorem C5 (h1 : c + 1 ≤ 60) (h : t7 nv na s = true) (h2 : (l9 nv na d (c + 1) s.body).1 = false) : v5 nv na (d + 1) c s = l9 nv na d (c + 1) s.body := by
 rw [v5, if_neg (by omega), if_pos h, if_neg (by simp [h2])]
theorem E8 (h1 : c + 1 ≤ 60) (h : t7 nv na s = true) (h2 : (l9 nv na d (c + 1) s.body).1 = true) : v5 nv na (d + 1) c s = l9 nv na d (l9 nv na d (c + 1) s.body).2 s.els := by
 rw [v5, if_neg (by omega), if_pos h, if_pos h2]
end
theorem au2 {nv na d : Nat} (hF : ∀ c s, c ≤ 60 → ((v5 nv na d c s).1 = (f6 nv na d s && decide (c + nS s ≤ 60))) ∧ ((v5 nv na d c s).1 = true → (v5 nv na d c s).2 = c + nS s)) : ∀ (ss : List b6) (c : Nat), c ≤ 60 → ((l9 nv na d c ss).1 = (ss.all (f6 nv na d) && decide (c + L8 ss ≤ 60))) ∧ ((l9 nv na d c ss).1 = true → (l9 nv na d c ss).2 = c + L8 ss)
 | [], c, h => by simp [A5, L8, h]
 | s :: r, c, h => by
  obtain ⟨h1, h2⟩ := hF c s h
  simp only [l9, A5]
  by_cases h3 : (v5 nv na d c s).1 = true
  ·rw [if_pos h3]
   have e := h2 h3
   have l := (as4 d c s h).2 h3
   obtain ⟨h4, h5⟩ := au2 hF r (v5 nv na d c s).2 l
   rw [h1, b86] at h3
   constructor
   ·rw [show A5 (v5 nv na d) (v5 nv na d c s).2 r = l9 nv na d (v5 nv na d c s).2 r from rfl, h4, List.all_cons, h3.1, Bool.true_and, e, L8, Nat.add_assoc]
   ·intro h6; rw [show A5 (v5 nv na d) (v5 nv na d c s).2 r = l9 nv na d (v5 nv na d c s).2 r from rfl, h5 h6, e, L8]; omega
  ·rw [if_neg h3]
   refine ⟨?_, fun h => absurd h h3⟩
   have h4 := h3
   rw [h1] at h4
   rw [Bool.eq_false_iff.2 h3, List.all_cons, L8]
   cases ha : f6 nv na d s
   ·simp
   ·rw [ha, Bool.true_and, decide_eq_true_eq] at h4
    rw [Bool.true_and, show decide (c + (nS s + L8 r) ≤ 60) = false from decide_eq_false (by omega), Bool.and_false]
theorem aG7 {nv na : Nat} : ∀ (d c : Nat) (s : b6), c ≤ 60 → ((v5 nv na d c s).1 = (f6 nv na d s && decide (c + nS s ≤ 60))) ∧ ((v5 nv na d c s).1 = true → (v5 nv na d c s).2 = c + nS s)
 | 0, c, s, h => by simp [v5, f6]
 | d + 1, c, s, h => by
  have hs := ap4 s
  by_cases h1 : 60 < c + 1
  ·rw [ao7 h1, show decide (c + nS s ≤ 60) = false from decide_eq_false (by omega), Bool.and_false]; simp
  cases h2 : t7 nv na s
  ·rw [i7 h2, D8, h2]; simp
  obtain ⟨b1, b2⟩ := au2 (aG7 (nv := nv) (na := na) d) s.body (c + 1) (by omega)
  rw [D8, h2, Bool.true_and]
  cases h3 : (l9 nv na d (c + 1) s.body).1
  ·rw [C5 (by omega) h2 h3, h3]
   refine ⟨?_, fun h => by simp at h⟩
   rw [h3] at b1
   cases h4 : s.body.all (f6 nv na d)
   ·simp
   ·rw [h4, Bool.true_and] at b1
    have := of_decide_eq_false b1.symm
    rw [show decide (c + nS s ≤ 60) = false from decide_eq_false (by omega), Bool.and_false]
  ·rw [E8 (by omega) h2 h3]
   have e := b2 h3
   have l := O9 (nv := nv) (na := na) (d := d) (c := c + 1) (by omega) h3
   obtain ⟨e1, e2⟩ := au2 (aG7 (nv := nv) (na := na) d) s.els _ l
   rw [h3] at b1
   have b3 := b1.symm
   rw [b86] at b3
   rw [b3.1, Bool.true_and, e1, e]
   refine ⟨by rw [show c + 1 + L8 s.body + L8 s.els = c + nS s by omega], fun h => ?_⟩
   have h' : (l9 nv na d (l9 nv na d (c + 1) s.body).2 s.els).1 = true := by rw [e1, e]; exact h
   have := e2 h'
   rw [e] at this
   rw [this]; omega
theorem a06 {p : d7} (h : F4 p.vars p.arrays = true) : (l9 p.vars.length p.arrays.length 5 0 p.body).1 = m0 p := by
 rw [(au2 (aG7 5) p.body 0 (by omega)).1, m0, h, Bool.true_and, ae6]; simp
theorem bL1 (p : d7) (s : b6) (c : Nat) (hc : c ≤ 60) (n : Int) (hn : n = 6) : k6.ok Tryz.prog ⟨186, [pA 0, sA s 4, iA n, .ptr 3 0], pS p ++ [.box [iA c]] ++ sS s, pS p ++ [.box [iA (v5 p.vars.length p.arrays.length 0 c s).2]] ++ sS s, bA false⟩ := by
 have h100 : decide (n > 5) = true := by simp; omega
 refine A2 149 Tryz.func186 [dI p.vars, dI p.arrays, dT p.body, .box [iA c], dE s.index.kids, dE s.value.kids, dT s.body, dT s.els] [(0, pA 0), (1, sA s 4), (2, iA n), (3, .ptr 3 0)] fun G => ?_; refine wp_seq (k8 G d9 [0, 1, 2, 3, 4, 5, 6, 7, 8, 16] [dI p.vars, dI p.arrays, dT p.body, .box [iA c], dE s.index.kids, dE s.value.kids, dT s.body, dT s.els, .box (pL 0), .box (sL s 4)] [(2, iA n), (3, .ptr 3 0), (4, .ptr 8 0), (5, .ptr 9 0), (8, bA false)] fun G => b7 (wp_seq (O1 G d9 (rg 10) [dI p.vars, dI p.arrays, dT p.body, .box [iA ((c : Int) + 1)], dE s.index.kids, dE s.value.kids, dT s.body, dT s.els, .box (pL 0), .box (sL s 4)] [(2, iA n), (3, .ptr 3 0), (4, .ptr 8 0), (5, .ptr 9 0), (8, bA false)] [wO ((c : Int) + 1)] (o1 (by omega)) fun G => b7 (wp_seq (wp_seq ?_))))); cases h0 : (decide ((c : Int) + 1 > 60))
 ·have q0 := dFf h0; refine l5 G (O2 (fc h0 fz) [(5, 0), (6, 0), (1007, 0)]) [(27, bA (decide (n > 5)))] fun G => b7 (rT G (decide (n > 5)) (by assumption) (wp_seq (l5 G d9 [] fun G => b7 (wp_ret (l7 ?_))))); exact F2 G (rg 8)
 ·have q0 := dTt h0; refine l5 G (O2 (fc h0 fz) [(5, 0), (6, 0), (1007, 0)]) [(27, bA true)] fun G => b7 (rT G true (by kernel_rfl) (wp_seq (l5 G d9 [] fun G => b7 (wp_ret (l7 ?_))))); exact F2 G (rg 8)
abbrev bO0 (p : d7) (d c : Nat) (s : b6) (n : Int) : k6 := ⟨186, [pA 0, sA s 4, iA n, .ptr 3 0], pS p ++ [.box [iA c]] ++ sS s, pS p ++ [.box [iA (v5 p.vars.length p.arrays.length d c s).2]] ++ sS s, bA (v5 p.vars.length p.arrays.length d c s).1⟩
abbrev a93 (p : d7) (d c : Nat) (ss : List b6) (n : Int) : k6 := ⟨125, [pA 0, .ref 4, iA n, .ptr 3 0], pS p ++ [.box [iA c]] ++ [.dat (.stmts ss)], pS p ++ [.box [iA (l9 p.vars.length p.arrays.length d c ss).2]] ++ [.dat (.stmts ss)], bA (l9 p.vars.length p.arrays.length d c ss).1⟩
theorem a57 (p : d7) (d : Nat) (hd : d ≤ 5) (ih : ∀ (s : b6) (c : Nat) (n : Int), c ≤ 60 → n = 6 - (d : Int) → k6.ok Tryz.prog (bO0 p d c s n))
    (ss : List b6) (c : Nat) (n : Int) (hc : c ≤ 60) (hn : n = 6 - (d : Int)) : k6.ok Tryz.prog (a93 p d c ss n) := by
  refine A2 24 Tryz.func125 [dI p.vars, dI p.arrays, dT p.body, .box [iA c], dT ss] [(0, pA 0), (1, .ref 4), (2, iA n), (3, .ptr 3 0)] fun G => ?_; refine wp_seq (k8 G d9 (rg 6) [dI p.vars, dI p.arrays, dT p.body, .box [iA c], dT ss, .box (pL 0)] [(1, .ref 4), (2, iA n), (3, .ptr 3 0), (4, .ptr 5 0), (8, bA false)] fun G => b7 (wp_seq (wp_seq (C9 G d9 [(2, iA n), (3, .ptr 3 0), (4, .ptr 5 0), (8, bA false), (11, .ref 4), (12, iA (ss.length : Int)), (13, iA 0)] fun G => b7 (wp_block ?_))))); have hlen : ss.length ≤ 9223372036854775807 := G.len 4 (d := .stmts ss) (by kernel_rfl); refine o9 (κ := Nat) (fun k => k ≤ ss.length ∧ (l9 p.vars.length p.arrays.length d c (ss.take k)).1 = true) (fun k => ss.length - k) (fun k => [dI p.vars, dI p.arrays, dT p.body, .box [iA (l9 p.vars.length p.arrays.length d c (ss.take k)).2], dT ss, .box (pL 0)]) (fun k => [(2, iA n), (3, .ptr 3 0), (4, .ptr 5 0), (8, bA false), (11, .ref 4), (12, iA (ss.length : Int)), (13, iA k)]) 0 (by simp [l9, A5]; done) (s5.at G _ _) ?_; clear G; intro k ρ a w hp G; replace G := s5.at G [dI p.vars, dI p.arrays, dT p.body, .box [iA ((l9 p.vars.length p.arrays.length d c (b96 k ss)).snd : Int)], dT ss, .box (pL 0)] [(2, iA n), (3, .ptr 3 0), (4, .ptr 5 0), (8, bA false), (11, .ref 4), (12, iA (ss.length : Int)), (13, iA k)]; refine wp_seq (l5 G d9 [(14, bA (decide ((k : Int) < ss.length)))] fun G => b7 (wp_seq (O0 G (fun h0 q0 => ?_) fun h0 q0 => ?_)))
  · refine wp_exit (o5 (o5 (n9 (b7 (wp_seq (k8 G d9 (rg 5) [dI p.vars, dI p.arrays, dT p.body, .box [iA ((l9 p.vars.length p.arrays.length d c (b96 k ss)).snd : Int)], dT ss] [(8, bA true)] fun G => b7 (wp_ret ?_))))))); exact B5 true G (rg 5) (by rw [l9, ← aJ9 (k := k) (by omega)]; exact hp.2) (by show _ = mR (rg 5) [dI p.vars, dI p.arrays, dT p.body, .box [iA ((l9 p.vars.length p.arrays.length d c ss).snd : Int)], dT ss]; have e1 : (((l9 p.vars.length p.arrays.length d c ss).snd : Int) : Int) = (((l9 p.vars.length p.arrays.length d c (b96 k ss)).snd : Int)) := (by rw [l9, ← aJ9 (k := k) (by omega)]); (first | rw [e1] | simp only [e1]) <;> rfl)
  ·
   refine wp_skip (b7 (wp_seq (wp_block (wp_seq (O1 G d9 [0, 1, 2, 3, 4, 5, 14, 15, 16, 17, 22] [dI p.vars, dI p.arrays, dT p.body, .box [iA ((l9 p.vars.length p.arrays.length d c (b96 k ss)).snd : Int)], dT ss, .box (pL 0), dE (ss.getD k b85).index.kids, dE (ss.getD k b85).value.kids, dT (ss.getD k b85).body, dT (ss.getD k b85).els, .box (sL (ss.getD k b85) 6)] [(2, iA n), (3, .ptr 3 0), (4, .ptr 5 0), (8, bA false), (10, .ptr 10 0), (11, .ref 4), (12, iA (ss.length : Int)), (13, iA k)] (iX k k ss.length []) (iK (by have hp := hp; omega) b94) fun G => b7 (wp_seq (k8 G (s6 4 [0, 1, 2, 3, 6, 7, 8, 9] (ih (ss.getD k b85) ((l9 p.vars.length p.arrays.length d c (b96 k ss)).snd) n (O9 (by omega) hp.2) (by assumption))) (rg 6) [dI p.vars, dI p.arrays, dT p.body, .box [iA ((v5 p.vars.length p.arrays.length d (l9 p.vars.length p.arrays.length d c (b96 k ss)).snd (ss.getD k b85)).snd : Int)], dT ss, .box (pL 0)] [(2, iA n), (3, .ptr 3 0), (4, .ptr 5 0), (8, bA false), (11, .ref 4), (12, iA (ss.length : Int)), (13, iA k), (22, .v (.bool !(v5 p.vars.length p.arrays.length d (l9 p.vars.length p.arrays.length d c (b96 k ss)).snd (ss.getD k b85)).fst))] fun G => b7 ?_))))))); cases h1 : (!(v5 p.vars.length p.arrays.length d (l9 p.vars.length p.arrays.length d c (b96 k ss)).snd (ss.getD k b85)).fst)
   · have q1 : ((v5 p.vars.length p.arrays.length d (l9 p.vars.length p.arrays.length d c (b96 k ss)).snd (ss.getD k b85)).fst) = true := (Eq.mp (b97 _) h1); refine rF G _ h1 (wp_skip (m6 (b7 (E2 G d9 [(13, iA ((k : Int) + 1))] [wO ((k : Int) + 1)] (o1 (by omega)) fun G => b7 ?_)))); exact M8 G (k + 1) (⟨by omega, by rw [l9, ap9 hp.2 (by omega)]; assumption⟩) (by have hp := hp; omega) (rg 6) (by have e1 : (((l9 p.vars.length p.arrays.length d c (b96 (k + 1) ss)).snd : Int) : Int) = (((v5 p.vars.length p.arrays.length d (l9 p.vars.length p.arrays.length d c (b96 k ss)).snd (ss.getD k b85)).snd : Int)) := (by rw [l9, ap9 hp.2 (by omega)]); (first | rw [e1] | simp only [e1]) <;> rfl)
   · have q1 : ((v5 p.vars.length p.arrays.length d (l9 p.vars.length p.arrays.length d c (b96 k ss)).snd (ss.getD k b85)).fst) = false := (Eq.mp (b95 _) h1); refine rT G _ h1 (wp_seq (l5 G d9 [] fun G => b7 (wp_ret (A0 (l7 (l7 (A0 (l7 ?_)))))))); exact B5 false G (rg 5) (by rw [l9, aJ8 hp.2 (by omega) (by assumption)]; assumption) (by show _ = mR (rg 5) [dI p.vars, dI p.arrays, dT p.body, .box [iA ((l9 p.vars.length p.arrays.length d c ss).snd : Int)], dT ss]; have e1 : (((l9 p.vars.length p.arrays.length d c ss).snd : Int) : Int) = (((v5 p.vars.length p.arrays.length d (l9 p.vars.length p.arrays.length d c (b96 k ss)).snd (ss.getD k b85)).snd : Int)) := (by rw [l9, aJ8 hp.2 (by omega) (by assumption)]); (first | rw [e1] | simp only [e1]) <;> rfl)
section
variable {nv na : Nat} {s : b6}
theorem A1 (k : s.kind = 1 ∨ s.kind = 5) : t7 nv na s = (decide (0 ≤ s.target ∧ s.target < nv ∧ s.body.length = 0 ∧ s.els.length = 0 ∧ s.count = 0) && (noneB s.index && l6 nv na s.value)) := by
 rw [t7, z6, if_pos k, if_neg (by omega), show decide (s.kind = 2) = false from decide_eq_false (by omega), Bool.eq_iff_iff]
 simp only [b86, decide_eq_true_eq, Bool.false_or]
 constructor
 ·rintro ⟨⟨⟨⟨a, b⟩, c⟩, d⟩, ⟨e, f⟩, g⟩; exact ⟨⟨e, f, a, b, c⟩, d, g⟩
 ·rintro ⟨⟨e, f, a, b, c⟩, d, g⟩; exact ⟨⟨⟨⟨a, b⟩, c⟩, d⟩, ⟨e, f⟩, g⟩
theorem I7 (k : s.kind = 2) : t7 nv na s = (decide (0 ≤ s.target ∧ s.target < na ∧ s.body.length = 0 ∧ s.els.length = 0 ∧ s.count = 0) && (l6 nv na s.index && (atomB s.index && l6 nv na s.value))) := by
 rw [t7, z6, if_neg (by omega), if_pos k, if_neg (by omega), show decide (s.kind = 2) = true from decide_eq_true k, Bool.eq_iff_iff]
 simp only [b86, decide_eq_true_eq, Bool.true_or]
 constructor
 ·rintro ⟨⟨⟨⟨a, b⟩, c⟩, -⟩, ⟨⟨⟨e, f⟩, i⟩, j⟩, g⟩; exact ⟨⟨e, f, a, b, c⟩, i, j, g⟩
 ·rintro ⟨⟨e, f, a, b, c⟩, i, j, g⟩; exact ⟨⟨⟨⟨a, b⟩, c⟩, b94⟩, ⟨⟨⟨e, f⟩, i⟩, j⟩, g⟩
theorem W7 (k : s.kind = 3) : t7 nv na s = (decide (s.target = 0 ∧ s.count = 0) && (noneB s.index && l6 nv na s.value)) := by
 rw [t7, z6, if_pos (show s.kind = 3 ∨ s.kind = 4 from .inl k), if_neg (show ¬ s.kind = 4 by omega), if_neg (by omega), if_neg (by omega), if_pos k, Bool.eq_iff_iff]
 simp only [b86, decide_eq_true_eq]
 constructor
 ·rintro ⟨⟨a, b, c⟩, d⟩; exact ⟨⟨a, b⟩, c, d⟩
 ·rintro ⟨⟨a, b⟩, c, d⟩; exact ⟨⟨a, b, c⟩, d⟩
theorem T2 (k : s.kind = 4) : t7 nv na s = (decide (s.target = 0 ∧ s.els.length = 0 ∧ 1 ≤ s.count ∧ s.count ≤ 3) && (noneB s.index && noneB s.value)) := by
 rw [t7, z6, if_pos (show s.kind = 3 ∨ s.kind = 4 from .inr k), if_pos k, if_neg (by omega), if_neg (by omega), if_neg (by omega), show decide (s.kind = 4) = true from decide_eq_true k, Bool.eq_iff_iff]
 simp only [b86, decide_eq_true_eq]
 constructor
 ·rintro ⟨⟨a, ⟨⟨⟨b, c⟩, d⟩, e⟩, f⟩, -⟩; exact ⟨⟨a, b, c, d⟩, e, f⟩
 ·rintro ⟨⟨a, b, c, d⟩, e, f⟩; exact ⟨⟨a, ⟨⟨⟨b, c⟩, d⟩, e⟩, f⟩, b94⟩
theorem an0 (k : ¬ s.kind = 1 ∧ ¬ s.kind = 2 ∧ ¬ s.kind = 3 ∧ ¬ s.kind = 4 ∧ ¬ s.kind = 5) : t7 nv na s = false := by
 rw [t7, if_neg (by omega), if_neg (by omega), if_neg (by omega), show decide (s.kind = 4) = false from decide_eq_false (by omega), Bool.and_false]
theorem T4 {p : Prop} [Decidable p] {a b : Bool} (hp : p) (ha : a = true) (hb : b = true) : (decide p && (a && b)) = true := by rw [ha, hb, decide_eq_true hp]; rfl
theorem aY9 {p : Prop} [Decidable p] {a b c : Bool} (hp : p) (ha : a = true) (hb : b = true) (hc : c = true) : (decide p && (a && (b && c))) = true := by rw [ha, hb, hc, decide_eq_true hp]; rfl
end
abbrev am5 (p : d7) (d : Nat) (s : b6) (c : Nat) := l9 p.vars.length p.arrays.length d (l9 p.vars.length p.arrays.length d (c + 1) s.body).snd s.els
abbrev am4 (p : d7) (d : Nat) (s : b6) (c : Nat) := l9 p.vars.length p.arrays.length d (c + 1) s.body
abbrev m7 (p : d7) (d : Nat) (s : b6) (c : Nat) : List It := [dI p.vars, dI p.arrays, dT p.body, .box [iA ((v5 p.vars.length p.arrays.length (d + 1) c s).snd : Int)], dE s.index.kids, dE s.value.kids, dT s.body, dT s.els]
abbrev aa2 (s : b6) (r0 : List It) : List It := dE s.index.kids :: dE s.value.kids :: dT s.body :: dT s.els :: r0
abbrev aa1 (p : d7) (r0 : List It) : List It := dI p.vars :: dI p.arrays :: dT p.body :: r0
theorem bL0 (p : d7) (d : Nat) (hd : d ≤ 4) (ih : ∀ (ss : List b6) (c : Nat) (n : Int), c ≤ 60 → n = 6 - (d : Int) → k6.ok Tryz.prog (a93 p d c ss n))
    (s : b6) (c : Nat) (n : Int) (hc : c ≤ 60) (hn : n = 5 - (d : Int)) : k6.ok Tryz.prog (bO0 p (d + 1) c s n) := by
  have h100 : decide (n > 5) = false := by simp; omega
  refine A2 149 Tryz.func186 (aa1 p (.box [iA c] :: (aa2 s []))) [(0, pA 0), (1, sA s 4), (2, iA n), (3, .ptr 3 0)] fun G => ?_; have hl0 : p.vars.length ≤ 9223372036854775807 := G.len 0 (d := .ints p.vars) (by kernel_rfl); have hl1 : p.arrays.length ≤ 9223372036854775807 := G.len 1 (d := .ints p.arrays) (by kernel_rfl); refine wp_seq (k8 G d9 [0, 1, 2, 3, 4, 5, 6, 7, 8, 16] (aa1 p (.box [iA c] :: (aa2 s [.box (pL 0), .box (sL s 4)]))) [(2, iA n), (3, .ptr 3 0), (4, .ptr 8 0), (5, .ptr 9 0), (8, bA false)] fun G => b7 (wp_seq (O1 G d9 (rg 10) (aa1 p (.box [iA ((c : Int) + 1)] :: (aa2 s [.box (pL 0), .box (sL s 4)]))) [(2, iA n), (3, .ptr 3 0), (4, .ptr 8 0), (5, .ptr 9 0), (8, bA false)] [wO ((c : Int) + 1)] (o1 (by omega)) fun G => b7 (wp_seq (wp_seq ?_))))); cases h0 : (decide ((c : Int) + 1 > 60))
  ·
   have q0 := dFf h0; refine l5 G (O2 (fc h0 fz) [(5, 0), (6, 0), (1007, 0)]) [(27, bA (decide (n > 5)))] fun G => b7 (rF G (decide (n > 5)) (by assumption) (wp_skip (b7 (wp_seq (l5 G d9 [(9, iA 1), (10, bA false), (11, bA true), (12, bA false), (13, bA false), (14, bA false)] fun G => b7 (wp_seq (wp_seq (l5 G d9 [(29, iA s.kind)] fun G => b7 (wp_block (wp_seq (wp_seq (l5 G d9 [(30, bA (s.kind == 1))] fun G => b7 (P9 G (fun h1 q1 => ?_) fun h1 q1 => ?_)))))))))))))
   ·
    refine l5 G d9 [(30, bA (s.kind == 5))] fun G => b7 (P9 G (fun h2 q2 => ?_) fun h2 q2 => ?_)
    ·
     refine wp_seq (l5 G d9 [(36, bA (s.kind == 2))] fun G => b7 (P9 G (fun h3 q3 => ?_) fun h3 q3 => ?_))
     ·
      refine wp_seq (l5 G d9 [(41, bA (s.kind == 3))] fun G => b7 (P9 G (fun h4 q4 => ?_) fun h4 q4 => ?_))
      ·
       refine wp_seq (l5 G d9 [(43, bA (s.kind == 4))] fun G => b7 (P9 G (fun h5 q5 => ?_) fun h5 q5 => ?_))
       · refine wp_seq (l5 G d9 [] fun G => b7 (wp_ret (A0 (l7 ?_)))); exact B5 false G (rg 8) (by rw [i7 (an0 (by omega))]; done) (by show _ = mR (rg 8) (m7 p d s c); unfold m7; rw [i7 (an0 (by omega))] <;> rfl)
       ·
        refine l5 G d9 [(11, bA false), (12, bA true), (13, bA true)] fun G => m6 (b7 (wp_seq (wp_seq ?_))); cases h6 : (!(decide ((0 : Int) ≤ s.target) && decide (s.target ≤ 0)))
        ·
         have q6 : (0 ≤ s.target) ∧ (s.target ≤ 0) := (fun hq => And.imp (fun hq => of_decide_eq_true hq) (fun hq => of_decide_eq_true hq) (ca6.1 hq)) (Eq.mp (b97 _) h6); cases h7 : (!(decide ((1 : Int) ≤ s.count) && decide (s.count ≤ 3)))
         ·
          have q7 : (1 ≤ s.count) ∧ (s.count ≤ 3) := (fun hq => And.imp (fun hq => of_decide_eq_true hq) (fun hq => of_decide_eq_true hq) (ca6.1 hq)) (Eq.mp (b97 _) h7); refine E2 G (t6 (l8 4 [] (x9 s.target 0 0) (l8 11 [] (x9 s.count 1 3) t5)) (fc h6 (fc (b := true) rfl (fc h7 (fc (b := false) rfl fz)))) (us [(7, 8, 0), (9, 12, 1), (13, 13, 0), (1013, 1013, 1), (1014, 1014, 0), (16, 18, 2), (19, 21, 3), (22, 22, 2), (1022, 1022, 3), (1023, 1023, 2), (25, 32, 3), (1032, 1033, 3), (35, 37, 3), (38, 41, 1), (42, 42, 3), (1042, 1042, 1), (1043, 1043, 3)])) [(88, bA (decide ((s.els.length : Int) > 0)))] [IntKind.i64.wrap ((1 : Int) - 1) = 1 - 1] ⟨(by kernel_rfl), b94⟩ fun G => b7 (O0 G (fun h8 q8 => ?_) fun h8 q8 => ?_)
          ·
           refine wp_skip (b7 (wp_seq (wp_seq ?_))); cases h9 : (!noneB s.index)
           ·
            have q9 : (noneB s.index) = true := (Eq.mp (b97 _) h9); refine l5 G (t6 (l8 20 [4] (G9 s.index) (l8 40 [5] (G9 s.value) t5)) (fc (b := false) rfl (fc (b := true) rfl (fc h9 fz))) (us [(2, 7, 0), (12, 12, 0), (1013, 1013, 0), (15, 17, 0), (18, 21, 1), (22, 22, 0), (1022, 1022, 1), (1023, 1023, 0), (25, 26, 2), (27, 31, 0), (32, 32, 2), (1032, 1032, 0), (1033, 1033, 2), (35, 37, 0), (38, 41, 1), (42, 42, 0), (1042, 1042, 1), (1043, 1043, 0)])) [(132, .v (.bool !noneB s.value))] fun G => b7 ?_; cases h10 : (!noneB s.value)
            ·
             have q10 : (noneB s.value) = true := (Eq.mp (b97 _) h10); refine rF G _ h10 (wp_skip (b7 (wp_seq ?_))); cases h11 : ((l9 p.vars.length p.arrays.length d (c + (1 : Nat)) s.body).fst)
             · refine O1 G (t6 (l8 6 [0, 1, 2, 3, 6] (ih s.body (c + 1) (n + 1) (by simp; omega) (by omega)) t5) (fc h11 fz) (us [(8, 14, 0), (1015, 1015, 0)])) (rg 8) (aa1 p (.box [iA ((am4 p d s c).snd : Int)] :: (aa2 s []))) [(8, bA false)] [wO (n + 1)] (o1 (by omega)) fun G => b7 (wp_ret ?_); exact B5 false G (rg 8) (by rw [C5 (by omega) (by (rw [T2 (by omega)]; exact T4 (by omega) (by assumption) (by assumption))) (by assumption)]; assumption) (by show _ = mR (rg 8) (m7 p d s c); unfold m7; rw [C5 (by omega) (by (rw [T2 (by omega)]; exact T4 (by omega) (by assumption) (by assumption))) (by assumption)] <;> rfl)
             · refine O1 G (t6 (l8 6 [0, 1, 2, 3, 6] (ih s.body (c + 1) (n + 1) (by simp; omega) (by omega)) (l8 14 [0, 1, 2, 3, 7] (ih s.els ((am4 p d s c).snd) (n + 1) (O9 (by omega) (by assumption)) (by omega)) t5)) (fc h11 fz) (us [(8, 14, 0), (1015, 1015, 0)])) (rg 8) (aa1 p (.box [iA ((am5 p d s c).snd : Int)] :: (aa2 s []))) [(8, bA (am5 p d s c).fst)] [wO (n + 1), wO (n + 1)] (o2 (by omega)) fun G => b7 (wp_ret ?_); exact B5 ((l9 p.vars.length p.arrays.length d (l9 p.vars.length p.arrays.length d (c + 1) s.body).snd s.els).fst) G (rg 8) (by rw [E8 (by omega) (by (rw [T2 (by omega)]; exact T4 (by omega) (by assumption) (by assumption))) (by assumption)]; done) (by show _ = mR (rg 8) (m7 p d s c); unfold m7; rw [E8 (by omega) (by (rw [T2 (by omega)]; exact T4 (by omega) (by assumption) (by assumption))) (by assumption)] <;> rfl)
            · have q10 : (noneB s.value) = false := (Eq.mp (b95 _) h10); refine rT G _ h10 (wp_seq (l5 G d9 [] fun G => b7 (wp_ret (l7 ?_)))); exact B5 false G (rg 8) (by rw [i7 (by (rw [T2 (by omega)]; simp [h100, h0, q0, h1, q1, h2, q2, h3, q3, h4, q4, h5, q5, h6, q6, h7, q7, h8, q8, h9, q9, h10, q10]; done))]; done) (by show _ = mR (rg 8) (m7 p d s c); unfold m7; rw [i7 (by (rw [T2 (by omega)]; simp [h100, h0, q0, h1, q1, h2, q2, h3, q3, h4, q4, h5, q5, h6, q6, h7, q7, h8, q8, h9, q9, h10, q10]; done))] <;> rfl)
           · have q9 : (noneB s.index) = false := (Eq.mp (b95 _) h9); refine l5 G (t6 (l8 20 [4] (G9 s.index) t5) (fc (b := false) rfl (fc (b := true) rfl (fc h9 fz))) (us [(2, 7, 0), (12, 12, 0), (1013, 1013, 0), (15, 17, 0), (18, 21, 1), (22, 22, 0), (1022, 1022, 1), (1023, 1023, 0), (25, 26, 2), (32, 32, 2), (1033, 1033, 2), (35, 37, 1), (42, 42, 1), (1043, 1043, 1)])) [(132, bA true)] fun G => b7 (rT G true (by kernel_rfl) (wp_seq (l5 G d9 [] fun G => b7 (wp_ret (l7 ?_))))); exact B5 false G (rg 8) (by rw [i7 (by (rw [T2 (by omega)]; simp [h100, h0, q0, h1, q1, h2, q2, h3, q3, h4, q4, h5, q5, h6, q6, h7, q7, h8, q8, h9, q9]; done))]; done) (by show _ = mR (rg 8) (m7 p d s c); unfold m7; rw [i7 (by (rw [T2 (by omega)]; simp [h100, h0, q0, h1, q1, h2, q2, h3, q3, h4, q4, h5, q5, h6, q6, h7, q7, h8, q8, h9, q9]; done))] <;> rfl)
          · refine wp_seq (l5 G d9 [] fun G => b7 (wp_ret (l7 ?_))); exact B5 false G (rg 8) (by rw [i7 (by (rw [T2 (by omega), decide_eq_false (by omega)]; rfl))]; done) (by show _ = mR (rg 8) (m7 p d s c); unfold m7; rw [i7 (by (rw [T2 (by omega), decide_eq_false (by omega)]; rfl))] <;> rfl)
         · have q7 : (¬ (1 ≤ s.count)) ∨ (¬ (s.count ≤ 3)) := (fun hq => Or.imp (fun hq => of_decide_eq_false hq) (fun hq => of_decide_eq_false hq) (ca4.1 hq)) (Eq.mp (b95 _) h7); refine E2 G (t6 (l8 4 [] (x9 s.target 0 0) (l8 11 [] (x9 s.count 1 3) t5)) (fc h6 (fc (b := true) rfl (fc h7 fz))) (us [(7, 8, 0), (9, 12, 1), (13, 13, 0), (1013, 1013, 1), (1014, 1014, 0), (16, 18, 2), (22, 22, 2), (1023, 1023, 2), (25, 27, 1), (32, 32, 1), (1033, 1033, 1), (35, 37, 1), (42, 42, 1), (1043, 1043, 1)])) [(88, bA true)] [IntKind.i64.wrap ((1 : Int) - 1) = 1 - 1] ⟨(by kernel_rfl), b94⟩ fun G => b7 (rT G true (by kernel_rfl) (wp_seq (l5 G d9 [] fun G => b7 (wp_ret (l7 ?_))))); exact B5 false G (rg 8) (by rw [i7 (by (rw [T2 (by omega), decide_eq_false (by omega)]; rfl))]; done) (by show _ = mR (rg 8) (m7 p d s c); unfold m7; rw [i7 (by (rw [T2 (by omega), decide_eq_false (by omega)]; rfl))] <;> rfl)
        · have q6 : (¬ (0 ≤ s.target)) ∨ (¬ (s.target ≤ 0)) := (fun hq => Or.imp (fun hq => of_decide_eq_false hq) (fun hq => of_decide_eq_false hq) (ca4.1 hq)) (Eq.mp (b95 _) h6); refine E2 G (t6 (l8 4 [] (x9 s.target 0 0) t5) (fc h6 (fc (b := true) rfl fz)) [(7, 0), (8, 0), (13, 0), (1014, 0), (16, 1), (17, 1), (18, 1), (22, 1), (1023, 1), (25, 1), (26, 1), (27, 1), (32, 1), (1033, 1), (35, 1), (36, 1), (37, 1), (42, 1), (1043, 1)]) [(88, bA true)] [IntKind.i64.wrap ((1 : Int) - 1) = 1 - 1] ⟨(by kernel_rfl), b94⟩ fun G => b7 (rT G true (by kernel_rfl) (wp_seq (l5 G d9 [] fun G => b7 (wp_ret (l7 ?_))))); exact B5 false G (rg 8) (by rw [i7 (by (rw [T2 (by omega), decide_eq_false (by omega)]; rfl))]; done) (by show _ = mR (rg 8) (m7 p d s c); unfold m7; rw [i7 (by (rw [T2 (by omega), decide_eq_false (by omega)]; rfl))] <;> rfl)
      ·
       refine l5 G d9 [(13, bA true), (14, bA true)] fun G => m6 (b7 (wp_seq (wp_seq ?_))); cases h12 : (!(decide ((0 : Int) ≤ s.target) && decide (s.target ≤ 0)))
       ·
        have q12 : (0 ≤ s.target) ∧ (s.target ≤ 0) := (fun hq => And.imp (fun hq => of_decide_eq_true hq) (fun hq => of_decide_eq_true hq) (ca6.1 hq)) (Eq.mp (b97 _) h12); cases h13 : (s.count != 0)
        ·
         have q13 := bne_eq_false_iff_eq.1 h13; refine E2 G (t6 (l8 4 [] (x9 s.target 0 0) t5) (fc h12 (fc (b := false) rfl (fc (b := true) rfl (fc h13 fz)))) (us [(7, 8, 0), (9, 12, 1), (13, 13, 0), (1013, 1013, 1), (1014, 1014, 0), (16, 18, 1), (19, 21, 2), (22, 22, 1), (1022, 1022, 2), (1023, 1023, 1), (25, 27, 3), (28, 31, 1), (32, 32, 3), (1032, 1032, 1), (1033, 1033, 3), (35, 42, 1), (1042, 1043, 1)])) [(88, bA false)] [IntKind.i64.wrap ((1 : Int) - 1) = 1 - 1] ⟨(by kernel_rfl), b94⟩ fun G => b7 (rF G false (by kernel_rfl) (wp_skip (b7 (wp_seq (wp_seq ?_))))); cases h14 : (!noneB s.index)
         ·
          have q14 : (noneB s.index) = true := (Eq.mp (b97 _) h14); cases h15 : (!l6 p.vars.length p.arrays.length s.value)
          ·
           have q15 : (l6 p.vars.length p.arrays.length s.value) = true := (Eq.mp (b97 _) h15); refine l5 G (t6 (l8 20 [4] (G9 s.index) (l8 30 [0, 1, 2, 5] (R9 p s.value) t5)) (fc (b := false) rfl (fc (b := true) rfl (fc h14 (fc h15 fz)))) (us [(2, 7, 0), (12, 12, 0), (1013, 1013, 0), (15, 17, 0), (18, 21, 1), (22, 22, 0), (1022, 1022, 1), (1023, 1023, 0), (25, 26, 2), (27, 31, 1), (32, 32, 2), (1032, 1032, 1), (1033, 1033, 2), (35, 37, 3), (38, 41, 0), (42, 42, 3), (1042, 1042, 0), (1043, 1043, 3)])) [(132, bA false)] fun G => b7 (rF G false (by kernel_rfl) (wp_skip (b7 (wp_seq ?_)))); cases h16 : ((l9 p.vars.length p.arrays.length d (c + (1 : Nat)) s.body).fst)
           · refine O1 G (t6 (l8 6 [0, 1, 2, 3, 6] (ih s.body (c + 1) (n + 1) (by simp; omega) (by omega)) t5) (fc h16 fz) (us [(8, 14, 0), (1015, 1015, 0)])) (rg 8) (aa1 p (.box [iA ((am4 p d s c).snd : Int)] :: (aa2 s []))) [(8, bA false)] [wO (n + 1)] (o1 (by omega)) fun G => b7 (wp_ret ?_); exact B5 false G (rg 8) (by rw [C5 (by omega) (by (rw [W7 (by omega)]; exact T4 (by omega) (by assumption) (by assumption))) (by assumption)]; assumption) (by show _ = mR (rg 8) (m7 p d s c); unfold m7; rw [C5 (by omega) (by (rw [W7 (by omega)]; exact T4 (by omega) (by assumption) (by assumption))) (by assumption)] <;> rfl)
           · refine O1 G (t6 (l8 6 [0, 1, 2, 3, 6] (ih s.body (c + 1) (n + 1) (by simp; omega) (by omega)) (l8 14 [0, 1, 2, 3, 7] (ih s.els ((am4 p d s c).snd) (n + 1) (O9 (by omega) (by assumption)) (by omega)) t5)) (fc h16 fz) (us [(8, 14, 0), (1015, 1015, 0)])) (rg 8) (aa1 p (.box [iA ((am5 p d s c).snd : Int)] :: (aa2 s []))) [(8, bA (am5 p d s c).fst)] [wO (n + 1), wO (n + 1)] (o2 (by omega)) fun G => b7 (wp_ret ?_); exact B5 ((l9 p.vars.length p.arrays.length d (l9 p.vars.length p.arrays.length d (c + 1) s.body).snd s.els).fst) G (rg 8) (by rw [E8 (by omega) (by (rw [W7 (by omega)]; exact T4 (by omega) (by assumption) (by assumption))) (by assumption)]; done) (by show _ = mR (rg 8) (m7 p d s c); unfold m7; rw [E8 (by omega) (by (rw [W7 (by omega)]; exact T4 (by omega) (by assumption) (by assumption))) (by assumption)] <;> rfl)
          · have q15 : (l6 p.vars.length p.arrays.length s.value) = false := (Eq.mp (b95 _) h15); refine l5 G (t6 (l8 20 [4] (G9 s.index) (l8 30 [0, 1, 2, 5] (R9 p s.value) t5)) (fc (b := false) rfl (fc (b := true) rfl (fc h14 (fc h15 fz)))) (us [(2, 7, 0), (12, 12, 0), (1013, 1013, 0), (15, 17, 0), (18, 21, 1), (22, 22, 0), (1022, 1022, 1), (1023, 1023, 0), (25, 26, 2), (27, 31, 1), (32, 32, 2), (1032, 1032, 1), (1033, 1033, 2), (35, 37, 3), (42, 42, 3), (1043, 1043, 3)])) [(132, bA true)] fun G => b7 (rT G true (by kernel_rfl) (wp_seq (l5 G d9 [] fun G => b7 (wp_ret (l7 ?_))))); exact B5 false G (rg 8) (by rw [i7 (by (rw [W7 (by omega)]; simp [h100, h0, q0, h1, q1, h2, q2, h3, q3, h4, q4, h12, q12, h13, q13, h14, q14, h15, q15]; done))]; done) (by show _ = mR (rg 8) (m7 p d s c); unfold m7; rw [i7 (by (rw [W7 (by omega)]; simp [h100, h0, q0, h1, q1, h2, q2, h3, q3, h4, q4, h12, q12, h13, q13, h14, q14, h15, q15]; done))] <;> rfl)
         · have q14 : (noneB s.index) = false := (Eq.mp (b95 _) h14); refine l5 G (t6 (l8 20 [4] (G9 s.index) t5) (fc (b := false) rfl (fc (b := true) rfl (fc h14 fz))) (us [(2, 7, 0), (12, 12, 0), (1013, 1013, 0), (15, 17, 0), (18, 21, 1), (22, 22, 0), (1022, 1022, 1), (1023, 1023, 0), (25, 26, 2), (32, 32, 2), (1033, 1033, 2), (35, 37, 1), (42, 42, 1), (1043, 1043, 1)])) [(132, bA true)] fun G => b7 (rT G true (by kernel_rfl) (wp_seq (l5 G d9 [] fun G => b7 (wp_ret (l7 ?_))))); exact B5 false G (rg 8) (by rw [i7 (by (rw [W7 (by omega)]; simp [h100, h0, q0, h1, q1, h2, q2, h3, q3, h4, q4, h12, q12, h13, q13, h14, q14]; done))]; done) (by show _ = mR (rg 8) (m7 p d s c); unfold m7; rw [i7 (by (rw [W7 (by omega)]; simp [h100, h0, q0, h1, q1, h2, q2, h3, q3, h4, q4, h12, q12, h13, q13, h14, q14]; done))] <;> rfl)
        · have q13 := bne_iff_ne.1 h13; refine E2 G (t6 (l8 4 [] (x9 s.target 0 0) t5) (fc h12 (fc (b := false) rfl (fc (b := true) rfl (fc h13 fz)))) (us [(7, 8, 0), (9, 12, 1), (13, 13, 0), (1013, 1013, 1), (1014, 1014, 0), (16, 18, 1), (19, 21, 2), (22, 22, 1), (1022, 1022, 2), (1023, 1023, 1), (25, 27, 3), (32, 32, 3), (1033, 1033, 3), (35, 37, 2), (42, 42, 2), (1043, 1043, 2)])) [(88, bA true)] [IntKind.i64.wrap ((1 : Int) - 1) = 1 - 1] ⟨(by kernel_rfl), b94⟩ fun G => b7 (rT G true (by kernel_rfl) (wp_seq (l5 G d9 [] fun G => b7 (wp_ret (l7 ?_))))); exact B5 false G (rg 8) (by rw [i7 (by (rw [W7 (by omega), decide_eq_false (by omega)]; rfl))]; done) (by show _ = mR (rg 8) (m7 p d s c); unfold m7; rw [i7 (by (rw [W7 (by omega), decide_eq_false (by omega)]; rfl))] <;> rfl)
       · have q12 : (¬ (0 ≤ s.target)) ∨ (¬ (s.target ≤ 0)) := (fun hq => Or.imp (fun hq => of_decide_eq_false hq) (fun hq => of_decide_eq_false hq) (ca4.1 hq)) (Eq.mp (b95 _) h12); refine E2 G (t6 (l8 4 [] (x9 s.target 0 0) t5) (fc h12 (fc (b := true) rfl fz)) [(7, 0), (8, 0), (13, 0), (1014, 0), (16, 1), (17, 1), (18, 1), (22, 1), (1023, 1), (25, 1), (26, 1), (27, 1), (32, 1), (1033, 1), (35, 1), (36, 1), (37, 1), (42, 1), (1043, 1)]) [(88, bA true)] [IntKind.i64.wrap ((1 : Int) - 1) = 1 - 1] ⟨(by kernel_rfl), b94⟩ fun G => b7 (rT G true (by kernel_rfl) (wp_seq (l5 G d9 [] fun G => b7 (wp_ret (l7 ?_))))); exact B5 false G (rg 8) (by rw [i7 (by (rw [W7 (by omega), decide_eq_false (by omega)]; rfl))]; done) (by show _ = mR (rg 8) (m7 p d s c); unfold m7; rw [i7 (by (rw [W7 (by omega), decide_eq_false (by omega)]; rfl))] <;> rfl)
     ·
      refine l5 G d9 [(9, iA (p.arrays.length : Int)), (10, bA true)] fun G => m6 (b7 (wp_seq (wp_seq ?_))); cases h17 : (!(decide ((0 : Int) ≤ s.target) && decide (s.target ≤ (p.arrays.length : Int) - 1)))
      ·
       have q17 : (0 ≤ s.target) ∧ (s.target ≤ (p.arrays.length : Int) - 1) := (fun hq => And.imp (fun hq => of_decide_eq_true hq) (fun hq => of_decide_eq_true hq) (ca6.1 hq)) (Eq.mp (b97 _) h17); cases h18 : (s.count != 0)
       ·
        have q18 := bne_eq_false_iff_eq.1 h18; cases h19 : (decide ((s.body.length : Int) > 0))
        ·
         have q19 := dFf h19; refine E2 G (t6 (l8 4 [] (x9 s.target 0 ((p.arrays.length : Int) - 1)) t5) (fc h17 (fc (b := false) rfl (fc (b := true) rfl (fc h18 (fc h19 fz))))) (us [(7, 8, 0), (9, 12, 1), (13, 13, 0), (1013, 1013, 1), (1014, 1014, 0), (16, 18, 1), (19, 21, 2), (22, 22, 1), (1022, 1022, 2), (1023, 1023, 1), (25, 27, 3), (28, 31, 2), (32, 32, 3), (1032, 1032, 2), (1033, 1033, 3), (35, 37, 4), (38, 41, 2), (42, 42, 4), (1042, 1042, 2), (1043, 1043, 4)])) [(88, bA (decide ((s.els.length : Int) > 0)))] [wO ((p.arrays.length : Int) - 1)] (o1 (by omega)) fun G => b7 (O0 G (fun h20 q20 => ?_) fun h20 q20 => ?_)
         ·
          refine wp_skip (b7 (wp_seq (wp_seq ?_))); cases h21 : (!l6 p.vars.length p.arrays.length s.index)
          ·
           have q21 : (l6 p.vars.length p.arrays.length s.index) = true := (Eq.mp (b97 _) h21); cases h22 : (!atomB s.index)
           ·
            have q22 : (atomB s.index) = true := (Eq.mp (b97 _) h22); cases h23 : (!l6 p.vars.length p.arrays.length s.value)
            ·
             have q23 : (l6 p.vars.length p.arrays.length s.value) = true := (Eq.mp (b97 _) h23); refine l5 G (t6 (l8 5 [0, 1, 2, 4] (R9 p s.index) (l8 10 [4] (ay4 s.index) (l8 30 [0, 1, 2, 5] (R9 p s.value) t5))) (fc (b := true) rfl (fc h21 (fc h22 (fc (b := false) rfl (fc h23 fz))))) (us [(2, 7, 0), (8, 11, 1), (12, 12, 0), (1012, 1012, 1), (1013, 1013, 0), (15, 17, 2), (18, 21, 3), (22, 22, 2), (1022, 1022, 3), (1023, 1023, 2), (25, 26, 3), (27, 31, 0), (32, 32, 3), (1032, 1032, 0), (1033, 1033, 3), (35, 37, 4), (38, 41, 3), (42, 42, 4), (1042, 1042, 3), (1043, 1043, 4)])) [(132, bA false)] fun G => b7 (rF G false (by kernel_rfl) (wp_skip (b7 (wp_seq ?_)))); cases h24 : ((l9 p.vars.length p.arrays.length d (c + (1 : Nat)) s.body).fst)
             · refine O1 G (t6 (l8 6 [0, 1, 2, 3, 6] (ih s.body (c + 1) (n + 1) (by simp; omega) (by omega)) t5) (fc h24 fz) (us [(8, 14, 0), (1015, 1015, 0)])) (rg 8) (aa1 p (.box [iA ((am4 p d s c).snd : Int)] :: (aa2 s []))) [(8, bA false)] [wO (n + 1)] (o1 (by omega)) fun G => b7 (wp_ret ?_); exact B5 false G (rg 8) (by rw [C5 (by omega) (by (rw [I7 (by omega)]; exact aY9 (by omega) (by assumption) (by assumption) (by assumption))) (by assumption)]; assumption) (by show _ = mR (rg 8) (m7 p d s c); unfold m7; rw [C5 (by omega) (by (rw [I7 (by omega)]; exact aY9 (by omega) (by assumption) (by assumption) (by assumption))) (by assumption)] <;> rfl)
             · refine O1 G (t6 (l8 6 [0, 1, 2, 3, 6] (ih s.body (c + 1) (n + 1) (by simp; omega) (by omega)) (l8 14 [0, 1, 2, 3, 7] (ih s.els ((am4 p d s c).snd) (n + 1) (O9 (by omega) (by assumption)) (by omega)) t5)) (fc h24 fz) (us [(8, 14, 0), (1015, 1015, 0)])) (rg 8) (aa1 p (.box [iA ((am5 p d s c).snd : Int)] :: (aa2 s []))) [(8, bA (am5 p d s c).fst)] [wO (n + 1), wO (n + 1)] (o2 (by omega)) fun G => b7 (wp_ret ?_); exact B5 ((l9 p.vars.length p.arrays.length d (l9 p.vars.length p.arrays.length d (c + 1) s.body).snd s.els).fst) G (rg 8) (by rw [E8 (by omega) (by (rw [I7 (by omega)]; exact aY9 (by omega) (by assumption) (by assumption) (by assumption))) (by assumption)]; done) (by show _ = mR (rg 8) (m7 p d s c); unfold m7; rw [E8 (by omega) (by (rw [I7 (by omega)]; exact aY9 (by omega) (by assumption) (by assumption) (by assumption))) (by assumption)] <;> rfl)
            · have q23 : (l6 p.vars.length p.arrays.length s.value) = false := (Eq.mp (b95 _) h23); refine l5 G (t6 (l8 5 [0, 1, 2, 4] (R9 p s.index) (l8 10 [4] (ay4 s.index) (l8 30 [0, 1, 2, 5] (R9 p s.value) t5))) (fc (b := true) rfl (fc h21 (fc h22 (fc (b := false) rfl (fc h23 fz))))) (us [(2, 7, 0), (8, 11, 1), (12, 12, 0), (1012, 1012, 1), (1013, 1013, 0), (15, 17, 2), (18, 21, 3), (22, 22, 2), (1022, 1022, 3), (1023, 1023, 2), (25, 26, 3), (27, 31, 0), (32, 32, 3), (1032, 1032, 0), (1033, 1033, 3), (35, 37, 4), (42, 42, 4), (1043, 1043, 4)])) [(132, bA true)] fun G => b7 (rT G true (by kernel_rfl) (wp_seq (l5 G d9 [] fun G => b7 (wp_ret (l7 ?_))))); exact B5 false G (rg 8) (by rw [i7 (by (rw [I7 (by omega)]; simp [h100, h0, q0, h1, q1, h2, q2, h3, q3, h17, q17, h18, q18, h19, q19, h20, q20, h21, q21, h22, q22, h23, q23]; done))]; done) (by show _ = mR (rg 8) (m7 p d s c); unfold m7; rw [i7 (by (rw [I7 (by omega)]; simp [h100, h0, q0, h1, q1, h2, q2, h3, q3, h17, q17, h18, q18, h19, q19, h20, q20, h21, q21, h22, q22, h23, q23]; done))] <;> rfl)
           · have q22 : (atomB s.index) = false := (Eq.mp (b95 _) h22); refine l5 G (t6 (l8 5 [0, 1, 2, 4] (R9 p s.index) (l8 10 [4] (ay4 s.index) t5)) (fc (b := true) rfl (fc h21 (fc h22 fz))) (us [(2, 7, 0), (8, 11, 1), (12, 12, 0), (1012, 1012, 1), (1013, 1013, 0), (15, 17, 2), (22, 22, 2), (1023, 1023, 2), (25, 26, 0), (32, 32, 0), (1033, 1033, 0), (35, 37, 0), (42, 42, 0), (1043, 1043, 0)])) [(132, bA true)] fun G => b7 (rT G true (by kernel_rfl) (wp_seq (l5 G d9 [] fun G => b7 (wp_ret (l7 ?_))))); exact B5 false G (rg 8) (by rw [i7 (by (rw [I7 (by omega)]; simp [h100, h0, q0, h1, q1, h2, q2, h3, q3, h17, q17, h18, q18, h19, q19, h20, q20, h21, q21, h22, q22]; done))]; done) (by show _ = mR (rg 8) (m7 p d s c); unfold m7; rw [i7 (by (rw [I7 (by omega)]; simp [h100, h0, q0, h1, q1, h2, q2, h3, q3, h17, q17, h18, q18, h19, q19, h20, q20, h21, q21, h22, q22]; done))] <;> rfl)
          · have q21 : (l6 p.vars.length p.arrays.length s.index) = false := (Eq.mp (b95 _) h21); refine l5 G (t6 (l8 5 [0, 1, 2, 4] (R9 p s.index) t5) (fc (b := true) rfl (fc h21 fz)) (us [(2, 7, 0), (8, 11, 1), (12, 12, 0), (1012, 1012, 1), (1013, 1013, 0), (15, 17, 0), (22, 22, 0), (1023, 1023, 0), (25, 26, 0), (32, 32, 0), (1033, 1033, 0), (35, 37, 0), (42, 42, 0), (1043, 1043, 0)])) [(132, bA true)] fun G => b7 (rT G true (by kernel_rfl) (wp_seq (l5 G d9 [] fun G => b7 (wp_ret (l7 ?_))))); exact B5 false G (rg 8) (by rw [i7 (by (rw [I7 (by omega)]; simp [h100, h0, q0, h1, q1, h2, q2, h3, q3, h17, q17, h18, q18, h19, q19, h20, q20, h21, q21]; done))]; done) (by show _ = mR (rg 8) (m7 p d s c); unfold m7; rw [i7 (by (rw [I7 (by omega)]; simp [h100, h0, q0, h1, q1, h2, q2, h3, q3, h17, q17, h18, q18, h19, q19, h20, q20, h21, q21]; done))] <;> rfl)
         · refine wp_seq (l5 G d9 [] fun G => b7 (wp_ret (l7 ?_))); exact B5 false G (rg 8) (by rw [i7 (by (rw [I7 (by omega), decide_eq_false (by omega)]; rfl))]; done) (by show _ = mR (rg 8) (m7 p d s c); unfold m7; rw [i7 (by (rw [I7 (by omega), decide_eq_false (by omega)]; rfl))] <;> rfl)
        · have q19 := dTt h19; refine E2 G (t6 (l8 4 [] (x9 s.target 0 ((p.arrays.length : Int) - 1)) t5) (fc h17 (fc (b := false) rfl (fc (b := true) rfl (fc h18 (fc h19 fz))))) (us [(7, 8, 0), (9, 12, 1), (13, 13, 0), (1013, 1013, 1), (1014, 1014, 0), (16, 18, 1), (19, 21, 2), (22, 22, 1), (1022, 1022, 2), (1023, 1023, 1), (25, 27, 3), (28, 31, 2), (32, 32, 3), (1032, 1032, 2), (1033, 1033, 3), (35, 37, 4), (42, 42, 4), (1043, 1043, 4)])) [(88, bA true)] [wO ((p.arrays.length : Int) - 1)] (o1 (by omega)) fun G => b7 (rT G true (by kernel_rfl) (wp_seq (l5 G d9 [] fun G => b7 (wp_ret (l7 ?_))))); exact B5 false G (rg 8) (by rw [i7 (by (rw [I7 (by omega), decide_eq_false (by omega)]; rfl))]; done) (by show _ = mR (rg 8) (m7 p d s c); unfold m7; rw [i7 (by (rw [I7 (by omega), decide_eq_false (by omega)]; rfl))] <;> rfl)
       · have q18 := bne_iff_ne.1 h18; refine E2 G (t6 (l8 4 [] (x9 s.target 0 ((p.arrays.length : Int) - 1)) t5) (fc h17 (fc (b := false) rfl (fc (b := true) rfl (fc h18 fz)))) (us [(7, 8, 0), (9, 12, 1), (13, 13, 0), (1013, 1013, 1), (1014, 1014, 0), (16, 18, 1), (19, 21, 2), (22, 22, 1), (1022, 1022, 2), (1023, 1023, 1), (25, 27, 3), (32, 32, 3), (1033, 1033, 3), (35, 37, 2), (42, 42, 2), (1043, 1043, 2)])) [(88, bA true)] [wO ((p.arrays.length : Int) - 1)] (o1 (by omega)) fun G => b7 (rT G true (by kernel_rfl) (wp_seq (l5 G d9 [] fun G => b7 (wp_ret (l7 ?_))))); exact B5 false G (rg 8) (by rw [i7 (by (rw [I7 (by omega), decide_eq_false (by omega)]; rfl))]; done) (by show _ = mR (rg 8) (m7 p d s c); unfold m7; rw [i7 (by (rw [I7 (by omega), decide_eq_false (by omega)]; rfl))] <;> rfl)
      · have q17 : (¬ (0 ≤ s.target)) ∨ (¬ (s.target ≤ (p.arrays.length : Int) - 1)) := (fun hq => Or.imp (fun hq => of_decide_eq_false hq) (fun hq => of_decide_eq_false hq) (ca4.1 hq)) (Eq.mp (b95 _) h17); refine E2 G (t6 (l8 4 [] (x9 s.target 0 ((p.arrays.length : Int) - 1)) t5) (fc h17 (fc (b := true) rfl fz)) [(7, 0), (8, 0), (13, 0), (1014, 0), (16, 1), (17, 1), (18, 1), (22, 1), (1023, 1), (25, 1), (26, 1), (27, 1), (32, 1), (1033, 1), (35, 1), (36, 1), (37, 1), (42, 1), (1043, 1)]) [(88, bA true)] [wO ((p.arrays.length : Int) - 1)] (o1 (by omega)) fun G => b7 (rT G true (by kernel_rfl) (wp_seq (l5 G d9 [] fun G => b7 (wp_ret (l7 ?_))))); exact B5 false G (rg 8) (by rw [i7 (by (rw [I7 (by omega), decide_eq_false (by omega)]; rfl))]; done) (by show _ = mR (rg 8) (m7 p d s c); unfold m7; rw [i7 (by (rw [I7 (by omega), decide_eq_false (by omega)]; rfl))] <;> rfl)
    ·
     refine l5 G d9 [(9, iA (p.vars.length : Int))] fun G => m6 (b7 (wp_seq (wp_seq ?_))); cases h25 : (!(decide ((0 : Int) ≤ s.target) && decide (s.target ≤ (p.vars.length : Int) - 1)))
     ·
      have q25 : (0 ≤ s.target) ∧ (s.target ≤ (p.vars.length : Int) - 1) := (fun hq => And.imp (fun hq => of_decide_eq_true hq) (fun hq => of_decide_eq_true hq) (ca6.1 hq)) (Eq.mp (b97 _) h25); cases h26 : (s.count != 0)
      ·
       have q26 := bne_eq_false_iff_eq.1 h26; cases h27 : (decide ((s.body.length : Int) > 0))
       ·
        have q27 := dFf h27; refine E2 G (t6 (l8 4 [] (x9 s.target 0 ((p.vars.length : Int) - 1)) t5) (fc h25 (fc (b := false) rfl (fc (b := true) rfl (fc h26 (fc h27 fz))))) (us [(7, 8, 0), (9, 12, 1), (13, 13, 0), (1013, 1013, 1), (1014, 1014, 0), (16, 18, 1), (19, 21, 2), (22, 22, 1), (1022, 1022, 2), (1023, 1023, 1), (25, 27, 3), (28, 31, 2), (32, 32, 3), (1032, 1032, 2), (1033, 1033, 3), (35, 37, 4), (38, 41, 2), (42, 42, 4), (1042, 1042, 2), (1043, 1043, 4)])) [(88, bA (decide ((s.els.length : Int) > 0)))] [wO ((p.vars.length : Int) - 1)] (o1 (by omega)) fun G => b7 (O0 G (fun h28 q28 => ?_) fun h28 q28 => ?_)
        ·
         refine wp_skip (b7 (wp_seq (wp_seq ?_))); cases h29 : (!noneB s.index)
         ·
          have q29 : (noneB s.index) = true := (Eq.mp (b97 _) h29); cases h30 : (!l6 p.vars.length p.arrays.length s.value)
          ·
           have q30 : (l6 p.vars.length p.arrays.length s.value) = true := (Eq.mp (b97 _) h30); refine l5 G (t6 (l8 20 [4] (G9 s.index) (l8 30 [0, 1, 2, 5] (R9 p s.value) t5)) (fc (b := false) rfl (fc (b := true) rfl (fc h29 (fc h30 fz)))) (us [(2, 7, 0), (12, 12, 0), (1013, 1013, 0), (15, 17, 0), (18, 21, 1), (22, 22, 0), (1022, 1022, 1), (1023, 1023, 0), (25, 26, 2), (27, 31, 1), (32, 32, 2), (1032, 1032, 1), (1033, 1033, 2), (35, 37, 3), (38, 41, 0), (42, 42, 3), (1042, 1042, 0), (1043, 1043, 3)])) [(132, bA false)] fun G => b7 (rF G false (by kernel_rfl) (wp_skip (b7 (wp_seq ?_)))); cases h31 : ((l9 p.vars.length p.arrays.length d (c + (1 : Nat)) s.body).fst)
           · refine O1 G (t6 (l8 6 [0, 1, 2, 3, 6] (ih s.body (c + 1) (n + 1) (by simp; omega) (by omega)) t5) (fc h31 fz) (us [(8, 14, 0), (1015, 1015, 0)])) (rg 8) (aa1 p (.box [iA ((am4 p d s c).snd : Int)] :: (aa2 s []))) [(8, bA false)] [wO (n + 1)] (o1 (by omega)) fun G => b7 (wp_ret ?_); exact B5 false G (rg 8) (by rw [C5 (by omega) (by (rw [A1 (by omega)]; exact T4 (by omega) (by assumption) (by assumption))) (by assumption)]; assumption) (by show _ = mR (rg 8) (m7 p d s c); unfold m7; rw [C5 (by omega) (by (rw [A1 (by omega)]; exact T4 (by omega) (by assumption) (by assumption))) (by assumption)] <;> rfl)
           · refine O1 G (t6 (l8 6 [0, 1, 2, 3, 6] (ih s.body (c + 1) (n + 1) (by simp; omega) (by omega)) (l8 14 [0, 1, 2, 3, 7] (ih s.els ((am4 p d s c).snd) (n + 1) (O9 (by omega) (by assumption)) (by omega)) t5)) (fc h31 fz) (us [(8, 14, 0), (1015, 1015, 0)])) (rg 8) (aa1 p (.box [iA ((am5 p d s c).snd : Int)] :: (aa2 s []))) [(8, bA (am5 p d s c).fst)] [wO (n + 1), wO (n + 1)] (o2 (by omega)) fun G => b7 (wp_ret ?_); exact B5 ((l9 p.vars.length p.arrays.length d (l9 p.vars.length p.arrays.length d (c + 1) s.body).snd s.els).fst) G (rg 8) (by rw [E8 (by omega) (by (rw [A1 (by omega)]; exact T4 (by omega) (by assumption) (by assumption))) (by assumption)]; done) (by show _ = mR (rg 8) (m7 p d s c); unfold m7; rw [E8 (by omega) (by (rw [A1 (by omega)]; exact T4 (by omega) (by assumption) (by assumption))) (by assumption)] <;> rfl)
          · have q30 : (l6 p.vars.length p.arrays.length s.value) = false := (Eq.mp (b95 _) h30); refine l5 G (t6 (l8 20 [4] (G9 s.index) (l8 30 [0, 1, 2, 5] (R9 p s.value) t5)) (fc (b := false) rfl (fc (b := true) rfl (fc h29 (fc h30 fz)))) (us [(2, 7, 0), (12, 12, 0), (1013, 1013, 0), (15, 17, 0), (18, 21, 1), (22, 22, 0), (1022, 1022, 1), (1023, 1023, 0), (25, 26, 2), (27, 31, 1), (32, 32, 2), (1032, 1032, 1), (1033, 1033, 2), (35, 37, 3), (42, 42, 3), (1043, 1043, 3)])) [(132, bA true)] fun G => b7 (rT G true (by kernel_rfl) (wp_seq (l5 G d9 [] fun G => b7 (wp_ret (l7 ?_))))); exact B5 false G (rg 8) (by rw [i7 (by (rw [A1 (by omega)]; simp [h100, h0, q0, h1, q1, h2, q2, h25, q25, h26, q26, h27, q27, h28, q28, h29, q29, h30, q30]; done))]; done) (by show _ = mR (rg 8) (m7 p d s c); unfold m7; rw [i7 (by (rw [A1 (by omega)]; simp [h100, h0, q0, h1, q1, h2, q2, h25, q25, h26, q26, h27, q27, h28, q28, h29, q29, h30, q30]; done))] <;> rfl)
         · have q29 : (noneB s.index) = false := (Eq.mp (b95 _) h29); refine l5 G (t6 (l8 20 [4] (G9 s.index) t5) (fc (b := false) rfl (fc (b := true) rfl (fc h29 fz))) (us [(2, 7, 0), (12, 12, 0), (1013, 1013, 0), (15, 17, 0), (18, 21, 1), (22, 22, 0), (1022, 1022, 1), (1023, 1023, 0), (25, 26, 2), (32, 32, 2), (1033, 1033, 2), (35, 37, 1), (42, 42, 1), (1043, 1043, 1)])) [(132, bA true)] fun G => b7 (rT G true (by kernel_rfl) (wp_seq (l5 G d9 [] fun G => b7 (wp_ret (l7 ?_))))); exact B5 false G (rg 8) (by rw [i7 (by (rw [A1 (by omega)]; simp [h100, h0, q0, h1, q1, h2, q2, h25, q25, h26, q26, h27, q27, h28, q28, h29, q29]; done))]; done) (by show _ = mR (rg 8) (m7 p d s c); unfold m7; rw [i7 (by (rw [A1 (by omega)]; simp [h100, h0, q0, h1, q1, h2, q2, h25, q25, h26, q26, h27, q27, h28, q28, h29, q29]; done))] <;> rfl)
        · refine wp_seq (l5 G d9 [] fun G => b7 (wp_ret (l7 ?_))); exact B5 false G (rg 8) (by rw [i7 (by (rw [A1 (by omega), decide_eq_false (by omega)]; rfl))]; done) (by show _ = mR (rg 8) (m7 p d s c); unfold m7; rw [i7 (by (rw [A1 (by omega), decide_eq_false (by omega)]; rfl))] <;> rfl)
       · have q27 := dTt h27; refine E2 G (t6 (l8 4 [] (x9 s.target 0 ((p.vars.length : Int) - 1)) t5) (fc h25 (fc (b := false) rfl (fc (b := true) rfl (fc h26 (fc h27 fz))))) (us [(7, 8, 0), (9, 12, 1), (13, 13, 0), (1013, 1013, 1), (1014, 1014, 0), (16, 18, 1), (19, 21, 2), (22, 22, 1), (1022, 1022, 2), (1023, 1023, 1), (25, 27, 3), (28, 31, 2), (32, 32, 3), (1032, 1032, 2), (1033, 1033, 3), (35, 37, 4), (42, 42, 4), (1043, 1043, 4)])) [(88, bA true)] [wO ((p.vars.length : Int) - 1)] (o1 (by omega)) fun G => b7 (rT G true (by kernel_rfl) (wp_seq (l5 G d9 [] fun G => b7 (wp_ret (l7 ?_))))); exact B5 false G (rg 8) (by rw [i7 (by (rw [A1 (by omega), decide_eq_false (by omega)]; rfl))]; done) (by show _ = mR (rg 8) (m7 p d s c); unfold m7; rw [i7 (by (rw [A1 (by omega), decide_eq_false (by omega)]; rfl))] <;> rfl)
      · have q26 := bne_iff_ne.1 h26; refine E2 G (t6 (l8 4 [] (x9 s.target 0 ((p.vars.length : Int) - 1)) t5) (fc h25 (fc (b := false) rfl (fc (b := true) rfl (fc h26 fz)))) (us [(7, 8, 0), (9, 12, 1), (13, 13, 0), (1013, 1013, 1), (1014, 1014, 0), (16, 18, 1), (19, 21, 2), (22, 22, 1), (1022, 1022, 2), (1023, 1023, 1), (25, 27, 3), (32, 32, 3), (1033, 1033, 3), (35, 37, 2), (42, 42, 2), (1043, 1043, 2)])) [(88, bA true)] [wO ((p.vars.length : Int) - 1)] (o1 (by omega)) fun G => b7 (rT G true (by kernel_rfl) (wp_seq (l5 G d9 [] fun G => b7 (wp_ret (l7 ?_))))); exact B5 false G (rg 8) (by rw [i7 (by (rw [A1 (by omega), decide_eq_false (by omega)]; rfl))]; done) (by show _ = mR (rg 8) (m7 p d s c); unfold m7; rw [i7 (by (rw [A1 (by omega), decide_eq_false (by omega)]; rfl))] <;> rfl)
     · have q25 : (¬ (0 ≤ s.target)) ∨ (¬ (s.target ≤ (p.vars.length : Int) - 1)) := (fun hq => Or.imp (fun hq => of_decide_eq_false hq) (fun hq => of_decide_eq_false hq) (ca4.1 hq)) (Eq.mp (b95 _) h25); refine E2 G (t6 (l8 4 [] (x9 s.target 0 ((p.vars.length : Int) - 1)) t5) (fc h25 (fc (b := true) rfl fz)) [(7, 0), (8, 0), (13, 0), (1014, 0), (16, 1), (17, 1), (18, 1), (22, 1), (1023, 1), (25, 1), (26, 1), (27, 1), (32, 1), (1033, 1), (35, 1), (36, 1), (37, 1), (42, 1), (1043, 1)]) [(88, bA true)] [wO ((p.vars.length : Int) - 1)] (o1 (by omega)) fun G => b7 (rT G true (by kernel_rfl) (wp_seq (l5 G d9 [] fun G => b7 (wp_ret (l7 ?_))))); exact B5 false G (rg 8) (by rw [i7 (by (rw [A1 (by omega), decide_eq_false (by omega)]; rfl))]; done) (by show _ = mR (rg 8) (m7 p d s c); unfold m7; rw [i7 (by (rw [A1 (by omega), decide_eq_false (by omega)]; rfl))] <;> rfl)
   ·
    refine wp_skip (b7 (rT G _ h1 (l5 G d9 [(9, iA (p.vars.length : Int))] fun G => m6 (b7 (wp_seq (wp_seq ?_)))))); cases h32 : (!(decide ((0 : Int) ≤ s.target) && decide (s.target ≤ (p.vars.length : Int) - 1)))
    ·
     have q32 : (0 ≤ s.target) ∧ (s.target ≤ (p.vars.length : Int) - 1) := (fun hq => And.imp (fun hq => of_decide_eq_true hq) (fun hq => of_decide_eq_true hq) (ca6.1 hq)) (Eq.mp (b97 _) h32); cases h33 : (s.count != 0)
     ·
      have q33 := bne_eq_false_iff_eq.1 h33; cases h34 : (decide ((s.body.length : Int) > 0))
      ·
       have q34 := dFf h34; refine E2 G (t6 (l8 4 [] (x9 s.target 0 ((p.vars.length : Int) - 1)) t5) (fc h32 (fc (b := false) rfl (fc (b := true) rfl (fc h33 (fc h34 fz))))) (us [(7, 8, 0), (9, 12, 1), (13, 13, 0), (1013, 1013, 1), (1014, 1014, 0), (16, 18, 1), (19, 21, 2), (22, 22, 1), (1022, 1022, 2), (1023, 1023, 1), (25, 27, 3), (28, 31, 2), (32, 32, 3), (1032, 1032, 2), (1033, 1033, 3), (35, 37, 4), (38, 41, 2), (42, 42, 4), (1042, 1042, 2), (1043, 1043, 4)])) [(88, bA (decide ((s.els.length : Int) > 0)))] [wO ((p.vars.length : Int) - 1)] (o1 (by omega)) fun G => b7 (O0 G (fun h35 q35 => ?_) fun h35 q35 => ?_)
       ·
        refine wp_skip (b7 (wp_seq (wp_seq ?_))); cases h36 : (!noneB s.index)
        ·
         have q36 : (noneB s.index) = true := (Eq.mp (b97 _) h36); cases h37 : (!l6 p.vars.length p.arrays.length s.value)
         ·
          have q37 : (l6 p.vars.length p.arrays.length s.value) = true := (Eq.mp (b97 _) h37); refine l5 G (t6 (l8 20 [4] (G9 s.index) (l8 30 [0, 1, 2, 5] (R9 p s.value) t5)) (fc (b := false) rfl (fc (b := true) rfl (fc h36 (fc h37 fz)))) (us [(2, 7, 0), (12, 12, 0), (1013, 1013, 0), (15, 17, 0), (18, 21, 1), (22, 22, 0), (1022, 1022, 1), (1023, 1023, 0), (25, 26, 2), (27, 31, 1), (32, 32, 2), (1032, 1032, 1), (1033, 1033, 2), (35, 37, 3), (38, 41, 0), (42, 42, 3), (1042, 1042, 0), (1043, 1043, 3)])) [(132, bA false)] fun G => b7 (rF G false (by kernel_rfl) (wp_skip (b7 (wp_seq ?_)))); cases h38 : ((l9 p.vars.length p.arrays.length d (c + (1 : Nat)) s.body).fst)
          · refine O1 G (t6 (l8 6 [0, 1, 2, 3, 6] (ih s.body (c + 1) (n + 1) (by simp; omega) (by omega)) t5) (fc h38 fz) (us [(8, 14, 0), (1015, 1015, 0)])) (rg 8) (aa1 p (.box [iA ((am4 p d s c).snd : Int)] :: (aa2 s []))) [(8, bA false)] [wO (n + 1)] (o1 (by omega)) fun G => b7 (wp_ret ?_); exact B5 false G (rg 8) (by rw [C5 (by omega) (by (rw [A1 (by omega)]; exact T4 (by omega) (by assumption) (by assumption))) (by assumption)]; assumption) (by show _ = mR (rg 8) (m7 p d s c); unfold m7; rw [C5 (by omega) (by (rw [A1 (by omega)]; exact T4 (by omega) (by assumption) (by assumption))) (by assumption)] <;> rfl)
          · refine O1 G (t6 (l8 6 [0, 1, 2, 3, 6] (ih s.body (c + 1) (n + 1) (by simp; omega) (by omega)) (l8 14 [0, 1, 2, 3, 7] (ih s.els ((am4 p d s c).snd) (n + 1) (O9 (by omega) (by assumption)) (by omega)) t5)) (fc h38 fz) (us [(8, 14, 0), (1015, 1015, 0)])) (rg 8) (aa1 p (.box [iA ((am5 p d s c).snd : Int)] :: (aa2 s []))) [(8, bA (am5 p d s c).fst)] [wO (n + 1), wO (n + 1)] (o2 (by omega)) fun G => b7 (wp_ret ?_); exact B5 ((l9 p.vars.length p.arrays.length d (l9 p.vars.length p.arrays.length d (c + 1) s.body).snd s.els).fst) G (rg 8) (by rw [E8 (by omega) (by (rw [A1 (by omega)]; exact T4 (by omega) (by assumption) (by assumption))) (by assumption)]; done) (by show _ = mR (rg 8) (m7 p d s c); unfold m7; rw [E8 (by omega) (by (rw [A1 (by omega)]; exact T4 (by omega) (by assumption) (by assumption))) (by assumption)] <;> rfl)
         · have q37 : (l6 p.vars.length p.arrays.length s.value) = false := (Eq.mp (b95 _) h37); refine l5 G (t6 (l8 20 [4] (G9 s.index) (l8 30 [0, 1, 2, 5] (R9 p s.value) t5)) (fc (b := false) rfl (fc (b := true) rfl (fc h36 (fc h37 fz)))) (us [(2, 7, 0), (12, 12, 0), (1013, 1013, 0), (15, 17, 0), (18, 21, 1), (22, 22, 0), (1022, 1022, 1), (1023, 1023, 0), (25, 26, 2), (27, 31, 1), (32, 32, 2), (1032, 1032, 1), (1033, 1033, 2), (35, 37, 3), (42, 42, 3), (1043, 1043, 3)])) [(132, bA true)] fun G => b7 (rT G true (by kernel_rfl) (wp_seq (l5 G d9 [] fun G => b7 (wp_ret (l7 ?_))))); exact B5 false G (rg 8) (by rw [i7 (by (rw [A1 (by omega)]; simp [h100, h0, q0, h1, q1, h32, q32, h33, q33, h34, q34, h35, q35, h36, q36, h37, q37]; done))]; done) (by show _ = mR (rg 8) (m7 p d s c); unfold m7; rw [i7 (by (rw [A1 (by omega)]; simp [h100, h0, q0, h1, q1, h32, q32, h33, q33, h34, q34, h35, q35, h36, q36, h37, q37]; done))] <;> rfl)
        · have q36 : (noneB s.index) = false := (Eq.mp (b95 _) h36); refine l5 G (t6 (l8 20 [4] (G9 s.index) t5) (fc (b := false) rfl (fc (b := true) rfl (fc h36 fz))) (us [(2, 7, 0), (12, 12, 0), (1013, 1013, 0), (15, 17, 0), (18, 21, 1), (22, 22, 0), (1022, 1022, 1), (1023, 1023, 0), (25, 26, 2), (32, 32, 2), (1033, 1033, 2), (35, 37, 1), (42, 42, 1), (1043, 1043, 1)])) [(132, bA true)] fun G => b7 (rT G true (by kernel_rfl) (wp_seq (l5 G d9 [] fun G => b7 (wp_ret (l7 ?_))))); exact B5 false G (rg 8) (by rw [i7 (by (rw [A1 (by omega)]; simp [h100, h0, q0, h1, q1, h32, q32, h33, q33, h34, q34, h35, q35, h36, q36]; done))]; done) (by show _ = mR (rg 8) (m7 p d s c); unfold m7; rw [i7 (by (rw [A1 (by omega)]; simp [h100, h0, q0, h1, q1, h32, q32, h33, q33, h34, q34, h35, q35, h36, q36]; done))] <;> rfl)
       · refine wp_seq (l5 G d9 [] fun G => b7 (wp_ret (l7 ?_))); exact B5 false G (rg 8) (by rw [i7 (by (rw [A1 (by omega), decide_eq_false (by omega)]; rfl))]; done) (by show _ = mR (rg 8) (m7 p d s c); unfold m7; rw [i7 (by (rw [A1 (by omega), decide_eq_false (by omega)]; rfl))] <;> rfl)
      · have q34 := dTt h34; refine E2 G (t6 (l8 4 [] (x9 s.target 0 ((p.vars.length : Int) - 1)) t5) (fc h32 (fc (b := false) rfl (fc (b := true) rfl (fc h33 (fc h34 fz))))) (us [(7, 8, 0), (9, 12, 1), (13, 13, 0), (1013, 1013, 1), (1014, 1014, 0), (16, 18, 1), (19, 21, 2), (22, 22, 1), (1022, 1022, 2), (1023, 1023, 1), (25, 27, 3), (28, 31, 2), (32, 32, 3), (1032, 1032, 2), (1033, 1033, 3), (35, 37, 4), (42, 42, 4), (1043, 1043, 4)])) [(88, bA true)] [wO ((p.vars.length : Int) - 1)] (o1 (by omega)) fun G => b7 (rT G true (by kernel_rfl) (wp_seq (l5 G d9 [] fun G => b7 (wp_ret (l7 ?_))))); exact B5 false G (rg 8) (by rw [i7 (by (rw [A1 (by omega), decide_eq_false (by omega)]; rfl))]; done) (by show _ = mR (rg 8) (m7 p d s c); unfold m7; rw [i7 (by (rw [A1 (by omega), decide_eq_false (by omega)]; rfl))] <;> rfl)
     · have q33 := bne_iff_ne.1 h33; refine E2 G (t6 (l8 4 [] (x9 s.target 0 ((p.vars.length : Int) - 1)) t5) (fc h32 (fc (b := false) rfl (fc (b := true) rfl (fc h33 fz)))) (us [(7, 8, 0), (9, 12, 1), (13, 13, 0), (1013, 1013, 1), (1014, 1014, 0), (16, 18, 1), (19, 21, 2), (22, 22, 1), (1022, 1022, 2), (1023, 1023, 1), (25, 27, 3), (32, 32, 3), (1033, 1033, 3), (35, 37, 2), (42, 42, 2), (1043, 1043, 2)])) [(88, bA true)] [wO ((p.vars.length : Int) - 1)] (o1 (by omega)) fun G => b7 (rT G true (by kernel_rfl) (wp_seq (l5 G d9 [] fun G => b7 (wp_ret (l7 ?_))))); exact B5 false G (rg 8) (by rw [i7 (by (rw [A1 (by omega), decide_eq_false (by omega)]; rfl))]; done) (by show _ = mR (rg 8) (m7 p d s c); unfold m7; rw [i7 (by (rw [A1 (by omega), decide_eq_false (by omega)]; rfl))] <;> rfl)
    · have q32 : (¬ (0 ≤ s.target)) ∨ (¬ (s.target ≤ (p.vars.length : Int) - 1)) := (fun hq => Or.imp (fun hq => of_decide_eq_false hq) (fun hq => of_decide_eq_false hq) (ca4.1 hq)) (Eq.mp (b95 _) h32); refine E2 G (t6 (l8 4 [] (x9 s.target 0 ((p.vars.length : Int) - 1)) t5) (fc h32 (fc (b := true) rfl fz)) [(7, 0), (8, 0), (13, 0), (1014, 0), (16, 1), (17, 1), (18, 1), (22, 1), (1023, 1), (25, 1), (26, 1), (27, 1), (32, 1), (1033, 1), (35, 1), (36, 1), (37, 1), (42, 1), (1043, 1)]) [(88, bA true)] [wO ((p.vars.length : Int) - 1)] (o1 (by omega)) fun G => b7 (rT G true (by kernel_rfl) (wp_seq (l5 G d9 [] fun G => b7 (wp_ret (l7 ?_))))); exact B5 false G (rg 8) (by rw [i7 (by (rw [A1 (by omega), decide_eq_false (by omega)]; rfl))]; done) (by show _ = mR (rg 8) (m7 p d s c); unfold m7; rw [i7 (by (rw [A1 (by omega), decide_eq_false (by omega)]; rfl))] <;> rfl)
  · have q0 := dTt h0; refine l5 G (O2 (fc h0 fz) [(5, 0), (6, 0), (1007, 0)]) [(27, bA true)] fun G => b7 (rT G true (by kernel_rfl) (wp_seq (l5 G d9 [] fun G => b7 (wp_ret (l7 ?_))))); exact B5 false G (rg 8) (by simp [ao7 (d := d + 1) (s := s) (show 60 < c + 1 by omega)]; done) (by show _ = mR (rg 8) (m7 p d s c); unfold m7; have e1 : (((v5 p.vars.length p.arrays.length (d + 1) c s).snd : Int) : Int) = ((c : Int) + 1) := (by simp [ao7 (d := d + 1) (s := s) (show 60 < c + 1 by omega)]; done); (first | rw [e1] | simp only [e1]) <;> rfl)
theorem bD7 (p : d7) : ∀ (d : Nat), d ≤ 5 → ∀ (ss : List b6) (c : Nat) (n : Int), c ≤ 60 → n = 6 - (d : Int) → k6.ok Tryz.prog (a93 p d c ss n) := by
 intro d
 induction d with
 | zero => intro hd ss c n hc hn; exact a57 p 0 hd (fun s c n hc hn => bL1 p s c hc n (by omega)) ss c n hc hn
 | succ d ih => intro hd ss c n hc hn; exact a57 p (d + 1) hd (fun s c n hc hn => bL0 p d (by omega) (ih (by omega)) s c n hc (by omega)) ss c n hc hn
theorem a58 (p : d7) (n : Int) (hn : n = 1) : k6.ok Tryz.prog ⟨125, [pA 0, .ref 2, iA n, .ptr 3 0], pS p ++ [.box [iA 0]], pS p ++ [.box [iA (l9 p.vars.length p.arrays.length 5 0 p.body).2]], bA (l9 p.vars.length p.arrays.length 5 0 p.body).1⟩ :=
 k6.dup (S := pS p ++ [.box [iA 0]]) (S' := pS p ++ [.box [iA (l9 p.vars.length p.arrays.length 5 0 p.body).2]]) (d := .stmts p.body) (i := 2) (bD7 p 5 (by omega) p.body 0 n (by omega) (by omega)) rfl rfl rfl (fun ρ h => by simp only [AV.vals, AV.val]; rw [show ρ 4 = ρ 2 from h]) rfl
theorem af2 (p : d7) : k6.ok Tryz.prog (F6 57 [pA 0] (pS p) (bA (m0 p))) := by
 refine A2 15 Tryz.func57 [dI p.vars, dI p.arrays, dT p.body] [(0, pA 0)] fun G => ?_; refine wp_seq (k8 G d9 (rg 4) [dI p.vars, dI p.arrays, dT p.body, .box (pL 0)] [(1, .ptr 3 0), (2, bA false)] fun G => b7 (wp_seq (k8 G d9 (rg 5) [dI p.vars, dI p.arrays, dT p.body, .box (pL 0), .box [iA 0]] [(1, .ptr 3 0), (2, bA false), (3, .ptr 4 0)] fun G => b7 (wp_seq ?_)))); cases h0 : (F4 p.vars p.arrays)
 ·refine k8 G (t6 (l8 4 [0, 1] (aK9 p.vars p.arrays) t5) (fc h0 fz) (us [(6, 9, 0), (1010, 1010, 0)])) [0, 1, 2] [dI p.vars, dI p.arrays, dT p.body] [(2, bA false)] fun G => b7 (wp_ret ?_); exact B5 false G [0, 1, 2] (az9 (by assumption))
 ·refine k8 G (t6 (l8 4 [0, 1] (aK9 p.vars p.arrays) (l8 9 [0, 1, 2, 4] (a58 p 1 (by kernel_rfl)) t5)) (fc h0 fz) (us [(6, 9, 0), (1010, 1010, 0)])) [0, 1, 2] [dI p.vars, dI p.arrays, dT p.body] [(2, bA (l9 p.vars.length p.arrays.length 5 0 p.body).fst)] fun G => b7 (wp_ret ?_); exact B5 ((l9 p.vars.length p.arrays.length 5 0 p.body).fst) G [0, 1, 2] (by rw [← a06 (p := p) (by assumption)])
def U2 (vs ars : List Int) (e : b5) : Int := if e.kind = 2 then vs.getD e.value.toNat 0 else if e.kind = 3 then ars.getD e.value.toNat 0 else 0
def b9 (vs ars : List Int) : Nat → b5 → Int
 | 0, _ => 0
 | d + 1, e => e.kids.foldl (fun a k => i6 a (b9 vs ars d k)) (U2 vs ars e)
def p8 (vs ars : List Int) (d : Nat) (x : Int) (ks : List b5) (k : Nat) : Int := (ks.take k).foldl (fun a k => i6 a (b9 vs ars d k)) x
theorem D2 {vs ars : List Int} {d k : Nat} {x : Int} {ks : List b5} (h : k < ks.length) : p8 vs ars d x ks (k + 1) = i6 (p8 vs ars d x ks k) (b9 vs ars d (ks.getD k b85)) := by
 unfold p8; rw [F8 ks k h, List.foldl_append, n6 h]; rfl
theorem G8 {vs ars : List Int} {d k : Nat} {x : Int} {e : b5} (h : e.kids.length ≤ k) (hx : U2 vs ars e = x) : b9 vs ars (d + 1) e = p8 vs ars d x e.kids k := by
 unfold p8; rw [ca3 h, b9, hx]
section
variable {nv na d : Nat} {e : b5}
theorem aU3 (h : f5 nv na (d + 1) e = true) : y7 nv na e = true := by simp only [f5, b86] at h; exact h.1.1
theorem P0 (h : f5 nv na (d + 1) e = true) (k : e.kind = 2) : 0 ≤ e.value ∧ e.value < nv ∧ e.value.toNat < nv := by
 have := aU3 h
 simp [y7, I6, k] at this; omega
theorem R7 (h : f5 nv na (d + 1) e = true) (k : e.kind = 3) : 0 ≤ e.value ∧ e.value < na ∧ e.value.toNat < na := by
 have := aU3 h
 simp [y7, I6, k] at this; omega
theorem H6 {k : Nat} (h : f5 nv na (d + 1) e = true) (hk : k < e.kids.length) : f5 nv na d (e.kids.getD k b85) = true := by
 simp only [f5, b86] at h
 rw [n6 hk]; exact b93.1 h.1.2 _ (cb0 hk)
theorem V6 (h : f5 nv na (d + 1) e = true) (k : e.kind = 3) : 0 < e.kids.length := by
 have := aU3 h
 simp [y7, m9, k] at this; omega
end
theorem ak9 {x : Int} (h : d8 x = true) : x = 0 ∨ x = 1 ∨ x = 2 ∨ x = 3 := by simp [d8] at h; omega
theorem H2 (l : Int) : k6.ok Tryz.prog (F6 158 [iA l] [] (bA (d8 l && decide (l % 2 = 1)))) := by
 refine A2 10 Tryz.func158 [] [(0, iA l)] fun G => ?_; refine wp_seq (l5 G d9 [(2, bA false)] fun G => b7 (wp_seq ?_)); cases h0 : (d8 l)
 ·refine l5 G (t6 (l8 1 [] (B7 l) t5) (fc h0 fz) [(3, 0), (4, 0), (5, 0), (1006, 0)]) [] fun G => b7 (wp_ret ?_); exact F2 G []
 ·refine l5 G (t6 (l8 1 [] (B7 l) t5) (fc h0 fz) [(3, 0), (4, 0), (5, 0), (1006, 0)]) [(2, bA (a76 l 1 == 1))] fun G => b7 (wp_ret ?_); exact B5 (a76 l 1 == 1) G [] (by rcases ak9 h0 with rfl | rfl | rfl | rfl <;> kernel_rfl)
theorem A6 (l : Int) : k6.ok Tryz.prog (F6 142 [iA l] [] (bA (d8 l && decide (l % 2 = 1)))) := by
 refine A2 10 Tryz.func142 [] [(0, iA l)] fun G => ?_; refine wp_seq (l5 G d9 [(2, bA false)] fun G => b7 (wp_seq ?_)); cases h0 : (d8 l)
 ·refine l5 G (t6 (l8 1 [] (Q3 l) t5) (fc h0 fz) [(3, 0), (4, 0), (5, 0), (1006, 0)]) [] fun G => b7 (wp_ret ?_); exact F2 G []
 ·refine l5 G (t6 (l8 1 [] (Q3 l) t5) (fc h0 fz) [(3, 0), (4, 0), (5, 0), (1006, 0)]) [(2, bA (a76 l 1 != 0))] fun G => b7 (wp_ret ?_); exact B5 (a76 l 1 != 0) G [] (by rcases ak9 h0 with rfl | rfl | rfl | rfl <;> kernel_rfl)
theorem aj6 (l : Int) : k6.ok Tryz.prog (F6 256 [iA l] [] (bA (d8 l && decide (l ≤ 1)))) := by
 refine A2 10 Tryz.func256 [] [(0, iA l)] fun G => ?_; refine wp_seq (l5 G d9 [(2, bA false)] fun G => b7 (wp_seq ?_)); cases h0 : (d8 l)
 ·refine l5 G (t6 (l8 1 [] (B7 l) t5) (fc h0 fz) [(3, 0), (4, 0), (5, 0), (1006, 0)]) [] fun G => b7 (wp_ret ?_); exact F2 G []
 ·refine l5 G (t6 (l8 1 [] (B7 l) t5) (fc h0 fz) [(3, 0), (4, 0), (5, 0), (1006, 0)]) [(2, bA (a76 l 2 == 0))] fun G => b7 (wp_ret ?_); exact B5 (a76 l 2 == 0) G [] (by rcases ak9 h0 with rfl | rfl | rfl | rfl <;> kernel_rfl)
theorem af3 (l : Int) : k6.ok Tryz.prog (F6 140 [iA l] [] (bA (d8 l && decide (l ≤ 1)))) := by
 refine A2 10 Tryz.func140 [] [(0, iA l)] fun G => ?_; refine wp_seq (l5 G d9 [(2, bA false)] fun G => b7 (wp_seq ?_)); cases h0 : (d8 l)
 ·refine l5 G (t6 (l8 1 [] (Q3 l) t5) (fc h0 fz) [(3, 0), (4, 0), (5, 0), (1006, 0)]) [] fun G => b7 (wp_ret ?_); exact F2 G []
 ·refine l5 G (t6 (l8 1 [] (Q3 l) t5) (fc h0 fz) [(3, 0), (4, 0), (5, 0), (1006, 0)]) [(2, bA (a76 l 2 == 0))] fun G => b7 (wp_ret ?_); exact B5 (a76 l 2 == 0) G [] (by rcases ak9 h0 with rfl | rfl | rfl | rfl <;> kernel_rfl)
theorem av2 (x y : Int) : k6.ok Tryz.prog (F6 255 [iA x, iA y] [] (bA (d8 x && d8 y && (i6 x y == y)))) := by
  refine A2 18 Tryz.func255 [] [(0, iA x), (1, iA y)] fun G => ?_; refine wp_seq (l5 G d9 [(4, bA false)] fun G => b7 (wp_seq ?_)); cases h0 : (d8 x)
  · refine l5 G (t6 (l8 1 [] (B7 x) t5) (fc h0 (fc (b := false) rfl fz)) (us [(3, 4, 0), (1005, 1005, 0), (7, 11, 1), (1012, 1012, 1)])) [] fun G => b7 (wp_ret ?_); exact F2 G []
  ·
   cases h1 : (d8 y)
   · refine l5 G (t6 (l8 1 [] (B7 x) (l8 4 [] (B7 y) t5)) (fc h0 (fc h1 fz)) (us [(3, 4, 0), (1005, 1005, 0), (7, 11, 1), (1012, 1012, 1)])) [] fun G => b7 (wp_ret ?_); exact F2 G []
   · refine l5 G (t6 (l8 1 [] (B7 x) (l8 4 [] (B7 y) t5)) (fc h0 (fc h1 fz)) (us [(3, 4, 0), (1005, 1005, 0), (7, 11, 1), (1012, 1012, 1)])) [(4, bA (i6 x y == y))] fun G => b7 (wp_ret ?_); exact F2 G []
theorem bp4 : ∀ x : Fin 4, ∀ y : Fin 4, (anI x.val y.val == 0) = (i6 x.val y.val == (y.val : Int)) := by decide +kernel
theorem D5 {x : Int} (h : d8 x = true) : ∃ a : Fin 4, x = (a.val : Int) := by
 simp [d8] at h
 exact ⟨⟨x.toNat, by omega⟩, by simp; omega⟩
theorem a45 {x y : Int} (hx : d8 x = true) (hy : d8 y = true) : (anI x y == 0) = (i6 x y == y) := by
 obtain ⟨a, rfl⟩ := D5 hx
 obtain ⟨b, rfl⟩ := D5 hy
 exact bp4 a b
theorem bm0 (x y : Int) : k6.ok Tryz.prog (F6 138 [iA x, iA y] [] (bA (anI x y == 0))) := by
 refine A2 9 Tryz.func138 [] [(0, iA x), (1, iA y)] fun G => ?_; refine wp_seq (l5 G d9 [(4, bA false)] fun G => b7 (wp_seq (l5 G d9 [(4, bA (anI x y == 0))] fun G => b7 (wp_ret ?_)))); exact F2 G []
theorem bd9 (p : d7) (d : Nat) (ih : ∀ (e : b5), f5 p.vars.length p.arrays.length d e = true → k6.ok Tryz.prog (F6 159 [pA 0, eA e 3] (pS p ++ eS e) (iA (b9 p.vars p.arrays d e))))
    (e : b5) (he : f5 p.vars.length p.arrays.length (d + 1) e = true) : k6.ok Tryz.prog (F6 159 [pA 0, eA e 3] (pS p ++ eS e) (iA (b9 p.vars p.arrays (d + 1) e))) := by
  refine A2 42 Tryz.func159 [dI p.vars, dI p.arrays, dT p.body, dE e.kids] [(0, pA 0), (1, eA e 3)] fun G => ?_; refine wp_seq (k8 G d9 [0, 1, 2, 3, 4, 12] [dI p.vars, dI p.arrays, dT p.body, dE e.kids, .box (pL 0), .box (eL e 3)] [(2, .ptr 4 0), (3, .ptr 5 0), (4, iA 0)] fun G => b7 (wp_seq (l5 G d9 [(5, iA 0)] fun G => b7 (wp_seq (wp_seq (l5 G d9 [(8, iA e.kind)] fun G => b7 (wp_block (wp_seq (l5 G d9 [(9, bA (e.kind == 2))] fun G => b7 (P9 G (fun h0 q0 => ?_) fun h0 q0 => ?_))))))))))
  ·
   refine wp_seq (l5 G d9 [(17, bA (e.kind == 3))] fun G => b7 (P9 G (fun h1 q1 => ?_) fun h1 q1 => ?_))
   ·
    refine wp_skip (m6 (b7 (wp_seq (wp_seq (C9 G d9 [(2, .ptr 4 0), (3, .ptr 5 0), (4, iA 0), (5, iA 0), (6, iA 0)] fun G => b7 (wp_block ?_)))))); refine o9 (κ := Nat) (fun k => k ≤ e.kids.length) (fun k => e.kids.length - k) (fun k => [dI p.vars, dI p.arrays, dT p.body, dE e.kids, .box (pL 0), .box (eL e 3)]) (fun k => [(2, .ptr 4 0), (3, .ptr 5 0), (4, iA 0), (5, iA (p8 p.vars p.arrays d 0 e.kids k)), (6, iA k)]) 0 (by simp [he, h0, h1]) (s5.at G _ _) ?_; clear G; intro k ρ a w hp G; have hlen : e.kids.length ≤ 9223372036854775807 := G.len 3 (d := .exprs e.kids) (by kernel_rfl); refine wp_seq (wp_seq (C9 G d9 [(2, .ptr 4 0), (3, .ptr 5 0), (4, iA 0), (5, iA (p8 p.vars p.arrays d 0 e.kids k)), (6, iA k), (29, bA (decide ((k : Int) < e.kids.length)))] fun G => b7 (O0 G (fun h2 q2 => ?_) fun h2 q2 => ?_)))
    · refine wp_exit (o5 (o5 (n9 (b7 (wp_seq (k8 G d9 (rg 4) [dI p.vars, dI p.arrays, dT p.body, dE e.kids] [(4, iA (p8 p.vars p.arrays d 0 e.kids k))] fun G => b7 (wp_ret ?_))))))); exact J9 (p8 p.vars p.arrays d 0 e.kids k) G (rg 4) (G8 (by omega) (by simp [U2, h0, q0, h1, q1, h2, q2]; done))
    · refine wp_skip (b7 (wp_seq (wp_block (ah9 G (s6 7 [0, 1, 2, 54] (ih (e.kids.getD k b85) (H6 he (by omega)))) [0, 0, 0, 4, 0, 28, 60, 126, 255, 511] [(5, iA (i6 (p8 p.vars p.arrays d 0 e.kids k) (b9 p.vars p.arrays d (e.kids.getD k b85))))] (iX k k e.kids.length []) (iK (by omega) b94) fun G => m6 (b7 (E2 G d9 [(6, iA ((k : Int) + 1))] [wO ((k : Int) + 1)] (o1 (by omega)) fun G => b7 ?_)))))); exact M8 G (k + 1) (by omega) (by omega) (rg 6) (ht := by have e1 : (p8 p.vars p.arrays d 0 e.kids (k + 1) : Int) = (i6 (p8 p.vars p.arrays d 0 e.kids k) (b9 p.vars p.arrays d (e.kids.getD k b85))) := (D2 (by omega)); (first | rw [e1] | simp only [e1]) <;> rfl)
   ·
    refine E2 G d9 [(5, iA (p.arrays.getD e.value.toNat 0))] [(0 : Int) ≤ e.value, e.value < (p.arrays.length : Int), e.value.toNat < p.arrays.length] ⟨((R7 he (by assumption)).1), ((R7 he (by assumption)).2.1), ((R7 he (by assumption)).2.2), b94⟩ fun G => m6 (b7 (wp_seq (wp_seq (C9 G d9 [(2, .ptr 4 0), (3, .ptr 5 0), (4, iA 0), (5, iA (p.arrays.getD e.value.toNat 0)), (6, iA 0)] fun G => b7 (wp_block ?_))))); refine o9 (κ := Nat) (fun k => k ≤ e.kids.length) (fun k => e.kids.length - k) (fun k => [dI p.vars, dI p.arrays, dT p.body, dE e.kids, .box (pL 0), .box (eL e 3)]) (fun k => [(2, .ptr 4 0), (3, .ptr 5 0), (4, iA 0), (5, iA (p8 p.vars p.arrays d (p.arrays.getD e.value.toNat 0) e.kids k)), (6, iA k)]) 0 (by simp [he, h0, h1]) (s5.at G _ _) ?_; clear G; intro k ρ a w hp G; have hlen : e.kids.length ≤ 9223372036854775807 := G.len 3 (d := .exprs e.kids) (by kernel_rfl); refine wp_seq (wp_seq (C9 G d9 [(2, .ptr 4 0), (3, .ptr 5 0), (4, iA 0), (5, iA (p8 p.vars p.arrays d (p.arrays.getD e.value.toNat 0) e.kids k)), (6, iA k), (29, bA (decide ((k : Int) < e.kids.length)))] fun G => b7 (O0 G (fun h3 q3 => ?_) fun h3 q3 => ?_)))
    · refine wp_exit (o5 (o5 (n9 (b7 (wp_seq (k8 G d9 (rg 4) [dI p.vars, dI p.arrays, dT p.body, dE e.kids] [(4, iA (p8 p.vars p.arrays d (p.arrays.getD e.value.toNat 0) e.kids k))] fun G => b7 (wp_ret ?_))))))); exact J9 (p8 p.vars p.arrays d (p.arrays.getD e.value.toNat 0) e.kids k) G (rg 4) (G8 (by omega) (by simp [U2, h0, q0, h1, q1, h3, q3]; done))
    · refine wp_skip (b7 (wp_seq (wp_block (ah9 G (s6 7 [0, 1, 2, 54] (ih (e.kids.getD k b85) (H6 he (by omega)))) [0, 0, 0, 4, 0, 28, 60, 126, 255, 511] [(5, iA (i6 (p8 p.vars p.arrays d (p.arrays.getD e.value.toNat 0) e.kids k) (b9 p.vars p.arrays d (e.kids.getD k b85))))] (iX k k e.kids.length []) (iK (by omega) b94) fun G => m6 (b7 (E2 G d9 [(6, iA ((k : Int) + 1))] [wO ((k : Int) + 1)] (o1 (by omega)) fun G => b7 ?_)))))); exact M8 G (k + 1) (by omega) (by omega) (rg 6) (ht := by have e1 : (p8 p.vars p.arrays d (p.arrays.getD e.value.toNat 0) e.kids (k + 1) : Int) = (i6 (p8 p.vars p.arrays d (p.arrays.getD e.value.toNat 0) e.kids k) (b9 p.vars p.arrays d (e.kids.getD k b85))) := (D2 (by omega)); (first | rw [e1] | simp only [e1]) <;> rfl)
  ·
   refine E2 G d9 [(5, iA (p.vars.getD e.value.toNat 0))] [(0 : Int) ≤ e.value, e.value < (p.vars.length : Int), e.value.toNat < p.vars.length] ⟨((P0 he (by assumption)).1), ((P0 he (by assumption)).2.1), ((P0 he (by assumption)).2.2), b94⟩ fun G => m6 (b7 (wp_seq (wp_seq (C9 G d9 [(2, .ptr 4 0), (3, .ptr 5 0), (4, iA 0), (5, iA (p.vars.getD e.value.toNat 0)), (6, iA 0)] fun G => b7 (wp_block ?_))))); refine o9 (κ := Nat) (fun k => k ≤ e.kids.length) (fun k => e.kids.length - k) (fun k => [dI p.vars, dI p.arrays, dT p.body, dE e.kids, .box (pL 0), .box (eL e 3)]) (fun k => [(2, .ptr 4 0), (3, .ptr 5 0), (4, iA 0), (5, iA (p8 p.vars p.arrays d (p.vars.getD e.value.toNat 0) e.kids k)), (6, iA k)]) 0 (by simp [he, h0]) (s5.at G _ _) ?_; clear G; intro k ρ a w hp G; have hlen : e.kids.length ≤ 9223372036854775807 := G.len 3 (d := .exprs e.kids) (by kernel_rfl); refine wp_seq (wp_seq (C9 G d9 [(2, .ptr 4 0), (3, .ptr 5 0), (4, iA 0), (5, iA (p8 p.vars p.arrays d (p.vars.getD e.value.toNat 0) e.kids k)), (6, iA k), (29, bA (decide ((k : Int) < e.kids.length)))] fun G => b7 (O0 G (fun h4 q4 => ?_) fun h4 q4 => ?_)))
   · refine wp_exit (o5 (o5 (n9 (b7 (wp_seq (k8 G d9 (rg 4) [dI p.vars, dI p.arrays, dT p.body, dE e.kids] [(4, iA (p8 p.vars p.arrays d (p.vars.getD e.value.toNat 0) e.kids k))] fun G => b7 (wp_ret ?_))))))); exact J9 (p8 p.vars p.arrays d (p.vars.getD e.value.toNat 0) e.kids k) G (rg 4) (G8 (by omega) (by simp [U2, h0, q0, h4, q4]; done))
   · refine wp_skip (b7 (wp_seq (wp_block (ah9 G (s6 7 [0, 1, 2, 54] (ih (e.kids.getD k b85) (H6 he (by omega)))) [0, 0, 0, 4, 0, 28, 60, 126, 255, 511] [(5, iA (i6 (p8 p.vars p.arrays d (p.vars.getD e.value.toNat 0) e.kids k) (b9 p.vars p.arrays d (e.kids.getD k b85))))] (iX k k e.kids.length []) (iK (by omega) b94) fun G => m6 (b7 (E2 G d9 [(6, iA ((k : Int) + 1))] [wO ((k : Int) + 1)] (o1 (by omega)) fun G => b7 ?_)))))); exact M8 G (k + 1) (by omega) (by omega) (rg 6) (ht := by have e1 : (p8 p.vars p.arrays d (p.vars.getD e.value.toNat 0) e.kids (k + 1) : Int) = (i6 (p8 p.vars p.arrays d (p.vars.getD e.value.toNat 0) e.kids k) (b9 p.vars p.arrays d (e.kids.getD k b85))) := (D2 (by omega)); (first | rw [e1] | simp only [e1]) <;> rfl)
abbrev aq9 (e : b5) (k : Nat) (r0 : List (Nat × AV)) : List (Nat × AV) := (27, .ref 3) :: (28, iA (e.kids.length : Int)) :: (29, iA (k : Int)) :: r0
abbrev X8 (p : d7) (e : b5) (r0 : List It) : List It := dI p.vars :: dI p.arrays :: dT p.body :: dE e.kids :: r0
theorem bD9 (p : d7) (d : Nat) (ih : ∀ (e : b5), f5 p.vars.length p.arrays.length d e = true → k6.ok Tryz.prog (F6 141 [pA 0, eA e 3] (pS p ++ eS e) (iA (b9 p.vars p.arrays d e))))
    (e : b5) (he : f5 p.vars.length p.arrays.length (d + 1) e = true) : k6.ok Tryz.prog (F6 141 [pA 0, eA e 3] (pS p ++ eS e) (iA (b9 p.vars p.arrays (d + 1) e))) := by
  refine A2 40 Tryz.func141 (X8 p e []) [(0, pA 0), (1, eA e 3)] fun G => ?_; refine wp_seq (k8 G d9 [0, 1, 2, 3, 4, 12] (X8 p e [.box (pL 0), .box (eL e 3)]) [(2, .ptr 4 0), (3, .ptr 5 0), (4, iA 0)] fun G => b7 (wp_seq (l5 G d9 [(5, iA 0)] fun G => b7 (wp_seq (wp_seq (l5 G d9 [(9, iA e.kind)] fun G => b7 (wp_block (wp_seq (l5 G d9 [(10, bA (e.kind == 2))] fun G => b7 (P9 G (fun h0 q0 => ?_) fun h0 q0 => ?_))))))))))
  ·
   refine wp_seq (l5 G d9 [(18, bA (e.kind == 3))] fun G => b7 (P9 G (fun h1 q1 => ?_) fun h1 q1 => ?_))
   ·
    refine wp_skip (m6 (b7 (wp_seq (wp_seq (k8 G d9 (rg 5) (X8 p e [.box (pL 0)]) [(2, .ptr 4 0), (4, iA 0), (5, iA 0), (27, .ref 3), (28, iA (e.kids.length : Int)), (29, iA 0)] fun G => b7 (wp_block ?_)))))); refine o9 (κ := Nat) (fun k => k ≤ e.kids.length) (fun k => e.kids.length - k) (fun k => [dI p.vars, dI p.arrays, dT p.body, dE e.kids, .box (pL 0)]) (fun k => [(2, .ptr 4 0), (4, iA 0), (5, iA (p8 p.vars p.arrays d 0 e.kids k)), (27, .ref 3), (28, iA (e.kids.length : Int)), (29, iA k)]) 0 (by simp [he, h0, h1]) (s5.at G _ _) ?_; clear G; intro k ρ a w hp G; have hlen : e.kids.length ≤ 9223372036854775807 := G.len 3 (d := .exprs e.kids) (by kernel_rfl); refine wp_seq (C9 G d9 ((2, .ptr 4 0) :: (4, iA 0) :: (5, iA (p8 p.vars p.arrays d 0 e.kids k)) :: (aq9 e k [(30, bA (decide ((k : Int) < e.kids.length)))])) fun G => b7 (wp_seq (O0 G (fun h2 q2 => ?_) fun h2 q2 => ?_)))
    · refine wp_exit (o5 (o5 (n9 (b7 (wp_seq (k8 G d9 (rg 4) (X8 p e []) [(4, iA (p8 p.vars p.arrays d 0 e.kids k))] fun G => b7 (wp_ret ?_))))))); exact J9 (p8 p.vars p.arrays d 0 e.kids k) G (rg 4) (G8 (by omega) (by simp [U2, h0, q0, h1, q1, h2, q2]; done))
    · refine wp_skip (b7 (wp_seq (wp_block (wp_seq (O1 G d9 [0, 1, 2, 3, 4, 13, 21] (X8 p e [.box (pL 0), dE (e.kids.getD k b85).kids, .box (eL (e.kids.getD k b85) 5)]) ((2, .ptr 4 0) :: (4, iA 0) :: (5, iA (p8 p.vars p.arrays d 0 e.kids k)) :: (7, .ptr 6 0) :: (aq9 e k [])) (iX k k e.kids.length []) (iK (by omega) b94) fun G => b7 (k8 G (s6 3 [0, 1, 2, 5] (ih (e.kids.getD k b85) (H6 he (by omega)))) (rg 5) (X8 p e [.box (pL 0)]) ((2, .ptr 4 0) :: (4, iA 0) :: (5, iA (i6 (p8 p.vars p.arrays d 0 e.kids k) (b9 p.vars p.arrays d (e.kids.getD k b85)))) :: (aq9 e k [])) fun G => m6 (b7 (E2 G d9 [(29, iA ((k : Int) + 1))] [wO ((k : Int) + 1)] (o1 (by omega)) fun G => b7 ?_)))))))); exact M8 G (k + 1) (by omega) (by omega) (rg 5) (ht := by have e1 : (p8 p.vars p.arrays d 0 e.kids (k + 1) : Int) = (i6 (p8 p.vars p.arrays d 0 e.kids k) (b9 p.vars p.arrays d (e.kids.getD k b85))) := (D2 (by omega)); (first | rw [e1] | simp only [e1]) <;> rfl)
   ·
    refine E2 G d9 [(5, iA (p.arrays.getD e.value.toNat 0))] [(0 : Int) ≤ e.value, e.value < (p.arrays.length : Int), e.value.toNat < p.arrays.length] ⟨((R7 he (by assumption)).1), ((R7 he (by assumption)).2.1), ((R7 he (by assumption)).2.2), b94⟩ fun G => m6 (b7 (wp_seq (wp_seq (k8 G d9 (rg 5) (X8 p e [.box (pL 0)]) [(2, .ptr 4 0), (4, iA 0), (5, iA (p.arrays.getD e.value.toNat 0)), (27, .ref 3), (28, iA (e.kids.length : Int)), (29, iA 0)] fun G => b7 (wp_block ?_))))); refine o9 (κ := Nat) (fun k => k ≤ e.kids.length) (fun k => e.kids.length - k) (fun k => [dI p.vars, dI p.arrays, dT p.body, dE e.kids, .box (pL 0)]) (fun k => [(2, .ptr 4 0), (4, iA 0), (5, iA (p8 p.vars p.arrays d (p.arrays.getD e.value.toNat 0) e.kids k)), (27, .ref 3), (28, iA (e.kids.length : Int)), (29, iA k)]) 0 (by simp [he, h0, h1]) (s5.at G _ _) ?_; clear G; intro k ρ a w hp G; have hlen : e.kids.length ≤ 9223372036854775807 := G.len 3 (d := .exprs e.kids) (by kernel_rfl); refine wp_seq (C9 G d9 ((2, .ptr 4 0) :: (4, iA 0) :: (5, iA (p8 p.vars p.arrays d (p.arrays.getD e.value.toNat 0) e.kids k)) :: (aq9 e k [(30, bA (decide ((k : Int) < e.kids.length)))])) fun G => b7 (wp_seq (O0 G (fun h3 q3 => ?_) fun h3 q3 => ?_)))
    · refine wp_exit (o5 (o5 (n9 (b7 (wp_seq (k8 G d9 (rg 4) (X8 p e []) [(4, iA (p8 p.vars p.arrays d (p.arrays.getD e.value.toNat 0) e.kids k))] fun G => b7 (wp_ret ?_))))))); exact J9 (p8 p.vars p.arrays d (p.arrays.getD e.value.toNat 0) e.kids k) G (rg 4) (G8 (by omega) (by simp [U2, h0, q0, h1, q1, h3, q3]; done))
    · refine wp_skip (b7 (wp_seq (wp_block (wp_seq (O1 G d9 [0, 1, 2, 3, 4, 13, 21] (X8 p e [.box (pL 0), dE (e.kids.getD k b85).kids, .box (eL (e.kids.getD k b85) 5)]) ((2, .ptr 4 0) :: (4, iA 0) :: (5, iA (p8 p.vars p.arrays d (p.arrays.getD e.value.toNat 0) e.kids k)) :: (7, .ptr 6 0) :: (aq9 e k [])) (iX k k e.kids.length []) (iK (by omega) b94) fun G => b7 (k8 G (s6 3 [0, 1, 2, 5] (ih (e.kids.getD k b85) (H6 he (by omega)))) (rg 5) (X8 p e [.box (pL 0)]) ((2, .ptr 4 0) :: (4, iA 0) :: (5, iA (i6 (p8 p.vars p.arrays d (p.arrays.getD e.value.toNat 0) e.kids k) (b9 p.vars p.arrays d (e.kids.getD k b85)))) :: (aq9 e k [])) fun G => m6 (b7 (E2 G d9 [(29, iA ((k : Int) + 1))] [wO ((k : Int) + 1)] (o1 (by omega)) fun G => b7 ?_)))))))); exact M8 G (k + 1) (by omega) (by omega) (rg 5) (ht := by have e1 : (p8 p.vars p.arrays d (p.arrays.getD e.value.toNat 0) e.kids (k + 1) : Int) = (i6 (p8 p.vars p.arrays d (p.arrays.getD e.value.toNat 0) e.kids k) (b9 p.vars p.arrays d (e.kids.getD k b85))) := (D2 (by omega)); (first | rw [e1] | simp only [e1]) <;> rfl)
  ·
   refine E2 G d9 [(5, iA (p.vars.getD e.value.toNat 0))] [(0 : Int) ≤ e.value, e.value < (p.vars.length : Int), e.value.toNat < p.vars.length] ⟨((P0 he (by assumption)).1), ((P0 he (by assumption)).2.1), ((P0 he (by assumption)).2.2), b94⟩ fun G => m6 (b7 (wp_seq (wp_seq (k8 G d9 (rg 5) (X8 p e [.box (pL 0)]) [(2, .ptr 4 0), (4, iA 0), (5, iA (p.vars.getD e.value.toNat 0)), (27, .ref 3), (28, iA (e.kids.length : Int)), (29, iA 0)] fun G => b7 (wp_block ?_))))); refine o9 (κ := Nat) (fun k => k ≤ e.kids.length) (fun k => e.kids.length - k) (fun k => [dI p.vars, dI p.arrays, dT p.body, dE e.kids, .box (pL 0)]) (fun k => [(2, .ptr 4 0), (4, iA 0), (5, iA (p8 p.vars p.arrays d (p.vars.getD e.value.toNat 0) e.kids k)), (27, .ref 3), (28, iA (e.kids.length : Int)), (29, iA k)]) 0 (by simp [he, h0]) (s5.at G _ _) ?_; clear G; intro k ρ a w hp G; have hlen : e.kids.length ≤ 9223372036854775807 := G.len 3 (d := .exprs e.kids) (by kernel_rfl); refine wp_seq (C9 G d9 ((2, .ptr 4 0) :: (4, iA 0) :: (5, iA (p8 p.vars p.arrays d (p.vars.getD e.value.toNat 0) e.kids k)) :: (aq9 e k [(30, bA (decide ((k : Int) < e.kids.length)))])) fun G => b7 (wp_seq (O0 G (fun h4 q4 => ?_) fun h4 q4 => ?_)))
   · refine wp_exit (o5 (o5 (n9 (b7 (wp_seq (k8 G d9 (rg 4) (X8 p e []) [(4, iA (p8 p.vars p.arrays d (p.vars.getD e.value.toNat 0) e.kids k))] fun G => b7 (wp_ret ?_))))))); exact J9 (p8 p.vars p.arrays d (p.vars.getD e.value.toNat 0) e.kids k) G (rg 4) (G8 (by omega) (by simp [U2, h0, q0, h4, q4]; done))
   · refine wp_skip (b7 (wp_seq (wp_block (wp_seq (O1 G d9 [0, 1, 2, 3, 4, 13, 21] (X8 p e [.box (pL 0), dE (e.kids.getD k b85).kids, .box (eL (e.kids.getD k b85) 5)]) ((2, .ptr 4 0) :: (4, iA 0) :: (5, iA (p8 p.vars p.arrays d (p.vars.getD e.value.toNat 0) e.kids k)) :: (7, .ptr 6 0) :: (aq9 e k [])) (iX k k e.kids.length []) (iK (by omega) b94) fun G => b7 (k8 G (s6 3 [0, 1, 2, 5] (ih (e.kids.getD k b85) (H6 he (by omega)))) (rg 5) (X8 p e [.box (pL 0)]) ((2, .ptr 4 0) :: (4, iA 0) :: (5, iA (i6 (p8 p.vars p.arrays d (p.vars.getD e.value.toNat 0) e.kids k) (b9 p.vars p.arrays d (e.kids.getD k b85)))) :: (aq9 e k [])) fun G => m6 (b7 (E2 G d9 [(29, iA ((k : Int) + 1))] [wO ((k : Int) + 1)] (o1 (by omega)) fun G => b7 ?_)))))))); exact M8 G (k + 1) (by omega) (by omega) (rg 5) (ht := by have e1 : (p8 p.vars p.arrays d (p.vars.getD e.value.toNat 0) e.kids (k + 1) : Int) = (i6 (p8 p.vars p.arrays d (p.vars.getD e.value.toNat 0) e.kids k) (b9 p.vars p.arrays d (e.kids.getD k b85))) := (D2 (by omega)); (first | rw [e1] | simp only [e1]) <;> rfl)
theorem aK7 (p : d7) : ∀ (d : Nat) (e : b5), f5 p.vars.length p.arrays.length d e = true → k6.ok Tryz.prog (F6 159 [pA 0, eA e 3] (pS p ++ eS e) (iA (b9 p.vars p.arrays d e))) := by
 intro d
 induction d with
 | zero => intro e h; simp [f5] at h
 | succ d ih => intro e h; exact bd9 p d ih e h
theorem a59 (p : d7) : ∀ (d : Nat) (e : b5), f5 p.vars.length p.arrays.length d e = true → k6.ok Tryz.prog (F6 141 [pA 0, eA e 3] (pS p ++ eS e) (iA (b9 p.vars p.arrays d e))) := by
 intro d
 induction d with
 | zero => intro e h; simp [f5] at h
 | succ d ih => intro e h; exact bD9 p d ih e h
def p6 (vs ars : List Int) : Nat → b5 → Bool
 | 0, _ => false
 | d + 1, e => (decide (e.kind = 3) && (d8 (b9 vs ars d (e.kids.getD 0 b85)) && decide (b9 vs ars d (e.kids.getD 0 b85) % 2 = 1))) || e.kids.any (p6 vs ars d)
section
variable {vs ars : List Int} {d : Nat} {e : b5}
theorem bv0 (k : e.kind = 3) (h : (d8 (b9 vs ars d (e.kids.getD 0 b85)) && decide (b9 vs ars d (e.kids.getD 0 b85) % 2 = 1)) = true) : p6 vs ars (d + 1) e = true := by rw [p6, h]; simp [k]
theorem ap0 (h : e.kids.any (p6 vs ars d) = false) (k : ¬ e.kind = 3) : p6 vs ars (d + 1) e = false := by rw [p6, h]; simp [k]
theorem aU7 (h : e.kids.any (p6 vs ars d) = false) (k : (d8 (b9 vs ars d (e.kids.getD 0 b85)) && decide (b9 vs ars d (e.kids.getD 0 b85) % 2 = 1)) = false) : p6 vs ars (d + 1) e = false := by rw [p6, h, k]; simp
end
theorem aL8 {α : Type} {l : List α} {k : Nat} {p : α → Bool} {z : α} (h : (l.take k).any p = false) (hk : k < l.length) (hp : p (l.getD k z) = false) : (l.take (k + 1)).any p = false := by
 rw [F8 l k hk, List.any_append, h, ← n6 (d := z) hk, List.any_cons, hp]; rfl
theorem aL9 {α : Type} {l : List α} {k : Nat} {p : α → Bool} (h : (l.take k).any p = false) (hk : l.length ≤ k) : l.any p = false := by
 rw [ca3 hk] at h; exact h
theorem bm4 {α : Type} {l : List α} {k : Nat} {p : α → Bool} {z : α} (hk : k < l.length) (hp : p (l.getD k z) = true) : l.any p = true := by
 rw [n6 hk] at hp
 exact List.any_eq_true.2 ⟨_, cb0 hk, hp⟩
theorem a61 (p : d7) (d : Nat) (ih : ∀ (e : b5), f5 p.vars.length p.arrays.length d e = true → k6.ok Tryz.prog (F6 257 [pA 0, eA e 3] (pS p ++ eS e) (bA (p6 p.vars p.arrays d e))))
    (ihl : ∀ (e : b5), f5 p.vars.length p.arrays.length d e = true → k6.ok Tryz.prog (F6 159 [pA 0, eA e 3] (pS p ++ eS e) (iA (b9 p.vars p.arrays d e))))
    (e : b5) (he : f5 p.vars.length p.arrays.length (d + 1) e = true) : k6.ok Tryz.prog (F6 257 [pA 0, eA e 3] (pS p ++ eS e) (bA (p6 p.vars p.arrays (d + 1) e))) := by
  refine A2 32 Tryz.func257 [dI p.vars, dI p.arrays, dT p.body, dE e.kids] [(0, pA 0), (1, eA e 3)] fun G => ?_; have hlen : e.kids.length ≤ 9223372036854775807 := G.len 3 (d := .exprs e.kids) (by kernel_rfl); refine wp_seq (k8 G d9 [0, 1, 2, 3, 4, 12] [dI p.vars, dI p.arrays, dT p.body, dE e.kids, .box (pL 0), .box (eL e 3)] [(2, .ptr 4 0), (3, .ptr 5 0), (4, bA false)] fun G => b7 (wp_seq (wp_seq ?_))); cases h0 : (e.kind == 3)
  ·
   have q0 := ne_of_beq_false h0; refine bn8 G (O2 (fc h0 fz) (us [(4, 10, 0), (1011, 1011, 0)])) [0, 1, 3, 7, 15, 15, 47, 111, 239, 511, 1023, 2047] [(17, bA false)] fun G => b7 (rF G false (by kernel_rfl) (wp_skip (b7 (wp_seq (wp_seq (C9 G d9 [(2, .ptr 4 0), (3, .ptr 5 0), (4, bA false), (5, iA 0)] fun G => b7 (wp_block ?_))))))); refine o9 (κ := Nat) (fun k => k ≤ e.kids.length ∧ (e.kids.take k).any (p6 p.vars p.arrays d) = false) (fun k => e.kids.length - k) (fun k => [dI p.vars, dI p.arrays, dT p.body, dE e.kids, .box (pL 0), .box (eL e 3)]) (fun k => [(2, .ptr 4 0), (3, .ptr 5 0), (4, bA false), (5, iA k)]) 0 (by simp [he, h0]) (s5.at G _ _) ?_; clear G; intro k ρ a w hp G; refine wp_seq (wp_seq (l5 G d9 [(22, bA (decide ((k : Int) < e.kids.length)))] fun G => b7 (O0 G (fun h2 q2 => ?_) fun h2 q2 => ?_)))
   · refine wp_exit (o5 (o5 (n9 (b7 (wp_seq (k8 G d9 (rg 4) [dI p.vars, dI p.arrays, dT p.body, dE e.kids] [(4, bA false)] fun G => b7 (wp_ret ?_))))))); exact B5 false G (rg 4) (ap0 (aL9 hp.2 (by omega)) (by assumption))
   ·
    refine wp_skip (b7 (wp_seq (wp_block (wp_seq (ah9 G (s6 6 [0, 1, 2, 46] (ih (e.kids.getD k b85) (H6 he (by omega)))) [0, 0, 2, 0, 14, 30, 63] [(31, bA (p6 p.vars p.arrays d (e.kids.getD k b85)))] (iX k k e.kids.length []) (iK (by have hp := hp; omega) b94) fun G => b7 (rcB G (fun h3 => ?_) fun h3 => ?_))))))
    · refine wp_skip (m6 (b7 (E2 G d9 [(5, iA ((k : Int) + 1))] [wO ((k : Int) + 1)] (o1 (by omega)) fun G => b7 ?_))); exact M8 G (k + 1) (⟨by omega, aL8 hp.2 (by omega) (by assumption)⟩) (by have hp := hp; omega) (rg 6)
    · refine wp_seq (l5 G d9 [(4, bA true)] fun G => b7 (wp_ret (A0 (l7 (l7 (A0 (l7 ?_))))))); exact B5 true G (rg 4) (by rw [p6, bm4 (k := k) (by omega) (by assumption), Bool.or_true])
  ·
   have q0 := eq_of_beq h0; refine ah9 G (t6 (l8 9 [0, 1, 2, 70] (ihl (e.kids.getD 0 b85) (H6 he (V6 he (by assumption)))) (l8 10 [] (H2 (b9 p.vars p.arrays d (e.kids.getD 0 b85))) t5)) (fc h0 fz) (us [(4, 10, 0), (1011, 1011, 0)])) [0, 1, 3, 7, 15, 15, 47, 111, 239, 511, 1023, 2047] [(17, bA (d8 (b9 p.vars p.arrays d (e.kids.getD 0 b85)) && decide (b9 p.vars p.arrays d (e.kids.getD 0 b85) % 2 = 1)))] (iX 0 0 e.kids.length []) (iK (by have := V6 he (by assumption); omega) b94) fun G => b7 ?_; cases h1 : (d8 (b9 p.vars p.arrays d (e.kids.getD (0 : Nat) b85)) && decide (b9 p.vars p.arrays d (e.kids.getD (0 : Nat) b85) % (2 : Int) = 1))
   ·
    have q1 : ((d8 (b9 p.vars p.arrays d (e.kids.getD 0 b85))) = false) ∨ (¬ (b9 p.vars p.arrays d (e.kids.getD 0 b85) % 2 = 1)) := Or.imp (fun hq => (hq)) (fun hq => of_decide_eq_false hq) (ca4.1 h1); refine rF G _ h1 (wp_skip (b7 (wp_seq (wp_seq (C9 G d9 [(2, .ptr 4 0), (3, .ptr 5 0), (4, bA false), (5, iA 0)] fun G => b7 (wp_block ?_)))))); refine o9 (κ := Nat) (fun k => k ≤ e.kids.length ∧ (e.kids.take k).any (p6 p.vars p.arrays d) = false) (fun k => e.kids.length - k) (fun k => [dI p.vars, dI p.arrays, dT p.body, dE e.kids, .box (pL 0), .box (eL e 3)]) (fun k => [(2, .ptr 4 0), (3, .ptr 5 0), (4, bA false), (5, iA k)]) 0 (by simp [he, h0, h1]) (s5.at G _ _) ?_; clear G; intro k ρ a w hp G; refine wp_seq (wp_seq (l5 G d9 [(22, bA (decide ((k : Int) < e.kids.length)))] fun G => b7 (O0 G (fun h4 q4 => ?_) fun h4 q4 => ?_)))
    · refine wp_exit (o5 (o5 (n9 (b7 (wp_seq (k8 G d9 (rg 4) [dI p.vars, dI p.arrays, dT p.body, dE e.kids] [(4, bA false)] fun G => b7 (wp_ret ?_))))))); exact B5 false G (rg 4) (aU7 (aL9 hp.2 (by omega)) (by assumption))
    ·
     refine wp_skip (b7 (wp_seq (wp_block (wp_seq (ah9 G (s6 6 [0, 1, 2, 46] (ih (e.kids.getD k b85) (H6 he (by omega)))) [0, 0, 2, 0, 14, 30, 63] [(31, bA (p6 p.vars p.arrays d (e.kids.getD k b85)))] (iX k k e.kids.length []) (iK (by have hp := hp; omega) b94) fun G => b7 (rcB G (fun h5 => ?_) fun h5 => ?_))))))
     · refine wp_skip (m6 (b7 (E2 G d9 [(5, iA ((k : Int) + 1))] [wO ((k : Int) + 1)] (o1 (by omega)) fun G => b7 ?_))); exact M8 G (k + 1) (⟨by omega, aL8 hp.2 (by omega) (by assumption)⟩) (by have hp := hp; omega) (rg 6)
     · refine wp_seq (l5 G d9 [(4, bA true)] fun G => b7 (wp_ret (A0 (l7 (l7 (A0 (l7 ?_))))))); exact B5 true G (rg 4) (by rw [p6, bm4 (k := k) (by omega) (by assumption), Bool.or_true])
   · have q1 : ((d8 (b9 p.vars p.arrays d (e.kids.getD 0 b85))) = true) ∧ (b9 p.vars p.arrays d (e.kids.getD 0 b85) % 2 = 1) := And.imp (fun hq => (hq)) (fun hq => of_decide_eq_true hq) (ca6.1 h1); refine rT G _ h1 (wp_seq (l5 G d9 [(4, bA true)] fun G => b7 (wp_ret (l7 ?_)))); exact B5 true G (rg 4) (bv0 (by assumption) (by assumption))
def flB (x y : Int) : Bool := d8 x && d8 y && (i6 x y == y)
abbrev i9 (p : d7) (e : b5) : Int := b9 p.vars p.arrays 5 e
def x5 (x : Int) : Bool := d8 x && decide (x % 2 = 1)
def F5 (p : d7) (s : b6) (pc : Int) : Int :=
 if s.kind = 1 then if flB (i6 (i9 p s.value) pc) (p.vars.getD s.target.toNat 0) then 0 else 1
 else if s.kind = 2 then if flB (i6 (i6 (i9 p s.value) (i9 p s.index)) pc) (p.arrays.getD s.target.toNat 0) then 0 else 1
 else if s.kind = 5 then if (d8 (i9 p s.value) && decide (i9 p s.value ≤ 1)) && decide (pc = 0) then 0 else 2
 else 0
def W4 (p : d7) (s : b6) : Int :=
 if s.kind = 3 ∧ x5 (i9 p s.value) = true then 3
 else if (s.kind ≠ 4 ∧ p6 p.vars p.arrays 5 s.value = true) ∨ (s.kind = 2 ∧ x5 (i9 p s.index) = true) then 4 else 0
def K2 (p : d7) (s : b6) (pc : Int) (strict : Bool) : Int := if F5 p s pc = 0 then (if strict then W4 p s else 0) else F5 p s pc
theorem K3 (p : d7) (e : b5) (he : f5 p.vars.length p.arrays.length 5 e = true) : k6.ok Tryz.prog (F6 159 [pA 0, eA e 3] (pS p ++ eS e) (iA (i9 p e))) := aK7 p 5 e he
theorem a62 (p : d7) : ∀ (d : Nat) (e : b5), f5 p.vars.length p.arrays.length d e = true → k6.ok Tryz.prog (F6 257 [pA 0, eA e 3] (pS p ++ eS e) (bA (p6 p.vars p.arrays d e))) := by
 intro d
 induction d with
 | zero => intro e h; simp [f5] at h
 | succ d ih => intro e h; exact a61 p d ih (aK7 p d) e h
theorem E1 (p : d7) (e : b5) (he : f5 p.vars.length p.arrays.length 5 e = true) : k6.ok Tryz.prog (F6 257 [pA 0, eA e 3] (pS p ++ eS e) (bA (p6 p.vars p.arrays 5 e))) := a62 p 5 e he
section
variable {nv na : Nat} {s : b6}
theorem ah6 {e : b5} (h : l6 nv na e = true) : f5 nv na 5 e = true := by unfold l6 at h; simp only [b86] at h; exact h.1
variable (h : t7 nv na s = true)
include h
theorem n5 (k : ¬ s.kind = 4) : f5 nv na 5 s.value = true := by
 apply ah6
 by_cases k1 : s.kind = 1 ∨ s.kind = 5
 ·rw [A1 k1] at h; simp only [b86] at h; exact h.2.2
 by_cases k2 : s.kind = 2
 ·rw [I7 k2] at h; simp only [b86] at h; exact h.2.2.2
 by_cases k3 : s.kind = 3
 ·rw [W7 k3] at h; simp only [b86] at h; exact h.2.2
 ·rw [an0 (by omega)] at h; cases h
theorem W9 (k : s.kind = 2) : f5 nv na 5 s.index = true := by
 rw [I7 k] at h; simp only [b86] at h; exact ah6 h.2.1
theorem W8 (k : s.kind = 1 ∨ s.kind = 5) : 0 ≤ s.target ∧ s.target < nv ∧ s.target.toNat < nv := by
 rw [A1 k] at h; simp only [b86, decide_eq_true_eq] at h; omega
theorem Z7 (k : s.kind = 2) : 0 ≤ s.target ∧ s.target < na ∧ s.target.toNat < na := by
 rw [I7 k] at h; simp only [b86, decide_eq_true_eq] at h; omega
end
section
variable {p : d7} {s : b6} {pc : Int} {strict : Bool} {x : Int}
theorem at2 (h : F5 p s pc = x) (hx : x ≠ 0) : K2 p s pc strict = x := by rw [K2, h, if_neg hx]
theorem ai2 (h : F5 p s pc = 0) : K2 p s pc false = 0 := by rw [K2, h]; rfl
theorem x8 (h : F5 p s pc = 0) (hl : W4 p s = x) : K2 p s pc true = x := by rw [K2, h, hl]; rfl
theorem bU4 (k : s.kind = 1) (h : (!(d8 (i6 (i9 p s.value) pc) && d8 (p.vars.getD s.target.toNat 0) && (i6 (i6 (i9 p s.value) pc) (p.vars.getD s.target.toNat 0) == (p.vars.getD s.target.toNat 0)))) = false) : F5 p s pc = 0 := by rw [F5, if_pos k, if_pos (by unfold flB; first | (rw [b97] at h; exact h) | (rw [b95] at h; rw [h]; simp))]
theorem b81 (k : s.kind = 1) (h : (!(d8 (i6 (i9 p s.value) pc) && d8 (p.vars.getD s.target.toNat 0) && (i6 (i6 (i9 p s.value) pc) (p.vars.getD s.target.toNat 0) == (p.vars.getD s.target.toNat 0)))) = true) : F5 p s pc = 1 := by rw [F5, if_pos k, if_neg (by unfold flB; first | (rw [b97] at h; exact h) | (rw [b95] at h; rw [h]; simp))]
theorem bJ8 (k : s.kind = 2) (h : (!(d8 (i6 (i6 (i9 p s.value) (i9 p s.index)) pc) && d8 (p.arrays.getD s.target.toNat 0) && (i6 (i6 (i6 (i9 p s.value) (i9 p s.index)) pc) (p.arrays.getD s.target.toNat 0) == (p.arrays.getD s.target.toNat 0)))) = false) : F5 p s pc = 0 := by rw [F5, if_neg (by omega), if_pos k, if_pos (by unfold flB; first | (rw [b97] at h; exact h) | (rw [b95] at h; rw [h]; simp))]
theorem b80 (k : s.kind = 2) (h : (!(d8 (i6 (i6 (i9 p s.value) (i9 p s.index)) pc) && d8 (p.arrays.getD s.target.toNat 0) && (i6 (i6 (i6 (i9 p s.value) (i9 p s.index)) pc) (p.arrays.getD s.target.toNat 0) == (p.arrays.getD s.target.toNat 0)))) = true) : F5 p s pc = 1 := by rw [F5, if_neg (by omega), if_pos k, if_neg (by unfold flB; first | (rw [b97] at h; exact h) | (rw [b95] at h; rw [h]; simp))]
theorem bU3 (k : s.kind = 5) (h : (!(d8 (i9 p s.value) && decide (i9 p s.value ≤ 1))) = false) (h2 : pc = 0) : F5 p s pc = 0 := by
 rw [b97] at h
 rw [F5, if_neg (by omega), if_neg (by omega), if_pos k, h, decide_eq_true h2]; rfl
theorem b24 (k : s.kind = 5) (h : (!(d8 (i9 p s.value) && decide (i9 p s.value ≤ 1))) = true ∨ ¬ pc = 0) : F5 p s pc = 2 := by
 rw [F5, if_neg (by omega), if_neg (by omega), if_pos k]
 rcases h with h | h
 ·rw [b95] at h
  rw [h]; rfl
 ·rw [decide_eq_false h, Bool.and_false]; rfl
theorem fl0 (k : ¬ s.kind = 1 ∧ ¬ s.kind = 2 ∧ ¬ s.kind = 5) : F5 p s pc = 0 := by rw [F5, if_neg k.1, if_neg k.2.1, if_neg k.2.2]
theorem lk3 (k : s.kind = 3) (h : (d8 (i9 p s.value) && decide (i9 p s.value % 2 = 1)) = true) : W4 p s = 3 := by rw [W4, if_pos ⟨k, (show x5 _ = true from h)⟩]
theorem lkv (h3 : ¬ s.kind = 3 ∨ (d8 (i9 p s.value) && decide (i9 p s.value % 2 = 1)) = false) (k : ¬ s.kind = 4) (h : p6 p.vars p.arrays 5 s.value = true) : W4 p s = 4 := by
 rw [W4, if_neg (by rintro ⟨a, b⟩; exact h3.elim (fun h => h a) (fun h => Bool.false_ne_true (h.symm.trans b))), if_pos (.inl ⟨k, h⟩)]
theorem lki (k : s.kind = 2) (h : (d8 (i9 p s.index) && decide (i9 p s.index % 2 = 1)) = true) : W4 p s = 4 := by
 rw [W4, if_neg (by omega), if_pos (.inr ⟨k, (show x5 _ = true from h)⟩)]
theorem lk0 (h3 : ¬ s.kind = 3 ∨ (d8 (i9 p s.value) && decide (i9 p s.value % 2 = 1)) = false) (h4 : s.kind = 4 ∨ p6 p.vars p.arrays 5 s.value = false) (h2 : ¬ s.kind = 2 ∨ (d8 (i9 p s.index) && decide (i9 p s.index % 2 = 1)) = false) : W4 p s = 0 := by
 rw [W4, if_neg (by rintro ⟨a, b⟩; exact h3.elim (fun h => h a) (fun h => Bool.false_ne_true (h.symm.trans b))), if_neg]
 rintro (⟨a, b⟩ | ⟨a, b⟩)
 ·rcases h4 with h | h
  ·exact a h
  ·rw [h] at b; cases b
 ·rcases h2 with h | h
  ·exact h a
  ·exact Bool.false_ne_true (h.symm.trans b)
end
abbrev O5 (p : d7) (s : b6) (r0 : List It) : List It := dI p.vars :: dI p.arrays :: dT p.body :: dE s.index.kids :: dE s.value.kids :: dT s.body :: dT s.els :: r0
theorem bL3 (p : d7) (s : b6) (pc : Int) (strict : Bool) (h : t7 p.vars.length p.arrays.length s = true) : k6.ok Tryz.prog (F6 241 [pA 0, sA s 3, iA pc, bA strict] (pS p ++ sS s) (iA (K2 p s pc strict))) := by
  refine A2 94 Tryz.func241 (O5 p s []) [(0, pA 0), (1, sA s 3), (2, iA pc), (3, bA strict)] fun G => ?_; refine wp_seq (k8 G d9 [0, 1, 2, 3, 4, 5, 6, 7, 15] (O5 p s [.box (pL 0), .box (sL s 3)]) [(2, iA pc), (3, bA strict), (4, .ptr 7 0), (5, .ptr 8 0), (8, iA 0)] fun G => b7 (wp_seq (wp_seq (l5 G d9 [(10, iA s.kind)] fun G => b7 (wp_block (wp_seq (l5 G d9 [(11, bA (s.kind == 1))] fun G => b7 (P9 G (fun h0 q0 => ?_) fun h0 q0 => ?_))))))))
  ·
   refine wp_seq (l5 G d9 [(27, bA (s.kind == 2))] fun G => b7 (P9 G (fun h1 q1 => ?_) fun h1 q1 => ?_))
   ·
    refine wp_seq (l5 G d9 [(48, bA (s.kind == 5))] fun G => b7 (P9 G (fun h2 q2 => ?_) fun h2 q2 => ?_))
    ·
     refine wp_seq (l5 G d9 [(60, bA (s.kind == 3))] fun G => b7 (P9 G (fun h3 q3 => ?_) fun h3 q3 => ?_))
     ·
      refine wp_skip (m6 (b7 (wp_seq (wp_seq ?_)))); cases h4 : (strict)
      · refine k8 G (O2 (fc h4 fz) (us [(2, 5, 0), (10, 11, 0), (22, 22, 0), (1023, 1023, 0)])) (rg 7) (O5 p s []) [(8, iA 0), (93, bA false)] fun G => b7 (rF G false (by kernel_rfl) (wp_skip (b7 (wp_seq (l5 G d9 [] fun G => b7 (wp_ret ?_)))))); exact J9 0 G (rg 7) (ai2 (fl0 (by omega)))
      ·
       cases h5 : (s.kind != 4)
       · have q5 := bne_eq_false_iff_eq.1 h5; refine k8 G (O2 (fc h4 (fc h5 (fc (b := false) rfl (fc h1 fz)))) (us [(2, 5, 0), (6, 9, 1), (10, 10, 0), (1010, 1010, 1), (11, 11, 0), (12, 15, 2), (16, 20, 3), (21, 21, 2), (1021, 1021, 3), (22, 22, 0), (1022, 1022, 2), (1023, 1023, 0)])) (rg 7) (O5 p s []) [(8, iA 0), (93, bA false)] fun G => b7 (rF G false (by kernel_rfl) (wp_skip (b7 (wp_seq (l5 G d9 [] fun G => b7 (wp_ret ?_)))))); exact J9 0 G (rg 7) (x8 (fl0 (by omega)) (lk0 (by exact .inl (by omega)) (by exact .inl (by omega)) (by exact .inl (by omega))))
       ·
        have q5 := bne_iff_ne.1 h5; cases h6 : (p6 p.vars p.arrays (5 : Nat) s.value)
        · refine k8 G (t6 (l8 9 [0, 1, 2, 4] (E1 p s.value (n5 h (by omega))) t5) (fc h4 (fc h5 (fc h6 (fc h1 fz)))) (us [(2, 5, 0), (6, 9, 1), (10, 10, 0), (1010, 1010, 1), (11, 11, 0), (12, 15, 2), (16, 20, 3), (21, 21, 2), (1021, 1021, 3), (22, 22, 0), (1022, 1022, 2), (1023, 1023, 0)])) (rg 7) (O5 p s []) [(8, iA 0), (93, bA false)] fun G => b7 (rF G false (by kernel_rfl) (wp_skip (b7 (wp_seq (l5 G d9 [] fun G => b7 (wp_ret ?_)))))); exact J9 0 G (rg 7) (x8 (fl0 (by omega)) (lk0 (by exact .inl (by omega)) (by exact .inr (by with_reducible assumption)) (by exact .inl (by omega))))
        · refine k8 G (t6 (l8 9 [0, 1, 2, 4] (E1 p s.value (n5 h (by omega))) t5) (fc h4 (fc h5 (fc h6 fz))) (us [(2, 5, 0), (6, 9, 1), (10, 10, 0), (1010, 1010, 1), (11, 11, 0), (12, 15, 2), (21, 21, 2), (22, 22, 0), (1022, 1022, 2), (1023, 1023, 0)])) (rg 7) (O5 p s []) [(8, iA 0), (93, bA true)] fun G => b7 (rT G true (by kernel_rfl) (wp_seq (l5 G d9 [(8, iA 4)] fun G => b7 (wp_ret (l7 ?_))))); exact J9 4 G (rg 7) (x8 (fl0 (by omega)) (lkv (by exact .inl (by omega)) (by omega) (by with_reducible assumption)))
     ·
      refine wp_seq ?_; cases h7 : (strict)
      · refine l5 G (O2 (fc h7 fz) (us [(2, 6, 0), (1007, 1007, 0)])) [(69, bA false)] fun G => b7 (rF G false (by kernel_rfl) (wp_skip (m6 (b7 (wp_seq (wp_seq (k8 G (O2 (fc h7 fz) (us [(2, 5, 0), (10, 11, 0), (22, 22, 0), (1023, 1023, 0)])) (rg 7) (O5 p s []) [(8, iA 0), (93, bA false)] fun G => b7 (rF G false (by kernel_rfl) (wp_skip (b7 (wp_seq (l5 G d9 [] fun G => b7 (wp_ret ?_))))))))))))); exact J9 0 G (rg 7) (ai2 (fl0 (by omega)))
      ·
       refine C9 G (t6 (l8 5 [0, 1, 2, 4] (K3 p s.value (n5 h (by omega))) (l8 6 [] (H2 (i9 p s.value)) t5)) (fc h7 fz) (us [(2, 6, 0), (1007, 1007, 0)])) [(3, bA strict), (4, .ptr 7 0), (5, .ptr 8 0), (8, iA 0), (69, bA (d8 (i9 p s.value) && decide (i9 p s.value % 2 = 1)))] fun G => b7 ?_; cases h8 : (d8 (i9 p s.value) && decide (i9 p s.value % (2 : Int) = 1))
       ·
        have q8 : ((d8 (i9 p s.value)) = false) ∨ (¬ (i9 p s.value % 2 = 1)) := Or.imp (fun hq => (hq)) (fun hq => of_decide_eq_false hq) (ca4.1 h8); refine rF G _ h8 (wp_skip (m6 (b7 (wp_seq (wp_seq ?_))))); cases h9 : (s.kind != 4)
        · have q9 := bne_eq_false_iff_eq.1 h9; exact False.elim (by omega)
        ·
         have q9 := bne_iff_ne.1 h9; cases h10 : (p6 p.vars p.arrays (5 : Nat) s.value)
         · refine k8 G (t6 (l8 9 [0, 1, 2, 4] (E1 p s.value (n5 h (by omega))) t5) (fc h7 (fc h9 (fc h10 (fc h1 fz)))) (us [(2, 5, 0), (6, 9, 1), (10, 10, 0), (1010, 1010, 1), (11, 11, 0), (12, 15, 2), (16, 20, 3), (21, 21, 2), (1021, 1021, 3), (22, 22, 0), (1022, 1022, 2), (1023, 1023, 0)])) (rg 7) (O5 p s []) [(8, iA 0), (93, bA false)] fun G => b7 (rF G false (by kernel_rfl) (wp_skip (b7 (wp_seq (l5 G d9 [] fun G => b7 (wp_ret ?_)))))); exact J9 0 G (rg 7) (x8 (fl0 (by omega)) (lk0 (by exact .inr (by with_reducible assumption)) (by exact .inr (by with_reducible assumption)) (by exact .inl (by omega))))
         · refine k8 G (t6 (l8 9 [0, 1, 2, 4] (E1 p s.value (n5 h (by omega))) t5) (fc h7 (fc h9 (fc h10 fz))) (us [(2, 5, 0), (6, 9, 1), (10, 10, 0), (1010, 1010, 1), (11, 11, 0), (12, 15, 2), (21, 21, 2), (22, 22, 0), (1022, 1022, 2), (1023, 1023, 0)])) (rg 7) (O5 p s []) [(8, iA 0), (93, bA true)] fun G => b7 (rT G true (by kernel_rfl) (wp_seq (l5 G d9 [(8, iA 4)] fun G => b7 (wp_ret (l7 ?_))))); exact J9 4 G (rg 7) (x8 (fl0 (by omega)) (lkv (by exact .inr (by with_reducible assumption)) (by omega) (by with_reducible assumption)))
       · have q8 : ((d8 (i9 p s.value)) = true) ∧ (i9 p s.value % 2 = 1) := And.imp (fun hq => (hq)) (fun hq => of_decide_eq_true hq) (ca6.1 h8); refine rT G _ h8 (wp_seq (l5 G d9 [(8, iA 3)] fun G => b7 (wp_ret (A0 (l7 ?_))))); exact J9 3 G (rg 7) (x8 (fl0 (by omega)) (lk3 (by with_reducible assumption) (by with_reducible assumption)))
    ·
     refine wp_seq ?_; cases h11 : (!(d8 (i9 p s.value) && decide (i9 p s.value ≤ 1)))
     ·
      have q11 : ((d8 (i9 p s.value)) = true) ∧ (i9 p s.value ≤ 1) := (fun hq => And.imp (fun hq => (hq)) (fun hq => of_decide_eq_true hq) (ca6.1 hq)) (Eq.mp (b97 _) h11); refine C9 G (t6 (l8 3 [0, 1, 2, 4] (K3 p s.value (n5 h (by omega))) (l8 4 [] (aj6 (i9 p s.value)) t5)) (fc h11 fz) [(7, 0), (8, 0), (1009, 0)]) [(3, bA strict), (4, .ptr 7 0), (5, .ptr 8 0), (8, iA 0), (59, bA (pc != 0))] fun G => b7 (rcN G (fun h12 q12 => ?_) fun h12 q12 => ?_)
      ·
       refine wp_skip (m6 (b7 (wp_seq (wp_seq ?_)))); cases h13 : (strict)
       · refine k8 G (O2 (fc h13 fz) (us [(2, 5, 0), (10, 11, 0), (22, 22, 0), (1023, 1023, 0)])) (rg 7) (O5 p s []) [(8, iA 0), (93, bA false)] fun G => b7 (rF G false (by kernel_rfl) (wp_skip (b7 (wp_seq (l5 G d9 [] fun G => b7 (wp_ret ?_)))))); exact J9 0 G (rg 7) (ai2 (bU3 (by with_reducible assumption) (by with_reducible assumption) (by with_reducible assumption)))
       ·
        cases h14 : (s.kind != 4)
        · have q14 := bne_eq_false_iff_eq.1 h14; exact False.elim (by omega)
        ·
         have q14 := bne_iff_ne.1 h14; cases h15 : (p6 p.vars p.arrays (5 : Nat) s.value)
         · refine k8 G (t6 (l8 9 [0, 1, 2, 4] (E1 p s.value (n5 h (by omega))) t5) (fc h13 (fc h14 (fc h15 (fc h1 fz)))) (us [(2, 5, 0), (6, 9, 1), (10, 10, 0), (1010, 1010, 1), (11, 11, 0), (12, 15, 2), (16, 20, 3), (21, 21, 2), (1021, 1021, 3), (22, 22, 0), (1022, 1022, 2), (1023, 1023, 0)])) (rg 7) (O5 p s []) [(8, iA 0), (93, bA false)] fun G => b7 (rF G false (by kernel_rfl) (wp_skip (b7 (wp_seq (l5 G d9 [] fun G => b7 (wp_ret ?_)))))); exact J9 0 G (rg 7) (x8 (bU3 (by with_reducible assumption) (by with_reducible assumption) (by with_reducible assumption)) (lk0 (by exact .inl (by omega)) (by exact .inr (by with_reducible assumption)) (by exact .inl (by omega))))
         · refine k8 G (t6 (l8 9 [0, 1, 2, 4] (E1 p s.value (n5 h (by omega))) t5) (fc h13 (fc h14 (fc h15 fz))) (us [(2, 5, 0), (6, 9, 1), (10, 10, 0), (1010, 1010, 1), (11, 11, 0), (12, 15, 2), (21, 21, 2), (22, 22, 0), (1022, 1022, 2), (1023, 1023, 0)])) (rg 7) (O5 p s []) [(8, iA 0), (93, bA true)] fun G => b7 (rT G true (by kernel_rfl) (wp_seq (l5 G d9 [(8, iA 4)] fun G => b7 (wp_ret (l7 ?_))))); exact J9 4 G (rg 7) (x8 (bU3 (by with_reducible assumption) (by with_reducible assumption) (by with_reducible assumption)) (lkv (by exact .inl (by omega)) (by omega) (by with_reducible assumption)))
      · refine wp_seq (l5 G d9 [(8, iA 2)] fun G => b7 (wp_ret (A0 (l7 ?_)))); exact J9 2 G (rg 7) (at2 (b24 (by with_reducible assumption) (.inr (by with_reducible assumption))) (by decide))
     · have q11 : ((d8 (i9 p s.value)) = false) ∨ (¬ (i9 p s.value ≤ 1)) := (fun hq => Or.imp (fun hq => (hq)) (fun hq => of_decide_eq_false hq) (ca4.1 hq)) (Eq.mp (b95 _) h11); refine l5 G (t6 (l8 3 [0, 1, 2, 4] (K3 p s.value (n5 h (by omega))) (l8 4 [] (aj6 (i9 p s.value)) t5)) (fc h11 fz) [(7, 0), (8, 0), (1009, 0)]) [(59, bA true)] fun G => b7 (rT G true (by kernel_rfl) (wp_seq (l5 G d9 [(8, iA 2)] fun G => b7 (wp_ret (A0 (l7 ?_)))))); exact J9 2 G (rg 7) (at2 (b24 (by with_reducible assumption) (.inl (by with_reducible assumption))) (by decide))
   ·
    refine wp_seq (bn9 G (t6 (l8 3 [0, 1, 2, 4] (K3 p s.value (n5 h (by omega))) (l8 7 (rg 4) (K3 p s.index (W9 h (by with_reducible assumption))) (l8 17 [] (av2 (i6 (i6 (i9 p s.value) (i9 p s.index)) pc) (p.arrays.getD s.target.toNat 0)) t5))) fz []) [0, 0, 2, 7, 0, 0, 32, 127, 255, 0, 1023, 0, 2048, 0, 8192, 30720, 63488, 131071, 262143] [(3, bA strict), (4, .ptr 7 0), (5, .ptr 8 0), (8, iA 0), (47, .v (.bool !(d8 (i6 (i6 (i9 p s.value) (i9 p s.index)) pc) && d8 (p.arrays.getD s.target.toNat 0) && i6 (i6 (i6 (i9 p s.value) (i9 p s.index)) pc) (p.arrays.getD s.target.toNat 0) == p.arrays.getD s.target.toNat 0)))] [(0 : Int) ≤ s.target, s.target < (p.arrays.length : Int), s.target.toNat < p.arrays.length] ⟨((Z7 h (by omega)).1), ((Z7 h (by omega)).2.1), ((Z7 h (by omega)).2.2), b94⟩ fun G => b7 ?_); cases h16 : (!(d8 (i6 (i6 (i9 p s.value) (i9 p s.index)) pc) && d8 (p.arrays.getD s.target.toNat (0 : Int)) && i6 (i6 (i6 (i9 p s.value) (i9 p s.index)) pc) (p.arrays.getD s.target.toNat (0 : Int)) == p.arrays.getD s.target.toNat (0 : Int)))
    ·
     have q16 : (((d8 (i6 (i6 (i9 p s.value) (i9 p s.index)) pc)) = true) ∧ ((d8 (p.arrays.getD s.target.toNat 0)) = true)) ∧ (i6 (i6 (i6 (i9 p s.value) (i9 p s.index)) pc) (p.arrays.getD s.target.toNat 0) = p.arrays.getD s.target.toNat 0) := (fun hq => And.imp (fun hq => And.imp (fun hq => (hq)) (fun hq => (hq)) (ca6.1 hq)) (fun hq => eq_of_beq hq) (ca6.1 hq)) (Eq.mp (b97 _) h16); refine rF G _ h16 (wp_skip (m6 (b7 (wp_seq (wp_seq ?_))))); cases h17 : (strict)
     · refine k8 G (O2 (fc h17 fz) (us [(2, 5, 0), (10, 11, 0), (22, 22, 0), (1023, 1023, 0)])) (rg 7) (O5 p s []) [(8, iA 0), (93, bA false)] fun G => b7 (rF G false (by kernel_rfl) (wp_skip (b7 (wp_seq (l5 G d9 [] fun G => b7 (wp_ret ?_)))))); exact J9 0 G (rg 7) (ai2 (bJ8 (by with_reducible assumption) (by with_reducible assumption)))
     ·
      cases h18 : (s.kind != 4)
      · have q18 := bne_eq_false_iff_eq.1 h18; exact False.elim (by omega)
      ·
       have q18 := bne_iff_ne.1 h18; cases h19 : (p6 p.vars p.arrays (5 : Nat) s.value)
       ·
        refine k8 G (t6 (l8 9 [0, 1, 2, 4] (E1 p s.value (n5 h (by omega))) (l8 19 (rg 4) (K3 p s.index (W9 h (by with_reducible assumption))) (l8 20 [] (H2 (i9 p s.index)) t5))) (fc h17 (fc h18 (fc h19 (fc h1 fz)))) (us [(2, 5, 0), (6, 9, 1), (10, 10, 0), (1010, 1010, 1), (11, 11, 0), (12, 15, 2), (16, 20, 3), (21, 21, 2), (1021, 1021, 3), (22, 22, 0), (1022, 1022, 2), (1023, 1023, 0)])) (rg 7) (O5 p s []) [(8, iA 0), (93, bA (d8 (i9 p s.index) && decide (i9 p s.index % 2 = 1)))] fun G => b7 ?_; cases h20 : (d8 (i9 p s.index) && decide (i9 p s.index % (2 : Int) = 1))
        · have q20 : ((d8 (i9 p s.index)) = false) ∨ (¬ (i9 p s.index % 2 = 1)) := Or.imp (fun hq => (hq)) (fun hq => of_decide_eq_false hq) (ca4.1 h20); refine rF G _ h20 (wp_skip (b7 (wp_seq (l5 G d9 [] fun G => b7 (wp_ret ?_))))); exact J9 0 G (rg 7) (x8 (bJ8 (by with_reducible assumption) (by with_reducible assumption)) (lk0 (by exact .inl (by omega)) (by exact .inr (by with_reducible assumption)) (by exact .inr (by with_reducible assumption))))
        · have q20 : ((d8 (i9 p s.index)) = true) ∧ (i9 p s.index % 2 = 1) := And.imp (fun hq => (hq)) (fun hq => of_decide_eq_true hq) (ca6.1 h20); refine rT G _ h20 (wp_seq (l5 G d9 [(8, iA 4)] fun G => b7 (wp_ret (l7 ?_)))); exact J9 4 G (rg 7) (x8 (bJ8 (by with_reducible assumption) (by with_reducible assumption)) (lki (by with_reducible assumption) (by with_reducible assumption)))
       · refine k8 G (t6 (l8 9 [0, 1, 2, 4] (E1 p s.value (n5 h (by omega))) t5) (fc h17 (fc h18 (fc h19 fz))) (us [(2, 5, 0), (6, 9, 1), (10, 10, 0), (1010, 1010, 1), (11, 11, 0), (12, 15, 2), (21, 21, 2), (22, 22, 0), (1022, 1022, 2), (1023, 1023, 0)])) (rg 7) (O5 p s []) [(8, iA 0), (93, bA true)] fun G => b7 (rT G true (by kernel_rfl) (wp_seq (l5 G d9 [(8, iA 4)] fun G => b7 (wp_ret (l7 ?_))))); exact J9 4 G (rg 7) (x8 (bJ8 (by with_reducible assumption) (by with_reducible assumption)) (lkv (by exact .inl (by omega)) (by omega) (by with_reducible assumption)))
    · have q16 : (((d8 (i6 (i6 (i9 p s.value) (i9 p s.index)) pc)) = false) ∨ ((d8 (p.arrays.getD s.target.toNat 0)) = false)) ∨ (¬ (i6 (i6 (i6 (i9 p s.value) (i9 p s.index)) pc) (p.arrays.getD s.target.toNat 0) = p.arrays.getD s.target.toNat 0)) := (fun hq => Or.imp (fun hq => Or.imp (fun hq => (hq)) (fun hq => (hq)) (ca4.1 hq)) (fun hq => ne_of_beq_false hq) (ca4.1 hq)) (Eq.mp (b95 _) h16); refine rT G _ h16 (wp_seq (l5 G d9 [(8, iA 1)] fun G => b7 (wp_ret (A0 (l7 ?_))))); exact J9 1 G (rg 7) (at2 (b80 (by with_reducible assumption) (by with_reducible assumption)) (by decide))
  ·
   refine wp_seq (bn9 G (t6 (l8 3 [0, 1, 2, 4] (K3 p s.value (n5 h (by omega))) (l8 12 [] (av2 (i6 (i9 p s.value) pc) (p.vars.getD s.target.toNat 0)) t5)) fz []) [0, 0, 2, 7, 0, 31, 0, 64, 0, 256, 960, 1984, 4095, 8191] [(3, bA strict), (4, .ptr 7 0), (5, .ptr 8 0), (8, iA 0), (26, .v (.bool !(d8 (i6 (i9 p s.value) pc) && d8 (p.vars.getD s.target.toNat 0) && i6 (i6 (i9 p s.value) pc) (p.vars.getD s.target.toNat 0) == p.vars.getD s.target.toNat 0)))] [(0 : Int) ≤ s.target, s.target < (p.vars.length : Int), s.target.toNat < p.vars.length] ⟨((W8 h (by omega)).1), ((W8 h (by omega)).2.1), ((W8 h (by omega)).2.2), b94⟩ fun G => b7 ?_); cases h21 : (!(d8 (i6 (i9 p s.value) pc) && d8 (p.vars.getD s.target.toNat (0 : Int)) && i6 (i6 (i9 p s.value) pc) (p.vars.getD s.target.toNat (0 : Int)) == p.vars.getD s.target.toNat (0 : Int)))
   ·
    have q21 : (((d8 (i6 (i9 p s.value) pc)) = true) ∧ ((d8 (p.vars.getD s.target.toNat 0)) = true)) ∧ (i6 (i6 (i9 p s.value) pc) (p.vars.getD s.target.toNat 0) = p.vars.getD s.target.toNat 0) := (fun hq => And.imp (fun hq => And.imp (fun hq => (hq)) (fun hq => (hq)) (ca6.1 hq)) (fun hq => eq_of_beq hq) (ca6.1 hq)) (Eq.mp (b97 _) h21); refine rF G _ h21 (wp_skip (m6 (b7 (wp_seq (wp_seq ?_))))); cases h22 : (strict)
    · refine k8 G (O2 (fc h22 fz) (us [(2, 5, 0), (10, 11, 0), (22, 22, 0), (1023, 1023, 0)])) (rg 7) (O5 p s []) [(8, iA 0), (93, bA false)] fun G => b7 (rF G false (by kernel_rfl) (wp_skip (b7 (wp_seq (l5 G d9 [] fun G => b7 (wp_ret ?_)))))); exact J9 0 G (rg 7) (ai2 (bU4 (by with_reducible assumption) (by with_reducible assumption)))
    ·
     cases h23 : (s.kind != 4)
     · have q23 := bne_eq_false_iff_eq.1 h23; exact False.elim (by omega)
     ·
      have q23 := bne_iff_ne.1 h23; cases h24 : (p6 p.vars p.arrays (5 : Nat) s.value)
      ·
       cases h25 : (s.kind == 2)
       · have q25 := ne_of_beq_false h25; refine k8 G (t6 (l8 9 [0, 1, 2, 4] (E1 p s.value (n5 h (by omega))) t5) (fc h22 (fc h23 (fc h24 (fc h25 fz)))) (us [(2, 5, 0), (6, 9, 1), (10, 10, 0), (1010, 1010, 1), (11, 11, 0), (12, 15, 2), (16, 20, 3), (21, 21, 2), (1021, 1021, 3), (22, 22, 0), (1022, 1022, 2), (1023, 1023, 0)])) (rg 7) (O5 p s []) [(8, iA 0), (93, bA false)] fun G => b7 (rF G false (by kernel_rfl) (wp_skip (b7 (wp_seq (l5 G d9 [] fun G => b7 (wp_ret ?_)))))); exact J9 0 G (rg 7) (x8 (bU4 (by with_reducible assumption) (by with_reducible assumption)) (lk0 (by exact .inl (by omega)) (by exact .inr (by with_reducible assumption)) (by exact .inl (by omega))))
       · have q25 := eq_of_beq h25; exact False.elim (by omega)
      · refine k8 G (t6 (l8 9 [0, 1, 2, 4] (E1 p s.value (n5 h (by omega))) t5) (fc h22 (fc h23 (fc h24 fz))) (us [(2, 5, 0), (6, 9, 1), (10, 10, 0), (1010, 1010, 1), (11, 11, 0), (12, 15, 2), (21, 21, 2), (22, 22, 0), (1022, 1022, 2), (1023, 1023, 0)])) (rg 7) (O5 p s []) [(8, iA 0), (93, bA true)] fun G => b7 (rT G true (by kernel_rfl) (wp_seq (l5 G d9 [(8, iA 4)] fun G => b7 (wp_ret (l7 ?_))))); exact J9 4 G (rg 7) (x8 (bU4 (by with_reducible assumption) (by with_reducible assumption)) (lkv (by exact .inl (by omega)) (by omega) (by with_reducible assumption)))
   · have q21 : (((d8 (i6 (i9 p s.value) pc)) = false) ∨ ((d8 (p.vars.getD s.target.toNat 0)) = false)) ∨ (¬ (i6 (i6 (i9 p s.value) pc) (p.vars.getD s.target.toNat 0) = p.vars.getD s.target.toNat 0)) := (fun hq => Or.imp (fun hq => Or.imp (fun hq => (hq)) (fun hq => (hq)) (ca4.1 hq)) (fun hq => ne_of_beq_false hq) (ca4.1 hq)) (Eq.mp (b95 _) h21); refine rT G _ h21 (wp_seq (l5 G d9 [(8, iA 1)] fun G => b7 (wp_ret (A0 (l7 ?_))))); exact J9 1 G (rg 7) (at2 (b81 (by with_reducible assumption) (by with_reducible assumption)) (by decide))
def B9 (F : Nat → b6 → Int × Nat) : Nat → List b6 → Int × Nat
 | c, [] => (0, c)
 | c, s :: r => if (F c s).1 = 0 then B9 F (F c s).2 r else F c s
def D9 (p : d7) (s : b6) (pc : Int) : Int := if s.kind = 3 then i6 pc (i9 p s.value) else pc
def stC (p : d7) (strict : Bool) : Nat → Int → Nat → b6 → Int × Nat
  | 0, _, c, _ => (0, c)
  | d + 1, pc, c, s => if K2 p s pc strict = 0 then
      (if (B9 (stC p strict d (D9 p s pc)) (c + 1) s.body).1 = 0 then B9 (stC p strict d (D9 p s pc)) (B9 (stC p strict d (D9 p s pc)) (c + 1) s.body).2 s.els
       else B9 (stC p strict d (D9 p s pc)) (c + 1) s.body)
    else (K2 p s pc strict, c)
abbrev t2 (p : d7) (strict : Bool) (d : Nat) (pc : Int) (c : Nat) (ss : List b6) : Int × Nat := B9 (stC p strict d pc) c ss
theorem ad8 (F : Nat → b6 → Int × Nat) : ∀ (a b : List b6) (c : Nat), B9 F c (a ++ b) = if (B9 F c a).1 = 0 then B9 F (B9 F c a).2 b else B9 F c a
 | [], b, c => by simp [B9]
 | x :: r, b, c => by
  simp only [List.cons_append, B9]
  by_cases h : (F c x).1 = 0
  ·simp only [h, if_true]; exact ad8 F r b _
  ·simp [h]
theorem X1 {F : Nat → b6 → Int × Nat} {c k : Nat} {ss : List b6} (h : (B9 F c (ss.take k)).1 = 0) (hk : k < ss.length) : B9 F c (ss.take (k + 1)) = F (B9 F c (ss.take k)).2 (ss.getD k b85) := by
 rw [r9 _ _ hk, ad8, if_pos h, n6 hk]
 simp only [B9]
 split
 ·rename_i h; exact Prod.ext h.symm rfl
 ·rfl
theorem E0 {F : Nat → b6 → Int × Nat} {c k : Nat} {ss : List b6} (h : (B9 F c (ss.take k)).1 = 0) (hk : k < ss.length) (hf : ¬ (F (B9 F c (ss.take k)).2 (ss.getD k b85)).1 = 0) : B9 F c ss = F (B9 F c (ss.take k)).2 (ss.getD k b85) := by
 conv => lhs; rw [← List.take_append_drop (k + 1) ss]
 rw [ad8, X1 h hk, if_neg hf]
theorem aK0 {F : Nat → b6 → Int × Nat} {c k : Nat} {ss : List b6} (hk : ss.length ≤ k) : B9 F c ss = B9 F c (ss.take k) := by rw [ca3 hk]
theorem au3 {F : Nat → b6 → Int × Nat} (hF : ∀ c s, (F c s).2 ≤ c + nS s) : ∀ (ss : List b6) (c : Nat), (B9 F c ss).2 ≤ c + L8 ss
 | [], c => by simp [B9]
 | s :: r, c => by
  simp only [B9, L8]
  have h1 := hF c s
  have h2 := au3 hF r (F c s).2
  split <;> omega
theorem a97 {p : d7} {strict : Bool} : ∀ (d : Nat) (pc : Int) (c : Nat) (s : b6), (stC p strict d pc c s).2 ≤ c + nS s
 | 0, _, c, s => by simp [stC]
 | d + 1, pc, c, s => by
  have hs := ap4 s
  have h1 := au3 (a97 (p := p) (strict := strict) d (D9 p s pc)) s.body (c + 1)
  have h2 := au3 (a97 (p := p) (strict := strict) d (D9 p s pc)) s.els (B9 (stC p strict d (D9 p s pc)) (c + 1) s.body).2
  rw [stC]
  split
  ·split <;> omega
  ·simp only; omega
theorem be8 {p : d7} {strict : Bool} {d : Nat} {pc : Int} {c : Nat} {ss : List b6} : (t2 p strict d pc c ss).2 ≤ c + L8 ss := au3 (a97 d pc) ss c
theorem A7 {nv na d k : Nat} {ss : List b6} (hs : ss.all (f6 nv na (d + 1)) = true) (hk : k < ss.length) : t7 nv na (ss.getD k b85) = true ∧ (ss.getD k b85).body.all (f6 nv na d) = true ∧ (ss.getD k b85).els.all (f6 nv na d) = true := by
 have h := b93.1 hs _ (cb0 hk)
 rw [D8, b86, b86] at h
 rw [n6 hk]; exact h
theorem a72 {k : Nat} {ss : List b6} (hk : k < ss.length) : L8 (ss.take k) + (1 + L8 (ss.getD k b85).body + L8 (ss.getD k b85).els) ≤ L8 ss := by
 have h1 := bo2 hk
 have h2 := a29 ss (k + 1)
 rw [ap4] at h1
 rw [n6 hk]; omega
section
variable {p : d7} {strict : Bool} {d c : Nat} {pc : Int} {s : b6}
theorem aB5 (h : ¬ K2 p s pc strict = 0) : stC p strict (d + 1) pc c s = (K2 p s pc strict, c) := by rw [stC, if_neg h]
theorem Q6 {x : Int} (h : K2 p s pc strict = 0) (hx : D9 p s pc = x) (h2 : ¬ (t2 p strict d x (c + 1) s.body).1 = 0) : stC p strict (d + 1) pc c s = t2 p strict d x (c + 1) s.body := by
 subst hx; rw [stC, if_pos h, if_neg h2]
theorem L1 {x : Int} (h : K2 p s pc strict = 0) (hx : D9 p s pc = x) (h2 : (t2 p strict d x (c + 1) s.body).1 = 0) : stC p strict (d + 1) pc c s = t2 p strict d x (t2 p strict d x (c + 1) s.body).2 s.els := by
 subst hx; rw [stC, if_pos h, if_pos h2]
theorem Z6 (k : s.kind = 3) : D9 p s pc = i6 pc (i9 p s.value) := if_pos k
theorem Z5 (k : ¬ s.kind = 3) : D9 p s pc = pc := if_neg k
end
theorem aL2 {p : d7} {strict : Bool} {d k c : Nat} {pc : Int} {ss : List b6} (hc : c + L8 ss ≤ 4000000) (hk : k < ss.length) : (t2 p strict (d + 1) pc c (ss.take k)).2 + 1 + L8 (ss.getD k b85).body ≤ 4000000 := by
 have h1 := a72 (k := k) (ss := ss) hk
 have h2 := be8 (p := p) (strict := strict) (d := d + 1) (pc := pc) (c := c) (ss := ss.take k)
 omega
theorem aR1 {p : d7} {strict : Bool} {d k c : Nat} {pc x : Int} {ss : List b6} (hc : c + L8 ss ≤ 4000000) (hk : k < ss.length) : (t2 p strict d x ((t2 p strict (d + 1) pc c (ss.take k)).2 + 1) (ss.getD k b85).body).2 + L8 (ss.getD k b85).els ≤ 4000000 := by
 have h1 := a72 (k := k) (ss := ss) hk
 have h2 := be8 (p := p) (strict := strict) (d := d + 1) (pc := pc) (c := c) (ss := ss.take k)
 have h3 := be8 (p := p) (strict := strict) (d := d) (pc := x) (c := (t2 p strict (d + 1) pc c (ss.take k)).2 + 1) (ss := (ss.getD k b85).body)
 omega
theorem bM0 {p : d7} {strict : Bool} {d k c : Nat} {pc : Int} {ss : List b6} (hc : c + L8 ss ≤ 4000000) (hk : k < ss.length) : IntKind.i64.wrap (((t2 p strict (d + 1) pc c (ss.take k)).2 : Int) + 1) = ((t2 p strict (d + 1) pc c (ss.take k)).2 : Int) + 1 := by
 have h1 := aL2 (p := p) (strict := strict) (d := d) (pc := pc) hc hk
 exact w64 (by omega) (by omega)
abbrev bL9 (p : d7) (d : Nat) (ss : List b6) (pc : Int) (c : Nat) (strict : Bool) : k6 := F6 201 [pA 0, .ref 3, iA pc, iA c, bA strict] (pS p ++ [.dat (.stmts ss)]) (.tup [iA (t2 p strict d pc c ss).1, iA (t2 p strict d pc c ss).2])
theorem be2 (p : d7) (pc : Int) (c : Nat) (strict : Bool) : k6.ok Tryz.prog (bL9 p 0 [] pc c strict) := by
 refine A2 74 Tryz.func201 [dI p.vars, dI p.arrays, dT p.body, dT []] [(0, pA 0), (1, .ref 3), (2, iA pc), (3, iA c), (4, bA strict)] fun G => ?_; refine wp_seq (k8 G d9 (rg 5) [dI p.vars, dI p.arrays, dT p.body, dT [], .box (pL 0)] [(1, .ref 3), (2, iA pc), (3, iA c), (4, bA strict), (5, .ptr 4 0), (10, iA 0), (11, iA 0)] fun G => b7 (wp_seq (wp_seq (C9 G d9 [(1, .ref 3), (2, iA pc), (3, iA c), (4, bA strict), (5, .ptr 4 0), (10, iA 0), (11, iA 0), (12, iA 0)] fun G => b7 (wp_block ?_))))); refine o9 (κ := Nat) (fun k => k = 0) (fun k => 0) (fun k => [dI p.vars, dI p.arrays, dT p.body, dT [], .box (pL 0)]) (fun k => [(1, .ref 3), (2, iA pc), (3, iA c), (4, bA strict), (5, .ptr 4 0), (10, iA 0), (11, iA 0), (12, iA 0)]) 0 (by kernel_rfl) (s5.at G _ _) ?_; clear G; intro k ρ a w hp G; refine wp_seq (wp_seq (l5 G d9 [(19, bA false)] fun G => b7 (rF G false (by kernel_rfl) (wp_exit (o5 (o5 (n9 (b7 (wp_seq (k8 G d9 (rg 4) [dI p.vars, dI p.arrays, dT p.body, dT []] [(10, iA 0), (11, iA c)] fun G => b7 (wp_ret ?_))))))))))); exact F2 G (rg 4)
abbrev am3 (p : d7) (d : Nat) (strict : Bool) (ss : List b6) (pc : Int) (c : Nat) (k : Nat) := t2 p strict d (i6 pc (i9 p (ss.getD k b85).value)) ((t2 p strict (d + 1) pc c (b96 k ss)).snd + 1) (ss.getD k b85).body
abbrev Y0 (p : d7) (d : Nat) (strict : Bool) (ss : List b6) (pc : Int) (c : Nat) (k : Nat) := t2 p strict d pc ((t2 p strict (d + 1) pc c (b96 k ss)).snd + 1) (ss.getD k b85).body
abbrev aZ5 (p : d7) (d : Nat) (strict : Bool) (ss : List b6) (pc : Int) (c : Nat) (k : Nat) := t2 p strict d (i6 pc (i9 p (ss.getD k b85).value)) (am3 p d strict ss pc c k).snd (ss.getD k b85).els
abbrev aN3 (strict : Bool) (k : Nat) (r0 : List (Nat × AV)) : List (Nat × AV) := (4, bA strict) :: (5, .ptr 4 0) :: (10, iA 0) :: (11, iA 0) :: (12, iA (k : Int)) :: r0
abbrev aE7 (p : d7) (ss : List b6) (r0 : List It) : List It := dI p.vars :: dI p.arrays :: dT p.body :: dT ss :: .box (pL 0) :: r0
theorem be0 (p : d7) (d : Nat) (strict : Bool) (ih : ∀ (ss : List b6) (pc : Int) (c : Nat), ss.all (f6 p.vars.length p.arrays.length d) = true → c + L8 ss ≤ 4000000 → k6.ok Tryz.prog (bL9 p d ss pc c strict))
    (ss : List b6) (pc : Int) (c : Nat) (hs : ss.all (f6 p.vars.length p.arrays.length (d + 1)) = true) (hc : c + L8 ss ≤ 4000000) : k6.ok Tryz.prog (bL9 p (d + 1) ss pc c strict) := by
  refine A2 74 Tryz.func201 [dI p.vars, dI p.arrays, dT p.body, dT ss] [(0, pA 0), (1, .ref 3), (2, iA pc), (3, iA c), (4, bA strict)] fun G => ?_; have hlen : ss.length ≤ 9223372036854775807 := G.len 3 (d := .stmts ss) (by kernel_rfl); refine wp_seq (k8 G d9 (rg 5) (aE7 p ss []) [(1, .ref 3), (2, iA pc), (3, iA c), (4, bA strict), (5, .ptr 4 0), (10, iA 0), (11, iA 0)] fun G => b7 (wp_seq (wp_seq (C9 G d9 [(1, .ref 3), (2, iA pc), (3, iA c), (4, bA strict), (5, .ptr 4 0), (10, iA 0), (11, iA 0), (12, iA 0)] fun G => b7 (wp_block ?_))))); refine o9 (κ := Nat) (fun k => k ≤ ss.length ∧ (t2 p strict (d + 1) pc c (ss.take k)).1 = 0) (fun k => ss.length - k) (fun k => [dI p.vars, dI p.arrays, dT p.body, dT ss, .box (pL 0)]) (fun k => [(1, .ref 3), (2, iA pc), (3, iA (t2 p strict (d + 1) pc c (ss.take k)).2), (4, bA strict), (5, .ptr 4 0), (10, iA 0), (11, iA 0), (12, iA k)]) 0 (⟨cc1 _, rfl⟩) (s5.at G _ _) ?_; clear G; intro k ρ a w hp G; replace G := s5.at G (aE7 p ss []) ((1, .ref 3) :: (2, iA pc) :: (3, iA ((t2 p strict (d + 1) pc c (b96 k ss)).snd : Int)) :: (aN3 strict k [])); refine wp_seq (wp_seq (l5 G d9 [(19, bA (decide ((k : Int) < ss.length)))] fun G => b7 (O0 G (fun h0 q0 => ?_) fun h0 q0 => ?_)))
  · refine wp_exit (o5 (o5 (n9 (b7 (wp_seq (k8 G d9 (rg 4) [dI p.vars, dI p.arrays, dT p.body, dT ss] [(10, iA 0), (11, iA ((t2 p strict (d + 1) pc c (b96 k ss)).snd : Int))] fun G => b7 (wp_ret ?_))))))); exact X7 (.tup [iA 0, iA ((t2 p strict (d + 1) pc c (b96 k ss)).snd : Int)]) G (rg 4) (by have e1 : ((t2 p strict (d + 1) pc c ss).fst : Int) = (0) := (by rw [t2, aK0 (k := k) (by omega)]; exact hp.2); have e2 : (((t2 p strict (d + 1) pc c ss).snd : Int) : Int) = (((t2 p strict (d + 1) pc c (b96 k ss)).snd : Int)) := (by rw [t2, aK0 (k := k) (by omega)]); (first | rw [e1, e2] | simp only [e1, e2]) <;> rfl)
  ·
   refine wp_skip (b7 (wp_seq (wp_block (wp_seq (O1 G d9 [0, 1, 2, 3, 4, 29, 30, 31, 32, 37] (aE7 p ss [dE (ss.getD k b85).index.kids, dE (ss.getD k b85).value.kids, dT (ss.getD k b85).body, dT (ss.getD k b85).els, .box (sL (ss.getD k b85) 5)]) ((1, .ref 3) :: (2, iA pc) :: (3, iA ((t2 p strict (d + 1) pc c (b96 k ss)).snd : Int)) :: (aN3 strict k [(13, .ptr 9 0)])) (iX k k ss.length []) (iK (by have hp := hp; omega) b94) fun G => b7 (wp_seq (l5 G (s6 4 [0, 1, 2, 5, 6, 7, 8] (bL3 p (ss.getD k b85) pc strict ((A7 hs (by omega)).1))) [(14, iA (K2 p (ss.getD k b85) pc strict))] fun G => b7 (wp_seq (wp_seq (l5 G d9 [(32, bA (K2 p (ss.getD k b85) pc strict != 0))] fun G => b7 (rcN G (fun h1 q1 => ?_) fun h1 q1 => ?_)))))))))))
   ·
    refine wp_skip (b7 (wp_seq (E2 G d9 [(3, iA (((t2 p strict (d + 1) pc c (b96 k ss)).snd : Int) + 1))] [wO (((t2 p strict (d + (1 : Nat)) pc c (b96 k ss)).snd : Int) + 1)] ⟨(bM0 hc (by omega)), b94⟩ fun G => b7 (wp_seq (l5 G d9 [(15, iA pc)] fun G => b7 (wp_seq (wp_seq (l5 G d9 [(40, bA ((ss.getD k b85).kind == 3))] fun G => b7 (P9 G (fun h2 q2 => ?_) fun h2 q2 => ?_)))))))))
    ·
     refine wp_skip (b7 (wp_seq (l5 G (s6 6 [0, 1, 2, 7] (ih ((ss.getD k b85).body) pc ((t2 p strict (d + 1) pc c (b96 k ss)).snd + 1) ((A7 hs (by omega)).2.1) (aL2 hc (by omega)))) [(3, iA ((Y0 p d strict ss pc c k).snd : Int)), (14, iA (Y0 p d strict ss pc c k).fst)] fun G => b7 (wp_seq (wp_seq (l5 G d9 [(58, bA ((Y0 p d strict ss pc c k).fst == 0))] fun G => b7 (P9 (u := ((t2 p strict d pc ((t2 p strict (d + (1 : Nat)) pc c (b96 k ss)).snd + (1 : Nat)) (ss.getD k b85).body).fst)) (v := (0 : Int)) G (fun h3 q3 => ?_) fun h3 q3 => ?_)))))))
     ·
      refine wp_skip (b7 (wp_seq (k8 G d9 (rg 5) (aE7 p ss []) ((1, .ref 3) :: (2, iA pc) :: (3, iA ((Y0 p d strict ss pc c k).snd : Int)) :: (aN3 strict k [(14, iA (Y0 p d strict ss pc c k).fst), (70, bA ((Y0 p d strict ss pc c k).fst != 0))])) fun G => b7 ?_))); cases h4 : ((t2 p strict d pc ((t2 p strict (d + (1 : Nat)) pc c (b96 k ss)).snd + (1 : Nat)) (ss.getD k b85).body).fst != 0)
      · have q4 := bne_eq_false_iff_eq.1 h4; exact False.elim (by omega)
      · have q4 := bne_iff_ne.1 h4; refine rT G _ h4 (wp_seq (l5 G d9 [(10, iA (Y0 p d strict ss pc c k).fst), (11, iA ((Y0 p d strict ss pc c k).snd : Int))] fun G => b7 (wp_ret (A0 (l7 (l7 (A0 (l7 ?_)))))))); exact X7 (.tup [iA (t2 p strict d pc ((t2 p strict (d + 1) pc c (b96 k ss)).snd + 1) (ss.getD k b85).body).fst, iA ((t2 p strict d pc ((t2 p strict (d + 1) pc c (b96 k ss)).snd + 1) (ss.getD k b85).body).snd : Int)]) G (rg 4) (by have e1 : ((t2 p strict (d + 1) pc c ss).fst : Int) = ((t2 p strict d pc ((t2 p strict (d + 1) pc c (b96 k ss)).snd + 1) (ss.getD k b85).body).fst) := (by rw [t2, E0 hp.2 (by omega) (by rw [Q6 (by with_reducible assumption) (Z5 (by with_reducible assumption)) (by with_reducible assumption)]; with_reducible assumption), Q6 (by with_reducible assumption) (Z5 (by with_reducible assumption)) (by with_reducible assumption)]); have e2 : (((t2 p strict (d + 1) pc c ss).snd : Int) : Int) = (((t2 p strict d pc ((t2 p strict (d + 1) pc c (b96 k ss)).snd + 1) (ss.getD k b85).body).snd : Int)) := (by rw [t2, E0 hp.2 (by omega) (by rw [Q6 (by with_reducible assumption) (Z5 (by with_reducible assumption)) (by with_reducible assumption)]; with_reducible assumption), Q6 (by with_reducible assumption) (Z5 (by with_reducible assumption)) (by with_reducible assumption)]); (first | rw [e1, e2] | simp only [e1, e2]) <;> rfl)
     ·
      refine k8 G (s6 6 [0, 1, 2, 8] (ih ((ss.getD k b85).els) pc ((Y0 p d strict ss pc c k).snd) ((A7 hs (by omega)).2.2) (aR1 hc (by omega)))) (rg 5) (aE7 p ss []) ((1, .ref 3) :: (2, iA pc) :: (3, iA ((t2 p strict d pc (Y0 p d strict ss pc c k).snd (ss.getD k b85).els).snd : Int)) :: (aN3 strict k [(14, iA (t2 p strict d pc (Y0 p d strict ss pc c k).snd (ss.getD k b85).els).fst)])) fun G => b7 (wp_seq (l5 G d9 [(70, bA ((t2 p strict d pc (Y0 p d strict ss pc c k).snd (ss.getD k b85).els).fst != 0))] fun G => b7 (rcN (u := ((t2 p strict d pc (t2 p strict d pc ((t2 p strict (d + (1 : Nat)) pc c (b96 k ss)).snd + (1 : Nat)) (ss.getD k b85).body).snd (ss.getD k b85).els).fst)) (v := (0 : Int)) G (fun h5 q5 => ?_) fun h5 q5 => ?_)))
      · refine wp_skip (m6 (b7 (E2 G d9 [(12, iA ((k : Int) + 1))] [wO ((k : Int) + 1)] (o1 (by omega)) fun G => b7 ?_))); exact M8 G (k + 1) (⟨by omega, by rw [t2, X1 hp.2 (by omega), L1 (by with_reducible assumption) (Z5 (by with_reducible assumption)) (by with_reducible assumption)]; with_reducible assumption⟩) (by have hp := hp; omega) (rg 5) (ht := by have e1 : (((t2 p strict (d + 1) pc c (b96 (k + 1) ss)).snd : Int) : Int) = (((t2 p strict d pc (t2 p strict d pc ((t2 p strict (d + 1) pc c (b96 k ss)).snd + 1) (ss.getD k b85).body).snd (ss.getD k b85).els).snd : Int)) := (by rw [t2, X1 hp.2 (by omega), L1 (by with_reducible assumption) (Z5 (by with_reducible assumption)) (by with_reducible assumption)]); (first | rw [e1] | simp only [e1]) <;> rfl)
      · refine wp_seq (l5 G d9 [(10, iA (t2 p strict d pc (Y0 p d strict ss pc c k).snd (ss.getD k b85).els).fst), (11, iA ((t2 p strict d pc (Y0 p d strict ss pc c k).snd (ss.getD k b85).els).snd : Int))] fun G => b7 (wp_ret (A0 (l7 (l7 (A0 (l7 ?_))))))); exact X7 (.tup [iA (t2 p strict d pc (t2 p strict d pc ((t2 p strict (d + 1) pc c (b96 k ss)).snd + 1) (ss.getD k b85).body).snd (ss.getD k b85).els).fst, iA ((t2 p strict d pc (t2 p strict d pc ((t2 p strict (d + 1) pc c (b96 k ss)).snd + 1) (ss.getD k b85).body).snd (ss.getD k b85).els).snd : Int)]) G (rg 4) (by have e1 : ((t2 p strict (d + 1) pc c ss).fst : Int) = ((t2 p strict d pc (t2 p strict d pc ((t2 p strict (d + 1) pc c (b96 k ss)).snd + 1) (ss.getD k b85).body).snd (ss.getD k b85).els).fst) := (by rw [t2, E0 hp.2 (by omega) (by rw [L1 (by with_reducible assumption) (Z5 (by with_reducible assumption)) (by with_reducible assumption)]; with_reducible assumption), L1 (by with_reducible assumption) (Z5 (by with_reducible assumption)) (by with_reducible assumption)]); have e2 : (((t2 p strict (d + 1) pc c ss).snd : Int) : Int) = (((t2 p strict d pc (t2 p strict d pc ((t2 p strict (d + 1) pc c (b96 k ss)).snd + 1) (ss.getD k b85).body).snd (ss.getD k b85).els).snd : Int)) := (by rw [t2, E0 hp.2 (by omega) (by rw [L1 (by with_reducible assumption) (Z5 (by with_reducible assumption)) (by with_reducible assumption)]; with_reducible assumption), L1 (by with_reducible assumption) (Z5 (by with_reducible assumption)) (by with_reducible assumption)]); (first | rw [e1, e2] | simp only [e1, e2]) <;> rfl)
    ·
     refine l5 G (s6 4 [0, 1, 2, 6] (K3 p ((ss.getD k b85).value) (n5 (A7 hs (by omega)).1 (by omega)))) [(15, iA (i6 pc (i9 p (ss.getD k b85).value)))] fun G => b7 (wp_seq (l5 G (s6 6 [0, 1, 2, 7] (ih ((ss.getD k b85).body) (i6 pc (i9 p (ss.getD k b85).value)) ((t2 p strict (d + 1) pc c (b96 k ss)).snd + 1) ((A7 hs (by omega)).2.1) (aL2 hc (by omega)))) [(3, iA ((am3 p d strict ss pc c k).snd : Int)), (14, iA (am3 p d strict ss pc c k).fst)] fun G => b7 (wp_seq (wp_seq (l5 G d9 [(58, bA ((am3 p d strict ss pc c k).fst == 0))] fun G => b7 (P9 (u := ((t2 p strict d (i6 pc (i9 p (ss.getD k b85).value)) ((t2 p strict (d + (1 : Nat)) pc c (b96 k ss)).snd + (1 : Nat)) (ss.getD k b85).body).fst)) (v := (0 : Int)) G (fun h6 q6 => ?_) fun h6 q6 => ?_))))))
     ·
      refine wp_skip (b7 (wp_seq (k8 G d9 (rg 5) (aE7 p ss []) ((1, .ref 3) :: (2, iA pc) :: (3, iA ((am3 p d strict ss pc c k).snd : Int)) :: (aN3 strict k [(14, iA (am3 p d strict ss pc c k).fst), (70, bA ((am3 p d strict ss pc c k).fst != 0))])) fun G => b7 ?_))); cases h7 : ((t2 p strict d (i6 pc (i9 p (ss.getD k b85).value)) ((t2 p strict (d + (1 : Nat)) pc c (b96 k ss)).snd + (1 : Nat)) (ss.getD k b85).body).fst != 0)
      · have q7 := bne_eq_false_iff_eq.1 h7; exact False.elim (by omega)
      · have q7 := bne_iff_ne.1 h7; refine rT G _ h7 (wp_seq (l5 G d9 [(10, iA (am3 p d strict ss pc c k).fst), (11, iA ((am3 p d strict ss pc c k).snd : Int))] fun G => b7 (wp_ret (A0 (l7 (l7 (A0 (l7 ?_)))))))); exact X7 (.tup [iA (t2 p strict d (i6 pc (i9 p (ss.getD k b85).value)) ((t2 p strict (d + 1) pc c (b96 k ss)).snd + 1) (ss.getD k b85).body).fst, iA ((t2 p strict d (i6 pc (i9 p (ss.getD k b85).value)) ((t2 p strict (d + 1) pc c (b96 k ss)).snd + 1) (ss.getD k b85).body).snd : Int)]) G (rg 4) (by have e1 : ((t2 p strict (d + 1) pc c ss).fst : Int) = ((t2 p strict d (i6 pc (i9 p (ss.getD k b85).value)) ((t2 p strict (d + 1) pc c (b96 k ss)).snd + 1) (ss.getD k b85).body).fst) := (by rw [t2, E0 hp.2 (by omega) (by rw [Q6 (by with_reducible assumption) (Z6 (by with_reducible assumption)) (by with_reducible assumption)]; with_reducible assumption), Q6 (by with_reducible assumption) (Z6 (by with_reducible assumption)) (by with_reducible assumption)]); have e2 : (((t2 p strict (d + 1) pc c ss).snd : Int) : Int) = (((t2 p strict d (i6 pc (i9 p (ss.getD k b85).value)) ((t2 p strict (d + 1) pc c (b96 k ss)).snd + 1) (ss.getD k b85).body).snd : Int)) := (by rw [t2, E0 hp.2 (by omega) (by rw [Q6 (by with_reducible assumption) (Z6 (by with_reducible assumption)) (by with_reducible assumption)]; with_reducible assumption), Q6 (by with_reducible assumption) (Z6 (by with_reducible assumption)) (by with_reducible assumption)]); (first | rw [e1, e2] | simp only [e1, e2]) <;> rfl)
     ·
      refine k8 G (s6 6 [0, 1, 2, 8] (ih ((ss.getD k b85).els) (i6 pc (i9 p (ss.getD k b85).value)) ((am3 p d strict ss pc c k).snd) ((A7 hs (by omega)).2.2) (aR1 hc (by omega)))) (rg 5) (aE7 p ss []) ((1, .ref 3) :: (2, iA pc) :: (3, iA ((aZ5 p d strict ss pc c k).snd : Int)) :: (aN3 strict k [(14, iA (aZ5 p d strict ss pc c k).fst)])) fun G => b7 (wp_seq (l5 G d9 [(70, bA ((aZ5 p d strict ss pc c k).fst != 0))] fun G => b7 (rcN (u := ((t2 p strict d (i6 pc (i9 p (ss.getD k b85).value)) (t2 p strict d (i6 pc (i9 p (ss.getD k b85).value)) ((t2 p strict (d + (1 : Nat)) pc c (b96 k ss)).snd + (1 : Nat)) (ss.getD k b85).body).snd (ss.getD k b85).els).fst)) (v := (0 : Int)) G (fun h8 q8 => ?_) fun h8 q8 => ?_)))
      · refine wp_skip (m6 (b7 (E2 G d9 [(12, iA ((k : Int) + 1))] [wO ((k : Int) + 1)] (o1 (by omega)) fun G => b7 ?_))); exact M8 G (k + 1) (⟨by omega, by rw [t2, X1 hp.2 (by omega), L1 (by with_reducible assumption) (Z6 (by with_reducible assumption)) (by with_reducible assumption)]; with_reducible assumption⟩) (by have hp := hp; omega) (rg 5) (ht := by have e1 : (((t2 p strict (d + 1) pc c (b96 (k + 1) ss)).snd : Int) : Int) = (((t2 p strict d (i6 pc (i9 p (ss.getD k b85).value)) (t2 p strict d (i6 pc (i9 p (ss.getD k b85).value)) ((t2 p strict (d + 1) pc c (b96 k ss)).snd + 1) (ss.getD k b85).body).snd (ss.getD k b85).els).snd : Int)) := (by rw [t2, X1 hp.2 (by omega), L1 (by with_reducible assumption) (Z6 (by with_reducible assumption)) (by with_reducible assumption)]); (first | rw [e1] | simp only [e1]) <;> rfl)
      · refine wp_seq (l5 G d9 [(10, iA (aZ5 p d strict ss pc c k).fst), (11, iA ((aZ5 p d strict ss pc c k).snd : Int))] fun G => b7 (wp_ret (A0 (l7 (l7 (A0 (l7 ?_))))))); exact X7 (.tup [iA (t2 p strict d (i6 pc (i9 p (ss.getD k b85).value)) (t2 p strict d (i6 pc (i9 p (ss.getD k b85).value)) ((t2 p strict (d + 1) pc c (b96 k ss)).snd + 1) (ss.getD k b85).body).snd (ss.getD k b85).els).fst, iA ((t2 p strict d (i6 pc (i9 p (ss.getD k b85).value)) (t2 p strict d (i6 pc (i9 p (ss.getD k b85).value)) ((t2 p strict (d + 1) pc c (b96 k ss)).snd + 1) (ss.getD k b85).body).snd (ss.getD k b85).els).snd : Int)]) G (rg 4) (by have e1 : ((t2 p strict (d + 1) pc c ss).fst : Int) = ((t2 p strict d (i6 pc (i9 p (ss.getD k b85).value)) (t2 p strict d (i6 pc (i9 p (ss.getD k b85).value)) ((t2 p strict (d + 1) pc c (b96 k ss)).snd + 1) (ss.getD k b85).body).snd (ss.getD k b85).els).fst) := (by rw [t2, E0 hp.2 (by omega) (by rw [L1 (by with_reducible assumption) (Z6 (by with_reducible assumption)) (by with_reducible assumption)]; with_reducible assumption), L1 (by with_reducible assumption) (Z6 (by with_reducible assumption)) (by with_reducible assumption)]); have e2 : (((t2 p strict (d + 1) pc c ss).snd : Int) : Int) = (((t2 p strict d (i6 pc (i9 p (ss.getD k b85).value)) (t2 p strict d (i6 pc (i9 p (ss.getD k b85).value)) ((t2 p strict (d + 1) pc c (b96 k ss)).snd + 1) (ss.getD k b85).body).snd (ss.getD k b85).els).snd : Int)) := (by rw [t2, E0 hp.2 (by omega) (by rw [L1 (by with_reducible assumption) (Z6 (by with_reducible assumption)) (by with_reducible assumption)]; with_reducible assumption), L1 (by with_reducible assumption) (Z6 (by with_reducible assumption)) (by with_reducible assumption)]); (first | rw [e1, e2] | simp only [e1, e2]) <;> rfl)
   · refine wp_seq (l5 G d9 [(10, iA (K2 p (ss.getD k b85) pc strict)), (11, iA ((t2 p strict (d + 1) pc c (b96 k ss)).snd : Int))] fun G => b7 (wp_ret (l7 (A0 (l7 (l7 (A0 (l7 ?_)))))))); exact X7 (.tup [iA (K2 p (ss.getD k b85) pc strict), iA ((t2 p strict (d + 1) pc c (b96 k ss)).snd : Int)]) G (rg 4) (by have e1 : ((t2 p strict (d + 1) pc c ss).fst : Int) = (K2 p (ss.getD k b85) pc strict) := (by rw [t2, E0 hp.2 (by omega) (by rw [aB5 (by with_reducible assumption)]; with_reducible assumption), aB5 (by with_reducible assumption)]); have e2 : (((t2 p strict (d + 1) pc c ss).snd : Int) : Int) = (((t2 p strict (d + 1) pc c (b96 k ss)).snd : Int)) := (by rw [t2, E0 hp.2 (by omega) (by rw [aB5 (by with_reducible assumption)]; with_reducible assumption), aB5 (by with_reducible assumption)]); (first | rw [e1, e2] | simp only [e1, e2]) <;> rfl)
theorem be1 (p : d7) (strict : Bool) : ∀ (d : Nat) (ss : List b6) (pc : Int) (c : Nat), ss.all (f6 p.vars.length p.arrays.length d) = true → c + L8 ss ≤ 4000000 → k6.ok Tryz.prog (bL9 p d ss pc c strict) := by
 intro d
 induction d with
 | zero =>
  intro ss pc c h hc
  cases ss with
  | nil => exact be2 p pc c strict
  | cons s r => simp [f6] at h
 | succ d ih => intro ss pc c h hc; exact be0 p d strict ih ss pc c h hc
theorem K0 {p : d7} (h : m0 p = true) : p.body.all (f6 p.vars.length p.arrays.length 5) = true ∧ L8 p.body ≤ 60 := by
 simp only [m0, ae6, b86, decide_eq_true_eq] at h
 exact ⟨h.1.2, h.2⟩
theorem bE0 (p : d7) (strict : Bool) (h : m0 p = true) : k6.ok Tryz.prog (F6 201 [pA 0, .ref 2, iA 0, iA 0, bA strict] (pS p) (.tup [iA (t2 p strict 5 0 0 p.body).1, iA (t2 p strict 5 0 0 p.body).2])) :=
 k6.dup (S := pS p) (S' := pS p) (d := .stmts p.body) (i := 2) (be1 p strict 5 p.body 0 0 (K0 h).1 (by have := (K0 h).2; omega)) rfl rfl rfl (fun ρ h => by simp only [AV.vals, AV.val]; rw [show ρ 3 = ρ 2 from h]; rfl) rfl
def C7 (p : d7) (strict : Bool) : Int × Int := if m0 p then (if (t2 p strict 5 0 0 p.body).1 = 0 then (0, -1) else ((t2 p strict 5 0 0 p.body).1, ((t2 p strict 5 0 0 p.body).2 : Int))) else (5, -1)
def ctR (p : d7) : Int × Int := if (C7 p false).1 = 0 then C7 p true else C7 p false
section
variable {p : d7} {strict : Bool}
theorem bl3 (h : m0 p = false) : C7 p strict = (5, -1) := by rw [C7, h]; rfl
theorem bl6 (h : m0 p = true) (h1 : (t2 p strict 5 0 0 p.body).1 = 0) : C7 p strict = (0, -1) := by rw [C7, h, h1]; rfl
theorem bD5 (h : m0 p = true) (h1 : ¬ (t2 p strict 5 0 0 p.body).1 = 0) : C7 p strict = ((t2 p strict 5 0 0 p.body).1, ((t2 p strict 5 0 0 p.body).2 : Int)) := by rw [C7, h, if_neg h1]; rfl
theorem b34 (h : (C7 p false).1 = 0) : ctR p = C7 p true := if_pos h
theorem b33 (h : ¬ (C7 p false).1 = 0) : ctR p = C7 p false := if_neg h
end
theorem bq4 (p : d7) (strict : Bool) (hb : i5 p.body ≤ 1048576) : k6.ok Tryz.prog (F6 150 [pA 0, bA strict] (pS p) (.tup [iA (C7 p strict).1, iA (C7 p strict).2])) := by
  refine A2 24 Tryz.func150 [dI p.vars, dI p.arrays, dT p.body] [(0, pA 0), (1, bA strict)] fun G => ?_; refine wp_seq (k8 G d9 (rg 4) [dI p.vars, dI p.arrays, dT p.body, .box (pL 0)] [(1, bA strict), (2, .ptr 3 0), (4, iA 0), (5, iA 0)] fun G => b7 (wp_seq (wp_seq (l5 G (s6 1 [0, 1, 2] (X4 p (by assumption))) [(10, .v (.bool !m0 p))] fun G => b7 ?_)))); cases h0 : (!m0 p)
  ·
   have q0 : (m0 p) = true := (Eq.mp (b97 _) h0); refine rF G _ h0 (wp_skip (b7 (wp_seq (k8 G (s6 4 [0, 1, 2] (bE0 p strict (by assumption))) [0, 1, 2] [dI p.vars, dI p.arrays, dT p.body] [(4, iA 0), (5, iA 0), (6, iA (t2 p strict 5 0 0 p.body).fst), (7, iA ((t2 p strict 5 0 0 p.body).snd : Int))] fun G => b7 (wp_seq (wp_seq (l5 G d9 [(20, bA ((t2 p strict 5 0 0 p.body).fst == 0))] fun G => b7 (P9 G (fun h1 q1 => ?_) fun h1 q1 => ?_))))))))
   · refine wp_skip (b7 (wp_seq (l5 G d9 [(4, iA (t2 p strict 5 0 0 p.body).fst), (5, iA ((t2 p strict 5 0 0 p.body).snd : Int))] fun G => b7 (wp_ret ?_)))); exact X7 (.tup [iA (t2 p strict 5 0 0 p.body).fst, iA ((t2 p strict 5 0 0 p.body).snd : Int)]) G [0, 1, 2] (by have e1 : ((C7 p strict).fst : Int) = ((t2 p strict 5 0 0 p.body).fst) := (by rw [bD5 (by assumption) (by assumption)]; done); have e2 : ((C7 p strict).snd : Int) = (((t2 p strict 5 0 0 p.body).snd : Int)) := (by rw [bD5 (by assumption) (by assumption)]; done); (first | rw [e1, e2] | simp only [e1, e2]) <;> rfl)
   · refine wp_seq (l5 G d9 [(4, iA (t2 p strict 5 0 0 p.body).fst), (5, iA (-1))] fun G => b7 (wp_ret (l7 ?_))); exact X7 (.tup [iA (t2 p strict 5 0 0 p.body).fst, iA (-1)]) G [0, 1, 2] (by have e1 : ((C7 p strict).fst : Int) = ((t2 p strict 5 0 0 p.body).fst) := ((congrArg Prod.fst (bl6 (by assumption) (by assumption))).trans (Eq.symm (by assumption))); have e2 : ((C7 p strict).snd : Int) = (-1) := (by rw [bl6 (by assumption) (by assumption)]; done); (first | rw [e1, e2] | simp only [e1, e2]) <;> rfl)
  · have q0 : (m0 p) = false := (Eq.mp (b95 _) h0); refine rT G _ h0 (wp_seq (l5 G d9 [(4, iA 5), (5, iA (-1))] fun G => b7 (wp_ret (l7 ?_)))); exact X7 (.tup [iA 5, iA (-1)]) G [0, 1, 2] (by have e1 : ((C7 p strict).fst : Int) = (5) := (by rw [bl3 (by assumption)]; done); have e2 : ((C7 p strict).snd : Int) = (-1) := (by rw [bl3 (by assumption)]; done); (first | rw [e1, e2] | simp only [e1, e2]) <;> rfl)
theorem a70 (p : d7) (hb : i5 p.body ≤ 1048576) : k6.ok Tryz.prog (F6 77 [pA 0] (pS p) (.tup [iA (C7 p false).1, iA (C7 p false).2])) := by
 refine A2 8 Tryz.func77 [dI p.vars, dI p.arrays, dT p.body] [(0, pA 0)] fun G => ?_; refine wp_seq (k8 G d9 (rg 4) [dI p.vars, dI p.arrays, dT p.body, .box (pL 0)] [(1, .ptr 3 0), (2, iA 0), (3, iA 0)] fun G => b7 (wp_seq (k8 G (s6 1 [0, 1, 2] (bq4 p false (by assumption))) [0, 1, 2] [dI p.vars, dI p.arrays, dT p.body] [(2, iA (C7 p false).fst), (3, iA (C7 p false).snd)] fun G => b7 (wp_ret ?_)))); exact F2 G [0, 1, 2]
theorem U4 (p : d7) (e : b5) (he : f5 p.vars.length p.arrays.length 5 e = true) : k6.ok Tryz.prog (F6 141 [pA 0, eA e 3] (pS p ++ eS e) (iA (i9 p e))) := a59 p 5 e he
def ag9 (p : d7) (s : b6) (cx : Int) : Int := if s.kind = 2 then i6 (i6 (i9 p s.value) cx) (i9 p s.index) else i6 (i9 p s.value) cx
def N2 (p : d7) (s : b6) (cx : Int) : Int :=
 if s.kind = 1 then if anI (i6 (i9 p s.value) cx) (p.vars.getD s.target.toNat 0) = 0 then 0 else 1
 else if s.kind = 2 then if anI (i6 (i6 (i9 p s.value) cx) (i9 p s.index)) (p.arrays.getD s.target.toNat 0) = 0 then 0 else 1
 else if s.kind = 5 then if (d8 (i9 p s.value) && decide (i9 p s.value ≤ 1)) = true ∧ cx = 0 then 0 else 2
 else 0
theorem bu0 {p : d7} {s : b6} {cx : Int} (k : ¬ s.kind = 2) : ag9 p s cx = i6 (i9 p s.value) cx := if_neg k
theorem bt9 {p : d7} {s : b6} {cx : Int} (k : s.kind = 2) : ag9 p s cx = i6 (i6 (i9 p s.value) cx) (i9 p s.index) := if_pos k
section
variable {p : d7} {s : b6} {cx : Int}
theorem b76 (k : s.kind = 1) (h : (!(anI (ag9 p s cx) (p.vars.getD s.target.toNat 0) == 0)) = false) : N2 p s cx = 0 := by
 rw [bu0 (by omega)] at h
 rw [N2, if_pos k, if_pos (by simpa using h)]
theorem b77 (k : s.kind = 1) (h : (!(anI (ag9 p s cx) (p.vars.getD s.target.toNat 0) == 0)) = true) : N2 p s cx = 1 := by
 rw [bu0 (by omega)] at h
 rw [N2, if_pos k, if_neg (by simpa using h)]
theorem b74 (k : s.kind = 2) (h : (!(anI (ag9 p s cx) (p.arrays.getD s.target.toNat 0) == 0)) = false) : N2 p s cx = 0 := by
 rw [bt9 k] at h
 rw [N2, if_neg (by omega), if_pos k, if_pos (by simpa using h)]
theorem b75 (k : s.kind = 2) (h : (!(anI (ag9 p s cx) (p.arrays.getD s.target.toNat 0) == 0)) = true) : N2 p s cx = 1 := by
 rw [bt9 k] at h
 rw [N2, if_neg (by omega), if_pos k, if_neg (by simpa using h)]
theorem b73 (k : s.kind = 5) (h : (!(d8 (i9 p s.value) && decide (i9 p s.value ≤ 1))) = false) (h2 : cx = 0) : N2 p s cx = 0 := by
 rw [b97] at h
 rw [N2, if_neg (by omega), if_neg (by omega), if_pos k, if_pos ⟨h, h2⟩]
theorem b21 (k : s.kind = 5) (h : (!(d8 (i9 p s.value) && decide (i9 p s.value ≤ 1))) = true ∨ ¬ cx = 0) : N2 p s cx = 2 := by
 rw [N2, if_neg (by omega), if_neg (by omega), if_pos k, if_neg]
 rintro ⟨a, b⟩
 rcases h with h | h
 ·rw [a] at h; cases h
 ·exact h b
theorem if0 (k : ¬ s.kind = 1 ∧ ¬ s.kind = 2 ∧ ¬ s.kind = 5) : N2 p s cx = 0 := by rw [N2, if_neg k.1, if_neg k.2.1, if_neg k.2.2]
end
theorem a56 (p : d7) (s : b6) (cx : Int) (h : t7 p.vars.length p.arrays.length s = true) (h4 : ¬ s.kind = 4) : k6.ok Tryz.prog (F6 139 [pA 0, sA s 3, iA cx] (pS p ++ sS s) (iA (ag9 p s cx))) := by
 refine A2 24 Tryz.func139 [dI p.vars, dI p.arrays, dT p.body, dE s.index.kids, dE s.value.kids, dT s.body, dT s.els] [(0, pA 0), (1, sA s 3), (2, iA cx)] fun G => ?_; refine wp_seq (k8 G d9 [0, 1, 2, 3, 4, 5, 6, 7, 15] [dI p.vars, dI p.arrays, dT p.body, dE s.index.kids, dE s.value.kids, dT s.body, dT s.els, .box (pL 0), .box (sL s 3)] [(2, iA cx), (3, .ptr 7 0), (4, .ptr 8 0), (6, iA 0)] fun G => b7 (wp_seq (l5 G (s6 3 [0, 1, 2, 4] (U4 p s.value (n5 h (by omega)))) [(7, iA (i6 (i9 p s.value) cx))] fun G => b7 (wp_seq (wp_seq (l5 G d9 [(16, bA (s.kind == 2))] fun G => b7 (P9 G (fun h0 q0 => ?_) fun h0 q0 => ?_)))))))
 ·refine wp_skip (b7 (wp_seq (k8 G d9 (rg 7) [dI p.vars, dI p.arrays, dT p.body, dE s.index.kids, dE s.value.kids, dT s.body, dT s.els] [(6, iA (i6 (i9 p s.value) cx))] fun G => b7 (wp_ret ?_)))); exact J9 (i6 (i9 p s.value) cx) G (rg 7) (bu0 (by assumption))
 ·refine k8 G (s6 4 (rg 4) (U4 p s.index (W9 h (by assumption)))) (rg 7) [dI p.vars, dI p.arrays, dT p.body, dE s.index.kids, dE s.value.kids, dT s.body, dT s.els] [(6, iA 0), (7, iA (i6 (i6 (i9 p s.value) cx) (i9 p s.index)))] fun G => b7 (wp_seq (l5 G d9 [(6, iA (i6 (i6 (i9 p s.value) cx) (i9 p s.index)))] fun G => b7 (wp_ret ?_))); exact J9 (i6 (i6 (i9 p s.value) cx) (i9 p s.index)) G (rg 7) (bt9 (by assumption))
abbrev aq8 (p : d7) (s : b6) (r0 : List It) : List It := dI p.vars :: dI p.arrays :: dT p.body :: dE s.index.kids :: dE s.value.kids :: dT s.body :: dT s.els :: r0
theorem bV7 (p : d7) (s : b6) (cx : Int) (h : t7 p.vars.length p.arrays.length s = true) : k6.ok Tryz.prog (F6 67 [pA 0, sA s 3, iA cx] (pS p ++ sS s) (iA (N2 p s cx))) := by
  refine A2 59 Tryz.func67 (aq8 p s []) [(0, pA 0), (1, sA s 3), (2, iA cx)] fun G => ?_; refine wp_seq (k8 G d9 [0, 1, 2, 3, 4, 5, 6, 7, 15] (aq8 p s [.box (pL 0), .box (sL s 3)]) [(2, iA cx), (3, .ptr 7 0), (4, .ptr 8 0), (6, iA 0)] fun G => b7 (wp_seq (wp_block (wp_seq ?_)))); cases h0 : (s.kind == 1)
  ·
   have q0 := ne_of_beq_false h0; refine bn8 G (O2 (fc h0 fz) (us [(4, 15, 0), (1016, 1016, 0)])) [0, 1, 3, 7, 15, 15, 15, 127, 15, 271, 15, 1039, 3855, 7951, 16383, 32767, 65535, 131071] [(7, bA false)] fun G => b7 (rF G false (by kernel_rfl) (wp_seq ?_)); cases h1 : (s.kind == 2)
   ·
    have q1 := ne_of_beq_false h1; refine bn8 G (O2 (fc h1 fz) (us [(4, 15, 0), (1016, 1016, 0)])) [0, 1, 3, 7, 15, 15, 15, 127, 15, 271, 15, 1039, 3855, 7951, 16383, 32767, 65535, 131071] [(25, bA false)] fun G => b7 (rF G false (by kernel_rfl) (wp_seq ?_)); cases h2 : (s.kind == 5)
    · have q2 := ne_of_beq_false h2; refine k8 G (O2 (fc h2 fz) (us [(4, 10, 0), (13, 13, 0), (1014, 1014, 0)])) (rg 7) (aq8 p s []) [(6, iA 0), (43, bA false)] fun G => b7 (rF G false (by kernel_rfl) (wp_skip (m6 (b7 (wp_seq (l5 G d9 [] fun G => b7 (wp_ret ?_))))))); exact J9 0 G (rg 7) (if0 (by omega))
    ·
     have q2 := eq_of_beq h2; cases h3 : (!(d8 (i9 p s.value) && decide (i9 p s.value ≤ 1)))
     ·
      have q3 : ((d8 (i9 p s.value)) = true) ∧ (i9 p s.value ≤ 1) := (fun hq => And.imp (fun hq => (hq)) (fun hq => of_decide_eq_true hq) (ca6.1 hq)) (Eq.mp (b97 _) h3); refine k8 G (t6 (l8 7 [0, 1, 2, 4] (U4 p s.value (n5 h (by omega))) (l8 8 [] (af3 (i9 p s.value)) t5)) (fc h2 (fc h3 fz)) (us [(4, 10, 0), (11, 12, 1), (13, 13, 0), (1013, 1013, 1), (1014, 1014, 0)])) (rg 7) (aq8 p s []) [(6, iA 0), (43, bA (cx != 0))] fun G => b7 (rcN G (fun h4 q4 => ?_) fun h4 q4 => ?_)
      · refine wp_skip (m6 (b7 (wp_seq (l5 G d9 [] fun G => b7 (wp_ret ?_))))); exact J9 0 G (rg 7) (b73 (by with_reducible assumption) (by with_reducible assumption) (by with_reducible assumption))
      · refine wp_seq (l5 G d9 [(6, iA 2)] fun G => b7 (wp_ret (A0 (l7 ?_)))); exact J9 2 G (rg 7) (b21 (by with_reducible assumption) (.inr (by with_reducible assumption)))
     · have q3 : ((d8 (i9 p s.value)) = false) ∨ (¬ (i9 p s.value ≤ 1)) := (fun hq => Or.imp (fun hq => (hq)) (fun hq => of_decide_eq_false hq) (ca4.1 hq)) (Eq.mp (b95 _) h3); refine k8 G (t6 (l8 7 [0, 1, 2, 4] (U4 p s.value (n5 h (by omega))) (l8 8 [] (af3 (i9 p s.value)) t5)) (fc h2 (fc h3 fz)) (us [(4, 10, 0), (11, 12, 1), (13, 13, 0), (1013, 1013, 1), (1014, 1014, 0)])) (rg 7) (aq8 p s []) [(6, iA 0), (43, bA true)] fun G => b7 (rT G true (by kernel_rfl) (wp_seq (l5 G d9 [(6, iA 2)] fun G => b7 (wp_ret (A0 (l7 ?_)))))); exact J9 2 G (rg 7) (b21 (by with_reducible assumption) (.inl (by with_reducible assumption)))
   ·
    have q1 := eq_of_beq h1; refine bn9 G (t6 (l8 7 (rg 7) (a56 p s cx (by assumption) (by omega)) (l8 14 [] (bm0 (ag9 p s cx) (p.arrays.getD s.target.toNat 0)) t5)) (fc h1 fz) (us [(4, 15, 0), (1016, 1016, 0)])) [0, 1, 3, 7, 15, 15, 15, 127, 15, 271, 15, 1039, 3855, 7951, 16383, 32767, 65535, 131071] [(2, iA cx), (3, .ptr 7 0), (4, .ptr 8 0), (6, iA 0), (25, .v (.bool !anI (ag9 p s cx) (p.arrays.getD s.target.toNat 0) == 0))] [(0 : Int) ≤ s.target, s.target < (p.arrays.length : Int), s.target.toNat < p.arrays.length] ⟨((Z7 h (by omega)).1), ((Z7 h (by omega)).2.1), ((Z7 h (by omega)).2.2), b94⟩ fun G => b7 ?_; cases h5 : (!anI (ag9 p s cx) (p.arrays.getD s.target.toNat (0 : Int)) == 0)
    ·
     have q5 : anI (ag9 p s cx) (p.arrays.getD s.target.toNat 0) = 0 := (fun hq => eq_of_beq hq) (Eq.mp (b97 _) h5); refine rF G _ h5 (wp_seq ?_); cases h6 : (s.kind == 5)
     · have q6 := ne_of_beq_false h6; refine k8 G (O2 (fc h6 fz) (us [(4, 10, 0), (13, 13, 0), (1014, 1014, 0)])) (rg 7) (aq8 p s []) [(6, iA 0), (43, bA false)] fun G => b7 (rF G false (by kernel_rfl) (wp_skip (m6 (b7 (wp_seq (l5 G d9 [] fun G => b7 (wp_ret ?_))))))); exact J9 0 G (rg 7) (b74 (by with_reducible assumption) (by with_reducible assumption))
     · have q6 := eq_of_beq h6; exact False.elim (by omega)
    · have q5 : ¬ (anI (ag9 p s cx) (p.arrays.getD s.target.toNat 0) = 0) := (fun hq => ne_of_beq_false hq) (Eq.mp (b95 _) h5); refine rT G _ h5 (wp_seq (k8 G d9 (rg 7) (aq8 p s []) [(6, iA 1)] fun G => b7 (wp_ret (A0 (l7 ?_))))); exact J9 1 G (rg 7) (b75 (by with_reducible assumption) (by with_reducible assumption))
  ·
   have q0 := eq_of_beq h0; refine bn9 G (t6 (l8 7 (rg 7) (a56 p s cx (by assumption) (by omega)) (l8 14 [] (bm0 (ag9 p s cx) (p.vars.getD s.target.toNat 0)) t5)) (fc h0 fz) (us [(4, 15, 0), (1016, 1016, 0)])) [0, 1, 3, 7, 15, 15, 15, 127, 15, 271, 15, 1039, 3855, 7951, 16383, 32767, 65535, 131071] [(2, iA cx), (3, .ptr 7 0), (4, .ptr 8 0), (6, iA 0), (7, .v (.bool !anI (ag9 p s cx) (p.vars.getD s.target.toNat 0) == 0))] [(0 : Int) ≤ s.target, s.target < (p.vars.length : Int), s.target.toNat < p.vars.length] ⟨((W8 h (by omega)).1), ((W8 h (by omega)).2.1), ((W8 h (by omega)).2.2), b94⟩ fun G => b7 ?_; cases h7 : (!anI (ag9 p s cx) (p.vars.getD s.target.toNat (0 : Int)) == 0)
   ·
    have q7 : anI (ag9 p s cx) (p.vars.getD s.target.toNat 0) = 0 := (fun hq => eq_of_beq hq) (Eq.mp (b97 _) h7); refine rF G _ h7 (wp_seq ?_); cases h8 : (s.kind == 2)
    ·
     have q8 := ne_of_beq_false h8; refine bZ1 G (O2 (fc h8 fz) (us [(4, 15, 0), (1016, 1016, 0)])) [0, 1, 3, 7, 15, 15, 15, 127, 15, 271, 15, 1039, 3855, 7951, 16383, 32767, 65535, 131071] [(2, iA cx), (3, .ptr 7 0), (4, .ptr 8 0), (6, iA 0), (25, bA false)] fun G => b7 (rF G false (by kernel_rfl) (wp_seq ?_)); cases h9 : (s.kind == 5)
     · have q9 := ne_of_beq_false h9; refine k8 G (O2 (fc h9 fz) (us [(4, 10, 0), (13, 13, 0), (1014, 1014, 0)])) (rg 7) (aq8 p s []) [(6, iA 0), (43, bA false)] fun G => b7 (rF G false (by kernel_rfl) (wp_skip (m6 (b7 (wp_seq (l5 G d9 [] fun G => b7 (wp_ret ?_))))))); exact J9 0 G (rg 7) (b76 (by with_reducible assumption) (by with_reducible assumption))
     · have q9 := eq_of_beq h9; exact False.elim (by omega)
    · have q8 := eq_of_beq h8; exact False.elim (by omega)
   · have q7 : ¬ (anI (ag9 p s cx) (p.vars.getD s.target.toNat 0) = 0) := (fun hq => ne_of_beq_false hq) (Eq.mp (b95 _) h7); refine rT G _ h7 (wp_seq (k8 G d9 (rg 7) (aq8 p s []) [(6, iA 1)] fun G => b7 (wp_ret (A0 (l7 ?_))))); exact J9 1 G (rg 7) (b77 (by with_reducible assumption) (by with_reducible assumption))
def y6 (p : d7) : Nat → Int → List b6 → List (b6 × Int)
 | 0, _, _ => []
 | d + 1, cx, ss => ss.flatMap fun s => (s, cx) :: (y6 p d (D9 p s cx) s.body ++ y6 p d (D9 p s cx) s.els)
theorem aK3 (p : d7) (d : Nat) (cx : Int) (s : b6) (r : List b6) : y6 p (d + 1) cx (s :: r) = (s, cx) :: (y6 p d (D9 p s cx) s.body ++ y6 p d (D9 p s cx) s.els) ++ y6 p (d + 1) cx r := by
 simp only [y6, List.flatMap_cons]
theorem bK2 (p : d7) (d : Nat) (cx : Int) : y6 p d cx [] = [] := by cases d <;> rfl
theorem bd0 (p : d7) (d : Nat) (cx : Int) (a b : List b6) : y6 p d cx (a ++ b) = y6 p d cx a ++ y6 p d cx b := by
 cases d with
 | zero => rfl
 | succ d => simp [y6]
theorem bC5 (p : d7) (d : Nat) (cx : Int) {ss : List b6} {k : Nat} (hk : k < ss.length) :
  y6 p (d + 1) cx (ss.take (k + 1)) = y6 p (d + 1) cx (ss.take k) ++ ((ss.getD k b85, cx) :: (y6 p d (D9 p (ss.getD k b85) cx) (ss.getD k b85).body ++ y6 p d (D9 p (ss.getD k b85) cx) (ss.getD k b85).els)) := by
 rw [r9 _ _ hk, bd0, n6 hk, aK3, bK2, List.append_nil]
theorem au5 (p : d7) : ∀ (d : Nat) (cx : Int) (ss : List b6), (y6 p d cx ss).length ≤ L8 ss
 | 0, _, _ => cc1 _
 | d + 1, cx, [] => by simp [y6]
 | d + 1, cx, s :: r => by
  rw [aK3, b88, b87, b88, L8, ap4]
  have h1 := au5 p d (D9 p s cx) s.body
  have h2 := au5 p d (D9 p s cx) s.els
  have h3 := au5 p (d + 1) cx r
  omega
def B4 (R : b6 × Int → Int) : Nat → List (b6 × Int) → Int × Nat
 | c, [] => (0, c)
 | c, x :: r => if R x = 0 then B4 R (c + 1) r else (R x, c)
theorem Z8 (R : b6 × Int → Int) : ∀ (a b : List (b6 × Int)) (c : Nat), B4 R c (a ++ b) = if (B4 R c a).1 = 0 then B4 R (B4 R c a).2 b else B4 R c a
 | [], b, c => by simp [B4]
 | x :: r, b, c => by
  simp only [List.cons_append, B4]
  by_cases h : R x = 0
  ·simp only [h, if_true]; exact Z8 R r b _
  ·simp [h]
theorem ad9 {R R' : b6 × Int → Int} : ∀ {l : List (b6 × Int)} {c : Nat}, (∀ x ∈ l, R x = R' x) → B4 R c l = B4 R' c l
 | [], c, _ => rfl
 | x :: r, c, h => by
  simp only [B4]
  rw [h x ca1, ad9 fun y hy => h y (ca8 _ hy)]
theorem aA2 {R : b6 × Int → Int} : ∀ {l : List (b6 × Int)} {c : Nat}, (B4 R c l).1 = 0 ↔ ∀ x ∈ l, R x = 0
 | [], c => by simp [B4]
 | x :: r, c => by
  simp only [B4, cb7, forall_eq_or_imp]
  by_cases h : R x = 0
  ·rw [if_pos h, aA2]; simp [h]
  ·rw [if_neg h]; simp [h]
theorem bG4 (p : d7) (strict : Bool) (d : Nat) (ih : ∀ (cx : Int) (c : Nat) (ss : List b6), t2 p strict d cx c ss = B4 (fun x => K2 p x.1 x.2 strict) c (y6 p d cx ss)) (cx : Int) (c : Nat) (s : b6) :
  stC p strict (d + 1) cx c s = B4 (fun x => K2 p x.1 x.2 strict) c ((s, cx) :: (y6 p d (D9 p s cx) s.body ++ y6 p d (D9 p s cx) s.els)) := by
 have h1 := ih (D9 p s cx) (c + 1) s.body
 unfold t2 at h1
 rw [stC, B4]
 simp only
 split
 ·rw [Z8, h1]
  split
  ·exact ih _ _ _
  ·rfl
 ·rfl
theorem aD3 (p : d7) (strict : Bool) : ∀ (d : Nat) (cx : Int) (c : Nat) (ss : List b6), t2 p strict d cx c ss = B4 (fun x => K2 p x.1 x.2 strict) c (y6 p d cx ss)
 | 0, cx, c, ss => by
  induction ss with
  | nil => rfl
  | cons s r ih => unfold t2 at ih ⊢; rw [B9]; simp only [stC, if_true]; exact ih
 | d + 1, cx, c, ss => by
  induction ss generalizing c with
  | nil => simp [B9, y6, B4]
  | cons s r ih =>
   unfold t2 at ih ⊢
   rw [B9, aK3, Z8, ← bG4 p strict d (aD3 p strict d)]
   split
   ·exact ih _
   ·rfl
def f9 (R : b6 × Int → Int) (σ : Int × Int × Nat) (x : b6 × Int) : Int × Int × Nat :=
 if σ.1 = 0 then (R x, if R x = 0 then σ.2.1 else (σ.2.2 : Int), σ.2.2 + 1) else (σ.1, σ.2.1, σ.2.2 + 1)
theorem aw8 (R : b6 × Int → Int) : ∀ (l : List (b6 × Int)) (σ : Int × Int × Nat), (l.foldl (f9 R) σ).2.2 = σ.2.2 + l.length
 | [], σ => rfl
 | x :: r, σ => by
  rw [List.foldl_cons, aw8 R r, b87]
  unfold f9
  split <;> simp only <;> omega
theorem aG8 {R : b6 × Int → Int} : ∀ (l : List (b6 × Int)) {σ : Int × Int × Nat}, ¬ σ.1 = 0 → (l.foldl (f9 R) σ).1 = σ.1 ∧ (l.foldl (f9 R) σ).2.1 = σ.2.1
 | [], σ, h => ⟨rfl, rfl⟩
 | x :: r, σ, h => by
  rw [List.foldl_cons]
  have e : f9 R σ x = (σ.1, σ.2.1, σ.2.2 + 1) := by unfold f9; rw [if_neg h]
  rw [e]
  exact aG8 r (σ := (σ.1, σ.2.1, σ.2.2 + 1)) h
theorem ah0 {R : b6 × Int → Int} : ∀ (l : List (b6 × Int)) (n : Nat), ((l.foldl (f9 R) (0, -1, n)).1, (l.foldl (f9 R) (0, -1, n)).2.1) = if (B4 R n l).1 = 0 then ((0 : Int), (-1 : Int)) else ((B4 R n l).1, ((B4 R n l).2 : Int))
 | [], n => rfl
 | x :: r, n => by
  rw [List.foldl_cons, B4]
  by_cases h : R x = 0
  ·have e : f9 R (0, -1, n) x = (0, -1, n + 1) := by unfold f9; simp [h]
   rw [e, if_pos h]; exact ah0 r (n + 1)
  ·have e : f9 R (0, -1, n) x = (R x, (n : Int), n + 1) := by unfold f9; simp [h]
   rw [e, if_neg h, if_neg h]
   obtain ⟨h1, h2⟩ := aG8 (R := R) r (σ := (R x, (n : Int), n + 1)) h
   rw [h1, h2]
theorem aP0 {R : b6 × Int → Int} {p : d7} {d : Nat} {cx : Int} {ss : List b6} {k : Nat} (hk : k < ss.length) (σ : Int × Int × Nat) :
  (y6 p (d + 1) cx (ss.take (k + 1))).foldl (f9 R) σ =
   (y6 p d (D9 p (ss.getD k b85) cx) (ss.getD k b85).els).foldl (f9 R) ((y6 p d (D9 p (ss.getD k b85) cx) (ss.getD k b85).body).foldl (f9 R) (f9 R ((y6 p (d + 1) cx (ss.take k)).foldl (f9 R) σ) (ss.getD k b85, cx))) := by
 rw [bC5 p d cx hk, List.foldl_append, List.foldl_cons, List.foldl_append]
theorem bS1 : ∀ x : Fin 4, ∀ y : Fin 4, ∃ z : Fin 4, i6 x.val y.val = (z.val : Int) := by decide +kernel
theorem T0 {x y : Int} (hx : d8 x = true) (hy : d8 y = true) : d8 (i6 x y) = true := by
 obtain ⟨a, rfl⟩ := D5 hx
 obtain ⟨b, rfl⟩ := D5 hy
 obtain ⟨c, h⟩ := bS1 a b
 rw [h]
 simp [d8]; omega
theorem a26 : ∀ x : Fin 4, ∀ y : Fin 4, i6 x.val y.val = i6 y.val x.val := by decide +kernel
theorem aV8 : ∀ x : Fin 4, ∀ y : Fin 4, ∀ z : Fin 4, i6 (i6 x.val y.val) z.val = i6 x.val (i6 y.val z.val) := by decide +kernel
theorem or_comm {x y : Int} (hx : d8 x = true) (hy : d8 y = true) : i6 x y = i6 y x := by
 obtain ⟨a, rfl⟩ := D5 hx
 obtain ⟨b, rfl⟩ := D5 hy
 exact a26 a b
theorem or_assoc {x y z : Int} (hx : d8 x = true) (hy : d8 y = true) (hz : d8 z = true) : i6 (i6 x y) z = i6 x (i6 y z) := by
 obtain ⟨a, rfl⟩ := D5 hx
 obtain ⟨b, rfl⟩ := D5 hy
 obtain ⟨c, rfl⟩ := D5 hz
 exact aV8 a b c
theorem N4 {l : List Int} (h : l.all d8 = true) (i : Nat) : d8 (l.getD i 0) = true := by
 rcases cc0 i l.length with hi | hi
 ·rw [n6 hi]; exact b93.1 h _ (cb0 hi)
 ·rw [b91, cb5 hi]; rfl
theorem ad4 {vs ars : List Int} (h1 : vs.all d8 = true) (h2 : ars.all d8 = true) : ∀ (d : Nat) (e : b5), d8 (b9 vs ars d e) = true
 | 0, _ => rfl
 | d + 1, e => by
  rw [b9]
  have key : ∀ (ks : List b5) (a : Int), d8 a = true → d8 (ks.foldl (fun a k => i6 a (b9 vs ars d k)) a) = true := by
   intro ks
   induction ks with
   | nil => intro a ha; exact ha
   | cons x r ih => intro a ha; rw [List.foldl_cons]; exact ih _ (T0 ha (ad4 h1 h2 d x))
  refine key _ _ ?_
  unfold U2
  split
  ·exact N4 h1 _
  ·split
   ·exact N4 h2 _
   ·rfl
def at8 (p : d7) : Bool := p.vars.all d8 && p.arrays.all d8
theorem ap1 {p : d7} (h : m0 p = true) : at8 p = true := by
 unfold m0 F4 at h
 simp only [b86] at h
 unfold at8
 rw [h.1.1.1.1.1.1, h.1.1.1.1.1.2]; rfl
theorem aX6 {p : d7} (h : at8 p = true) (e : b5) : d8 (i9 p e) = true := by
 simp only [at8, b86] at h
 exact ad4 h.1 h.2 5 e
theorem bk2 {p : d7} (h : at8 p = true) {cx : Int} (hc : d8 cx = true) (s : b6) : d8 (D9 p s cx) = true := by
 unfold D9
 split
 ·exact T0 hc (aX6 h _)
 ·exact hc
theorem aC7 {p : d7} (hp : at8 p = true) : ∀ (d : Nat) (cx : Int) (ss : List b6), d8 cx = true → ss.all (f6 p.vars.length p.arrays.length d) = true → ∀ x ∈ y6 p d cx ss, t7 p.vars.length p.arrays.length x.1 = true ∧ d8 x.2 = true ∧ (x.1.kind = 4 → x.1.value.kind = 0 ∧ x.1.value.kids = [])
 | 0, cx, ss, _, _, x, hx => by simp [y6] at hx
 | d + 1, cx, ss, hc, hs, x, hx => by
  rw [y6] at hx
  obtain ⟨s, hss, hx⟩ := List.mem_flatMap.1 hx
  have h0 := b93.1 hs s hss
  have h1 := h0
  rw [D8, b86, b86] at h1
  rw [cb7, ca2] at hx
  rcases hx with rfl | hx | hx
  ·refine ⟨h1.1, hc, fun k4 => ?_⟩
   rw [f6, b86] at h0
   have h2 := h0.1
   unfold z6 at h2
   rw [if_pos (.inr k4), if_pos k4] at h2
   simp only [b86, decide_eq_true_eq, noneB] at h2
   exact ⟨h2.2.2.1.1, ca0 h2.2.2.2⟩
  ·exact aC7 hp d _ _ (bk2 hp hc s) h1.2.1 x hx
  ·exact aC7 hp d _ _ (bk2 hp hc s) h1.2.2 x hx
theorem bJ6 {p : d7} (hp : at8 p = true) {s : b6} {cx : Int} (hc : d8 cx = true) : N2 p s cx = F5 p s cx := by
 have hv := aX6 hp s.value
 have hi := aX6 hp s.index
 simp only [at8, b86] at hp
 unfold N2 F5
 by_cases k1 : s.kind = 1
 ·rw [if_pos k1, if_pos k1]
  have hx := T0 hv hc
  have hy := N4 hp.1 s.target.toNat
  have := a45 hx hy
  unfold flB
  rw [hx, hy]
  by_cases h : anI (i6 (i9 p s.value) cx) (p.vars.getD s.target.toNat 0) = 0
  ·rw [if_pos h, if_pos]
   rw [beq_iff_eq.2 h] at this
   rw [← this]; rfl
  ·rw [if_neg h, if_neg]
   rw [beq_eq_false_iff_ne.2 h] at this
   rw [← this]; simp
 rw [if_neg k1, if_neg k1]
 by_cases k2 : s.kind = 2
 ·rw [if_pos k2, if_pos k2]
  have e : i6 (i6 (i9 p s.value) cx) (i9 p s.index) = i6 (i6 (i9 p s.value) (i9 p s.index)) cx := by
   rw [or_assoc hv hc hi, or_comm hc hi, ← or_assoc hv hi hc]
  rw [e]
  have hx := T0 (T0 hv hi) hc
  have hy := N4 hp.2 s.target.toNat
  have := a45 hx hy
  unfold flB
  rw [hx, hy]
  by_cases h : anI (i6 (i6 (i9 p s.value) (i9 p s.index)) cx) (p.arrays.getD s.target.toNat 0) = 0
  ·rw [if_pos h, if_pos]
   rw [beq_iff_eq.2 h] at this
   rw [← this]; rfl
  ·rw [if_neg h, if_neg]
   rw [beq_eq_false_iff_ne.2 h] at this
   rw [← this]; simp
 rw [if_neg k2, if_neg k2]
 by_cases k5 : s.kind = 5
 ·rw [if_pos k5, if_pos k5]
  by_cases h : (d8 (i9 p s.value) && decide (i9 p s.value ≤ 1)) = true ∧ cx = 0
  ·rw [if_pos h, if_pos]
   rw [h.1, decide_eq_true h.2]; rfl
  ·rw [if_neg h, if_neg]
   rw [b86, decide_eq_true_eq]; exact h
 ·rw [if_neg k5, if_neg k5]
def W6 (p : d7) (s : b6) : Int :=
 if s.kind = 3 ∧ x5 (i9 p s.value) = true then 3
 else if (s.kind = 2 ∧ x5 (i9 p s.index) = true) ∨ p6 p.vars p.arrays 5 s.value = true then 4 else 0
theorem bJ5 {p : d7} {s : b6} (h : s.kind = 4 → s.value.kind = 0 ∧ s.value.kids = []) : W6 p s = W4 p s := by
 unfold W6 W4
 split
 ·rfl
 ·by_cases k4 : s.kind = 4
  ·obtain ⟨h1, h2⟩ := h k4
   have e : p6 p.vars p.arrays 5 s.value = false := by rw [p6, h2]; simp [h1]
   rw [e]
   simp [k4]
  ·simp only [ne_eq, k4, not_false_eq_true, true_and]
   by_cases a : s.kind = 2 ∧ x5 (i9 p s.index) = true <;> by_cases b : p6 p.vars p.arrays 5 s.value = true <;> simp [a, b]
theorem bl5 {p : d7} (h : m0 p = true) : ((y6 p 5 0 p.body).foldl (f9 fun x => N2 p x.1 x.2) (0, -1, 0)).1 = (C7 p false).1 ∧ ((y6 p 5 0 p.body).foldl (f9 fun x => N2 p x.1 x.2) (0, -1, 0)).2.1 = (C7 p false).2 := by
 have h1 := ah0 (R := fun x => N2 p x.1 x.2) (y6 p 5 0 p.body) 0
 have hl := ap1 h
 have e : B4 (fun x => N2 p x.1 x.2) 0 (y6 p 5 0 p.body) = t2 p false 5 0 0 p.body := by
  rw [aD3]
  refine ad9 fun x hx => ?_
  have hm := aC7 hl 5 0 p.body rfl (K0 h).1 x hx
  rw [bJ6 hl hm.2.1]
  unfold K2
  simp only [Bool.false_eq_true, if_false]
  split
  ·rename_i h; exact h
  ·rfl
 rw [e] at h1
 have h2 := Prod.mk.inj h1
 unfold C7
 rw [if_pos h]
 split
 ·rename_i h3
  rw [if_pos h3] at h1
  exact Prod.mk.inj h1
 ·rename_i h3
  rw [if_neg h3] at h1
  exact Prod.mk.inj h1
theorem bl4 {p : d7} (h : m0 p = true) (hf : (C7 p false).1 = 0) : ((y6 p 5 0 p.body).foldl (f9 fun x => W6 p x.1) (0, -1, 0)).1 = (C7 p true).1 ∧ ((y6 p 5 0 p.body).foldl (f9 fun x => W6 p x.1) (0, -1, 0)).2.1 = (C7 p true).2 := by
 have h1 := ah0 (R := fun x => W6 p x.1) (y6 p 5 0 p.body) 0
 have hl := ap1 h
 have hf2 : (t2 p false 5 0 0 p.body).1 = 0 := by
  unfold C7 at hf
  rw [if_pos h] at hf
  split at hf
  ·assumption
  ·exact hf
 rw [aD3, aA2] at hf2
 have e : B4 (fun x => W6 p x.1) 0 (y6 p 5 0 p.body) = t2 p true 5 0 0 p.body := by
  rw [aD3]
  refine ad9 fun x hx => ?_
  have hm := aC7 hl 5 0 p.body rfl (K0 h).1 x hx
  rw [bJ5 hm.2.2]
  have h0 := hf2 x hx
  unfold K2 at h0 ⊢
  simp only [Bool.false_eq_true, if_false, if_true] at h0 ⊢
  split at h0
  ·rename_i h; rw [if_pos h]
  ·rename_i h; exact absurd h0 h
 rw [e] at h1
 unfold C7
 rw [if_pos h]
 split
 ·rename_i h3
  rw [if_pos h3] at h1
  exact Prod.mk.inj h1
 ·rename_i h3
  rw [if_neg h3] at h1
  exact Prod.mk.inj h1
abbrev J6 : Type := List Int × List Int
def bv (x : Int) : BitVec 64 := BitVec.ofInt 64 x
def ofb (b : BitVec 64) : Int := IntKind.i64.wrap (b.toNat : Int)
theorem bV9 (b : BitVec 64) : bv (ofb b) = b := by
 apply BitVec.eq_of_toNat_eq
 unfold bv ofb
 rw [BitVec.toNat_ofInt]
 have h := b.isLt
 unfold IntKind.wrap
 simp only [IntKind.bits, IntKind.signed, Bool.true_and, decide_eq_true_eq]
 split <;> omega
theorem aV9 (x y : Int) : i6 x y = ofb (bv x ||| bv y) := rfl
theorem aQ9 (x y : Int) : bv (i6 x y) = bv x ||| bv y := by rw [aV9, bV9]
def w7 (x y : Int) : Prop := bv x ||| bv y = bv y
theorem w7.refl (x : Int) : w7 x x := BitVec.or_self
theorem w7.trans {x y z : Int} (h : w7 x y) (k : w7 y z) : w7 x z := by
 unfold w7 at *
 rw [← k, ← BitVec.or_assoc, h]
theorem J4 (x y : Int) : w7 x (i6 x y) := by unfold w7; rw [aQ9, ← BitVec.or_assoc, BitVec.or_self]
theorem Y6 {x y a b : Int} (h : w7 x a) (k : w7 y b) : w7 (i6 x y) (i6 a b) := by
 unfold w7 at *
 rw [aQ9, aQ9, BitVec.or_assoc, ← BitVec.or_assoc (bv y), BitVec.or_comm (bv y) (bv a), BitVec.or_assoc (bv a), k, ← BitVec.or_assoc, h]
theorem bW0 : ∀ x : Fin 4, ∀ y : Fin 4, bv x.val = bv y.val → x = y := by decide +kernel
theorem bT4 : ∀ x : Fin 4, ∀ y : Fin 4, bv x.val ||| bv y.val = bv y.val → x.val ≤ y.val := by decide +kernel
theorem w7.anti {x y : Int} (h : w7 x y) (k : w7 y x) (hx : d8 x = true) (hy : d8 y = true) : x = y := by
 obtain ⟨a, rfl⟩ := D5 hx
 obtain ⟨b, rfl⟩ := D5 hy
 unfold w7 at *
 rw [BitVec.or_comm, h] at k
 rw [bW0 b a k]
theorem w7.nat {x y : Int} (h : w7 x y) (hx : d8 x = true) (hy : d8 y = true) : x.toNat ≤ y.toNat := by
 obtain ⟨a, rfl⟩ := D5 hx
 obtain ⟨b, rfl⟩ := D5 hy
 have := bT4 a b h
 omega
def leP (q r : J6) : Prop := (∀ i, w7 (q.1.getD i 0) (r.1.getD i 0)) ∧ ∀ i, w7 (q.2.getD i 0) (r.2.getD i 0)
def shP (q r : J6) : Prop := r.1.length = q.1.length ∧ r.2.length = q.2.length
def okP (q : J6) : Prop := q.1.all d8 = true ∧ q.2.all d8 = true
theorem leP.refl (q : J6) : leP q q := ⟨fun _ => w7.refl _, fun _ => w7.refl _⟩
theorem leP.trans {q r s : J6} (h : leP q r) (k : leP r s) : leP q s := ⟨fun i => (h.1 i).trans (k.1 i), fun i => (h.2 i).trans (k.2 i)⟩
theorem shP.refl (q : J6) : shP q q := ⟨rfl, rfl⟩
theorem shP.trans {q r s : J6} (h : shP q r) (k : shP r s) : shP q s := ⟨k.1.trans h.1, k.2.trans h.2⟩
theorem shP.symm {q r : J6} (h : shP q r) : shP r q := ⟨h.1.symm, h.2.symm⟩
theorem aQ1 {a b : List Int} (hl : b.length = a.length) (h : ∀ i, w7 (a.getD i 0) (b.getD i 0)) (k : ∀ i, w7 (b.getD i 0) (a.getD i 0)) (ha : a.all d8 = true) (hb : b.all d8 = true) : a = b := by
 apply List.ext_getElem (by omega)
 intro i h1 h2
 have := (h i).anti (k i) (N4 ha i) (N4 hb i)
 rw [n6 h1, n6 h2] at this
 exact this
theorem leP.anti {q r : J6} (h : leP q r) (k : leP r q) (hs : shP q r) (hq : okP q) (hr : okP r) : q = r :=
 Prod.ext (aQ1 hs.1 h.1 k.1 hq.1 hr.1) (aQ1 hs.2 h.2 k.2 hq.2 hr.2)
theorem bx1 {q r : J6} (h : leP q r) (e : b5) : w7 (U2 q.1 q.2 e) (U2 r.1 r.2 e) := by
 unfold U2
 split
 ·exact h.1 _
 ·split
  ·exact h.2 _
  ·exact w7.refl _
theorem ai9 {q r : J6} (h : leP q r) : ∀ (d : Nat) (e : b5), w7 (b9 q.1 q.2 d e) (b9 r.1 r.2 d e)
 | 0, _ => w7.refl _
 | d + 1, e => by
  rw [b9, b9]
  have key : ∀ (ks : List b5) (a b : Int), w7 a b → w7 (ks.foldl (fun a k => i6 a (b9 q.1 q.2 d k)) a) (ks.foldl (fun a k => i6 a (b9 r.1 r.2 d k)) b) := by
   intro ks
   induction ks with
   | nil => intro a b hab; exact hab
   | cons x t ih => intro a b hab; rw [List.foldl_cons, List.foldl_cons]; exact ih _ _ (Y6 hab (ai9 h d x))
  exact key _ _ _ (bx1 h e)
def H7 (q : J6) (s : b6) (cx : Int) : J6 :=
 if s.kind = 1 then (q.1.set s.target.toNat (i6 (i6 (q.1.getD s.target.toNat 0) (b9 q.1 q.2 5 s.value)) cx), q.2)
 else if s.kind = 2 then (q.1, q.2.set s.target.toNat (i6 (i6 (i6 (q.2.getD s.target.toNat 0) (b9 q.1 q.2 5 s.value)) (b9 q.1 q.2 5 s.index)) cx))
 else q
def af6 (q : J6) (s : b6) (cx : Int) : Int := if s.kind = 3 then i6 cx (b9 q.1 q.2 5 s.value) else cx
def upS (b : Bool) : Nat → J6 → Int → b6 → J6
 | 0, q, _, _ => q
 | d + 1, q, cx, s => s.els.foldl (fun r t => upS b d r (af6 (if b then s.body.foldl (fun r t => upS b d r (af6 (H7 q s cx) s cx) t) (H7 q s cx) else H7 q s cx) s cx) t) (s.body.foldl (fun r t => upS b d r (af6 (H7 q s cx) s cx) t) (H7 q s cx))
abbrev y9 (b : Bool) (d : Nat) (q : J6) (cx : Int) (ss : List b6) : J6 := ss.foldl (fun r t => upS b d r cx t) q
theorem ag6 (b : Bool) (d : Nat) (q : J6) (cx : Int) (s : b6) : upS b (d + 1) q cx s = y9 b d (y9 b d (H7 q s cx) (af6 (H7 q s cx) s cx) s.body) (af6 (if b then y9 b d (H7 q s cx) (af6 (H7 q s cx) s cx) s.body else H7 q s cx) s cx) s.els := by rw [upS]
theorem aH3 (l : List Int) (t i : Nat) (x : Int) : (l.set t x).getD i 0 = if t = i ∧ t < l.length then x else l.getD i 0 := by
 simp only [b91, List.getElem?_set]
 by_cases h : t = i
 ·subst h
  by_cases h2 : t < l.length
  ·simp [h2]
  ·simp [h2]
 ·simp [h]
theorem bh9 {l : List Int} {t : Nat} {x : Int} (h : l.all d8 = true) (hx : d8 x = true) : (l.set t x).all d8 = true := by
 rw [b93] at *
 intro y hy
 rcases List.mem_or_eq_of_mem_set hy with h1 | h1
 ·exact h y h1
 ·rw [h1]; exact hx
theorem bb3 (q : J6) (s : b6) (cx : Int) : shP q (H7 q s cx) := by
 unfold H7
 split
 ·exact ⟨by simp, rfl⟩
 ·split
  ·exact ⟨rfl, by simp⟩
  ·exact shP.refl _
theorem a13 {l : List Int} {t : Nat} {x : Int} (h : w7 (l.getD t 0) x) (i : Nat) : w7 (l.getD i 0) ((l.set t x).getD i 0) := by
 rw [aH3]
 split
 ·rename_i h1; rw [← h1.1]; exact h
 ·exact w7.refl _
theorem a12 {l m : List Int} {t : Nat} {x y : Int} (hl : m.length = l.length) (h : ∀ i, w7 (l.getD i 0) (m.getD i 0)) (hx : w7 x y) (i : Nat) : w7 ((l.set t x).getD i 0) ((m.set t y).getD i 0) := by
 rw [aH3, aH3, hl]
 split
 ·exact hx
 ·exact h i
theorem bx5 (q : J6) (s : b6) (cx : Int) : leP q (H7 q s cx) := by
 unfold H7
 split
 ·exact ⟨a13 ((J4 _ _).trans (J4 _ _)), fun _ => w7.refl _⟩
 ·split
  ·exact ⟨fun _ => w7.refl _, a13 (((J4 _ _).trans (J4 _ _)).trans (J4 _ _))⟩
  ·exact leP.refl _
theorem bx4 {q r : J6} (h : leP q r) (hs : shP q r) {cx cy : Int} (hc : w7 cx cy) (s : b6) : leP (H7 q s cx) (H7 r s cy) := by
 unfold H7
 split
 ·exact ⟨a12 hs.1 h.1 (Y6 (Y6 (h.1 _) (ai9 h 5 _)) hc), h.2⟩
 ·split
  ·exact ⟨h.1, a12 hs.2 h.2 (Y6 (Y6 (Y6 (h.2 _) (ai9 h 5 _)) (ai9 h 5 _)) hc)⟩
  ·exact h
theorem bS3 {q : J6} (h : okP q) {cx : Int} (hc : d8 cx = true) (s : b6) : okP (H7 q s cx) := by
 unfold H7
 split
 ·exact ⟨bh9 h.1 (T0 (T0 (N4 h.1 _) (ad4 h.1 h.2 5 _)) hc), h.2⟩
 ·split
  ·exact ⟨h.1, bh9 h.2 (T0 (T0 (T0 (N4 h.2 _) (ad4 h.1 h.2 5 _)) (ad4 h.1 h.2 5 _)) hc)⟩
  ·exact h
theorem a36 {q r : J6} (h : leP q r) {cx cy : Int} (hc : w7 cx cy) (s : b6) : w7 (af6 q s cx) (af6 r s cy) := by
 unfold af6
 split
 ·exact Y6 hc (ai9 h 5 _)
 ·exact hc
theorem bB2 {q : J6} (h : okP q) {cx : Int} (hc : d8 cx = true) (s : b6) : d8 (af6 q s cx) = true := by
 unfold af6
 split
 ·exact T0 hc (ad4 h.1 h.2 5 _)
 ·exact hc
theorem al1 {F : J6 → b6 → J6} (hF : ∀ q s, shP q (F q s)) : ∀ (ss : List b6) (q : J6), shP q (ss.foldl F q)
 | [], q => shP.refl q
 | s :: r, q => (hF q s).trans (al1 hF r _)
theorem ab2 {F : J6 → b6 → J6} (hF : ∀ q s, leP q (F q s)) : ∀ (ss : List b6) (q : J6), leP q (ss.foldl F q)
 | [], q => leP.refl q
 | s :: r, q => (hF q s).trans (ab2 hF r _)
theorem aC3 {F : J6 → b6 → J6} (hF : ∀ q s, okP q → okP (F q s)) : ∀ (ss : List b6) (q : J6), okP q → okP (ss.foldl F q)
 | [], _, h => h
 | s :: r, q, h => aC3 hF r _ (hF q s h)
theorem al2 {F G : J6 → b6 → J6} (hF : ∀ q s, shP q (F q s)) (hG : ∀ q s, shP q (G q s)) (h : ∀ q r s, shP q r → leP q r → leP (F q s) (G r s)) : ∀ (ss : List b6) (q r : J6), shP q r → leP q r → leP (ss.foldl F q) (ss.foldl G r)
 | [], _, _, _, hl => hl
 | s :: t, q, r, hs, hl => al2 hF hG h t _ _ (((hF q s).symm.trans hs).trans (hG r s)) (h q r s hs hl)
theorem ag5 (b : Bool) : ∀ (d : Nat) (cx : Int) (q : J6) (s : b6), shP q (upS b d q cx s)
 | 0, _, q, _ => shP.refl q
 | d + 1, cx, q, s => by
  rw [ag6]
  exact ((bb3 q s cx).trans (al1 (fun q s => ag5 b d _ q s) _ _)).trans (al1 (fun q s => ag5 b d _ q s) _ _)
theorem aB2 (b : Bool) : ∀ (d : Nat) (cx : Int) (q : J6) (s : b6), leP q (upS b d q cx s)
 | 0, _, q, _ => leP.refl q
 | d + 1, cx, q, s => by
  rw [ag6]
  exact ((bx5 q s cx).trans (ab2 (fun q s => aB2 b d _ q s) _ _)).trans (ab2 (fun q s => aB2 b d _ q s) _ _)
theorem bt4 (b : Bool) : ∀ (d : Nat) (cx : Int) (q : J6) (s : b6), d8 cx = true → okP q → okP (upS b d q cx s)
 | 0, _, _, _, _, h => h
 | d + 1, cx, q, s, hc, h => by
  rw [ag6]
  have h1 := bS3 h hc s
  have h2 : okP (y9 b d (H7 q s cx) (af6 (H7 q s cx) s cx) s.body) := aC3 (fun q t hq => bt4 b d _ q t (bB2 h1 hc s) hq) _ _ h1
  refine aC3 (fun q t hq => bt4 b d _ q t (bB2 ?_ hc s) hq) _ _ h2
  split
  ·exact h2
  ·exact h1
theorem aT2 {b b' : Bool} (hb : b = true → b' = true) : ∀ (d : Nat) (cx cy : Int) (q r : J6) (s : b6), w7 cx cy → shP q r → leP q r → leP (upS b d q cx s) (upS b' d r cy s)
 | 0, _, _, _, _, _, _, _, h => h
 | d + 1, cx, cy, q, r, s, hc, hs, h => by
  rw [ag6, ag6]
  have h1 := bx4 h hs hc s
  have s1 : shP (H7 q s cx) (H7 r s cy) := ((bb3 q s cx).symm.trans hs).trans (bb3 r s cy)
  have hi := a36 h1 hc s
  have h2 : leP (y9 b d (H7 q s cx) (af6 (H7 q s cx) s cx) s.body) (y9 b' d (H7 r s cy) (af6 (H7 r s cy) s cy) s.body) := al2 (fun q t => ag5 b d _ q t) (fun q t => ag5 b' d _ q t) (fun q r t hs hl => aT2 hb d _ _ q r t hi hs hl) _ _ _ s1 h1
  have s2 : shP (y9 b d (H7 q s cx) (af6 (H7 q s cx) s cx) s.body) (y9 b' d (H7 r s cy) (af6 (H7 r s cy) s cy) s.body) := ((al1 (fun q t => ag5 b d _ q t) _ _).symm.trans s1).trans (al1 (fun q t => ag5 b' d _ q t) _ _)
  refine al2 (fun q t => ag5 b d _ q t) (fun q t => ag5 b' d _ q t) (fun q r t hs hl => aT2 hb d _ _ q r t ?_ hs hl) _ _ _ s2 h2
  refine a36 ?_ hc s
  cases b with
  | true =>
   have e := hb rfl
   subst e
   exact h2
  | false =>
   simp only [Bool.false_eq_true, if_false]
   split
   ·exact h1.trans (ab2 (fun q t => aB2 b' d _ q t) _ _)
   ·exact h1
section
variable {b : Bool} {d : Nat} {cx : Int} {q r : J6} {ss : List b6}
theorem ao6 : shP q (y9 b d q cx ss) := al1 (fun q t => ag5 b d _ q t) _ _
theorem aG1 : leP q (y9 b d q cx ss) := ab2 (fun q t => aB2 b d _ q t) _ _
theorem bt5 (hc : d8 cx = true) (h : okP q) : okP (y9 b d q cx ss) := aC3 (fun q t hq => bt4 b d _ q t hc hq) _ _ h
end
def aT4 (l : List Int) : Nat := (l.map Int.toNat).sum
def aM1 (q : J6) : Nat := aT4 q.1 + aT4 q.2
theorem aT3 : ∀ {a b : List Int}, b.length = a.length → a.all d8 = true → b.all d8 = true → (∀ i, w7 (a.getD i 0) (b.getD i 0)) → aT4 a ≤ aT4 b ∧ (aT4 a = aT4 b → a = b)
 | [], b, hl, _, _, _ => by rw [ca0 hl]; exact ⟨b99 _, fun _ => rfl⟩
 | x :: r, [], hl, _, _, _ => by cases hl
 | x :: r, y :: t, hl, ha, hb, h => by
  simp only [List.all_cons, b86] at ha hb
  have h0 := h 0
  simp at h0
  obtain ⟨k1, k2⟩ := aT3 (a := r) (b := t) (by simpa using hl) ha.2 hb.2 fun i => by have := h (i + 1); simpa using this
  have k3 := h0.nat ha.1 hb.1
  simp only [aT4, cb9, List.sum_cons] at k1 k2 ⊢
  refine ⟨by omega, fun e => ?_⟩
  obtain ⟨a, rfl⟩ := D5 ha.1
  obtain ⟨b, rfl⟩ := D5 hb.1
  rw [k2 (by omega)]
  congr 1
  omega
theorem aG5 : ∀ {l : List Int}, l.all d8 = true → aT4 l ≤ 3 * l.length
 | [], _ => cc1 _
 | x :: r, h => by
  simp only [List.all_cons, b86] at h
  have h1 := aG5 h.2
  obtain ⟨a, rfl⟩ := D5 h.1
  simp only [aT4, cb9, List.sum_cons, b87] at h1 ⊢
  omega
theorem bh5 {q r : J6} (hs : shP q r) (hq : okP q) (hr : okP r) (h : leP q r) (hne : ¬ r = q) : aM1 q < aM1 r := by
 obtain ⟨a1, a2⟩ := aT3 hs.1 hq.1 hr.1 h.1
 obtain ⟨b1, b2⟩ := aT3 hs.2 hq.2 hr.2 h.2
 unfold aM1
 refine Nat.lt_of_not_le fun hle => hne (Prod.ext (a2 (by omega)).symm (b2 (by omega)).symm)
theorem a04 {q : J6} (hq : okP q) : aM1 q ≤ 3 * (q.1.length + q.2.length) := by
 have h1 := aG5 hq.1
 have h2 := aG5 hq.2
 unfold aM1; omega
def af8 (b : List b6) (p q : J6) : Prop := shP p q ∧ okP q ∧ leP p q ∧ ∀ r, shP p r → okP r → leP p r → y9 true 5 r 0 b = r → leP q r
theorem ap7 {b : List b6} {p : J6} (h : okP p) : af8 b p p := ⟨shP.refl _, h, leP.refl _, fun _ _ _ h _ => h⟩
theorem al0 {b : List b6} {p q : J6} {f : Bool} (h : af8 b p q) : af8 b p (y9 f 5 q 0 b) :=
 ⟨h.1.trans ao6, bt5 rfl h.2.1, h.2.2.1.trans aG1, fun r h1 h2 h3 h4 => by
  have h5 := h.2.2.2 r h1 h2 h3 h4
  have := al2 (fun q t => ag5 f 5 0 q t) (fun q t => ag5 true 5 0 q t) (fun q r t hs hl => aT2 (b := f) (b' := true) (fun _ => rfl) 5 0 0 q r t (w7.refl _) hs hl) b q r (h.1.symm.trans h1) h5
  rw [show b.foldl (fun q t => upS true 5 q 0 t) r = r from h4] at this
  exact this⟩
theorem a37 {b : List b6} {p q r : J6} (hq : af8 b p q) (hr : af8 b p r) (fq : y9 true 5 q 0 b = q) (fr : y9 true 5 r 0 b = r) : q = r :=
 (hq.2.2.2 r hr.1 hr.2.1 hr.2.2.1 fr).anti (hr.2.2.2 q hq.1 hq.2.1 hq.2.2.1 fq) (hq.1.symm.trans hr.1) hq.2.1 hr.2.1
def aM5 (b : List b6) : Nat → J6 → J6
 | 0, q => q
 | n + 1, q => aM5 b n (y9 true 5 q 0 b)
def ax6 (p : d7) : J6 := aM5 p.body 64 (p.vars, p.arrays)
theorem a38 {b : List b6} {p : J6} : ∀ (n : Nat) (q : J6), af8 b p q → af8 b p (aM5 b n q)
 | 0, _, h => h
 | n + 1, q, h => a38 n _ (al0 h)
theorem a39 {b : List b6} : ∀ (n : Nat) {q : J6}, y9 true 5 q 0 b = q → aM5 b n q = q
 | 0, _, _ => rfl
 | n + 1, q, h => by rw [aM5, h]; exact a39 n h
theorem a40 {b : List b6} {p : J6} : ∀ (n : Nat) (q : J6), af8 b p q → y9 true 5 (aM5 b n q) 0 b = aM5 b n q ∨ aM1 q + n ≤ aM1 (aM5 b n q)
 | 0, _, _ => .inr (b99 _)
 | n + 1, q, h => by
  rw [aM5]
  by_cases e : y9 true 5 q 0 b = q
  ·left
   rw [e, a39 n e, e]
  ·have h1 := bh5 ao6 h.2.1 (bt5 rfl h.2.1) aG1 e
   rcases a40 n _ (al0 (f := true) h) with h2 | h2
   ·exact .inl h2
   ·right; omega
theorem aX2 {p : d7} (h : m0 p = true) : okP (p.vars, p.arrays) := by
 have := ap1 h
 simp only [at8, b86] at this
 exact this
theorem aJ7 {p : d7} (h : m0 p = true) : af8 p.body (p.vars, p.arrays) (ax6 p) := a38 64 _ (ap7 (aX2 h))
theorem bB4 {p : d7} (h : m0 p = true) (hl : p.vars.length + p.arrays.length ≤ 14) : y9 true 5 (ax6 p) 0 p.body = ax6 p := by
 rcases a40 (b := p.body) 64 (p.vars, p.arrays) (ap7 (aX2 h)) with h1 | h1
 ·exact h1
 ·have h2 := aJ7 h
  have h3 := a04 h2.2.1
  have h4 := h2.1
  have h5 : aM5 p.body 64 (p.vars, p.arrays) = ax6 p := rfl
  rw [h5] at h1
  rw [h4.1, h4.2] at h3
  simp only at h3
  omega
theorem bk4 {p : d7} {q : J6} (h : m0 p = true) (hl : p.vars.length + p.arrays.length ≤ 14) (hq : af8 p.body (p.vars, p.arrays) q) (hf : y9 true 5 q 0 p.body = q) : ax6 p = q :=
 a37 (aJ7 h) hq (bB4 h hl) hf
def cdF (F : b6 → Int) : List b6 → Int
 | [] => 0
 | s :: r => if F s = 0 then cdF F r else F s
def cdS (vs ars : List Int) (strict : Bool) : Nat → Int → b6 → Int
 | 0, _, _ => 0
 | d + 1, pc, s => if K2 ⟨vs, ars, []⟩ s pc strict = 0 then
   (if cdF (cdS vs ars strict d (D9 ⟨vs, ars, []⟩ s pc)) s.body = 0 then cdF (cdS vs ars strict d (D9 ⟨vs, ars, []⟩ s pc)) s.els else cdF (cdS vs ars strict d (D9 ⟨vs, ars, []⟩ s pc)) s.body)
  else K2 ⟨vs, ars, []⟩ s pc strict
theorem bd5 {F : b6 → Int} {G : Nat → b6 → Int × Nat} (h : ∀ c s, (G c s).1 = F s) : ∀ (ss : List b6) (c : Nat), (B9 G c ss).1 = cdF F ss
 | [], _ => rfl
 | s :: r, c => by
  rw [B9, cdF, h]
  split
  ·exact bd5 h r _
  ·exact h c s
theorem bD6 (p : d7) (strict : Bool) : ∀ (d : Nat) (pc : Int) (c : Nat) (s : b6), (stC p strict d pc c s).1 = cdS p.vars p.arrays strict d pc s
 | 0, _, _, _ => rfl
 | d + 1, pc, c, s => by
  have e1 : K2 p s pc strict = K2 ⟨p.vars, p.arrays, []⟩ s pc strict := rfl
  have e2 : D9 p s pc = D9 ⟨p.vars, p.arrays, []⟩ s pc := rfl
  have h1 := fun ss c => bd5 (bD6 p strict d (D9 p s pc)) ss c
  rw [stC, cdS, ← e1, ← e2]
  split
  ·rw [h1]
   split
   ·rw [h1]
   ·rw [h1]
  ·rfl
theorem bV3 (p : d7) (strict : Bool) (d : Nat) (pc : Int) (c : Nat) (ss : List b6) : (t2 p strict d pc c ss).1 = cdF (cdS p.vars p.arrays strict d pc) ss := bd5 (bD6 p strict d pc) ss c
theorem aj0 {F : b6 → Int} : ∀ {ss : List b6}, cdF F ss = 0 ↔ ∀ s ∈ ss, F s = 0
 | [] => by simp [cdF]
 | s :: r => by
  rw [cdF]
  by_cases h : F s = 0
  ·rw [if_pos h, aj0]
   simp [h]
  ·rw [if_neg h]
   simp [h]
theorem au8 {vs ars : List Int} {strict : Bool} {d : Nat} {pc : Int} {s : b6} : cdS vs ars strict (d + 1) pc s = 0 ↔ K2 ⟨vs, ars, []⟩ s pc strict = 0 ∧ (∀ t ∈ s.body, cdS vs ars strict d (D9 ⟨vs, ars, []⟩ s pc) t = 0) ∧ ∀ t ∈ s.els, cdS vs ars strict d (D9 ⟨vs, ars, []⟩ s pc) t = 0 := by
 rw [cdS]
 by_cases h : K2 ⟨vs, ars, []⟩ s pc strict = 0
 ·rw [if_pos h]
  by_cases h2 : cdF (cdS vs ars strict d (D9 ⟨vs, ars, []⟩ s pc)) s.body = 0
  ·rw [if_pos h2, aj0]
   exact ⟨fun h3 => ⟨h, aj0.1 h2, h3⟩, fun h3 => h3.2.2⟩
  ·rw [if_neg h2]
   exact ⟨fun h3 => absurd h3 h2, fun h3 => absurd (aj0.2 h3.2.1) h2⟩
 ·rw [if_neg h]
  exact ⟨fun h3 => absurd h3 h, fun h3 => h3.1⟩
theorem bK8 (p : d7) (strict : Bool) : (C7 p strict).1 = if m0 p = true then cdF (cdS p.vars p.arrays strict 5 0) p.body else 5 := by
 unfold C7
 rw [← bV3 p strict 5 0 0]
 split
 ·split
  ·rename_i h; exact h.symm
  ·rfl
 ·rfl
theorem al5 (p : d7) (strict : Bool) : (C7 p strict).1 = 0 ↔ m0 p = true ∧ ∀ s ∈ p.body, cdS p.vars p.arrays strict 5 0 s = 0 := by
 rw [bK8]
 split
 ·rename_i h; rw [aj0]; exact ⟨fun h1 => ⟨h, h1⟩, fun h1 => h1.2⟩
 ·rename_i h; exact ⟨fun h1 => absurd h1 (by decide), fun h1 => absurd h1.1 h⟩
theorem bl2 (p : d7) : (ctR p).1 = 0 ↔ m0 p = true ∧ (∀ s ∈ p.body, cdS p.vars p.arrays false 5 0 s = 0) ∧ ∀ s ∈ p.body, cdS p.vars p.arrays true 5 0 s = 0 := by
 unfold ctR
 split
 ·rename_i h
  rw [al5]
  exact ⟨fun h1 => ⟨h1.1, ((al5 p false).1 h).2, h1.2⟩, fun h1 => ⟨h1.1, h1.2.2⟩⟩
 ·rename_i h
  exact ⟨fun h1 => absurd h1 h, fun h1 => absurd ((al5 p false).2 ⟨h1.1, h1.2.1⟩) h⟩
theorem bS6 {x : Int} (h : d8 x = true) : ofb (bv x) = x := by
 obtain ⟨c, rfl⟩ := D5 h
 have key : ∀ c : Fin 4, ofb (bv (c.val : Int)) = (c.val : Int) := by decide +kernel
 exact key c
theorem bx3 {x y : Int} (h : w7 x y) (hy : d8 y = true) : i6 x y = y := by
 rw [aV9, h]; exact bS6 hy
theorem bz7 {x y : Int} (h : i6 x y = y) : w7 x y := by
 unfold w7
 rw [← aQ9, h]
theorem ai8 (x y : Int) : w7 y (i6 x y) := by unfold w7; rw [aQ9, ← BitVec.or_assoc, BitVec.or_comm (bv y) (bv x), BitVec.or_assoc, BitVec.or_self]
theorem at3 {x y z : Int} (h : w7 x z) (k : w7 y z) : w7 (i6 x y) z := by unfold w7 at *; rw [aQ9, BitVec.or_assoc, k, h]
theorem G4 (y : Int) : w7 0 y := by unfold w7; show (BitVec.ofInt 64 0) ||| bv y = bv y; simp
section
variable {vs ars : List Int} {l : Int} {s : b6} {pc pd : Int}
end
theorem bi4 {p : d7} {s : b6} {pc : Int} : K2 p s pc false = 0 ↔ F5 p s pc = 0 := by
 unfold K2
 split
 ·rename_i h; exact ⟨fun _ => h, fun _ => rfl⟩
 ·exact Iff.rfl
theorem V0 {p : d7} (h : m0 p = true) : p.vars.all d8 = true ∧ p.arrays.all d8 = true ∧ 1 ≤ p.vars.length ∧ p.body.all (f6 p.vars.length p.arrays.length 5) = true := by
 unfold m0 F4 at h
 simp only [b86, decide_eq_true_eq] at h
 exact ⟨h.1.1.1.1.1.1, h.1.1.1.1.1.2, h.1.1.1.1.2, h.1.2⟩
abbrev nnE : b5 := ⟨0, 0, []⟩
abbrev cnE (n : Int) : b5 := ⟨1, n, []⟩
abbrev vrE (v : Int) : b5 := ⟨2, v, []⟩
abbrev rdE (a : Int) (i : b5) : b5 := ⟨3, a, [i]⟩
abbrev N3 (i : b5) (k : Int) : b5 := ⟨9, 0, [⟨7, 0, [i, cnE 3]⟩, cnE k]⟩
abbrev seE (a b c : b5) : b5 := ⟨11, 0, [a, b, c]⟩
abbrev J5 (v : Int) (e : b5) : b6 := ⟨1, v, nnE, e, 0, [], []⟩
def s4 (m : Int) (e f : b5) : b5 := if m < 0 then e else seE (vrE m) e f
def rdL (v a : Int) (i : b5) : Nat → List b6
 | 0 => [J5 v (rdE a (cnE 0))]
 | k + 1 => rdL v a i k ++ [J5 v (seE (N3 i ((k : Int) + 1)) (rdE a (cnE ((k : Int) + 1))) (vrE v))]
def U9 (v t : Int) (i : b5) (m : Int) : Nat → List b6
 | 0 => []
 | k + 1 => U9 v t i m k ++ [⟨2, t, cnE (k : Int), seE (s4 m (N3 i (k : Int)) (cnE 0)) (vrE v) (rdE t (cnE (k : Int))), 0, [], []⟩]
abbrev U6 : Type := List Int × List b6
mutual
def b8 (ars : List Int) (pc : Int) : b5 → U6 → U6 × b5
 | ⟨k, v, ks⟩, s =>
  if k = 3 ∧ x5 (b9 (o0 ars pc ks s).1.1 ars 5 (ks.getD 0 b85)) = true then
   (((o0 ars pc ks s).1.1 ++ [i6 (b9 (o0 ars pc ks s).1.1 ars 5 ⟨k, v, ks⟩) pc], (o0 ars pc ks s).1.2 ++ rdL ((o0 ars pc ks s).1.1.length : Int) v (ks.getD 0 b85) 3), vrE ((o0 ars pc ks s).1.1.length : Int))
  else ((o0 ars pc ks s).1, ⟨k, v, (o0 ars pc ks s).2⟩)
def o0 (ars : List Int) (pc : Int) : List b5 → U6 → U6 × List b5
 | [], s => (s, [])
 | e :: t, s => ((o0 ars pc t (b8 ars pc e s).1).1, (b8 ars pc e s).2 :: (o0 ars pc t (b8 ars pc e s).1).2)
end
theorem ai7 (ars : List Int) (pc : Int) (e : b5) (s : U6) : b8 ars pc e s =
  if e.kind = 3 ∧ x5 (b9 (o0 ars pc e.kids s).1.1 ars 5 (e.kids.getD 0 b85)) = true then
   (((o0 ars pc e.kids s).1.1 ++ [i6 (b9 (o0 ars pc e.kids s).1.1 ars 5 e) pc], (o0 ars pc e.kids s).1.2 ++ rdL ((o0 ars pc e.kids s).1.1.length : Int) e.value (e.kids.getD 0 b85) 3), vrE ((o0 ars pc e.kids s).1.1.length : Int))
  else ((o0 ars pc e.kids s).1, ⟨e.kind, e.value, (o0 ars pc e.kids s).2⟩) := by
 cases e; rw [b8]; rfl
theorem at6 (ars : List Int) (pc : Int) : ∀ (a b : List b5) (s : U6), o0 ars pc (a ++ b) s = ((o0 ars pc b (o0 ars pc a s).1).1, (o0 ars pc a s).2 ++ (o0 ars pc b (o0 ars pc a s).1).2)
 | [], b, s => by simp [o0]
 | e :: t, b, s => by
  simp only [List.cons_append, o0]
  rw [at6 ars pc t b]
theorem ap5 {ars : List Int} {pc : Int} {ks : List b5} {k : Nat} {s : U6} (hk : k < ks.length) : o0 ars pc (ks.take (k + 1)) s = ((b8 ars pc (ks.getD k b85) (o0 ars pc (ks.take k) s).1).1, (o0 ars pc (ks.take k) s).2 ++ [(b8 ars pc (ks.getD k b85) (o0 ars pc (ks.take k) s).1).2]) := by
 rw [r9 _ _ hk, at6, n6 hk]
 simp [o0]
abbrev ifM (x : U6 × b5) (m l : Int) : U6 := (x.1.1 ++ [l] ++ [l], x.1.2 ++ [J5 (x.1.1.length : Int) (s4 m x.2 (cnE 0))] ++ [J5 ((x.1.1 ++ [l]).length : Int) (s4 m ⟨9, 0, [vrE (x.1.1.length : Int), cnE 0]⟩ (cnE 0))])
mutual
def r7 (ars : List Int) : b6 → Int → Int → U6 → U6
 | ⟨k, t, i, v, c, b, e⟩, m, pc, s =>
  if k = 4 then ((i8 ars b m pc (s.1, [])).1, s.2 ++ [⟨4, 0, nnE, nnE, c, (i8 ars b m pc (s.1, [])).2, []⟩])
  else if k = 3 then
   (if x5 (b9 s.1 ars 5 v) = true then
    i8 ars e (((b8 ars pc v s).1.1 ++ [i6 pc (b9 s.1 ars 5 v)]).length : Int) (i6 pc (b9 s.1 ars 5 v)) (i8 ars b ((b8 ars pc v s).1.1.length : Int) (i6 pc (b9 s.1 ars 5 v)) (ifM (b8 ars pc v s) m (i6 pc (b9 s.1 ars 5 v))))
   else ((i8 ars e m (i6 pc (b9 s.1 ars 5 v)) ((i8 ars b m (i6 pc (b9 s.1 ars 5 v)) ((b8 ars pc v s).1.1, [])).1, [])).1,
    (b8 ars pc v s).1.2 ++ [⟨3, 0, nnE, (b8 ars pc v s).2, 0, (i8 ars b m (i6 pc (b9 s.1 ars 5 v)) ((b8 ars pc v s).1.1, [])).2, (i8 ars e m (i6 pc (b9 s.1 ars 5 v)) ((i8 ars b m (i6 pc (b9 s.1 ars 5 v)) ((b8 ars pc v s).1.1, [])).1, [])).2⟩]))
  else if k = 5 then ((b8 ars pc v s).1.1, (b8 ars pc v s).1.2 ++ [⟨5, t, nnE, (b8 ars pc v s).2, 0, [], []⟩])
  else if k = 1 then ((b8 ars pc v s).1.1, (b8 ars pc v s).1.2 ++ [J5 t (s4 m (b8 ars pc v s).2 (vrE t))])
  else if x5 (b9 (b8 ars pc v s).1.1 ars 5 i) = true then
   ((b8 ars pc v s).1.1 ++ [i6 (b9 (b8 ars pc v s).1.1 ars 5 (b8 ars pc v s).2) pc], (b8 ars pc v s).1.2 ++ [J5 ((b8 ars pc v s).1.1.length : Int) (b8 ars pc v s).2] ++ U9 ((b8 ars pc v s).1.1.length : Int) t i m 4)
  else ((b8 ars pc v s).1.1, (b8 ars pc v s).1.2 ++ [⟨2, t, i, s4 m (b8 ars pc v s).2 (rdE t i), 0, [], []⟩])
def i8 (ars : List Int) : List b6 → Int → Int → U6 → U6
 | [], _, _, s => s
 | x :: r, m, pc, s => i8 ars r m pc (r7 ars x m pc s)
end
theorem a33 (ars : List Int) (a b : List b6) (m pc : Int) (s : U6) : i8 ars (a ++ b) m pc s = i8 ars b m pc (i8 ars a m pc s) := by
 induction a generalizing s with
 | nil => rfl
 | cons x r ih => simp only [List.cons_append, i8]; exact ih _
theorem bo8 {ars : List Int} {ss : List b6} {k : Nat} {m pc : Int} {s : U6} (hk : k < ss.length) : i8 ars (ss.take (k + 1)) m pc s = r7 ars (ss.getD k b85) m pc (i8 ars (ss.take k) m pc s) := by
 rw [r9 _ _ hk, a33, n6 hk]
 simp [i8]
section
variable {ars : List Int} {s : b6} {m pc : Int} {x : U6}
theorem ln4 (k : s.kind = 4) : r7 ars s m pc x = ((i8 ars s.body m pc (x.1, [])).1, x.2 ++ [⟨4, 0, nnE, nnE, s.count, (i8 ars s.body m pc (x.1, [])).2, []⟩]) := by
 obtain ⟨kd, tg, ix, vl, ct, bd, el⟩ := s
 have k : kd = 4 := k
 rw [r7, if_pos k]; rfl
theorem bI8 (k : s.kind = 3) (h : x5 (b9 x.1 ars 5 s.value) = true) : r7 ars s m pc x = i8 ars s.els (((b8 ars pc s.value x).1.1 ++ [i6 pc (b9 x.1 ars 5 s.value)]).length : Int) (i6 pc (b9 x.1 ars 5 s.value)) (i8 ars s.body ((b8 ars pc s.value x).1.1.length : Int) (i6 pc (b9 x.1 ars 5 s.value)) (ifM (b8 ars pc s.value x) m (i6 pc (b9 x.1 ars 5 s.value)))) := by
 obtain ⟨kd, tg, ix, vl, ct, bd, el⟩ := s
 have k : kd = 3 := k
 have h : x5 (b9 x.1 ars 5 vl) = true := h
 rw [r7, if_neg (by omega), if_pos k, if_pos h]; rfl
theorem bz2 (k : s.kind = 3) (h : x5 (b9 x.1 ars 5 s.value) = false) : r7 ars s m pc x = ((i8 ars s.els m (i6 pc (b9 x.1 ars 5 s.value)) ((i8 ars s.body m (i6 pc (b9 x.1 ars 5 s.value)) ((b8 ars pc s.value x).1.1, [])).1, [])).1,
  (b8 ars pc s.value x).1.2 ++ [⟨3, 0, nnE, (b8 ars pc s.value x).2, 0, (i8 ars s.body m (i6 pc (b9 x.1 ars 5 s.value)) ((b8 ars pc s.value x).1.1, [])).2, (i8 ars s.els m (i6 pc (b9 x.1 ars 5 s.value)) ((i8 ars s.body m (i6 pc (b9 x.1 ars 5 s.value)) ((b8 ars pc s.value x).1.1, [])).1, [])).2⟩]) := by
 obtain ⟨kd, tg, ix, vl, ct, bd, el⟩ := s
 have k : kd = 3 := k
 have h : x5 (b9 x.1 ars 5 vl) = false := h
 rw [r7, if_neg (by omega), if_pos k, if_neg (by rw [h]; decide)]; rfl
theorem ln5 (k : s.kind = 5) : r7 ars s m pc x = ((b8 ars pc s.value x).1.1, (b8 ars pc s.value x).1.2 ++ [⟨5, s.target, nnE, (b8 ars pc s.value x).2, 0, [], []⟩]) := by
 obtain ⟨kd, tg, ix, vl, ct, bd, el⟩ := s
 have k : kd = 5 := k
 rw [r7, if_neg (by omega), if_neg (by omega), if_pos k]; rfl
theorem ln1 (k : s.kind = 1) : r7 ars s m pc x = ((b8 ars pc s.value x).1.1, (b8 ars pc s.value x).1.2 ++ [J5 s.target (s4 m (b8 ars pc s.value x).2 (vrE s.target))]) := by
 obtain ⟨kd, tg, ix, vl, ct, bd, el⟩ := s
 have k : kd = 1 := k
 rw [r7, if_neg (by omega), if_neg (by omega), if_neg (by omega), if_pos k]; rfl
theorem bz3 (k : s.kind = 2) (h : x5 (b9 (b8 ars pc s.value x).1.1 ars 5 s.index) = true) : r7 ars s m pc x = ((b8 ars pc s.value x).1.1 ++ [i6 (b9 (b8 ars pc s.value x).1.1 ars 5 (b8 ars pc s.value x).2) pc], (b8 ars pc s.value x).1.2 ++ [J5 ((b8 ars pc s.value x).1.1.length : Int) (b8 ars pc s.value x).2] ++ U9 ((b8 ars pc s.value x).1.1.length : Int) s.target s.index m 4) := by
 obtain ⟨kd, tg, ix, vl, ct, bd, el⟩ := s
 have k : kd = 2 := k
 have h : x5 (b9 (b8 ars pc vl x).1.1 ars 5 ix) = true := h
 rw [r7, if_neg (by omega), if_neg (by omega), if_neg (by omega), if_neg (by omega), if_pos h]; rfl
theorem bo6 (k : s.kind = 2) (h : x5 (b9 (b8 ars pc s.value x).1.1 ars 5 s.index) = false) : r7 ars s m pc x = ((b8 ars pc s.value x).1.1, (b8 ars pc s.value x).1.2 ++ [⟨2, s.target, s.index, s4 m (b8 ars pc s.value x).2 (rdE s.target s.index), 0, [], []⟩]) := by
 obtain ⟨kd, tg, ix, vl, ct, bd, el⟩ := s
 have k : kd = 2 := k
 have h : x5 (b9 (b8 ars pc vl x).1.1 ars 5 ix) = false := h
 rw [r7, if_neg (by omega), if_neg (by omega), if_neg (by omega), if_neg (by omega), if_neg (by rw [h]; decide)]; rfl
end
theorem x4 {nv nw na : Nat} (h : nv ≤ nw) : ∀ (d : Nat) (e : b5), f5 nv na d e = true → f5 nw na d e = true
 | 0, _, hs => by simp [f5] at hs
 | d + 1, e, hs => by
  simp only [f5, b86, b93] at hs ⊢
  refine ⟨⟨?_, fun x hx => x4 h d x (hs.1.2 x hx)⟩, hs.2⟩
  have h1 := hs.1.1
  simp only [y7, b86, decide_eq_true_eq] at h1 ⊢
  refine ⟨h1.1, Int.lt_of_lt_of_le h1.2 ?_⟩
  unfold I6
  (repeat' split) <;> omega
theorem aH2 {nv na : Nat} : ∀ (d : Nat) (e : b5), f5 nv na d e = true → f5 nv na (d + 1) e = true
 | 0, _, hs => by simp [f5] at hs
 | d + 1, e, hs => by
  rw [f5] at hs ⊢
  simp only [b86, b93] at hs ⊢
  exact ⟨⟨hs.1.1, fun x hx => aH2 d x (hs.1.2 x hx)⟩, hs.2⟩
theorem aH1 {nv na c d : Nat} {e : b5} (h : c ≤ d) (hs : f5 nv na c e = true) : f5 nv na d e = true := by
 induction d with
 | zero => rwa [show c = 0 by omega] at hs
 | succ d ih =>
  rcases cc0 c (d + 1) with hl | hl
  ·exact aH2 d e (ih (by omega))
  ·rwa [show c = d + 1 by omega] at hs
theorem aL5 {ars : List Int} {pc : Int} {nv na d : Nat} {e : b5} {s : U6} (ha : atomB e = true) (hs : f5 nv na d e = true) : b8 ars pc e s = (s, e) ∧ e.kids = [] := by
 obtain ⟨k, v, ks⟩ := e
 cases d with
 | zero => simp [f5] at hs
 | succ d =>
  have hk : k = 1 ∨ k = 2 := by
   have h := ha
   simp only [atomB, Bool.or_eq_true, decide_eq_true_eq] at h
   exact h
  have hn : ks = [] := by
   simp only [f5, y7, b86, decide_eq_true_eq] at hs
   have h1 := hs.1.1.1.1
   have h2 : m9 k = 0 := by unfold m9; rw [if_pos hk]
   have h3 : (ks.length : Int) = 0 := h1.trans h2
   exact ca0 (by omega)
  subst hn
  refine ⟨?_, rfl⟩
  rw [b8, if_neg (by omega)]
  rfl
theorem ah8 {nv na d : Nat} {e : b5} (k : e.kind = 3) (hs : f5 nv na (d + 1) e = true) : ∃ a, e.kids = [a] ∧ atomB a = true ∧ f5 nv na d a = true ∧ a.kids = [] := by
 obtain ⟨kd, v, ks⟩ := e
 have k : kd = 3 := k
 subst k
 simp only [f5, y7, b86, decide_eq_true_eq] at hs
 have h1 : (ks.length : Int) = 1 := hs.1.1.1.1
 match ks, h1, hs with
 | [a], _, hs =>
  have h2 : atomB a = true := by
   have h := hs.2
   unfold M9 at h
   have h : (decide ((3 : Int) ≠ 3) || atomB a) = true := h
   simpa using h
  have h3 : f5 nv na d a = true := b93.1 hs.1.2 a (ca5.2 rfl)
  exact ⟨a, rfl, h2, h3, (aL5 (ars := []) (pc := 0) (s := ([], [])) h2 h3).2⟩
theorem ah7 {ars : List Int} {pc : Int} {nv na d : Nat} {e : b5} {s : U6} (k : e.kind = 3) (hs : f5 nv na (d + 1) e = true) : o0 ars pc e.kids s = (s, e.kids) := by
 obtain ⟨a, h1, h2, h3, -⟩ := ah8 k hs
 rw [h1]
 have := aL5 (ars := ars) (pc := pc) (s := s) h2 h3
 simp only [o0, this.1]
structure Grw (nv na d : Nat) (sz : Nat) (s : U6) (r : U6) : Prop where
 lo : s.1.length ≤ r.1.length
 hi : r.1.length ≤ s.1.length + sz
 st : i5 r.2 ≤ i5 s.2 + 40 * sz
 len : s.2.length ≤ r.2.length
theorem bw6 (v a : Int) (i : b5) (hi : i.kids = []) : ∀ n : Nat, i5 (rdL v a i n) = 2 + 9 * n
 | 0 => rfl
 | n + 1 => by
  have h0 : v7 i = 0 := by cases i; simp only [b5.kids] at hi; subst hi; rfl
  rw [rdL, x7, bw6 v a i hi n]
  simp [i5, D7, v7, n8, h0]; omega
theorem U1 (v a : Int) (i : b5) : ∀ n : Nat, (rdL v a i n).length = n + 1
 | 0 => rfl
 | n + 1 => by rw [rdL, b88, U1 v a i n]; rfl
theorem y5 (v t : Int) (i : b5) (m : Int) : ∀ n : Nat, (U9 v t i m n).length = n
 | 0 => rfl
 | n + 1 => by rw [U9, b88, y5 v t i m n]; rfl
theorem ad0 (m : Int) (e f : b5) : v7 (s4 m e f) ≤ 3 + v7 e + v7 f := by
 unfold s4; split
 ·omega
 ·simp [v7, n8]; omega
theorem bu5 (v t : Int) (i : b5) (m : Int) (hi : i.kids = []) : ∀ n : Nat, i5 (U9 v t i m n) ≤ 20 * n
 | 0 => b99 _
 | n + 1 => by
  have h0 : v7 i = 0 := by cases i; simp only [b5.kids] at hi; subst hi; rfl
  have h1 := bu5 v t i m hi n
  have h2 := ad0 m (N3 i (n : Int)) (cnE 0)
  have h3 : v7 (N3 i (n : Int)) = 4 := by simp [v7, n8, h0]
  have h4 : v7 (cnE 0) = 0 := rfl
  rw [U9, x7]
  simp only [i5, D7, v7, n8]
  omega
theorem bm7 {nv na d : Nat} {v : Nat} (h : v < nv) : f5 nv na (d + 1) (vrE (v : Int)) = true := by
 simp [f5, y7, M9, m9, I6, b5.kids, b5.kind, b5.value, h]
theorem bj4 {ars : List Int} {pc : Int} {na d : Nat} (hg : ∀ (e : b5) (s : U6), f5 s.1.length na d e = true → Grw s.1.length na d (1 + v7 e) s (b8 ars pc e s).1 ∧ f5 (b8 ars pc e s).1.1.length na d (b8 ars pc e s).2 = true ∧ v7 (b8 ars pc e s).2 ≤ v7 e) :
  ∀ (ks : List b5) (s : U6), (∀ x ∈ ks, f5 s.1.length na d x = true) → Grw s.1.length na d (n8 ks) s (o0 ars pc ks s).1 ∧ (∀ x ∈ (o0 ars pc ks s).2, f5 (o0 ars pc ks s).1.1.length na d x = true) ∧ n8 (o0 ars pc ks s).2 ≤ n8 ks ∧ (o0 ars pc ks s).2.length = ks.length := by
 intro ks
 induction ks with
 | nil => intro s _; exact ⟨⟨b99 _, b99 _, b99 _, b99 _⟩, fun x hx => (by cases hx), b99 _, rfl⟩
 | cons x r ih =>
  intro s h
  obtain ⟨g1, g2, g3⟩ := hg x s (h x ca1)
  obtain ⟨k1, k2, k3, k4⟩ := ih (b8 ars pc x s).1 fun y hy => x4 g1.lo d y (h y (ca8 _ hy))
  simp only [o0, n8]
  refine ⟨⟨ca7 g1.lo k1.lo, ?_, ?_, ca7 g1.len k1.len⟩, ?_, ?_, ?_⟩
  ·have := g1.hi; have := k1.hi; omega
  ·have := g1.st; have := k1.st; omega
  ·intro y hy
   rcases cb7.1 hy with rfl | hy
   ·exact x4 k1.lo d _ g2
   ·exact k2 y hy
  ·omega
  ·simp [k4]
theorem Y7 (ars : List Int) (pc : Int) (na : Nat) : ∀ (d : Nat) (e : b5) (s : U6), f5 s.1.length na d e = true →
  Grw s.1.length na d (1 + v7 e) s (b8 ars pc e s).1 ∧ f5 (b8 ars pc e s).1.1.length na d (b8 ars pc e s).2 = true ∧ v7 (b8 ars pc e s).2 ≤ v7 e
 | 0, _, _, hs => by simp [f5] at hs
 | d + 1, e, s, hs => by
  have key := bj4 (ars := ars) (pc := pc) (na := na) (d := d) fun e s h => Y7 ars pc na d e s h
  have hs0 := hs
  rw [f5] at hs
  simp only [b86, b93] at hs
  obtain ⟨g1, g2, g3, g4⟩ := key e.kids s hs.1.2
  rw [ai7]
  split
  ·rename_i h
   obtain ⟨a, h1, h2, h3, h4⟩ := ah8 h.1 hs0
   have hz : v7 e = 1 := by
    rw [A3, h1]
    have : v7 a = 0 := by rw [A3, h4]; rfl
    simp [n8, this]
   have hr := ah7 (ars := ars) (pc := pc) (s := s) h.1 hs0
   have e0 : e.kids.getD 0 b85 = a := by rw [h1]; rfl
   rw [hr, e0]
   refine ⟨⟨?_, ?_, ?_, ?_⟩, ?_, ?_⟩
   ·simp
   ·simp
   ·simp only [x7, bw6 _ _ a h4]; omega
   ·simp
   ·have : f5 (s.1.length + 1) na (d + 1) (vrE (s.1.length : Int)) = true := bm7 (by omega)
    simpa using this
   ·exact cc1 _
  ·rename_i h
   refine ⟨⟨g1.lo, ?_, ?_, g1.len⟩, ?_, ?_⟩
   ·have := g1.hi; rw [A3]; show (o0 ars pc e.kids s).1.1.length ≤ _; omega
   ·have := g1.st; rw [A3]; show i5 (o0 ars pc e.kids s).1.2 ≤ _; omega
   ·rw [f5]
    simp only [b86, b93]
    refine ⟨⟨?_, g2⟩, ?_⟩
    ·have h1 := hs.1.1
     simp only [y7, b86, decide_eq_true_eq] at h1 ⊢
     refine ⟨⟨?_, h1.1.2⟩, Int.lt_of_lt_of_le h1.2 ?_⟩
     ·show (((o0 ars pc e.kids s).2.length : Nat) : Int) = m9 e.kind
      rw [g4]; exact h1.1.1
     ·show I6 s.1.length na e.kind ≤ I6 (o0 ars pc e.kids s).1.1.length na e.kind
      have := g1.lo
      unfold I6
      (repeat' split) <;> omega
    ·by_cases k : e.kind = 3
     ·rw [ah7 (ars := ars) (pc := pc) (s := s) k hs0]
      show M9 ⟨e.kind, e.value, e.kids⟩ = true
      rw [b5.eta]; exact hs.2
     ·unfold M9; rw [Bool.or_eq_true]; exact .inl (decide_eq_true k)
   ·rw [A3 e]; exact g3
end Go.Proofs.YthikdkjjdeehoaaGreat
