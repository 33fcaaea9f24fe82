/-
  Texts of this claim, part 4: what the functions on the way do, and plain laws. Conditions: as each statement says.
-/
import Derived.WalkSpells
import Derived.Lib.SliceRun
import Derived.Test.YtgpkdfefgcpbiaaK3

namespace Go.Proofs.Ytgpkdfefgcpbiaa
set_option linter.unusedVariables false
set_option linter.unusedSimpArgs false
open Go Go.RowKit

def StB (a1 a2 : Option Addr) (nv c1 na c2 : Nat) (v3 : Value) (d : Nat) : Prop := ∀ (s : LStmt) (φ : Nat → Prop) (v : Value) (w : World), StmtV w φ v s →
  Calls Try.prog 180 #[.agg #[.slice a1 nv c1, .slice a2 na c2, v3], v, .int .i64 d] w fun x w' => x = .returned (.bool (stmtB nv na d s)) ∧ Below w.heap.size w w'
def BlB (a1 a2 : Option Addr) (nv c1 na c2 : Nat) (v3 : Value) (d : Nat) : Prop := ∀ (ss : List LStmt) (φ : Nat → Prop) (v : Value) (w : World), BlockV w φ v ss →
  Calls Try.prog 144 #[.agg #[.slice a1 nv c1, .slice a2 na c2, v3], v, .int .i64 d] w fun x w' => x = .returned (.bool (ss.all (stmtB nv na d))) ∧ Below w.heap.size w w'

set_option maxHeartbeats 2000000 in
theorem l2Block_of (a1 a2 : Option Addr) (nv c1 na c2 : Nat) (v3 : Value) (d : Nat) (hd : d ≤ 5) (ih : StB a1 a2 nv c1 na c2 v3 d) : BlB a1 a2 nv c1 na c2 v3 d := by
  intro ss φ v w h
  obtain ⟨ak, ck, rfl, -, hn, -, hc⟩ := h.open
  obtain ⟨W, hW, M⟩ : ∃ W, W = w.alloc (.cells #[.slice a1 nv c1, .slice a2 na c2, v3] 31) ∧ Mem (fun _ => True) (fun _ => True) w W [.box w.heap.size [.slice a1 nv c1, .slice a2 na c2, v3]] :=
    ⟨_, rfl, (Mem.start fun _ _ => trivial).box _ _⟩
  have HC := show Hid _ from hc
  clear h hc
  go_enter Try.func144, Try.ntmps144
  go_wp2_with fail
  rw [← hW]
  clear hW
  go_loopw [7] (fun i wr => ∃ k : Nat, k ≤ ss.length ∧ i = .int .i64 k ∧ (ss.take k).all (stmtB nv na d) = true ∧ Mem (fun _ => True) (fun _ => True) w wr [.box w.heap.size [.slice a1 nv c1, .slice a2 na c2, v3]]) (fun i _ => ss.length - (intOf i).toNat)
  case atStart => exact ⟨0, Nat.zero_le _, rfl, rfl, M⟩
  case round =>
    clear M
    obtain ⟨k, hk, rfl, hall, M⟩ := hrel
    have HALL := show Hid _ from hall
    clear hall
    have hB := M.below fun _ _ => trivial
    have x0 := M.c 0 0 rfl rfl
    have x1 := M.c 0 1 rfl rfl
    have x2 := M.c 0 2 rfl rfl
    by_cases hlt : k < ss.length
    · obtain ⟨b, off, iv, vv, bv, ev, rfl, hbk, hf, ⟨e0, e1, e2, e3, e4, e5, e6, e7, e8, e9, e10⟩, g1, g2, g3, g4⟩ := HC.out k hlt
      rw [← (bcell hB).1 _ _ hbk] at e0 e1 e2 e3 e4 e5 e6 e7 e8 e9 e10
      obtain ⟨q, hq⟩ : ∃ q, q = stmtB nv na d ss[k] := ⟨_, rfl⟩
      have HC3 : Hid (∀ X, Calls Try.prog 180 #[.agg #[.slice a1 nv c1, .slice a2 na c2, v3], .agg #[.int .i64 ss[k].kind, .int .i64 ss[k].target, .int .i64 ss[k].index.kind, .int .i64 ss[k].index.value, iv, .int .i64 ss[k].value.kind, .int .i64 ss[k].value.value, vv, .int .i64 ss[k].count, bv, ev], .int .i64 d] (wr.ext X) fun x w'' => x = .returned (.bool q) ∧ ∃ Y, w'' = wr.ext Y) := fun X => by
        have bb := hB.trans ((ext_below wr X).mono hB.size)
        rw [hq]
        exact Calls.ext_of' (ih _ φ _ _ (StmtV.nice _ _ _ _ _ _ (Agr.below bb) ⟨iv, vv, bv, ev, rfl, g1, g2, g3, g4⟩))
      have HQQ := show Hid _ from hq
      have HM := show Hid _ from M
      have j0 := fun X => ext_cell e0 X
      have j1 := fun X => ext_cell e1 X
      have j2 := fun X => ext_cell e2 X
      have j3 := fun X => ext_cell e3 X
      have j4 := fun X => ext_cell e4 X
      have j5 := fun X => ext_cell e5 X
      have j6 := fun X => ext_cell e6 X
      have j7 := fun X => ext_cell e7 X
      have j8 := fun X => ext_cell e8 X
      have j9 := fun X => ext_cell e9 X
      have j10 := fun X => ext_cell e10 X
      have z0 := fun X => ext_cell x0 X
      have z1 := fun X => ext_cell x1 X
      have z2 := fun X => ext_cell x2 X
      have hlt' : (k : Int) < ss.length := by omega
      clear g1 g2 g3 g4 hq e0 e1 e2 e3 e4 e5 e6 e7 e8 e9 e10 x0 x1 x2 M hB
      cases q
      · go_wp2_with fail
        refine wp_region_ext (by kernel_rfl) (by kernel_rfl) ?_
        repeat (any_goals (first | go_big_quiet_step (((go_at_call 180; exact HC3.out _))) | quiet_step (((go_at_call 180; exact HC3.out _)))))
        refine wpQuiet_nil ?_
        rintro _ ⟨X, rfl⟩
        go_wp2_with fail
        go_ret
        exact ⟨ret_bool (by symm; exact List.all_eq_false.2 ⟨_, List.getElem_mem hlt, by rw [← HQQ.out]; simp⟩), (HM.out.call (ext_below wr X)).below fun _ _ => trivial⟩
      · go_wp2_with fail
        refine wp_region_ext (by kernel_rfl) (by kernel_rfl) ?_
        repeat (any_goals (first | go_big_quiet_step (((go_at_call 180; exact HC3.out _))) | quiet_step (((go_at_call 180; exact HC3.out _)))))
        refine wpQuiet_nil ?_
        rintro _ ⟨X, rfl⟩
        go_wp2_with fail
        refine ⟨⟨k + 1, by omega, by go_num, ?_, HM.out.call (ext_below wr X)⟩, by simp [intOf]; omega⟩
        rw [p_take_succ _ _ hlt, List.all_append, HALL.out]
        simp [← HQQ.out]
    · have hkn : k = ss.length := by omega
      subst hkn
      have hall := HALL.out
      rw [List.take_of_length_le (Nat.le_refl _)] at hall
      have HAL := show Hid _ from hall
      have HB := show Hid _ from hB
      clear hall x0 x1 x2 M hB
      go_wp2_with fail
      go_ret
      exact ⟨ret_bool HAL.out.symm, HB.out⟩

set_option maxRecDepth 100000 in
set_option maxHeartbeats 8000000 in
theorem l2Stmt_of (a1 a2 : Option Addr) (nv c1 na c2 : Nat) (v3 : Value) (h1 : nv ≤ 9223372036854775807) (h2 : na ≤ 9223372036854775807) : ∀ d : Nat, d ≤ 5 → StB a1 a2 nv c1 na c2 v3 d := by
  intro d
  induction d with
  | zero =>
    intro _ s φ v w h
    obtain ⟨ai, ci, av, cv, ab, cb, ae, ce, rfl, -, -⟩ := h.form
    have HP : Hid (stmtB nv na 0 s = false) := rfl
    clear h
    go_enter Try.func180, Try.ntmps180
    go_wp2_with fail
    go_ret
    exact ⟨ret_bool HP.out.symm, by go_grown⟩
  | succ d ih0 =>
    intro hd5 s φ v w h
    have ih := ih0 (by omega)
    clear ih0
    have hfull := h
    obtain ⟨ai, ci, av, cv, ab, cb, ae, ce, rfl, ⟨g1, g2, g3, g4⟩, -⟩ := h.form
    have hd0 : (d : Int) ≤ 5 := by omega
    have p9 : decide ((d : Int) + 1 < 1) = false := decide_eq_false (by omega)
    have HD0 : Hid (stmtB nv na (d + 1) s = (partsB s && (if s.kind = 1 ∨ s.kind = 5 then decide (0 ≤ s.target) && decide (s.target < (nv : Int)) && rightB nv na s.value else if s.kind = 2 then decide (0 ≤ s.target) && decide (s.target < (na : Int)) && rightB nv na s.index && atomB s.index && rightB nv na s.value
      else if s.kind = 3 then rightB nv na s.value && s.body.all (stmtB nv na d) && s.els.all (stmtB nv na d) else if s.kind = 4 then s.body.all (stmtB nv na d) else false))) := rfl
    have HG : Hid (∀ W, Below w.heap.size w W → ExprV W φ (.agg #[.int .i64 s.index.kind, .int .i64 s.index.value, .slice ai s.index.kids.length ci]) s.index ∧ ExprV W φ (.agg #[.int .i64 s.value.kind, .int .i64 s.value.value, .slice av s.value.kids.length cv]) s.value ∧ BlockV W φ (.slice ab s.body.length cb) s.body ∧ BlockV W φ (.slice ae s.els.length ce) s.els) := fun W k =>
      ⟨⟨_, rfl, KidsV.nice _ _ _ _ _ _ (Agr.below k) g1⟩, ⟨_, rfl, KidsV.nice _ _ _ _ _ _ (Agr.below k) g2⟩, BlockV.nice _ _ _ _ _ _ (Agr.below k) g3, BlockV.nice _ _ _ _ _ _ (Agr.below k) g4⟩
    have HF : Hid (∀ W, Below w.heap.size w W → StmtV W φ (.agg #[.int .i64 s.kind, .int .i64 s.target, .int .i64 s.index.kind, .int .i64 s.index.value, .slice ai s.index.kids.length ci, .int .i64 s.value.kind, .int .i64 s.value.value, .slice av s.value.kids.length cv, .int .i64 s.count, .slice ab s.body.length cb, .slice ae s.els.length ce]) s) := fun W k => StmtV.nice _ _ _ _ _ _ (Agr.below k) hfull
    obtain ⟨W, hW, M⟩ : ∃ W, W = (w.alloc (.cells #[.slice a1 nv c1, .slice a2 na c2, v3] 31)).alloc (.cells #[.int .i64 s.kind, .int .i64 s.target, .int .i64 s.index.kind, .int .i64 s.index.value, .slice ai s.index.kids.length ci, .int .i64 s.value.kind, .int .i64 s.value.value, .slice av s.value.kids.length cv, .int .i64 s.count, .slice ab s.body.length cb, .slice ae s.els.length ce] 135) ∧ Mem (fun _ => True) (fun _ => True) w W [.box w.heap.size [.slice a1 nv c1, .slice a2 na c2, v3], .box (w.heap.size + 1) [.int .i64 s.kind, .int .i64 s.target, .int .i64 s.index.kind, .int .i64 s.index.value, .slice ai s.index.kids.length ci, .int .i64 s.value.kind, .int .i64 s.value.value, .slice av s.value.kids.length cv, .int .i64 s.count, .slice ab s.body.length cb, .slice ae s.els.length ce]] :=
      ⟨_, rfl, ((Mem.start fun _ _ => trivial).box _ _).box' _ _ (by simp)⟩
    clear g1 g2 g3 g4 h hfull
    have c0 := M.c 1 0 rfl rfl
    have c1 := M.c 1 1 rfl rfl
    have c2 := M.c 1 2 rfl rfl
    have c3 := M.c 1 3 rfl rfl
    have c4 := M.c 1 4 rfl rfl
    have c5 := M.c 1 5 rfl rfl
    have c6 := M.c 1 6 rfl rfl
    have c7 := M.c 1 7 rfl rfl
    have c8 := M.c 1 8 rfl rfl
    have c9 := M.c 1 9 rfl rfl
    have c10 := M.c 1 10 rfl rfl
    have x0 := M.c 0 0 rfl rfl
    have x1 := M.c 0 1 rfl rfl
    have x2 := M.c 0 2 rfl rfl
    have HM := show Hid _ from M
    rw [hW] at c0 c1 c2 c3 c4 c5 c6 c7 c8 c9 c10 x0 x1 x2
    clear M
    go_enter Try.func180, Try.ntmps180
    go_wp2_with fail
    rw [← hW]
    clear hW
    have M := HM.out
    clear HM c0 c1 c2 c3 c4 c5 c6 c7 c8 c9 c10 x0 x1 x2
    refine (spec_l2Parts φ _ s _ (HF.out _ (M.below fun _ _ => trivial))).mono ?_
    rintro x w1 ⟨rfl, b1⟩
    replace M := M.call b1
    clear b1
    obtain ⟨b, hb⟩ : ∃ b, b = partsB s := ⟨_, rfl⟩
    rw [← hb]
    have HB := show Hid _ from hb
    clear hb
    cases b
    · have HP : Hid (stmtB nv na (d + 1) s = false) := by rw [Hid, HD0.out, ← HB.out]; rfl
      clear HD0 HB
      have c0 := M.c 1 0 rfl rfl
      have c1 := M.c 1 1 rfl rfl
      have c2 := M.c 1 2 rfl rfl
      have c3 := M.c 1 3 rfl rfl
      have c4 := M.c 1 4 rfl rfl
      have c5 := M.c 1 5 rfl rfl
      have c6 := M.c 1 6 rfl rfl
      have c7 := M.c 1 7 rfl rfl
      have c8 := M.c 1 8 rfl rfl
      have c9 := M.c 1 9 rfl rfl
      have c10 := M.c 1 10 rfl rfl
      have x0 := M.c 0 0 rfl rfl
      have x1 := M.c 0 1 rfl rfl
      have x2 := M.c 0 2 rfl rfl
      have HM := show Hid _ from M
      clear M
      go_wp2_with fail
      go_ret
      exact ⟨ret_bool (by rw [HP.out]), HM.out.below fun _ _ => trivial⟩
    have HD := show Hid (stmtB nv na (d + 1) s = (if s.kind = 1 ∨ s.kind = 5 then decide (0 ≤ s.target) && decide (s.target < (nv : Int)) && rightB nv na s.value else if s.kind = 2 then decide (0 ≤ s.target) && decide (s.target < (na : Int)) && rightB nv na s.index && atomB s.index && rightB nv na s.value
      else if s.kind = 3 then rightB nv na s.value && s.body.all (stmtB nv na d) && s.els.all (stmtB nv na d) else if s.kind = 4 then s.body.all (stmtB nv na d) else false)) from by rw [Hid, HD0.out, ← HB.out]; rfl
    clear HD0 HB
    by_cases qk : s.kind = 1
    · have k1 : (s.kind == 1) = true := by simp [qk]
      have k5 : (s.kind == 5) = false := by simp [qk]
      have k2 : (s.kind == 2) = false := by simp [qk]
      have k3 : (s.kind == 3) = false := by simp [qk]
      have k4 : (s.kind == 4) = false := by simp [qk]
      have HP1 := show Hid (stmtB nv na (d + 1) s = (decide (0 ≤ s.target) && decide (s.target < (nv : Int)) && rightB nv na s.value)) from by rw [Hid, HD.out, if_pos (.inl qk)]
      clear qk
      have HP0 := show Hid (stmtB nv na (d + 1) s = (decide (0 ≤ s.target) && decide (s.target < (nv : Int)) && rightB nv na s.value)) from HP1.out
      clear HP1
      by_cases t0 : 0 ≤ s.target
      case neg =>
        have p0 : decide (0 ≤ s.target) = false := decide_eq_false t0
        have HP : Hid (stmtB nv na (d + 1) s = false) := by rw [Hid, HP0.out, p0]; rfl
        clear HP0 t0
        have c0 := M.c 1 0 rfl rfl
        have c1 := M.c 1 1 rfl rfl
        have c2 := M.c 1 2 rfl rfl
        have c3 := M.c 1 3 rfl rfl
        have c4 := M.c 1 4 rfl rfl
        have c5 := M.c 1 5 rfl rfl
        have c6 := M.c 1 6 rfl rfl
        have c7 := M.c 1 7 rfl rfl
        have c8 := M.c 1 8 rfl rfl
        have c9 := M.c 1 9 rfl rfl
        have c10 := M.c 1 10 rfl rfl
        have x0 := M.c 0 0 rfl rfl
        have x1 := M.c 0 1 rfl rfl
        have x2 := M.c 0 2 rfl rfl
        have HM := show Hid _ from M
        clear M
        go_wp2_with fail
        go_ret
        exact ⟨ret_bool (by rw [HP.out]), HM.out.below fun _ _ => trivial⟩
      have p0 : decide (0 ≤ s.target) = true := decide_eq_true t0
      by_cases t1 : s.target < (nv : Int)
      case neg =>
        have p1 : decide (s.target < (nv : Int)) = false := decide_eq_false t1
        have HP : Hid (stmtB nv na (d + 1) s = false) := by rw [Hid, HP0.out, p0, p1]; rfl
        clear HP0 t0 t1
        have c0 := M.c 1 0 rfl rfl
        have c1 := M.c 1 1 rfl rfl
        have c2 := M.c 1 2 rfl rfl
        have c3 := M.c 1 3 rfl rfl
        have c4 := M.c 1 4 rfl rfl
        have c5 := M.c 1 5 rfl rfl
        have c6 := M.c 1 6 rfl rfl
        have c7 := M.c 1 7 rfl rfl
        have c8 := M.c 1 8 rfl rfl
        have c9 := M.c 1 9 rfl rfl
        have c10 := M.c 1 10 rfl rfl
        have x0 := M.c 0 0 rfl rfl
        have x1 := M.c 0 1 rfl rfl
        have x2 := M.c 0 2 rfl rfl
        have HM := show Hid _ from M
        clear M
        go_wp2_with fail
        go_ret
        exact ⟨ret_bool (by rw [HP.out]), HM.out.below fun _ _ => trivial⟩
      have p1 : decide (s.target < (nv : Int)) = true := decide_eq_true t1
      have HP1 := show Hid (stmtB nv na (d + 1) s = (rightB nv na s.value)) from by rw [Hid, HP0.out, p0, p1]; rfl
      clear HP0 t0 t1
      have HP0 := show Hid (stmtB nv na (d + 1) s = (rightB nv na s.value)) from HP1.out
      clear HP1
      have c0 := M.c 1 0 rfl rfl
      have c1 := M.c 1 1 rfl rfl
      have c2 := M.c 1 2 rfl rfl
      have c3 := M.c 1 3 rfl rfl
      have c4 := M.c 1 4 rfl rfl
      have c5 := M.c 1 5 rfl rfl
      have c6 := M.c 1 6 rfl rfl
      have c7 := M.c 1 7 rfl rfl
      have c8 := M.c 1 8 rfl rfl
      have c9 := M.c 1 9 rfl rfl
      have c10 := M.c 1 10 rfl rfl
      have x0 := M.c 0 0 rfl rfl
      have x1 := M.c 0 1 rfl rfl
      have x2 := M.c 0 2 rfl rfl
      have HM := show Hid _ from M
      clear M
      go_wp2_with fail
      have M := HM.out
      clear HM c0 c1 c2 c3 c4 c5 c6 c7 c8 c9 c10 x0 x1 x2
      refine (spec_l2Right a1 a2 nv c1 na c2 v3 h1 h2 s.value φ _ _ (HG.out _ (M.below fun _ _ => trivial)).2.1).mono ?_
      rintro x w1 ⟨rfl, b1⟩
      replace M := M.call b1
      clear b1
      have HP : Hid (stmtB nv na (d + 1) s = rightB nv na s.value) := HP0.out
      clear HP0
      have HM := show Hid _ from M
      clear M
      go_wp2_with fail
      go_ret
      exact ⟨ret_bool (by rw [HP.out]), HM.out.below fun _ _ => trivial⟩
    have qn1 := qk
    clear qk
    by_cases qk : s.kind = 5
    · have k1 : (s.kind == 1) = false := by simp [qk]
      have k5 : (s.kind == 5) = true := by simp [qk]
      have k2 : (s.kind == 2) = false := by simp [qk]
      have k3 : (s.kind == 3) = false := by simp [qk]
      have k4 : (s.kind == 4) = false := by simp [qk]
      have HP1 := show Hid (stmtB nv na (d + 1) s = (decide (0 ≤ s.target) && decide (s.target < (nv : Int)) && rightB nv na s.value)) from by rw [Hid, HD.out, if_pos (.inr qk)]
      clear qk
      have HP0 := show Hid (stmtB nv na (d + 1) s = (decide (0 ≤ s.target) && decide (s.target < (nv : Int)) && rightB nv na s.value)) from HP1.out
      clear HP1
      by_cases t0 : 0 ≤ s.target
      case neg =>
        have p0 : decide (0 ≤ s.target) = false := decide_eq_false t0
        have HP : Hid (stmtB nv na (d + 1) s = false) := by rw [Hid, HP0.out, p0]; rfl
        clear HP0 t0
        have c0 := M.c 1 0 rfl rfl
        have c1 := M.c 1 1 rfl rfl
        have c2 := M.c 1 2 rfl rfl
        have c3 := M.c 1 3 rfl rfl
        have c4 := M.c 1 4 rfl rfl
        have c5 := M.c 1 5 rfl rfl
        have c6 := M.c 1 6 rfl rfl
        have c7 := M.c 1 7 rfl rfl
        have c8 := M.c 1 8 rfl rfl
        have c9 := M.c 1 9 rfl rfl
        have c10 := M.c 1 10 rfl rfl
        have x0 := M.c 0 0 rfl rfl
        have x1 := M.c 0 1 rfl rfl
        have x2 := M.c 0 2 rfl rfl
        have HM := show Hid _ from M
        clear M
        go_wp2_with fail
        go_ret
        exact ⟨ret_bool (by rw [HP.out]), HM.out.below fun _ _ => trivial⟩
      have p0 : decide (0 ≤ s.target) = true := decide_eq_true t0
      by_cases t1 : s.target < (nv : Int)
      case neg =>
        have p1 : decide (s.target < (nv : Int)) = false := decide_eq_false t1
        have HP : Hid (stmtB nv na (d + 1) s = false) := by rw [Hid, HP0.out, p0, p1]; rfl
        clear HP0 t0 t1
        have c0 := M.c 1 0 rfl rfl
        have c1 := M.c 1 1 rfl rfl
        have c2 := M.c 1 2 rfl rfl
        have c3 := M.c 1 3 rfl rfl
        have c4 := M.c 1 4 rfl rfl
        have c5 := M.c 1 5 rfl rfl
        have c6 := M.c 1 6 rfl rfl
        have c7 := M.c 1 7 rfl rfl
        have c8 := M.c 1 8 rfl rfl
        have c9 := M.c 1 9 rfl rfl
        have c10 := M.c 1 10 rfl rfl
        have x0 := M.c 0 0 rfl rfl
        have x1 := M.c 0 1 rfl rfl
        have x2 := M.c 0 2 rfl rfl
        have HM := show Hid _ from M
        clear M
        go_wp2_with fail
        go_ret
        exact ⟨ret_bool (by rw [HP.out]), HM.out.below fun _ _ => trivial⟩
      have p1 : decide (s.target < (nv : Int)) = true := decide_eq_true t1
      have HP1 := show Hid (stmtB nv na (d + 1) s = (rightB nv na s.value)) from by rw [Hid, HP0.out, p0, p1]; rfl
      clear HP0 t0 t1
      have HP0 := show Hid (stmtB nv na (d + 1) s = (rightB nv na s.value)) from HP1.out
      clear HP1
      have c0 := M.c 1 0 rfl rfl
      have c1 := M.c 1 1 rfl rfl
      have c2 := M.c 1 2 rfl rfl
      have c3 := M.c 1 3 rfl rfl
      have c4 := M.c 1 4 rfl rfl
      have c5 := M.c 1 5 rfl rfl
      have c6 := M.c 1 6 rfl rfl
      have c7 := M.c 1 7 rfl rfl
      have c8 := M.c 1 8 rfl rfl
      have c9 := M.c 1 9 rfl rfl
      have c10 := M.c 1 10 rfl rfl
      have x0 := M.c 0 0 rfl rfl
      have x1 := M.c 0 1 rfl rfl
      have x2 := M.c 0 2 rfl rfl
      have HM := show Hid _ from M
      clear M
      go_wp2_with fail
      have M := HM.out
      clear HM c0 c1 c2 c3 c4 c5 c6 c7 c8 c9 c10 x0 x1 x2
      refine (spec_l2Right a1 a2 nv c1 na c2 v3 h1 h2 s.value φ _ _ (HG.out _ (M.below fun _ _ => trivial)).2.1).mono ?_
      rintro x w1 ⟨rfl, b1⟩
      replace M := M.call b1
      clear b1
      have HP : Hid (stmtB nv na (d + 1) s = rightB nv na s.value) := HP0.out
      clear HP0
      have HM := show Hid _ from M
      clear M
      go_wp2_with fail
      go_ret
      exact ⟨ret_bool (by rw [HP.out]), HM.out.below fun _ _ => trivial⟩
    have qn5 := qk
    clear qk
    by_cases qk : s.kind = 2
    · have k1 : (s.kind == 1) = false := by simp [qk]
      have k5 : (s.kind == 5) = false := by simp [qk]
      have k2 : (s.kind == 2) = true := by simp [qk]
      have k3 : (s.kind == 3) = false := by simp [qk]
      have k4 : (s.kind == 4) = false := by simp [qk]
      have HP1 := show Hid (stmtB nv na (d + 1) s = (decide (0 ≤ s.target) && decide (s.target < (na : Int)) && rightB nv na s.index && atomB s.index && rightB nv na s.value)) from by rw [Hid, HD.out, if_neg (by omega), if_pos qk]
      clear qk
      have HP0 := show Hid (stmtB nv na (d + 1) s = (decide (0 ≤ s.target) && decide (s.target < (na : Int)) && rightB nv na s.index && atomB s.index && rightB nv na s.value)) from HP1.out
      clear HP1
      by_cases t0 : 0 ≤ s.target
      case neg =>
        have p0 : decide (0 ≤ s.target) = false := decide_eq_false t0
        have HP : Hid (stmtB nv na (d + 1) s = false) := by rw [Hid, HP0.out, p0]; rfl
        clear HP0 t0
        have c0 := M.c 1 0 rfl rfl
        have c1 := M.c 1 1 rfl rfl
        have c2 := M.c 1 2 rfl rfl
        have c3 := M.c 1 3 rfl rfl
        have c4 := M.c 1 4 rfl rfl
        have c5 := M.c 1 5 rfl rfl
        have c6 := M.c 1 6 rfl rfl
        have c7 := M.c 1 7 rfl rfl
        have c8 := M.c 1 8 rfl rfl
        have c9 := M.c 1 9 rfl rfl
        have c10 := M.c 1 10 rfl rfl
        have x0 := M.c 0 0 rfl rfl
        have x1 := M.c 0 1 rfl rfl
        have x2 := M.c 0 2 rfl rfl
        have HM := show Hid _ from M
        clear M
        go_wp2_with fail
        go_ret
        exact ⟨ret_bool (by rw [HP.out]), HM.out.below fun _ _ => trivial⟩
      have p0 : decide (0 ≤ s.target) = true := decide_eq_true t0
      by_cases t1 : s.target < (na : Int)
      case neg =>
        have p1 : decide (s.target < (na : Int)) = false := decide_eq_false t1
        have HP : Hid (stmtB nv na (d + 1) s = false) := by rw [Hid, HP0.out, p0, p1]; rfl
        clear HP0 t0 t1
        have c0 := M.c 1 0 rfl rfl
        have c1 := M.c 1 1 rfl rfl
        have c2 := M.c 1 2 rfl rfl
        have c3 := M.c 1 3 rfl rfl
        have c4 := M.c 1 4 rfl rfl
        have c5 := M.c 1 5 rfl rfl
        have c6 := M.c 1 6 rfl rfl
        have c7 := M.c 1 7 rfl rfl
        have c8 := M.c 1 8 rfl rfl
        have c9 := M.c 1 9 rfl rfl
        have c10 := M.c 1 10 rfl rfl
        have x0 := M.c 0 0 rfl rfl
        have x1 := M.c 0 1 rfl rfl
        have x2 := M.c 0 2 rfl rfl
        have HM := show Hid _ from M
        clear M
        go_wp2_with fail
        go_ret
        exact ⟨ret_bool (by rw [HP.out]), HM.out.below fun _ _ => trivial⟩
      have p1 : decide (s.target < (na : Int)) = true := decide_eq_true t1
      have HP1 := show Hid (stmtB nv na (d + 1) s = (rightB nv na s.index && atomB s.index && rightB nv na s.value)) from by rw [Hid, HP0.out, p0, p1]; rfl
      clear HP0 t0 t1
      have HP0 := show Hid (stmtB nv na (d + 1) s = (rightB nv na s.index && atomB s.index && rightB nv na s.value)) from HP1.out
      clear HP1
      have c0 := M.c 1 0 rfl rfl
      have c1 := M.c 1 1 rfl rfl
      have c2 := M.c 1 2 rfl rfl
      have c3 := M.c 1 3 rfl rfl
      have c4 := M.c 1 4 rfl rfl
      have c5 := M.c 1 5 rfl rfl
      have c6 := M.c 1 6 rfl rfl
      have c7 := M.c 1 7 rfl rfl
      have c8 := M.c 1 8 rfl rfl
      have c9 := M.c 1 9 rfl rfl
      have c10 := M.c 1 10 rfl rfl
      have x0 := M.c 0 0 rfl rfl
      have x1 := M.c 0 1 rfl rfl
      have x2 := M.c 0 2 rfl rfl
      have HM := show Hid _ from M
      clear M
      go_wp2_with fail
      have M := HM.out
      clear HM c0 c1 c2 c3 c4 c5 c6 c7 c8 c9 c10 x0 x1 x2
      refine (spec_l2Right a1 a2 nv c1 na c2 v3 h1 h2 s.index φ _ _ (HG.out _ (M.below fun _ _ => trivial)).1).mono ?_
      rintro x w1 ⟨rfl, b1⟩
      replace M := M.call b1
      clear b1
      obtain ⟨b, hb⟩ : ∃ b, b = rightB nv na s.index := ⟨_, rfl⟩
      rw [← hb]
      have HB := show Hid _ from hb
      clear hb
      cases b
      · have HP : Hid (stmtB nv na (d + 1) s = false) := by rw [Hid, HP0.out, ← HB.out]; rfl
        clear HP0
        have c0 := M.c 1 0 rfl rfl
        have c1 := M.c 1 1 rfl rfl
        have c2 := M.c 1 2 rfl rfl
        have c3 := M.c 1 3 rfl rfl
        have c4 := M.c 1 4 rfl rfl
        have c5 := M.c 1 5 rfl rfl
        have c6 := M.c 1 6 rfl rfl
        have c7 := M.c 1 7 rfl rfl
        have c8 := M.c 1 8 rfl rfl
        have c9 := M.c 1 9 rfl rfl
        have c10 := M.c 1 10 rfl rfl
        have x0 := M.c 0 0 rfl rfl
        have x1 := M.c 0 1 rfl rfl
        have x2 := M.c 0 2 rfl rfl
        have HM := show Hid _ from M
        clear M
        go_wp2_with fail
        go_ret
        exact ⟨ret_bool (by rw [HP.out]), HM.out.below fun _ _ => trivial⟩
      · have HP1 := show Hid (stmtB nv na (d + 1) s = (atomB s.index && rightB nv na s.value)) from by rw [Hid, HP0.out, ← HB.out]; rfl
        clear HP0 HB
        have HP0 := show Hid (stmtB nv na (d + 1) s = (atomB s.index && rightB nv na s.value)) from HP1.out
        clear HP1
        have c0 := M.c 1 0 rfl rfl
        have c1 := M.c 1 1 rfl rfl
        have c2 := M.c 1 2 rfl rfl
        have c3 := M.c 1 3 rfl rfl
        have c4 := M.c 1 4 rfl rfl
        have c5 := M.c 1 5 rfl rfl
        have c6 := M.c 1 6 rfl rfl
        have c7 := M.c 1 7 rfl rfl
        have c8 := M.c 1 8 rfl rfl
        have c9 := M.c 1 9 rfl rfl
        have c10 := M.c 1 10 rfl rfl
        have x0 := M.c 0 0 rfl rfl
        have x1 := M.c 0 1 rfl rfl
        have x2 := M.c 0 2 rfl rfl
        have HM := show Hid _ from M
        clear M
        go_wp2_with fail
        have M := HM.out
        clear HM c0 c1 c2 c3 c4 c5 c6 c7 c8 c9 c10 x0 x1 x2
        refine (spec_l2Atom _ _ _ _).mono ?_
        rintro x w1 ⟨rfl, b1⟩
        replace M := M.call b1
        clear b1
        rw [show (decide (s.index.kind = 1) || decide (s.index.kind = 2)) = atomB s.index from rfl]
        obtain ⟨b, hb⟩ : ∃ b, b = atomB s.index := ⟨_, rfl⟩
        rw [← hb]
        have HB := show Hid _ from hb
        clear hb
        cases b
        · have HP : Hid (stmtB nv na (d + 1) s = false) := by rw [Hid, HP0.out, ← HB.out]; rfl
          clear HP0
          have c0 := M.c 1 0 rfl rfl
          have c1 := M.c 1 1 rfl rfl
          have c2 := M.c 1 2 rfl rfl
          have c3 := M.c 1 3 rfl rfl
          have c4 := M.c 1 4 rfl rfl
          have c5 := M.c 1 5 rfl rfl
          have c6 := M.c 1 6 rfl rfl
          have c7 := M.c 1 7 rfl rfl
          have c8 := M.c 1 8 rfl rfl
          have c9 := M.c 1 9 rfl rfl
          have c10 := M.c 1 10 rfl rfl
          have x0 := M.c 0 0 rfl rfl
          have x1 := M.c 0 1 rfl rfl
          have x2 := M.c 0 2 rfl rfl
          have HM := show Hid _ from M
          clear M
          go_wp2_with fail
          go_ret
          exact ⟨ret_bool (by rw [HP.out]), HM.out.below fun _ _ => trivial⟩
        · have HP1 := show Hid (stmtB nv na (d + 1) s = (rightB nv na s.value)) from by rw [Hid, HP0.out, ← HB.out]; rfl
          clear HP0 HB
          have HP0 := show Hid (stmtB nv na (d + 1) s = (rightB nv na s.value)) from HP1.out
          clear HP1
          have c0 := M.c 1 0 rfl rfl
          have c1 := M.c 1 1 rfl rfl
          have c2 := M.c 1 2 rfl rfl
          have c3 := M.c 1 3 rfl rfl
          have c4 := M.c 1 4 rfl rfl
          have c5 := M.c 1 5 rfl rfl
          have c6 := M.c 1 6 rfl rfl
          have c7 := M.c 1 7 rfl rfl
          have c8 := M.c 1 8 rfl rfl
          have c9 := M.c 1 9 rfl rfl
          have c10 := M.c 1 10 rfl rfl
          have x0 := M.c 0 0 rfl rfl
          have x1 := M.c 0 1 rfl rfl
          have x2 := M.c 0 2 rfl rfl
          have HM := show Hid _ from M
          clear M
          go_wp2_with fail
          have M := HM.out
          clear HM c0 c1 c2 c3 c4 c5 c6 c7 c8 c9 c10 x0 x1 x2
          refine (spec_l2Right a1 a2 nv c1 na c2 v3 h1 h2 s.value φ _ _ (HG.out _ (M.below fun _ _ => trivial)).2.1).mono ?_
          rintro x w1 ⟨rfl, b1⟩
          replace M := M.call b1
          clear b1
          have HP : Hid (stmtB nv na (d + 1) s = rightB nv na s.value) := HP0.out
          clear HP0
          have HM := show Hid _ from M
          clear M
          go_wp2_with fail
          go_ret
          exact ⟨ret_bool (by rw [HP.out]), HM.out.below fun _ _ => trivial⟩
    have qn2 := qk
    clear qk
    by_cases qk : s.kind = 3
    · have k1 : (s.kind == 1) = false := by simp [qk]
      have k5 : (s.kind == 5) = false := by simp [qk]
      have k2 : (s.kind == 2) = false := by simp [qk]
      have k3 : (s.kind == 3) = true := by simp [qk]
      have k4 : (s.kind == 4) = false := by simp [qk]
      have HP1 := show Hid (stmtB nv na (d + 1) s = (rightB nv na s.value && s.body.all (stmtB nv na d) && s.els.all (stmtB nv na d))) from by rw [Hid, HD.out, if_neg (by omega), if_neg (by omega), if_pos qk]
      clear qk
      have HP0 := show Hid (stmtB nv na (d + 1) s = (rightB nv na s.value && s.body.all (stmtB nv na d) && s.els.all (stmtB nv na d))) from HP1.out
      clear HP1
      have c0 := M.c 1 0 rfl rfl
      have c1 := M.c 1 1 rfl rfl
      have c2 := M.c 1 2 rfl rfl
      have c3 := M.c 1 3 rfl rfl
      have c4 := M.c 1 4 rfl rfl
      have c5 := M.c 1 5 rfl rfl
      have c6 := M.c 1 6 rfl rfl
      have c7 := M.c 1 7 rfl rfl
      have c8 := M.c 1 8 rfl rfl
      have c9 := M.c 1 9 rfl rfl
      have c10 := M.c 1 10 rfl rfl
      have x0 := M.c 0 0 rfl rfl
      have x1 := M.c 0 1 rfl rfl
      have x2 := M.c 0 2 rfl rfl
      have HM := show Hid _ from M
      clear M
      go_wp2_with fail
      have M := HM.out
      clear HM c0 c1 c2 c3 c4 c5 c6 c7 c8 c9 c10 x0 x1 x2
      refine (spec_l2Right a1 a2 nv c1 na c2 v3 h1 h2 s.value φ _ _ (HG.out _ (M.below fun _ _ => trivial)).2.1).mono ?_
      rintro x w1 ⟨rfl, b1⟩
      replace M := M.call b1
      clear b1
      obtain ⟨b, hb⟩ : ∃ b, b = rightB nv na s.value := ⟨_, rfl⟩
      rw [← hb]
      have HB := show Hid _ from hb
      clear hb
      cases b
      · have HP : Hid (stmtB nv na (d + 1) s = false) := by rw [Hid, HP0.out, ← HB.out]; rfl
        clear HP0
        have c0 := M.c 1 0 rfl rfl
        have c1 := M.c 1 1 rfl rfl
        have c2 := M.c 1 2 rfl rfl
        have c3 := M.c 1 3 rfl rfl
        have c4 := M.c 1 4 rfl rfl
        have c5 := M.c 1 5 rfl rfl
        have c6 := M.c 1 6 rfl rfl
        have c7 := M.c 1 7 rfl rfl
        have c8 := M.c 1 8 rfl rfl
        have c9 := M.c 1 9 rfl rfl
        have c10 := M.c 1 10 rfl rfl
        have x0 := M.c 0 0 rfl rfl
        have x1 := M.c 0 1 rfl rfl
        have x2 := M.c 0 2 rfl rfl
        have HM := show Hid _ from M
        clear M
        go_wp2_with fail
        go_ret
        exact ⟨ret_bool (by rw [HP.out]), HM.out.below fun _ _ => trivial⟩
      · have HP1 := show Hid (stmtB nv na (d + 1) s = (s.body.all (stmtB nv na d) && s.els.all (stmtB nv na d))) from by rw [Hid, HP0.out, ← HB.out]; rfl
        clear HP0 HB
        have HP0 := show Hid (stmtB nv na (d + 1) s = (s.body.all (stmtB nv na d) && s.els.all (stmtB nv na d))) from HP1.out
        clear HP1
        have c0 := M.c 1 0 rfl rfl
        have c1 := M.c 1 1 rfl rfl
        have c2 := M.c 1 2 rfl rfl
        have c3 := M.c 1 3 rfl rfl
        have c4 := M.c 1 4 rfl rfl
        have c5 := M.c 1 5 rfl rfl
        have c6 := M.c 1 6 rfl rfl
        have c7 := M.c 1 7 rfl rfl
        have c8 := M.c 1 8 rfl rfl
        have c9 := M.c 1 9 rfl rfl
        have c10 := M.c 1 10 rfl rfl
        have x0 := M.c 0 0 rfl rfl
        have x1 := M.c 0 1 rfl rfl
        have x2 := M.c 0 2 rfl rfl
        have HM := show Hid _ from M
        clear M
        go_wp2_with fail
        have M := HM.out
        clear HM c0 c1 c2 c3 c4 c5 c6 c7 c8 c9 c10 x0 x1 x2
        refine (l2Block_of a1 a2 nv c1 na c2 v3 d (by omega) ih s.body φ _ _ (HG.out _ (M.below fun _ _ => trivial)).2.2.1).mono ?_
        rintro x w1 ⟨rfl, b1⟩
        replace M := M.call b1
        clear b1
        obtain ⟨b, hb⟩ : ∃ b, b = s.body.all (stmtB nv na d) := ⟨_, rfl⟩
        rw [← hb]
        have HB := show Hid _ from hb
        clear hb
        cases b
        · have HP : Hid (stmtB nv na (d + 1) s = false) := by rw [Hid, HP0.out, ← HB.out]; rfl
          clear HP0
          have c0 := M.c 1 0 rfl rfl
          have c1 := M.c 1 1 rfl rfl
          have c2 := M.c 1 2 rfl rfl
          have c3 := M.c 1 3 rfl rfl
          have c4 := M.c 1 4 rfl rfl
          have c5 := M.c 1 5 rfl rfl
          have c6 := M.c 1 6 rfl rfl
          have c7 := M.c 1 7 rfl rfl
          have c8 := M.c 1 8 rfl rfl
          have c9 := M.c 1 9 rfl rfl
          have c10 := M.c 1 10 rfl rfl
          have x0 := M.c 0 0 rfl rfl
          have x1 := M.c 0 1 rfl rfl
          have x2 := M.c 0 2 rfl rfl
          have HM := show Hid _ from M
          clear M
          go_wp2_with fail
          go_ret
          exact ⟨ret_bool (by rw [HP.out]), HM.out.below fun _ _ => trivial⟩
        · have HP1 := show Hid (stmtB nv na (d + 1) s = (s.els.all (stmtB nv na d))) from by rw [Hid, HP0.out, ← HB.out]; rfl
          clear HP0 HB
          have HP0 := show Hid (stmtB nv na (d + 1) s = (s.els.all (stmtB nv na d))) from HP1.out
          clear HP1
          have c0 := M.c 1 0 rfl rfl
          have c1 := M.c 1 1 rfl rfl
          have c2 := M.c 1 2 rfl rfl
          have c3 := M.c 1 3 rfl rfl
          have c4 := M.c 1 4 rfl rfl
          have c5 := M.c 1 5 rfl rfl
          have c6 := M.c 1 6 rfl rfl
          have c7 := M.c 1 7 rfl rfl
          have c8 := M.c 1 8 rfl rfl
          have c9 := M.c 1 9 rfl rfl
          have c10 := M.c 1 10 rfl rfl
          have x0 := M.c 0 0 rfl rfl
          have x1 := M.c 0 1 rfl rfl
          have x2 := M.c 0 2 rfl rfl
          have HM := show Hid _ from M
          clear M
          go_wp2_with fail
          have M := HM.out
          clear HM c0 c1 c2 c3 c4 c5 c6 c7 c8 c9 c10 x0 x1 x2
          refine (l2Block_of a1 a2 nv c1 na c2 v3 d (by omega) ih s.els φ _ _ (HG.out _ (M.below fun _ _ => trivial)).2.2.2).mono ?_
          rintro x w1 ⟨rfl, b1⟩
          replace M := M.call b1
          clear b1
          have HP : Hid (stmtB nv na (d + 1) s = (s.els.all (stmtB nv na d))) := HP0.out
          clear HP0
          have HM := show Hid _ from M
          clear M
          go_wp2_with fail
          go_ret
          exact ⟨ret_bool (by rw [HP.out]), HM.out.below fun _ _ => trivial⟩
    have qn3 := qk
    clear qk
    by_cases qk : s.kind = 4
    · have k1 : (s.kind == 1) = false := by simp [qk]
      have k5 : (s.kind == 5) = false := by simp [qk]
      have k2 : (s.kind == 2) = false := by simp [qk]
      have k3 : (s.kind == 3) = false := by simp [qk]
      have k4 : (s.kind == 4) = true := by simp [qk]
      have HP1 := show Hid (stmtB nv na (d + 1) s = ((s.body.all (stmtB nv na d)))) from by rw [Hid, HD.out, if_neg (by omega), if_neg (by omega), if_neg (by omega), if_pos qk]
      clear qk
      have HP0 := show Hid (stmtB nv na (d + 1) s = ((s.body.all (stmtB nv na d)))) from HP1.out
      clear HP1
      have c0 := M.c 1 0 rfl rfl
      have c1 := M.c 1 1 rfl rfl
      have c2 := M.c 1 2 rfl rfl
      have c3 := M.c 1 3 rfl rfl
      have c4 := M.c 1 4 rfl rfl
      have c5 := M.c 1 5 rfl rfl
      have c6 := M.c 1 6 rfl rfl
      have c7 := M.c 1 7 rfl rfl
      have c8 := M.c 1 8 rfl rfl
      have c9 := M.c 1 9 rfl rfl
      have c10 := M.c 1 10 rfl rfl
      have x0 := M.c 0 0 rfl rfl
      have x1 := M.c 0 1 rfl rfl
      have x2 := M.c 0 2 rfl rfl
      have HM := show Hid _ from M
      clear M
      go_wp2_with fail
      have M := HM.out
      clear HM c0 c1 c2 c3 c4 c5 c6 c7 c8 c9 c10 x0 x1 x2
      refine (l2Block_of a1 a2 nv c1 na c2 v3 d (by omega) ih s.body φ _ _ (HG.out _ (M.below fun _ _ => trivial)).2.2.1).mono ?_
      rintro x w1 ⟨rfl, b1⟩
      replace M := M.call b1
      clear b1
      have HP : Hid (stmtB nv na (d + 1) s = (s.body.all (stmtB nv na d))) := HP0.out
      clear HP0
      have HM := show Hid _ from M
      clear M
      go_wp2_with fail
      go_ret
      exact ⟨ret_bool (by rw [HP.out]), HM.out.below fun _ _ => trivial⟩
    have HP : Hid (stmtB nv na (d + 1) s = false) := by rw [Hid, HD.out, if_neg (by omega), if_neg qn2, if_neg qn3, if_neg qk]
    have k1 : (s.kind == 1) = false := by simp [qn1]
    have k5 : (s.kind == 5) = false := by simp [qn5]
    have k2 : (s.kind == 2) = false := by simp [qn2]
    have k3 : (s.kind == 3) = false := by simp [qn3]
    have k4 : (s.kind == 4) = false := by simp [qk]
    clear HD qn1 qn5 qn2 qn3 qk
    have c0 := M.c 1 0 rfl rfl
    have c1 := M.c 1 1 rfl rfl
    have c2 := M.c 1 2 rfl rfl
    have c3 := M.c 1 3 rfl rfl
    have c4 := M.c 1 4 rfl rfl
    have c5 := M.c 1 5 rfl rfl
    have c6 := M.c 1 6 rfl rfl
    have c7 := M.c 1 7 rfl rfl
    have c8 := M.c 1 8 rfl rfl
    have c9 := M.c 1 9 rfl rfl
    have c10 := M.c 1 10 rfl rfl
    have x0 := M.c 0 0 rfl rfl
    have x1 := M.c 0 1 rfl rfl
    have x2 := M.c 0 2 rfl rfl
    have HM := show Hid _ from M
    clear M
    go_wp2_with fail
    go_ret
    exact ⟨ret_bool (by rw [HP.out]), HM.out.below fun _ _ => trivial⟩

end Go.Proofs.Ytgpkdfefgcpbiaa

namespace Go.Proofs.Ytgpkdfefgcpbiaa
set_option linter.unusedVariables false
set_option linter.unusedSimpArgs false
open Go Go.RowKit

section
variable {P : Program} {f : FuncId}

/-- A contract of before: what is handed back is known, nothing has turned. -/
theorem old_ok {args : List AV} {S : List It} {x : Value} (h : ∀ (φ : Nat → Prop) (w : World) (ρ : Nat → Value), (∀ i d, lst S i = .dat d → RD w φ d (ρ i)) → Calls P f (AV.vals ρ args).toArray w fun e w' => e = .returned x ∧ Below w.heap.size w w') : Ctr.ok P (fnC f args S (.v x)) := by
  intro ι φ ψ w0 w F ρ M
  refine (h (FrF φ (lay F ρ (lst S))) w ρ fun i d hi => M.datAt hi).mono ?_
  rintro e w' ⟨rfl, hb⟩
  exact ⟨ρ, fun _ _ => rfl, rfl, M.call hb⟩
end
theorem rd_form {w : World} {φ : Nat → Prop} {d : D} {v : Value} (h : RD w φ d v) : ∃ a cap, v = .slice a d.len cap ∧ d.len ≤ 9223372036854775807 := by
  obtain ⟨a, cap, h1, h2, h3, _⟩ := h.open
  unfold maxLen at h3
  exact ⟨a, cap, h1, by omega⟩

theorem c_LabelValid (l : Int) : Ctr.ok Try.prog (fnC 83 [iA l] [] (bA (labOk l))) :=
  old_ok fun φ w ρ _ => (spec_LabelValid l w).mono fun e w' h => ⟨h.1, h.2 ▸ Below.refl _ _⟩
theorem c_iLabelValid (l : Int) : Ctr.ok Try.prog (fnC 86 [iA l] [] (bA (labOk l))) :=
  old_ok fun φ w ρ _ => (impl_LabelValid l w).mono fun e w' h => ⟨h.1, h.2 ▸ Below.refl _ _⟩
theorem c_within (n lo hi : Int) : Ctr.ok Try.prog (fnC 140 [iA n, iA lo, iA hi] [] (bA (decide (lo ≤ n) && decide (n ≤ hi)))) :=
  old_ok fun φ w ρ _ => (impl_within n lo hi w).mono fun e w' h => ⟨h.1, h.2 ▸ Below.refl _ _⟩
theorem c_l2Heads (p : LProg) : Ctr.ok Try.prog (fnC 136 [pA 0] (pS p) (bA (headsB p.vars p.arrays))) :=
  old_ok fun φ w ρ h => spec_l2Heads (ρ 0) (ρ 1) (ρ 2) _ _ w (RowF.row (h 0 _ rfl)) (RowF.row (h 1 _ rfl))
theorem c_declared (vs ars : List Int) : Ctr.ok Try.prog (fnC 138 [.ref 0, .ref 1] [.dat (.ints vs), .dat (.ints ars)] (bA (headsB vs ars))) :=
  old_ok fun φ w ρ h => (impl_declared (ρ 0) (ρ 1) _ _ w (RowF.row (h 0 _ rfl)) (RowF.row (h 1 _ rfl))).mono fun e w' h => ⟨h.1, h.2 ▸ Below.refl _ _⟩
theorem c_l2Right (p : LProg) (e : LExpr) : Ctr.ok Try.prog (fnC 110 [pA 0, eA e 3] (pS p ++ eS e) (bA (rightB p.vars.length p.arrays.length e))) :=
  old_ok fun φ w ρ h => by
    obtain ⟨a1, c1, h1, l1⟩ := rd_form (h 0 _ rfl)
    obtain ⟨a2, c2, h2, l2⟩ := rd_form (h 1 _ rfl)
    simp only [AV.vals, AV.val, h1, h2]
    exact spec_l2Right a1 a2 _ c1 _ c2 (ρ 2) l1 l2 e φ _ w ⟨_, rfl, h 3 _ rfl⟩
theorem c_expr (p : LProg) (e : LExpr) : Ctr.ok Try.prog (fnC 112 [pA 0, eA e 3] (pS p ++ eS e) (bA (rightB p.vars.length p.arrays.length e))) :=
  old_ok fun φ w ρ h => by
    obtain ⟨a1, c1, h1, l1⟩ := rd_form (h 0 _ rfl)
    obtain ⟨a2, c2, h2, l2⟩ := rd_form (h 1 _ rfl)
    simp only [AV.vals, AV.val, h1, h2]
    exact impl_expr a1 a2 _ c1 _ c2 (ρ 2) l1 l2 e φ _ w ⟨_, rfl, h 3 _ rfl⟩
theorem c_l2Block (p : LProg) (ss : List LStmt) (n : Int) (hn : n = 5) : Ctr.ok Try.prog (fnC 144 [pA 0, .ref 3, iA n] (pS p ++ [.dat (.stmts ss)]) (bA (blockB p.vars.length p.arrays.length 5 ss))) :=
  old_ok fun φ w ρ h => by
    subst hn
    obtain ⟨a1, c1, h1, l1⟩ := rd_form (h 0 _ rfl)
    obtain ⟨a2, c2, h2, l2⟩ := rd_form (h 1 _ rfl)
    simp only [AV.vals, AV.val, h1, h2]
    exact l2Block_of a1 a2 _ c1 _ c2 (ρ 2) 5 (by omega) (l2Stmt_of a1 a2 _ c1 _ c2 (ρ 2) l1 l2 5 (by omega)) ss φ _ w (h 3 _ rfl)
theorem c_isPlain (e : LExpr) : Ctr.ok Try.prog (fnC 193 [eA e 0] (eS e) (bA (atomB e))) :=
  old_ok fun φ w ρ h => impl_isPlain e.kind e.value (ρ 0) w

mutual
theorem nS_sz : ∀ s : LStmt, nS s ≤ 1 + szS s
  | ⟨_, _, _, _, _, b, e⟩ => by
    have h1 := nSs_sz b
    have h2 := nSs_sz e
    simp only [nS, szS]; omega
theorem nSs_sz : ∀ ss : List LStmt, nSs ss ≤ szSs ss
  | [] => Nat.le_refl _
  | s :: r => by
    have h1 := nS_sz s
    have h2 := nSs_sz r
    simp only [nSs, szSs]; omega
end
theorem nSs_append (a b : List LStmt) : nSs (a ++ b) = nSs a + nSs b := by
  induction a with
  | nil => simp [nSs]
  | cons x r ih => simp [nSs, ih]; omega
theorem nSs_take1 {ss : List LStmt} {k : Nat} (h : k < ss.length) : nSs (ss.take (k + 1)) = nSs (ss.take k) + nS ss[k] := by
  rw [take_succ_get _ _ h, nSs_append]; simp [nSs]
theorem nSs_take_le (ss : List LStmt) (k : Nat) : nSs (ss.take k) ≤ nSs ss := by
  have := nSs_append (ss.take k) (ss.drop k)
  rw [List.take_append_drop] at this
  omega
theorem nS_def (s : LStmt) : nS s = 1 + nSs s.body + nSs s.els := by cases s; simp only [nS]; rfl
/-- Valid statements end within their depth: a kind without blocks has none. -/
theorem stmtB_blocks {nv na d : Nat} {s : LStmt} (h : stmtB nv na (d + 1) s = true) : s.body.all (stmtB nv na d) = true ∧ s.els.all (stmtB nv na d) = true := by
  rw [stmtB, Bool.and_eq_true] at h
  obtain ⟨h1, h2⟩ := h
  unfold partsB at h1
  by_cases k3 : s.kind = 3
  · rw [if_neg (by omega), if_neg (by omega), if_pos k3] at h2
    simp only [Bool.and_eq_true] at h2
    exact ⟨h2.1.2, h2.2⟩
  by_cases k4 : s.kind = 4
  · rw [if_neg (by omega), if_neg (by omega), if_neg (by omega), if_pos k4] at h2
    rw [if_pos (.inr k4), if_pos k4] at h1
    simp only [Bool.and_eq_true, decide_eq_true_eq] at h1
    exact ⟨h2, by rw [List.eq_nil_of_length_eq_zero h1.2.1.1.1.1]; rfl⟩
  · rw [if_neg (by omega)] at h1
    simp only [Bool.and_eq_true, decide_eq_true_eq] at h1
    exact ⟨by rw [List.eq_nil_of_length_eq_zero h1.1.1.1]; rfl, by rw [List.eq_nil_of_length_eq_zero h1.1.1.2]; rfl⟩

theorem szS_parts (s : LStmt) : szSs s.body ≤ szS s ∧ szSs s.els ≤ szS s := by
  rcases s with ⟨_, _, _, _, _, b, e⟩
  simp only [szS, LStmt.body, LStmt.els]
  omega
theorem flat_nSs {nv na : Nat} : ∀ {ss : List LStmt}, (∀ s ∈ ss, stmtB nv na 1 s = true) → nSs ss = ss.length
  | [], _ => rfl
  | s :: r, h => by
    have h1 := stmtB_blocks (h s List.mem_cons_self)
    have key : ∀ l : List LStmt, l.all (stmtB nv na 0) = true → l = [] := fun l hl => by
      cases l with
      | nil => rfl
      | cons a r => simp [stmtB] at hl
    have h2 := flat_nSs (ss := r) fun x hx => h x (List.mem_cons_of_mem _ hx)
    rw [nSs, nS_def, key _ h1.1, key _ h1.2, h2]
    simp [nSs]; omega


end Go.Proofs.Ytgpkdfefgcpbiaa

namespace Go.Proofs.Ytgpkdfefgcpbiaa
set_option linter.unusedVariables false
set_option linter.unusedSimpArgs false
open Go Go.RowKit

/-- What the machine makes of two numbers, bit by bit. -/
def orI (x y : Int) : Int := IntKind.i64.wrap ((BitVec.ofInt (IntKind.bits .i64) x ||| BitVec.ofInt (IntKind.bits .i64) y).toNat : Int)
def andI (x y : Int) : Int := IntKind.i64.wrap ((BitVec.ofInt (IntKind.bits .i64) x &&& BitVec.ofInt (IntKind.bits .i64) y).toNat : Int)
def xorI (x y : Int) : Int := IntKind.i64.wrap ((BitVec.ofInt (IntKind.bits .i64) x ^^^ BitVec.ofInt (IntKind.bits .i64) y).toNat : Int)
def anI (x y : Int) : Int := IntKind.i64.wrap ((BitVec.ofInt (IntKind.bits .i64) x &&& ~~~(BitVec.ofInt (IntKind.bits .i64) y)).toNat : Int)

/-- The last thing is another one over again. -/
theorem Ctr.dup {P : Program} {f : FuncId} {args args' : List AV} {S S' : List It} {d : D} {res : AV} {i : Nat} (hc : Ctr.ok P ⟨f, args, S ++ [.dat d], S' ++ [.dat d], res⟩) (hi : S[i]? = some (.dat d)) (hl : S'.length = S.length)
    (hS : S.all (fun x => ltAll S.length x.ids) = true) (ha : ∀ ρ : Nat → Value, ρ S.length = ρ i → AV.vals ρ args = AV.vals ρ args') (hg : ltAll S.length (AV.idsL args') = true) : Ctr.ok P ⟨f, args', S, S', res⟩ := by
  intro ι φ ψ w0 w F ρ M
  have hi' : lst S i = .dat d := by simp [lst, hi]
  have hlt : i < S.length := (List.getElem?_eq_some_iff.1 hi).1
  have hinv : Inv (lst S) ρ [S.length] := fun ρ' h j => by
    by_cases hj : j < S.length
    · refine It.res_congr _ (fun k hk => h k ?_) (.inr (.inr (h j (by simp; omega))))
      have h1 := ltAll_iff (List.all_eq_true.1 hS (S[j]) (List.getElem_mem hj)) k (by simpa [lst, List.getD_eq_getElem?_getD, List.getElem?_eq_getElem hj] using hk)
      simp; omega
    · rw [show lst S j = .none by simp only [lst, List.getD_eq_getElem?_getD, List.getElem?_eq_none (Nat.le_of_not_lt hj)]; rfl]; rfl
  obtain ⟨ρ', h1, M1, h2⟩ := M.newDat (id := S.length) (by simp [lst]) hinv (M.datAt hi')
  have e : updS (lst S) [(S.length, .dat d)] = lst (S ++ [.dat d]) := by
    funext j
    simp only [updS, lst, List.getD_eq_getElem?_getD]
    by_cases hj : j = S.length
    · subst hj; simp
    · rw [if_neg hj]
      by_cases hj2 : j < S.length
      · rw [List.getElem?_append_left hj2]
      · rw [List.getElem?_eq_none (by omega), List.getElem?_eq_none (by simp; omega)]
  rw [e] at M1
  have hρ : ρ' i = ρ i := h1 i (by simp; omega)
  have ea : AV.vals ρ args' = AV.vals ρ' args := by
    rw [ha ρ' (by rw [← h2, hρ])]
    exact (AV.vals_congr _ fun k hk => by
      have := ltAll_iff hg k hk
      exact h1 k (by simp; omega)).symm
  simp only
  rw [ea]
  refine (hc ι φ ψ w0 w F ρ' M1).mono ?_
  rintro x w' ⟨ρ2, g1, g2, M2⟩
  refine ⟨ρ2, fun k hk => ?_, g2, ?_⟩
  · rw [g1 k (by simp; omega)]; exact h1 k (by simp; omega)
  · refine M2.map (fun k => match k with | .inl i => some (.inl i) | .inr j => if j < S'.length then some (.inr j) else none) ?_ ?_
    · intro k k' x h1 h2
      match k, k' with
      | .inl i, .inl i' => simp at h1 h2; rw [h1, h2]
      | .inl i, .inr j => simp at h1; subst h1; simp at h2
      | .inr j, .inl i => simp at h2; subst h2; simp at h1
      | .inr j, .inr j' => simp at h1 h2; rw [← h1.2] at h2; rw [Sum.inr.inj h2.2]
    · intro k
      match k with
      | .inl i => exact .inl ⟨.inl i, rfl, rfl⟩
      | .inr j =>
        by_cases hj : j < S'.length
        · refine .inl ⟨.inr j, by simp [hj], ?_⟩
          simp only [lay, lst, List.getD_eq_getElem?_getD, List.getElem?_append_left hj]
        · refine .inr ?_
          simp only [lay, lst, List.getD_eq_getElem?_getD, List.getElem?_eq_none (Nat.le_of_not_lt hj)]
          rfl

end Go.Proofs.Ytgpkdfefgcpbiaa

namespace Go.Proofs.Ytgpkdfefgcpbiaa
set_option linter.unusedVariables false
set_option linter.unusedSimpArgs false
open Go Go.RowKit

theorem sameEs_at {ks ls : List LExpr} {k : Nat} (h1 : k < ks.length) (h2 : k < ls.length) (h : sameE ks[k] ls[k] = false) : sameEs ks ls = false := by
  cases hs : sameEs ks ls
  · rfl
  · have := (sameEs_eq ks ls).1 hs
    subst this
    rw [(sameE_eq _ _).2 rfl] at h; cases h
theorem sameSs_at {ks ls : List LStmt} {k : Nat} (h1 : k < ks.length) (h2 : k < ls.length) (h : sameS ks[k] ls[k] = false) : sameSs ks ls = false := by
  cases hs : sameSs ks ls
  · rfl
  · have := (sameSs_eq ks ls).1 hs
    subst this
    rw [(sameS_eq _ _).2 rfl] at h; cases h
theorem sameE_def (e e' : LExpr) : sameE e e' = (decide (e.kind = e'.kind) && decide (e.value = e'.value) && sameEs e.kids e'.kids) := by cases e; cases e'; rfl
theorem sameS_def (s t : LStmt) : sameS s t = (decide (s.kind = t.kind) && decide (s.target = t.target) && sameE s.index t.index && sameE s.value t.value && decide (s.count = t.count) && sameSs s.body t.body && sameSs s.els t.els) := by cases s; cases t; rfl

def EqE (e : LExpr) : Prop := ∀ (φ φ' : Nat → Prop) (v u : Value) (e' : LExpr) (w : World), ExprV w φ v e → ExprV w φ' u e' →
  Calls Try.prog 24 #[v, u] w fun x w' => x = .returned (.bool (sameE e e')) ∧ Below w.heap.size w w'

set_option maxHeartbeats 1000000 in
theorem eqExprS_of (ks : List LExpr) (ih : ∀ e ∈ ks, EqE e) (φ φ' : Nat → Prop) (v u : Value) (ls : List LExpr) (w : World) (h : KidsV w φ v ks) (h' : KidsV w φ' u ls) :
    Calls Try.prog 78 #[v, u] w fun x w' => x = .returned (.bool (sameEs ks ls)) ∧ Below w.heap.size w w' := by
  obtain ⟨a, cap, rfl, -, hn, -, hc⟩ := h.open
  obtain ⟨a', cap', rfl, -, hn', -, hc'⟩ := h'.open
  have HC := show Hid _ from hc
  have HC' := show Hid _ from hc'
  clear hc hc' h h'
  by_cases hl : ks.length = ls.length
  · have heq : ((ks.length : Int) == (ls.length : Int)) = true := by simp; omega
    have HL := show Hid _ from hl
    clear hl
    go_enter Try.func78, Try.ntmps78
    go_wp2
    go_loopw [5] (fun i wr => ∃ k : Nat, k ≤ ks.length ∧ i = .int .i64 k ∧ ks.take k = ls.take k ∧ Below w.heap.size w wr) (fun i _ => ks.length - (intOf i).toNat)
    case atStart => exact ⟨0, Nat.zero_le _, rfl, rfl, Below.refl _ _⟩
    case round =>
      obtain ⟨k, hk, rfl, ht, hb⟩ := hrel
      have HT := show Hid _ from ht
      have HB := show Hid _ from hb
      clear ht hb
      by_cases hlt : k < ks.length
      · have hlt2 : k < ls.length := by have := HL.out; omega
        obtain ⟨b, off, kv, rfl, hbk, hf, c0, c1, c2, hkv⟩ := HC.out k hlt
        obtain ⟨b', off', kv', rfl, hbk', hf', d0, d1, d2, hkv'⟩ := HC'.out k hlt2
        rw [← (bcell HB.out).1 _ _ hbk] at c0 c1 c2
        rw [← (bcell HB.out).1 _ _ hbk'] at d0 d1 d2
        obtain ⟨q, hq⟩ : ∃ q, q = sameE ks[k] ls[k] := ⟨_, rfl⟩
        have HC3 : Hid (∀ X, Calls Try.prog 24 #[.agg #[.int .i64 ks[k].kind, .int .i64 ks[k].value, kv], .agg #[.int .i64 ls[k].kind, .int .i64 ls[k].value, kv']] (wr.ext X) fun e w'' => e = .returned (.bool q) ∧ ∃ Y, w'' = wr.ext Y) := fun X => by
          have bb := HB.out.trans ((ext_below wr X).mono HB.out.size)
          rw [hq]
          exact Calls.ext_of' (ih _ (List.getElem_mem hlt) φ φ' _ _ _ _ ⟨kv, rfl, KidsV.nice _ _ _ _ _ _ (Agr.below bb) hkv⟩ ⟨kv', rfl, KidsV.nice _ _ _ _ _ _ (Agr.below bb) hkv'⟩)
        have HQ := show Hid _ from hq
        have j0 := fun X => ext_cell c0 X
        have j1 := fun X => ext_cell c1 X
        have j2 := fun X => ext_cell c2 X
        have i0 := fun X => ext_cell d0 X
        have i1 := fun X => ext_cell d1 X
        have i2 := fun X => ext_cell d2 X
        clear hkv hkv' hq c0 c1 c2 d0 d1 d2
        cases q
        · go_wp2_with fail
          refine wp_region_ext (by kernel_rfl) (by kernel_rfl) ?_
          repeat (any_goals (first | go_big_quiet_step (((go_at_call 24; exact HC3.out _))) | quiet_step (((go_at_call 24; exact HC3.out _)))))
          refine wpQuiet_nil ?_
          rintro _ ⟨X, rfl⟩
          go_wp2_with fail
          go_ret
          exact ⟨ret_bool (sameEs_at hlt hlt2 HQ.out.symm).symm, HB.out.trans ((ext_below wr X).mono HB.out.size)⟩
        · go_wp2_with fail
          refine wp_region_ext (by kernel_rfl) (by kernel_rfl) ?_
          repeat (any_goals (first | go_big_quiet_step (((go_at_call 24; exact HC3.out _))) | quiet_step (((go_at_call 24; exact HC3.out _)))))
          refine wpQuiet_nil ?_
          rintro _ ⟨X, rfl⟩
          go_wp2_with fail
          exact ⟨⟨k + 1, by omega, by go_num, take_eq_succ HT.out hlt hlt2 ((sameE_eq _ _).1 HQ.out.symm), HB.out.trans ((ext_below wr X).mono HB.out.size)⟩, by simp [intOf]; omega⟩
      · have hge : ¬ ((k : Int) < (ks.length : Int)) := by omega
        go_wp2_with fail
        go_ret
        exact ⟨ret_bool (by rw [take_eq_all HT.out (by omega) (by have := HL.out; omega)]; exact ((sameEs_eq _ _).2 rfl).symm), HB.out⟩
  · have hne : ((ks.length : Int) == (ls.length : Int)) = false := by simp; omega
    have HL := show Hid _ from hl
    clear hl
    go_enter Try.func78, Try.ntmps78
    go_wp2
    go_ret
    exact ⟨ret_bool (sameEs_len HL.out).symm, Below.refl _ _⟩

set_option maxHeartbeats 1000000 in
theorem eqExpr_all (e : LExpr) : EqE e := by
  refine LExpr.ind (P := EqE) (fun k n ks ih => ?_) e
  intro φ φ' v u e' w h h'
  obtain ⟨kv, rfl, hk⟩ := h
  obtain ⟨ku, rfl, hk'⟩ := h'
  simp only [LExpr.kind, LExpr.value, LExpr.kids] at hk ⊢
  cases e' with
  | mk k' n' ks' =>
  have HS : Hid (sameE ⟨k, n, ks⟩ ⟨k', n', ks'⟩ = (decide (k = k') && decide (n = n') && sameEs ks ks')) := rfl
  simp only [LExpr.kind, LExpr.value, LExpr.kids] at hk' ⊢
  obtain ⟨W, hW, M⟩ : ∃ W, W = (w.alloc (.cells #[.int .i64 k, .int .i64 n, kv] 41)).alloc (.cells #[.int .i64 k', .int .i64 n', ku] 41) ∧ Mem (fun _ => True) (fun _ => True) w W [.box w.heap.size [.int .i64 k, .int .i64 n, kv], .box (w.heap.size + 1) [.int .i64 k', .int .i64 n', ku]] :=
    ⟨_, rfl, ((Mem.start fun _ _ => trivial).box _ _).box' _ _ (by simp)⟩
  have HK := show Hid (KidsV W φ kv ks ∧ KidsV W φ' ku ks') from ⟨KidsV.nice _ _ _ _ _ _ (Agr.below (M.below fun _ _ => trivial)) hk, KidsV.nice _ _ _ _ _ _ (Agr.below (M.below fun _ _ => trivial)) hk'⟩
  have HB := show Hid _ from M.below fun _ _ => trivial
  have c0 := M.c 0 0 rfl rfl
  have c1 := M.c 0 1 rfl rfl
  have c2 := M.c 0 2 rfl rfl
  have d0 := M.c 1 0 rfl rfl
  have d1 := M.c 1 1 rfl rfl
  have d2 := M.c 1 2 rfl rfl
  rw [hW] at c0 c1 c2 d0 d1 d2
  clear hk hk' M
  by_cases q0 : k = k'
  · have p0 : (k == k') = true := by simp [q0]
    by_cases q1 : n = n'
    · have p1 : (n == n') = true := by simp [q1]
      have Q := show Hid _ from And.intro q0 q1
      clear q0 q1
      go_enter Try.func24, Try.ntmps24
      go_wp2_with fail
      rw [← hW]
      clear hW c0 c1 c2 d0 d1 d2
      refine (eqExprS_of ks ih φ φ' kv ku ks' _ HK.out.1 HK.out.2).mono ?_
      rintro x w1 ⟨rfl, b1⟩
      have B1 := show Hid _ from HB.out.trans (b1.mono HB.out.size)
      obtain ⟨q, hq⟩ : ∃ q, q = sameEs ks ks' := ⟨_, rfl⟩
      rw [← hq]
      have HQ := show Hid _ from hq
      clear hq
      cases q
      · go_wp2_with fail
        go_ret
        exact ⟨ret_bool (by rw [HS.out, ← HQ.out]; simp), B1.out⟩
      · go_wp2_with fail
        go_ret
        exact ⟨ret_bool (by rw [HS.out, ← HQ.out]; simp [Q.out.1, Q.out.2]), B1.out⟩
    · have p1 : (n == n') = false := by simp [q1]
      have Q := show Hid _ from q1
      clear q0 q1
      go_enter Try.func24, Try.ntmps24
      go_wp2_with fail
      go_ret
      exact ⟨ret_bool (by rw [HS.out, show decide (n = n') = false from decide_eq_false Q.out]; simp), by rw [← hW]; exact HB.out⟩
  · have p0 : (k == k') = false := by simp [q0]
    have Q := show Hid _ from q0
    clear q0
    go_enter Try.func24, Try.ntmps24
    go_wp2_with fail
    go_ret
    exact ⟨ret_bool (by rw [HS.out, show decide (k = k') = false from decide_eq_false Q.out]; simp), by rw [← hW]; exact HB.out⟩

def EqS (e : LStmt) : Prop := ∀ (φ φ' : Nat → Prop) (v u : Value) (e' : LStmt) (w : World), StmtV w φ v e → StmtV w φ' u e' →
  Calls Try.prog 135 #[v, u] w fun x w' => x = .returned (.bool (sameS e e')) ∧ Below w.heap.size w w'

set_option maxHeartbeats 1000000 in
theorem eqStmtS_of (ks : List LStmt) (ih : ∀ e ∈ ks, EqS e) (φ φ' : Nat → Prop) (v u : Value) (ls : List LStmt) (w : World) (h : BlockV w φ v ks) (h' : BlockV w φ' u ls) :
    Calls Try.prog 71 #[v, u] w fun x w' => x = .returned (.bool (sameSs ks ls)) ∧ Below w.heap.size w w' := by
  obtain ⟨a, cap, rfl, -, hn, -, hc⟩ := h.open
  obtain ⟨a', cap', rfl, -, hn', -, hc'⟩ := h'.open
  have HC := show Hid _ from hc
  have HC' := show Hid _ from hc'
  clear hc hc' h h'
  by_cases hl : ks.length = ls.length
  · have heq : ((ks.length : Int) == (ls.length : Int)) = true := by simp; omega
    have HL := show Hid _ from hl
    clear hl
    go_enter Try.func71, Try.ntmps71
    go_wp2
    go_loopw [5] (fun i wr => ∃ k : Nat, k ≤ ks.length ∧ i = .int .i64 k ∧ ks.take k = ls.take k ∧ Below w.heap.size w wr) (fun i _ => ks.length - (intOf i).toNat)
    case atStart => exact ⟨0, Nat.zero_le _, rfl, rfl, Below.refl _ _⟩
    case round =>
      obtain ⟨k, hk, rfl, ht, hb⟩ := hrel
      have HT := show Hid _ from ht
      have HB := show Hid _ from hb
      clear ht hb
      by_cases hlt : k < ks.length
      · have hlt2 : k < ls.length := by have := HL.out; omega
        obtain ⟨b, off, iv, vv, bv, ev, rfl, hbk, hf, ⟨c0, c1, c2, c3, c4, c5, c6, c7, c8, c9, c10⟩, g1, g2, g3, g4⟩ := HC.out k hlt
        obtain ⟨b', off', iv', vv', bv', ev', rfl, hbk', hf', ⟨d0, d1, d2, d3, d4, d5, d6, d7, d8, d9, d10⟩, g1', g2', g3', g4'⟩ := HC'.out k hlt2
        rw [← (bcell HB.out).1 _ _ hbk] at c0 c1 c2 c3 c4 c5 c6 c7 c8 c9 c10
        rw [← (bcell HB.out).1 _ _ hbk'] at d0 d1 d2 d3 d4 d5 d6 d7 d8 d9 d10
        obtain ⟨q, hq⟩ : ∃ q, q = sameS ks[k] ls[k] := ⟨_, rfl⟩
        have HC3 : Hid (∀ X, Calls Try.prog 135 #[.agg #[.int .i64 ks[k].kind, .int .i64 ks[k].target, .int .i64 ks[k].index.kind, .int .i64 ks[k].index.value, iv, .int .i64 ks[k].value.kind, .int .i64 ks[k].value.value, vv, .int .i64 ks[k].count, bv, ev], .agg #[.int .i64 ls[k].kind, .int .i64 ls[k].target, .int .i64 ls[k].index.kind, .int .i64 ls[k].index.value, iv', .int .i64 ls[k].value.kind, .int .i64 ls[k].value.value, vv', .int .i64 ls[k].count, bv', ev']] (wr.ext X) fun e w'' => e = .returned (.bool q) ∧ ∃ Y, w'' = wr.ext Y) := fun X => by
          have bb := HB.out.trans ((ext_below wr X).mono HB.out.size)
          rw [hq]
          exact Calls.ext_of' (ih _ (List.getElem_mem hlt) φ φ' _ _ _ _ (StmtV.nice _ _ _ _ _ _ (Agr.below bb) ⟨iv, vv, bv, ev, rfl, g1, g2, g3, g4⟩) (StmtV.nice _ _ _ _ _ _ (Agr.below bb) ⟨iv', vv', bv', ev', rfl, g1', g2', g3', g4'⟩))
        have HQ := show Hid _ from hq
        have j0 := fun X => ext_cell c0 X
        have j1 := fun X => ext_cell c1 X
        have j2 := fun X => ext_cell c2 X
        have j3 := fun X => ext_cell c3 X
        have j4 := fun X => ext_cell c4 X
        have j5 := fun X => ext_cell c5 X
        have j6 := fun X => ext_cell c6 X
        have j7 := fun X => ext_cell c7 X
        have j8 := fun X => ext_cell c8 X
        have j9 := fun X => ext_cell c9 X
        have j10 := fun X => ext_cell c10 X
        have i0 := fun X => ext_cell d0 X
        have i1 := fun X => ext_cell d1 X
        have i2 := fun X => ext_cell d2 X
        have i3 := fun X => ext_cell d3 X
        have i4 := fun X => ext_cell d4 X
        have i5 := fun X => ext_cell d5 X
        have i6 := fun X => ext_cell d6 X
        have i7 := fun X => ext_cell d7 X
        have i8 := fun X => ext_cell d8 X
        have i9 := fun X => ext_cell d9 X
        have i10 := fun X => ext_cell d10 X
        clear g1 g2 g3 g4 g1' g2' g3' g4' hq c0 d0 c1 d1 c2 d2 c3 d3 c4 d4 c5 d5 c6 d6 c7 d7 c8 d8 c9 d9 c10 d10
        cases q
        · go_wp2_with fail
          refine wp_region_ext (by kernel_rfl) (by kernel_rfl) ?_
          repeat (any_goals (first | go_big_quiet_step (((go_at_call 135; exact HC3.out _))) | quiet_step (((go_at_call 135; exact HC3.out _)))))
          refine wpQuiet_nil ?_
          rintro _ ⟨X, rfl⟩
          go_wp2_with fail
          go_ret
          exact ⟨ret_bool (sameSs_at hlt hlt2 HQ.out.symm).symm, HB.out.trans ((ext_below wr X).mono HB.out.size)⟩
        · go_wp2_with fail
          refine wp_region_ext (by kernel_rfl) (by kernel_rfl) ?_
          repeat (any_goals (first | go_big_quiet_step (((go_at_call 135; exact HC3.out _))) | quiet_step (((go_at_call 135; exact HC3.out _)))))
          refine wpQuiet_nil ?_
          rintro _ ⟨X, rfl⟩
          go_wp2_with fail
          exact ⟨⟨k + 1, by omega, by go_num, take_eq_succ HT.out hlt hlt2 ((sameS_eq _ _).1 HQ.out.symm), HB.out.trans ((ext_below wr X).mono HB.out.size)⟩, by simp [intOf]; omega⟩
      · have hge : ¬ ((k : Int) < (ks.length : Int)) := by omega
        go_wp2_with fail
        go_ret
        exact ⟨ret_bool (by rw [take_eq_all HT.out (by omega) (by have := HL.out; omega)]; exact ((sameSs_eq _ _).2 rfl).symm), HB.out⟩
  · have hne : ((ks.length : Int) == (ls.length : Int)) = false := by simp; omega
    have HL := show Hid _ from hl
    clear hl
    go_enter Try.func71, Try.ntmps71
    go_wp2
    go_ret
    exact ⟨ret_bool (sameSs_len HL.out).symm, Below.refl _ _⟩

theorem bool_of {a b : Bool} (h : a = b) : b = a := h.symm
set_option maxHeartbeats 4000000 in
theorem eqStmt_all (s : LStmt) : EqS s := by
  refine LStmt.ind (P := EqS) (fun k t i v c b e ihb ihe => ?_) s
  intro φ φ' x u s' w h h'
  obtain ⟨iv, vv, bv, ev, rfl, g1, g2, g3, g4⟩ := h
  obtain ⟨iv', vv', bv', ev', rfl, g1', g2', g3', g4'⟩ := h'
  cases s' with
  | mk k' t' i' v' c' b' e' =>
  have HS : Hid (sameS ⟨k, t, i, v, c, b, e⟩ ⟨k', t', i', v', c', b', e'⟩ = (decide (k = k') && decide (t = t') && sameE i i' && sameE v v' && decide (c = c') && sameSs b b' && sameSs e e')) := rfl
  simp only [LStmt.index, LStmt.value, LStmt.body, LStmt.els, LStmt.kind, LStmt.target, LStmt.count] at g1 g2 g3 g4 g1' g2' g3' g4' ⊢
  obtain ⟨W, hW, M⟩ : ∃ W, W = (w.alloc (.cells #[.int .i64 k, .int .i64 t, .int .i64 i.kind, .int .i64 i.value, iv, .int .i64 v.kind, .int .i64 v.value, vv, .int .i64 c, bv, ev] 135)).alloc (.cells #[.int .i64 k', .int .i64 t', .int .i64 i'.kind, .int .i64 i'.value, iv', .int .i64 v'.kind, .int .i64 v'.value, vv', .int .i64 c', bv', ev'] 135) ∧ Mem (fun _ => True) (fun _ => True) w W [.box w.heap.size [.int .i64 k, .int .i64 t, .int .i64 i.kind, .int .i64 i.value, iv, .int .i64 v.kind, .int .i64 v.value, vv, .int .i64 c, bv, ev], .box (w.heap.size + 1) [.int .i64 k', .int .i64 t', .int .i64 i'.kind, .int .i64 i'.value, iv', .int .i64 v'.kind, .int .i64 v'.value, vv', .int .i64 c', bv', ev']] :=
    ⟨_, rfl, ((Mem.start fun _ _ => trivial).box _ _).box' _ _ (by simp)⟩
  have HG := show Hid (∀ W', Below w.heap.size w W' → ExprV W' φ (.agg #[.int .i64 i.kind, .int .i64 i.value, iv]) i ∧ ExprV W' φ (.agg #[.int .i64 v.kind, .int .i64 v.value, vv]) v ∧ BlockV W' φ bv b ∧ BlockV W' φ ev e) from fun W' k =>
    ⟨⟨iv, rfl, KidsV.nice _ _ _ _ _ _ (Agr.below k) g1⟩, ⟨vv, rfl, KidsV.nice _ _ _ _ _ _ (Agr.below k) g2⟩, BlockV.nice _ _ _ _ _ _ (Agr.below k) g3, BlockV.nice _ _ _ _ _ _ (Agr.below k) g4⟩
  have HG' := show Hid (∀ W', Below w.heap.size w W' → ExprV W' φ' (.agg #[.int .i64 i'.kind, .int .i64 i'.value, iv']) i' ∧ ExprV W' φ' (.agg #[.int .i64 v'.kind, .int .i64 v'.value, vv']) v' ∧ BlockV W' φ' bv' b' ∧ BlockV W' φ' ev' e') from fun W' k =>
    ⟨⟨iv', rfl, KidsV.nice _ _ _ _ _ _ (Agr.below k) g1'⟩, ⟨vv', rfl, KidsV.nice _ _ _ _ _ _ (Agr.below k) g2'⟩, BlockV.nice _ _ _ _ _ _ (Agr.below k) g3', BlockV.nice _ _ _ _ _ _ (Agr.below k) g4'⟩
  clear g1 g2 g3 g4 g1' g2' g3' g4'
  have c0 := M.c 0 0 rfl rfl
  have d0 := M.c 1 0 rfl rfl
  have c1 := M.c 0 1 rfl rfl
  have d1 := M.c 1 1 rfl rfl
  have c2 := M.c 0 2 rfl rfl
  have d2 := M.c 1 2 rfl rfl
  have c3 := M.c 0 3 rfl rfl
  have d3 := M.c 1 3 rfl rfl
  have c4 := M.c 0 4 rfl rfl
  have d4 := M.c 1 4 rfl rfl
  rw [hW] at c0 d0 c1 d1 c2 d2 c3 d3 c4 d4
  have HB0 := show Hid _ from M.below fun _ _ => trivial
  have HM := show Hid _ from M
  clear M
  by_cases q0 : k = k'
  rotate_left
  · have p0 : (k == k') = false := by simp [q0]
    have Q := show Hid _ from q0
    clear q0
    go_enter Try.func135, Try.ntmps135
    go_wp2_with fail
    go_ret
    exact ⟨ret_bool (by rw [HS.out, show decide (k = k') = false from decide_eq_false Q.out]; simp), by rw [← hW]; exact HB0.out⟩
  have p0 : (k == k') = true := by simp [q0]
  by_cases q1 : t = t'
  rotate_left
  · have p1 : (t == t') = false := by simp [q1]
    have Q := show Hid _ from q1
    clear q0 q1
    go_enter Try.func135, Try.ntmps135
    go_wp2_with fail
    go_ret
    exact ⟨ret_bool (by rw [HS.out, show decide (t = t') = false from decide_eq_false Q.out]; simp), by rw [← hW]; exact HB0.out⟩
  have p1 : (t == t') = true := by simp [q1]
  have Q0 := show Hid _ from And.intro q0 q1
  clear q0 q1
  go_enter Try.func135, Try.ntmps135
  go_wp2_with fail
  rw [← hW]
  have M := HM.out
  clear hW HM p0 p1 c0 d0 c1 d1 c2 d2 c3 d3 c4 d4
  refine (eqExpr_all i φ φ' _ _ i' _ (HG.out _ (M.below fun _ _ => trivial)).1 (HG'.out _ (M.below fun _ _ => trivial)).1).mono ?_
  rintro x w1 ⟨rfl, b1⟩
  replace M := M.call b1
  clear b1
  obtain ⟨r1, hq⟩ : ∃ q, q = sameE i i' := ⟨_, rfl⟩
  rw [← hq]
  have Hr1 := show Hid _ from hq
  clear hq
  have HB := show Hid _ from M.below fun _ _ => trivial
  have c5 := M.c 0 5 rfl rfl
  have d5 := M.c 1 5 rfl rfl
  have c6 := M.c 0 6 rfl rfl
  have d6 := M.c 1 6 rfl rfl
  have c7 := M.c 0 7 rfl rfl
  have d7 := M.c 1 7 rfl rfl
  have HM := show Hid _ from M
  clear M
  cases r1
  · go_wp2_with fail
    go_ret
    exact ⟨ret_bool (by rw [HS.out, ← Hr1.out]; simp), HB.out⟩
  go_wp2_with fail
  have M := HM.out
  clear HM HB c5 d5 c6 d6 c7 d7
  refine (eqExpr_all v φ φ' _ _ v' _ (HG.out _ (M.below fun _ _ => trivial)).2.1 (HG'.out _ (M.below fun _ _ => trivial)).2.1).mono ?_
  rintro x w1 ⟨rfl, b1⟩
  replace M := M.call b1
  clear b1
  obtain ⟨r2, hq⟩ : ∃ q, q = sameE v v' := ⟨_, rfl⟩
  rw [← hq]
  have Hr2 := show Hid _ from hq
  clear hq
  have HB := show Hid _ from M.below fun _ _ => trivial
  have c8 := M.c 0 8 rfl rfl
  have d8 := M.c 1 8 rfl rfl
  have c9 := M.c 0 9 rfl rfl
  have d9 := M.c 1 9 rfl rfl
  have HM := show Hid _ from M
  clear M
  cases r2
  · go_wp2_with fail
    go_ret
    exact ⟨ret_bool (by rw [HS.out, ← Hr2.out]; simp), HB.out⟩
  by_cases q4 : c = c'
  rotate_left
  · have p4 : (c == c') = false := by simp [q4]
    have Q := show Hid _ from q4
    clear q4
    go_wp2_with fail
    go_ret
    exact ⟨ret_bool (by rw [HS.out, show decide (c = c') = false from decide_eq_false Q.out]; simp), HB.out⟩
  have p4 : (c == c') = true := by simp [q4]
  have Q4 := show Hid _ from q4
  clear q4
  go_wp2_with fail
  have M := HM.out
  clear HM HB p4 c8 d8 c9 d9
  refine (eqStmtS_of b ihb φ φ' bv bv' b' _ (HG.out _ (M.below fun _ _ => trivial)).2.2.1 (HG'.out _ (M.below fun _ _ => trivial)).2.2.1).mono ?_
  rintro x w1 ⟨rfl, b1⟩
  replace M := M.call b1
  clear b1
  obtain ⟨r3, hq⟩ : ∃ q, q = sameSs b b' := ⟨_, rfl⟩
  rw [← hq]
  have Hr3 := show Hid _ from hq
  clear hq
  have HB := show Hid _ from M.below fun _ _ => trivial
  have c10 := M.c 0 10 rfl rfl
  have d10 := M.c 1 10 rfl rfl
  have HM := show Hid _ from M
  clear M
  cases r3
  · go_wp2_with fail
    go_ret
    exact ⟨ret_bool (by rw [HS.out, ← Hr3.out]; simp), HB.out⟩
  go_wp2_with fail
  have M := HM.out
  clear HM HB c10 d10
  refine (eqStmtS_of e ihe φ φ' ev ev' e' _ (HG.out _ (M.below fun _ _ => trivial)).2.2.2 (HG'.out _ (M.below fun _ _ => trivial)).2.2.2).mono ?_
  rintro x w1 ⟨rfl, b1⟩
  replace M := M.call b1
  clear b1
  obtain ⟨r4, hq⟩ : ∃ q, q = sameSs e e' := ⟨_, rfl⟩
  rw [← hq]
  have Hr4 := show Hid _ from hq
  clear hq
  have HB := show Hid _ from M.below fun _ _ => trivial
  have HM := show Hid _ from M
  clear M
  cases r4
  · go_wp2_with fail
    go_ret
    exact ⟨ret_bool (by rw [HS.out, ← Hr4.out]; simp), HB.out⟩
  go_wp2_with fail
  go_ret
  exact ⟨ret_bool (by rw [HS.out, ← Hr1.out, ← Hr2.out, ← Hr3.out, ← Hr4.out, decide_eq_true Q0.out.1, decide_eq_true Q0.out.2, decide_eq_true Q4.out]; rfl), HB.out⟩

set_option maxHeartbeats 2000000 in
theorem eqProgram_any (φ φ' : Nat → Prop) (x u : Value) (p q : LProg) (w : World) (h : ProgV w φ x p) (h' : ProgV w φ' u q) :
    Calls Try.prog 19 #[x, u] w fun e w' => e = .returned (.bool (p.same q)) ∧ Below w.heap.size w w' := by
  obtain ⟨v1, v2, v3, rfl, h1, h2, h3⟩ := h
  obtain ⟨u1, u2, u3, rfl, k1, k2, k3⟩ := h'
  have HS : Hid (p.same q = (decide (p.vars = q.vars) && decide (p.arrays = q.arrays) && sameSs p.body q.body)) := rfl
  obtain ⟨W, hW, M⟩ : ∃ W, W = (w.alloc (.cells #[v1, v2, v3] 31)).alloc (.cells #[u1, u2, u3] 31) ∧ Mem (fun _ => True) (fun _ => True) w W [.box w.heap.size [v1, v2, v3], .box (w.heap.size + 1) [u1, u2, u3]] :=
    ⟨_, rfl, ((Mem.start fun _ _ => trivial).box _ _).box' _ _ (by simp)⟩
  have HG := show Hid (∀ W', Below w.heap.size w W' → (Row W' v1 p.vars.length 1 (ints p.vars) ∧ Row W' v2 p.arrays.length 1 (ints p.arrays) ∧ BlockV W' φ v3 p.body) ∧ (Row W' u1 q.vars.length 1 (ints q.vars) ∧ Row W' u2 q.arrays.length 1 (ints q.arrays) ∧ BlockV W' φ' u3 q.body)) from fun W' k =>
    ⟨⟨h1.row.below k, h2.row.below k, BlockV.nice _ _ _ _ _ _ (Agr.below k) h3⟩, k1.row.below k, k2.row.below k, BlockV.nice _ _ _ _ _ _ (Agr.below k) k3⟩
  clear h1 h2 h3 k1 k2 k3
  have c0 := M.c 0 0 rfl rfl
  have d0 := M.c 1 0 rfl rfl
  rw [hW] at c0 d0
  have HM := show Hid _ from M
  clear M
  go_enter Try.func19, Try.ntmps19
  go_wp2_with fail
  rw [← hW]
  have M := HM.out
  clear hW HM c0 d0
  refine (eqIntS_any _ _ p.vars q.vars _ (HG.out _ (M.below fun _ _ => trivial)).1.1 (HG.out _ (M.below fun _ _ => trivial)).2.1).mono ?_
  rintro x w1 ⟨rfl, n1, rfl⟩
  replace M := M.call (below_drewN (Below.refl _ _) n1)
  obtain ⟨r1, hq⟩ : ∃ r, r = decide (p.vars = q.vars) := ⟨_, rfl⟩
  rw [← hq]
  have Hr1 := show Hid _ from hq
  clear hq
  have HB := show Hid _ from M.below fun _ _ => trivial
  have c1 := M.c 0 1 rfl rfl
  have d1 := M.c 1 1 rfl rfl
  have HM := show Hid _ from M
  clear M
  cases r1
  · go_wp2_with fail
    go_ret
    exact ⟨ret_bool (by rw [HS.out, ← Hr1.out]; simp), HB.out⟩
  go_wp2_with fail
  have M := HM.out
  clear HM HB c1 d1
  refine (eqIntS_any _ _ p.arrays q.arrays _ (HG.out _ (M.below fun _ _ => trivial)).1.2.1 (HG.out _ (M.below fun _ _ => trivial)).2.2.1).mono ?_
  rintro x w1 ⟨rfl, n2, rfl⟩
  replace M := M.call (below_drewN (Below.refl _ _) n2)
  rw [World.drewN_drewN] at M
  obtain ⟨r2, hq⟩ : ∃ r, r = decide (p.arrays = q.arrays) := ⟨_, rfl⟩
  rw [← hq]
  have Hr2 := show Hid _ from hq
  clear hq
  have HB := show Hid _ from M.below fun _ _ => trivial
  have c2 := M.c 0 2 rfl rfl
  have d2 := M.c 1 2 rfl rfl
  have HM := show Hid _ from M
  clear M
  cases r2
  · go_wp2_with fail
    go_ret
    exact ⟨ret_bool (by rw [HS.out, ← Hr2.out]; simp), HB.out⟩
  go_wp2_with fail
  have M := HM.out
  clear HM HB c2 d2
  refine (eqStmtS_of p.body (fun s _ => eqStmt_all s) φ φ' v3 u3 q.body _ (HG.out _ (M.below fun _ _ => trivial)).1.2.2 (HG.out _ (M.below fun _ _ => trivial)).2.2.2).mono ?_
  rintro x w1 ⟨rfl, b1⟩
  replace M := M.call b1
  clear b1
  obtain ⟨r3, hq⟩ : ∃ r, r = sameSs p.body q.body := ⟨_, rfl⟩
  rw [← hq]
  have Hr3 := show Hid _ from hq
  clear hq
  have HB := show Hid _ from M.below fun _ _ => trivial
  clear M
  cases r3
  · go_wp2_with fail
    go_ret
    exact ⟨ret_bool (by rw [HS.out, ← Hr3.out]; simp), HB.out⟩
  go_wp2_with fail
  go_ret
  exact ⟨ret_bool (by rw [HS.out, ← Hr1.out, ← Hr2.out, ← Hr3.out]; rfl), HB.out⟩

end Go.Proofs.Ytgpkdfefgcpbiaa

namespace Go.Proofs.Ytgpkdfefgcpbiaa
set_option linter.unusedVariables false
set_option linter.unusedSimpArgs false
open Go Go.RowKit

theorem c_szProgram (p : LProg) (m : Int) (hm : 0 ≤ m) (hm2 : m ≤ 1048576) : Ctr.ok Try.prog (fnC 15 [pA 0, iA m] (pS p) (iA (szRes m p.size))) :=
  old_ok fun φ w ρ h => szProgram_any φ _ p m w ⟨ρ 0, ρ 1, ρ 2, rfl, h 0 _ rfl, h 1 _ rfl, h 2 _ rfl⟩ hm hm2
theorem c_eqProgram (p q : LProg) : Ctr.ok Try.prog (fnC 19 [pA 0, pA 3] (pS p ++ pS q) (bA (p.same q))) :=
  old_ok fun φ w ρ h => eqProgram_any φ φ _ _ p q w ⟨ρ 0, ρ 1, ρ 2, rfl, h 0 _ rfl, h 1 _ rfl, h 2 _ rfl⟩ ⟨ρ 3, ρ 4, ρ 5, rfl, h 3 _ rfl, h 4 _ rfl, h 5 _ rfl⟩

/-- A contract of before that hands back a new program: three new slices. -/
theorem new_prog {P : Program} {f : FuncId} {args : List AV} {S : List It} {q : LProg} (hS : S.all (fun x => ltAll S.length x.ids) = true)
    (h : ∀ (φ : Nat → Prop) (w : World) (ρ : Nat → Value), (∀ i d, lst S i = .dat d → RD w φ d (ρ i)) → Calls P f (AV.vals ρ args).toArray w fun e w' => ∃ v1 v2 v3, e = .returned (.agg #[v1, v2, v3]) ∧ ProgV w' (fun b => w.heap.size ≤ b) (.agg #[v1, v2, v3]) q ∧ Below w.heap.size w w') :
    Ctr.ok P ⟨f, args, S, S ++ pS q, pA S.length⟩ := by
  intro ι φ ψ w0 w F ρ M
  refine (h (FrF φ (lay F ρ (lst S))) w ρ fun i d hi => M.datAt hi).mono ?_
  rintro e w' ⟨v1, v2, v3, rfl, hp, hb⟩
  have M1 := M.call hb
  obtain ⟨u1, u2, u3, hu, h1, h2, h3⟩ := hp
  cases hu
  have ha : Agr (fun b => w.heap.size ≤ b) (FrF φ (lay F ρ (lst S))) w' w' := Agr.mono fun b _ hf => M.frFresh b hf
  have hx : XHs w' (FrF φ (lay F ρ (lst S))) [.sl (.ints q.vars), .sl (.ints q.arrays), .sl (.stmts q.body)] [v1, v2, v3] :=
    ⟨RD.nice (.ints q.vars) _ _ _ _ _ ha h1, RD.nice (.ints q.arrays) _ _ _ _ _ ha h2, RD.nice (.stmts q.body) _ _ _ _ _ ha h3, trivial⟩
  have hlen : ∀ j, S.length ≤ j → lst S j = .none := fun j hj => by simp only [lst, List.getD_eq_getElem?_getD, List.getElem?_eq_none hj]; rfl
  obtain ⟨ρ', g1, M2, g2⟩ := MemF.dats [.sl (.ints q.vars), .sl (.ints q.arrays), .sl (.stmts q.body)] [v1, v2, v3] S.length M1 hx (fun j hj => hlen j (by simp [xnew] at hj; omega)) (fun ρ' ha j => by
    by_cases hj : j < S.length
    · refine It.res_congr _ (fun k hk => ha k ?_) (.inr (.inr (ha j (by simp [xnew]; omega))))
      have h1 := ltAll_iff (List.all_eq_true.1 hS (S[j]) (List.getElem_mem hj)) k (by simpa [lst, List.getD_eq_getElem?_getD, List.getElem?_eq_getElem hj] using hk)
      simp [xnew]; omega
    · rw [hlen j (by omega)]; rfl)
  have e : updS (lst S) (xnew [.sl (.ints q.vars), .sl (.ints q.arrays), .sl (.stmts q.body)] S.length) = lst (S ++ pS q) := by
    funext j
    simp only [xnew, updS, lst, List.getD_eq_getElem?_getD]
    by_cases h0 : j = S.length
    · subst h0; simp
    by_cases h1 : j = S.length + 1
    · subst h1
      rw [if_neg (by omega), if_pos rfl, List.getElem?_append_right (by omega), show S.length + 1 - S.length = 1 by omega]; rfl
    by_cases h2 : j = S.length + 1 + 1
    · subst h2
      rw [if_neg (by omega), if_neg (by omega), if_pos rfl, List.getElem?_append_right (by omega), show S.length + 1 + 1 - S.length = 2 by omega]; rfl
    rw [if_neg h0, if_neg h1, if_neg h2]
    by_cases hj : j < S.length
    · rw [List.getElem?_append_left hj]
    · rw [List.getElem?_eq_none (by omega), List.getElem?_eq_none (by simp; omega)]
  rw [e] at M2
  refine ⟨ρ', fun k hk => g1 k (by have hk : k < S.length := hk; simp [xnew]; omega), ?_, M2⟩
  simp only [xav, AV.vals, AV.val, List.cons.injEq, and_true] at g2
  obtain ⟨rfl, rfl, rfl⟩ := g2
  rfl
theorem c_toProgram (p : LProg) (hb : p.size ≤ 1048576) : Ctr.ok Try.prog ⟨17, [pA 0], pS p, pS p ++ pS p, pA 3⟩ :=
  new_prog (S := pS p) (q := p) rfl fun φ w ρ h => (toProgram_any φ _ p w ⟨ρ 0, ρ 1, ρ 2, rfl, h 0 _ rfl, h 1 _ rfl, h 2 _ rfl⟩ hb).mono fun e w' ⟨a1, k1, a2, k2, a3, k3, S, e1, e2, e3, e4⟩ => ⟨_, _, _, e1, e2.read fun b hb => (e3 b hb).1, e4⟩

/-- A law over one program, told as before. -/
theorem prog_law {P : Program} {f : FuncId} {x : Value} {p : LProg} {post : List It} (hc : Ctr.ok P ⟨f, [pA 0], pS p, post, .v x⟩) (u : Value) (w : World) (hp : ProgV w (fun _ => True) u p) :
    Calls P f #[u] w fun e w' => e = .returned x ∧ Below w.heap.size w w' := by
  obtain ⟨v1, v2, v3, rfl, h1, h2, h3⟩ := hp
  have M0 : MemF (fun _ => True) (fun _ => True) w w (lay (fun _ : Empty => Rs.none) (fun _ => undef) (lst [])) := by
    refine (MemF.start (ι := Empty ⊕ Nat) (w0 := w) (φ := fun _ => True) (ψ := fun _ => True) fun _ _ => trivial).map (fun k => some k) (fun k k' i a b => by cases a; cases b; rfl) fun k => ?_
    cases k with
    | inl e => exact e.elim
    | inr j => exact .inr rfl
  have ha : Agr (fun _ => True) (FrF (fun _ => True) (lay (fun _ : Empty => Rs.none) (fun _ => undef) (lst []))) w w := Agr.mono fun b _ _ => ⟨trivial, fun i => by
    cases i with
    | inl e => exact e.elim
    | inr j => exact fun h => h.elim⟩
  obtain ⟨ρ', g1, M2, g2⟩ := MemF.dats [.sl (.ints p.vars), .sl (.ints p.arrays), .sl (.stmts p.body)] [v1, v2, v3] 0 M0
    ⟨RD.nice (.ints p.vars) _ _ _ _ _ ha h1, RD.nice (.ints p.arrays) _ _ _ _ _ ha h2, RD.nice (.stmts p.body) _ _ _ _ _ ha h3, trivial⟩ (fun _ _ => rfl) (fun _ _ _ => rfl)
  have e : updS (lst []) (xnew [.sl (.ints p.vars), .sl (.ints p.arrays), .sl (.stmts p.body)] 0) = lst (pS p) := by
    funext j
    match j with
    | 0 => rfl
    | 1 => rfl
    | 2 => rfl
    | j + 3 => simp [xnew, updS, lst]
  rw [e] at M2
  simp only [xav, AV.vals, AV.val, List.cons.injEq, and_true] at g2
  obtain ⟨rfl, rfl, rfl⟩ := g2
  refine (hc Empty _ _ w w _ ρ' M2).mono ?_
  rintro e w' ⟨ρ2, -, rfl, M3⟩
  exact ⟨rfl, M3.below fun _ _ => trivial⟩

end Go.Proofs.Ytgpkdfefgcpbiaa

namespace Go.Proofs.Ytgpkdfefgcpbiaa
set_option linter.unusedVariables false
set_option linter.unusedSimpArgs false
open Go Go.RowKit

def HeldSs (ss : List LStmt) : Prop := ∀ (φ : Nat → Prop) (v : Value) (k : Int) (w : World), BlockV w φ v (mkSs ss k) → 0 ≤ k → k + mkN ss ≤ 9000000000000000000 →
  Calls Try.prog 88 #[v, .int .i64 k] w fun x w' => x = .returned (.int .i64 (k + mkN ss)) ∧ Below w.heap.size w w'

set_option maxRecDepth 100000 in
set_option maxHeartbeats 4000000 in
theorem heldStmtS_of (ks : List LStmt) (ih : ∀ s ∈ ks, HeldSs s.body ∧ HeldSs s.els) : HeldSs ks := by
  intro φ v k0 w h hk0 hkb
  obtain ⟨a, cap, rfl, -, hn, -, hc⟩ := h.open
  rw [mkSs_len] at hn ⊢
  have HC := show Hid _ from hc
  have HKB := show Hid _ from hkb
  clear hc h hkb
  go_enter Try.func88, Try.ntmps88
  go_wp2_with fail
  go_loopw [1, 5] (fun q i wr => ∃ (j : Nat) (y : Int), j ≤ ks.length ∧ i = .int .i64 j ∧ q = .int .i64 y ∧ y = k0 + mkN (ks.take j) ∧ Below w.heap.size w wr) (fun _ i _ => ks.length - (intOf i).toNat)
  case atStart => exact ⟨0, k0, Nat.zero_le _, rfl, rfl, by simp [mkN], Below.refl _ _⟩
  case round =>
    obtain ⟨j, y, hj, rfl, rfl, hy, hb⟩ := hrel
    have HY := show Hid _ from hy
    have HB := show Hid _ from hb
    clear hy hb
    by_cases hlt : j < ks.length
    · obtain ⟨b, off, iv, vv, bv, ev, rfl, hbk, hf, hcell, g1, g2, g3, g4⟩ := HC.out j (by rw [mkSs_len]; exact hlt)
      have hge := mkSs_get ks k0 j hlt
      rw [← HY.out, List.getElem?_eq_getElem (by rw [mkSs_len]; exact hlt)] at hge
      rw [Option.some.inj hge] at hcell g1 g2 g3 g4
      have hih := ih _ (List.getElem_mem hlt)
      have ht1 := mkN_take1 hlt
      have hdr := mkN_drop ks (j + 1)
      obtain ⟨s, hsj⟩ : ∃ s, s = ks[j] := ⟨_, rfl⟩
      rw [← hsj] at hcell g1 g2 g3 g4 hih ht1
      have hdef := mkN1_def s
      have hnb := (mkN_nonneg s.body).1
      have hne := (mkN_nonneg s.els).1
      have hnt := (mkN_nonneg (ks.take j)).1
      have hnd := (mkN_nonneg (ks.drop (j + 1))).1
      obtain ⟨A, hA⟩ : ∃ A : Int, A = 2 * szEs s.index.kids := ⟨_, rfl⟩
      obtain ⟨B, hB⟩ : ∃ B : Int, B = 2 * szEs s.value.kids := ⟨_, rfl⟩
      obtain ⟨C, hC⟩ : ∃ C : Int, C = mkN s.body := ⟨_, rfl⟩
      obtain ⟨D, hD⟩ : ∃ D : Int, D = mkN s.els := ⟨_, rfl⟩
      have hA0 : 0 ≤ A := by omega
      have hB0 : 0 ≤ B := by omega
      have hC0 : 0 ≤ C := by omega
      have hD0 : 0 ≤ D := by omega
      have hy0 : 0 ≤ y := by have := HY.out; omega
      have hy1 : y + 7 + A + B + C + D ≤ 9000000000000000000 := by have := HY.out; have := HKB.out; omega
      have hyn : y + 7 + A + B + C + D = k0 + mkN (ks.take (j + 1)) := by have := HY.out; omega
      rw [mkS_def s y A B hA hB, ← hC] at hcell g1 g2 g3 g4
      simp only [LStmt.kind, LStmt.target, LStmt.index, LStmt.value, LStmt.count, LStmt.body, LStmt.els, LExpr.kind, LExpr.value, LExpr.kids] at hcell g1 g2 g3 g4
      have HCC := show Hid (∀ W, Below w.heap.size w W → ∀ o, W.cell? ⟨b, o, none⟩ = w.cell? ⟨b, o, none⟩) from fun W hW o => (bcell hW).1 _ _ hbk
      have HG := show Hid _ from And.intro g1 (And.intro g2 (And.intro g3 g4))
      have HE := show Hid _ from And.intro hA (And.intro hB (And.intro hC hD))
      have HIH := show Hid _ from hih
      have HYN := show Hid _ from hyn
      have HCE := show Hid _ from hcell
      clear hih hA hB hC hD hcell g1 g2 g3 g4 hge ht1 hdr hdef hnb hne hnt hnd hsj hyn
      obtain ⟨c0, c1, c2, c3, c4, c5, c6, c7, c8, c9, c10⟩ := HCE.out
      rw [← HCC.out _ HB.out] at c0 c1 c2 c3 c4
      clear c5 c6 c7 c8 c9 c10
      go_wp2_with fail
      clear c0 c1 c2 c3 c4
      refine (heldExprS_all s.index.kids φ iv (y + 1 + 1 + 1 + 1) _ (KidsV.nice _ _ _ _ _ _ (Agr.below HB.out) HG.out.1) (by omega) (by have := HE.out.1; omega)).mono ?_
      rintro x w1 ⟨rfl, b1⟩
      rw [← HE.out.1]
      have B1 := show Hid _ from HB.out.trans (b1.mono HB.out.size)
      clear b1
      obtain ⟨c0, c1, c2, c3, c4, c5, c6, c7, c8, c9, c10⟩ := HCE.out
      rw [← HCC.out _ B1.out] at c5 c6 c7
      clear c0 c1 c2 c3 c4 c8 c9 c10
      go_wp2_with fail
      clear c5 c6 c7
      refine (heldExprS_all s.value.kids φ vv (y + 1 + 1 + 1 + 1 + A + 1 + 1) _ (KidsV.nice _ _ _ _ _ _ (Agr.below B1.out) HG.out.2.1) (by omega) (by have := HE.out.2.1; omega)).mono ?_
      rintro x w2 ⟨rfl, b1⟩
      rw [← HE.out.2.1]
      have B2 := show Hid _ from B1.out.trans (b1.mono B1.out.size)
      clear b1
      obtain ⟨c0, c1, c2, c3, c4, c5, c6, c7, c8, c9, c10⟩ := HCE.out
      rw [← HCC.out _ B2.out] at c8 c9
      clear c0 c1 c2 c3 c4 c5 c6 c7 c10
      go_wp2_with fail
      clear c8 c9
      refine (HIH.out.1 φ bv (y + 1 + 1 + 1 + 1 + A + 1 + 1 + B + 1) _ (BlockV.nice _ _ _ _ _ _ (Agr.below B2.out) HG.out.2.2.1) (by omega) (by have := HE.out.2.2.1; omega)).mono ?_
      rintro x w3 ⟨rfl, b1⟩
      rw [← HE.out.2.2.1]
      have B3 := show Hid _ from B2.out.trans (b1.mono B2.out.size)
      clear b1
      obtain ⟨c0, c1, c2, c3, c4, c5, c6, c7, c8, c9, c10⟩ := HCE.out
      rw [← HCC.out _ B3.out] at c10
      clear c0 c1 c2 c3 c4 c5 c6 c7 c8 c9
      go_wp2_with fail
      clear c10
      refine (HIH.out.2 φ ev (y + 1 + 1 + 1 + 1 + A + 1 + 1 + B + 1 + C) _ (BlockV.nice _ _ _ _ _ _ (Agr.below B3.out) HG.out.2.2.2) (by omega) (by have := HE.out.2.2.2; omega)).mono ?_
      rintro x w4 ⟨rfl, b1⟩
      rw [← HE.out.2.2.2]
      have B4 := show Hid _ from B3.out.trans (b1.mono B3.out.size)
      clear b1
      obtain ⟨z, hz⟩ : ∃ z : Int, z = y + 1 + 1 + 1 + 1 + A + 1 + 1 + B + 1 + C + D := ⟨_, rfl⟩
      have HZ := show Hid _ from hz
      rw [← hz]
      have hz0 : 0 ≤ z := by omega
      have hz1 : z ≤ 9000000000000000000 := by omega
      clear hz hy1
      go_wp2_with fail
      exact ⟨⟨j + 1, _, by omega, by go_num, rfl, by have := HZ.out; have := HYN.out; omega, B4.out⟩, by simp [intOf]; omega⟩
    · have hjn : j = ks.length := by omega
      subst hjn
      go_wp2_with fail
      go_ret
      exact ⟨ret_int (by have := HY.out; rw [List.take_of_length_le (Nat.le_refl _)] at this; exact this), HB.out⟩
theorem heldStmtS_all (s : LStmt) : HeldSs s.body ∧ HeldSs s.els :=
  LStmt.ind (P := fun s => HeldSs s.body ∧ HeldSs s.els) (fun _ _ _ _ _ b e ihb ihe => ⟨heldStmtS_of b ihb, heldStmtS_of e ihe⟩) s
theorem heldStmtS_any (ks : List LStmt) : HeldSs ks := heldStmtS_of ks fun s _ => heldStmtS_all s

theorem markIntS_row (v : Value) (xs : List Int) (K : Nat) (w : World) (h : w.ownsRow 0 3 1 v xs.length (ints xs)) (hK : K + xs.length ≤ 9000000000000000000) :
    Calls Try.prog 34 #[v, .int .i64 K] w fun e w' => e = .returned (.int .i64 (K + xs.length : Nat)) ∧ w'.ownsRow 0 3 1 v xs.length (ints (marksI K xs.length)) ∧ Kept (fun b => ¬ v.ownBlock = some b) w w' := by
  obtain ⟨lo, hi, _, _, ho, hb⟩ := (Own.mk' h).tight
  refine (markIntS_any v xs K lo hi w ho hK).mono ?_
  rintro e w1 ⟨rfl, h1, h2⟩
  refine ⟨rfl, owns_base h1.1 (Nat.zero_le _), h2.os, h2.tape, h2.output, h2.size, fun b hb1 hb2 => h2.block b hb1 ?_⟩
  rcases Nat.lt_or_ge b lo with h3 | h3
  · exact .inl h3
  · rcases Nat.lt_or_ge b hi with h4 | h4
    · exact absurd (hb b h3 h4) hb2
    · exact .inr h4
/-- A call that turns a row of ints. -/
theorem Mem.turnRow {φ ψ : Nat → Prop} {w0 w w' : World} {L : List Res} (M : Mem φ ψ w0 w L) (i : Nat) {e : TypeId} {sz : Nat} {v : Value} {n : Nat} {xs xs' : List Value} (hi : L[i]? = some (.row e sz v n xs)) (hk : Kept (fun b => ¬ v.ownBlock = some b) w w') (h : w'.ownsRow 0 e sz v n xs') : Mem φ ψ w0 w' (L.set i (.row e sz v n xs')) :=
  M.put hi _ hk h fun _ hg => .inl hg

/-- The marks of a program. -/
def mkP (p : LProg) (k : Nat) : LProg := ⟨marksI k p.vars.length, marksI (k + p.vars.length) p.arrays.length, mkSs p.body ((k + p.vars.length + p.arrays.length : Nat) : Int)⟩
def mkPN (p : LProg) : Int := p.vars.length + p.arrays.length + mkN p.body

set_option maxHeartbeats 1000000 in
theorem markProgram_any (v : Value) (p : LProg) (k : Nat) (w : World) (S : Nat → Prop) (h : ProgO w v p S) (hb : k + mkPN p ≤ 9000000000000000000) :
    Calls Try.prog 25 #[v, .int .i64 k] w fun x w' => x = .returned (.int .i64 (k + mkPN p)) ∧ ProgO w' v (mkP p k) S ∧ Kept (fun b => ¬ S b) w w' := by
  obtain ⟨v1, v2, v3, S3, rfl, h1, h2, h3, d1, d2, d3⟩ := h
  have hnn := (mkN_nonneg p.body).1
  have hbb : (k : Int) + p.vars.length + p.arrays.length + mkN p.body ≤ 9000000000000000000 := by unfold mkPN at hb; omega
  obtain ⟨W, hW, M⟩ : ∃ W, W = w.alloc (.cells #[v1, v2, v3] 31) ∧ Mem (fun _ => True) (fun b => ¬ S b) w W [.box w.heap.size [v1, v2, v3], .row 3 1 v1 p.vars.length (ints p.vars), .row 3 1 v2 p.arrays.length (ints p.arrays), .own (fun b => S3 b ∧ b < w.heap.size) (fun w' => BlockO w' v3 p.body (fun b => S3 b ∧ b < w.heap.size))] := by
    refine ⟨_, rfl, (((((Mem.start fun _ _ => trivial).box [v1, v2, v3] 31).adopt (.row 3 1 v1 p.vars.length (ints p.vars)) ?_ trivial (owns_same h1 fun g hg => ?_) ?_ ?_).adopt (.row 3 1 v2 p.arrays.length (ints p.arrays)) ?_ trivial (owns_same h2 fun g hg => ?_) ?_ ?_).adopt (.own (fun b => S3 b ∧ b < w.heap.size) (fun w' => BlockO w' v3 p.body (fun b => S3 b ∧ b < w.heap.size))) ?_ trivial ⟨fun _ _ h hs => BlockO.same h hs, h3.cut.same fun b hb hl => ?_, fun b hb => ?_⟩ ?_ ?_)⟩
    · intro a ha; simp at ha; subst ha; trivial
    · exact (Below.refl _ _ |>.alloc (Nat.le_refl _) _).block g (World.ownsRow.lt h1 g hg).2
    · intro a ha g hg h; simp at ha; subst ha; cases h; have := (World.ownsRow.lt h1 _ hg).2; omega
    · intro g hg hn; exact hn (d1 g hg).1
    · intro a ha; simp at ha; rcases ha with rfl | rfl <;> trivial
    · exact (Below.refl _ _ |>.alloc (Nat.le_refl _) _).block g (World.ownsRow.lt h2 g hg).2
    · intro a ha g hg h; simp at ha; rcases ha with rfl | rfl
      · cases h; have := (World.ownsRow.lt h2 _ hg).2; omega
      · exact (d1 g h).2.2 hg
    · intro g hg hn; exact hn (d2 g hg).1
    · intro a ha; simp at ha; rcases ha with rfl | rfl | rfl <;> trivial
    · exact (Below.refl _ _ |>.alloc (Nat.le_refl _) _).block b hb.2
    · simp; have := hb.2; omega
    · intro a ha g hg h; simp at ha; rcases ha with rfl | rfl | rfl
      · cases h; have := hg.2; omega
      · exact (d1 g h).2.1 hg.1
      · exact (d2 g h).2 hg.1
    · intro g hg hn; exact hn (d3 g hg.1)
  have HD := show Hid _ from And.intro d1 (And.intro d2 d3)
  clear h1 h2 h3 d1 d2 d3
  have c0 := M.c 0 0 rfl rfl
  rw [hW] at c0
  go_enter Try.func25, Try.ntmps25
  go_wp2_with fail
  rw [← hW]
  clear hW c0
  refine (markIntS_row v1 p.vars k _ (M.r 1 rfl) (by omega)).mono ?_
  rintro x w1 ⟨rfl, k1, kp1⟩
  replace M := M.turnRow 1 rfl kp1 k1
  clear k1 kp1
  have c1 := M.c 0 1 rfl rfl
  have HM := show Hid _ from M
  clear M
  go_wp2_with fail
  have M := HM.out
  clear HM c1
  refine (markIntS_row v2 p.arrays (k + p.vars.length) _ (M.r 2 rfl) (by omega)).mono ?_
  rintro x w2 ⟨rfl, k1, kp1⟩
  replace M := M.turnRow 2 rfl kp1 k1
  clear k1 kp1
  have c2 := M.c 0 2 rfl rfl
  have HM := show Hid _ from M
  clear M
  go_wp2_with fail
  have M := HM.out
  clear HM c2
  refine (markStmtS_any p.body v3 ((k + p.vars.length + p.arrays.length : Nat) : Int) _ _ (M.o 3 rfl) (by omega) (by omega)).mono ?_
  rintro x w3 ⟨rfl, k1, kp1⟩
  replace M := M.turn 3 rfl kp1 (fun _ _ h hs => BlockO.same h hs) k1
  clear k1 kp1
  have HM := show Hid _ from M
  clear M
  go_wp2_with fail
  go_ret
  have M := HM.out
  obtain ⟨d1, d2, d3⟩ := HD.out
  refine ⟨ret_int (by unfold mkPN; omega), ⟨v1, v2, v3, S3, rfl, ?_, ?_, (show BlockO _ v3 (mkSs p.body _) _ from M.o 3 rfl).mono fun _ h => h.1, d1, d2, d3⟩, M.kept⟩
  · rw [show (mkP p k).vars = marksI k p.vars.length from rfl, marksI_len]; exact M.r 1 rfl
  · rw [show (mkP p k).arrays = marksI (k + p.vars.length) p.arrays.length from rfl, marksI_len]; exact M.r 2 rfl

set_option maxHeartbeats 1000000 in
theorem heldProgram_any (φ : Nat → Prop) (v : Value) (p : LProg) (k : Nat) (w : World) (h : ProgV w φ v (mkP p k)) (hb : k + mkPN p ≤ 9000000000000000000) :
    Calls Try.prog 30 #[v, .int .i64 k] w fun x w' => x = .returned (.int .i64 (k + mkPN p)) ∧ Below w.heap.size w w' := by
  obtain ⟨v1, v2, v3, rfl, h1, h2, h3⟩ := h
  rw [show (mkP p k).vars = marksI k p.vars.length from rfl, marksI_len] at h1
  rw [show (mkP p k).arrays = marksI (k + p.vars.length) p.arrays.length from rfl, marksI_len] at h2
  have hnn := (mkN_nonneg p.body).1
  have hbb : (k : Int) + p.vars.length + p.arrays.length + mkN p.body ≤ 9000000000000000000 := by unfold mkPN at hb; omega
  obtain ⟨W, hW, M⟩ : ∃ W, W = w.alloc (.cells #[v1, v2, v3] 31) ∧ Mem (fun _ => True) (fun _ => True) w W [.box w.heap.size [v1, v2, v3]] :=
    ⟨_, rfl, (Mem.start fun _ _ => trivial).box _ _⟩
  have HG := show Hid (∀ W', Below w.heap.size w W' → Row W' v1 p.vars.length 1 (ints (marksI k p.vars.length)) ∧ Row W' v2 p.arrays.length 1 (ints (marksI (k + p.vars.length) p.arrays.length)) ∧ BlockV W' φ v3 (mkSs p.body ((k + p.vars.length + p.arrays.length : Nat) : Int))) from fun W' k =>
    ⟨h1.row.below k, h2.row.below k, BlockV.nice _ _ _ _ _ _ (Agr.below k) h3⟩
  clear h1 h2 h3
  have c0 := M.c 0 0 rfl rfl
  have c1 := M.c 0 1 rfl rfl
  have c2 := M.c 0 2 rfl rfl
  have HB0 := show Hid _ from M.below fun _ _ => trivial
  clear M
  rw [hW] at c0
  go_enter Try.func30, Try.ntmps30
  go_wp2_with fail
  rw [← hW]
  clear hW c0
  refine (heldIntS_any v1 p.vars.length k _ (HG.out _ HB0.out).1 (by omega)).mono ?_
  rintro x w1 ⟨rfl, n1, rfl⟩
  go_wp2_with fail
  have B1 := show Hid _ from below_drewN HB0.out n1
  refine (heldIntS_any v2 p.arrays.length (k + p.vars.length) _ (HG.out _ B1.out).2.1 (by omega)).mono ?_
  rintro x w2 ⟨rfl, n2, rfl⟩
  go_wp2_with fail
  have B2 := show Hid _ from below_drewN HB0.out (n1 + n2)
  have hcast : ((k + p.vars.length + p.arrays.length : Nat) : Int) = (k : Int) + p.vars.length + p.arrays.length := by omega
  have HBB : BlockV (W.drewN (n1 + n2)) φ v3 (mkSs p.body ((k : Int) + p.vars.length + p.arrays.length)) := by rw [← hcast]; exact (HG.out _ B2.out).2.2
  clear hcast
  refine (heldStmtS_any p.body φ v3 ((k : Int) + p.vars.length + p.arrays.length) _ HBB (by omega) (by omega)).mono ?_
  rintro x w3 ⟨rfl, b1⟩
  have HB := show Hid _ from B2.out.trans (b1.mono B2.out.size)
  clear b1 HBB
  have hn1 : ¬ ((k : Int) + p.vars.length + p.arrays.length + mkN p.body < 0) := by omega
  go_wp2_with fail
  go_ret
  exact ⟨ret_int (by unfold mkPN; omega), HB.out⟩

end Go.Proofs.Ytgpkdfefgcpbiaa

namespace Go.Proofs.Ytgpkdfefgcpbiaa
set_option linter.unusedVariables false
set_option linter.unusedSimpArgs false
open Go Go.RowKit

section
variable {P : Program} {ι κ : Type} {φ ψ : Nat → Prop} {w0 w w' : World} {F : ι → Rs} {ρ ρ0 : Nat → Value}
/-- Some of what is owned has turned, in its own blocks. -/
theorem MemF.turns {L L' : κ → Rs} (M : MemF φ ψ w0 w L) (hblk : ∀ k b, (L' k).blk b ↔ (L k).blk b) (K : κ → Prop) (ho : ∀ k, ¬ K k → L' k = L k) (hk : Kept (fun b => ¬ ∃ k, K k ∧ (L k).blk b) w w') (h : ∀ k, K k → (L' k).holds w' (FrF φ L')) : MemF φ ψ w0 w' L' := by
  have hfr : ∀ b, FrF φ L b → FrF φ L' b := fun b hb => ⟨hb.1, fun k hk => hb.2 k ((hblk k b).1 hk)⟩
  refine ⟨⟨hk.os.trans M.kept.os, hk.tape.trans M.kept.tape, hk.output.trans M.kept.output, Nat.le_trans M.size hk.size, fun b hb hp => (hk.block b (Nat.lt_of_lt_of_le hb M.size) ?_).trans (M.kept.block b hb hp)⟩, M.fresh, fun k => ?_, fun i j g hij h1 h2 => M.dis i j g hij ((hblk i g).1 h1) ((hblk j g).1 h2), fun i b hb => M.ge i b ((hblk i b).1 hb), fun i b hb => M.ph i b ((hblk i b).1 hb)⟩
  · rintro ⟨k, _, h2⟩
    rcases M.ge k b h2 with h | h
    · omega
    · exact h hp
  · by_cases e : K k
    · exact h k e
    · rw [ho k e]
      refine Rs.keep (M.holds k) ⟨hk.size, fun b hb hf => ⟨hfr b hf, hk.block b hb fun ⟨j, _, h2⟩ => hf.2 j h2⟩⟩ fun g hg => hk.block g (M.lt hg) ?_
      rintro ⟨j, h1, h2⟩
      exact M.dis j k g (fun h => e (h ▸ h1)) h2 hg
/-- New things, in new blocks. -/
theorem MemF.grow {L L' : κ → Rs} (M : MemF φ ψ w0 w L) (hb : Below w.heap.size w w') (K : κ → Prop) (ho : ∀ k, ¬ K k → L' k = L k) (hg : ∀ k, K k → ∀ b, (L' k).blk b → w.heap.size ≤ b) (hd : ∀ j k b, j ≠ k → K j → K k → (L' j).blk b → ¬ (L' k).blk b) (h : ∀ k, K k → (L' k).holds w' (FrF φ L')) : MemF φ ψ w0 w' L' := by
  have M1 := M.call hb
  have old : ∀ k, ¬ K k → ∀ b, (L' k).blk b → b < w.heap.size := fun k hk b h1 => by rw [ho k hk] at h1; exact M.lt h1
  refine ⟨M1.kept, M.fresh, fun k => ?_, fun i j g hij h1 h2 => ?_, fun i b h1 => ?_, fun i b h1 => ?_⟩
  · by_cases e : K k
    · exact h k e
    · rw [ho k e]
      refine Rs.keep (M.holds k) ⟨hb.size, fun b hl hf => ⟨⟨hf.1, fun j hj => ?_⟩, hb.block b hl⟩⟩ fun g hgx => hb.block g (M.lt hgx)
      by_cases e2 : K j
      · have := hg j e2 b hj; omega
      · rw [ho j e2] at hj; exact hf.2 j hj
  · by_cases e1 : K i <;> by_cases e2 : K j
    · exact hd i j g hij e1 e2 h1 h2
    · have := hg i e1 g h1; have := old j e2 g h2; omega
    · have := hg j e2 g h2; have := old i e1 g h1; omega
    · rw [ho i e1] at h1; rw [ho j e2] at h2; exact M.dis i j g hij h1 h2
  · by_cases e : K i
    · exact .inl (Nat.le_trans M.size (hg i e b h1))
    · rw [ho i e] at h1; exact M.ge i b h1
  · by_cases e : K i
    · exact M.fresh b (Nat.le_trans M.size (hg i e b h1))
    · rw [ho i e] at h1; exact M.ph i b h1
end

abbrev oP (p : LProg) : List It := [.row 3 (.ints p.vars), .row 3 (.ints p.arrays), .tree (.stmts p.body)]
abbrev oA (r : Nat) : AV := .agg [.ref r, .ref (r + 1), .tref (r + 2)]
theorem row_holds {w : World} {φ : Nat → Prop} {v : Value} {l : List Int} (h : w.ownsRow 0 3 1 v l.length (ints l)) : (Rs.row 3 (D.ints l).sz v (D.ints l).len fun xs w φ => RW w φ (.ints l) xs).holds w φ := by
  refine ⟨fun xs => RW.nice (.ints l) xs, ints l, h, fun i hi j x hx => ?_⟩
  have hi' : i < l.length := hi
  simp only [D.elem] at hx
  have hj : j = 0 := by
    cases j with
    | zero => rfl
    | succ j => simp at hx
  subst hj
  simp at hx
  subst hx
  refine ⟨_, ?_, rfl⟩
  simp only [D.sz]
  rw [Nat.mul_one, Nat.add_zero]
  simp [ints, hi']
theorem row_of {w : World} {φ : Nat → Prop} {v : Value} {l : List Int} (h : (Rs.row 3 (D.ints l).sz v (D.ints l).len fun xs w φ => RW w φ (.ints l) xs).holds w φ) : w.ownsRow 0 3 1 v l.length (ints l) := by
  obtain ⟨_, xs, h1, h2⟩ := h
  have h3 : xs.length = l.length := by have := h1.1; simpa [D.len, D.sz] using this
  rw [rw_ints h3 h2] at h1
  exact h1

theorem t_toProgram (p : LProg) (hb : p.size ≤ 1048576) : Ctr.ok Try.prog ⟨17, [pA 0], pS p, pS p ++ oP p, oA 3⟩ := by
  intro ι φ ψ w0 w F ρ M
  refine (toProgram_any (FrF φ (lay F ρ (lst (pS p)))) _ p w ⟨ρ 0, ρ 1, ρ 2, rfl, M.datAt (id := 0) rfl, M.datAt (id := 1) rfl, M.datAt (id := 2) rfl⟩ hb).mono ?_
  rintro e w' ⟨a1, k1, a2, k2, a3, k3, S, rfl, hO, hS, hbl⟩
  obtain ⟨v1, v2, v3, S3, hv, h1, h2, h3, d1, d2, d3⟩ := hO
  cases hv
  obtain ⟨z, hz1, hz2⟩ := enc_exists (.slice a3 p.body.length k3) (fun b => S3 b ∧ b < w'.heap.size) w'.heap.size fun b h => h.2
  refine ⟨fun i => if i = 3 then .slice a1 p.vars.length k1 else if i = 4 then .slice a2 p.arrays.length k2 else if i = 5 then z else ρ i, fun i hi => ?_, ?_, ?_⟩
  · have : i < 3 := hi
    simp only [if_neg (show ¬ i = 3 by omega), if_neg (show ¬ i = 4 by omega), if_neg (show ¬ i = 5 by omega)]
  · simp [AV.val, AV.vals, hz1]
  · have hlt : ∀ j, 6 ≤ j → lst (pS p ++ oP p) j = .none ∧ lst (pS p) j = .none := fun j hj => ⟨lst_out (by simp; omega), lst_out (by simp; omega)⟩
    refine M.grow hbl (fun k => k = .inr 3 ∨ k = .inr 4 ∨ k = .inr 5) (fun k hk => ?_) ?_ ?_ ?_
    · cases k with
      | inl i => rfl
      | inr j =>
        have n3 : j ≠ 3 := fun e => hk (.inl (by rw [e]))
        have n4 : j ≠ 4 := fun e => hk (.inr (.inl (by rw [e])))
        have n5 : j ≠ 5 := fun e => hk (.inr (.inr (by rw [e])))
        match j, n3, n4, n5 with
        | 0, _, _, _ => rfl
        | 1, _, _, _ => rfl
        | 2, _, _, _ => rfl
        | 3, h, _, _ => exact absurd rfl h
        | 4, _, h, _ => exact absurd rfl h
        | 5, _, _, h => exact absurd rfl h
        | j + 6, _, _, _ => simp only [lay, (hlt (j + 6) (by omega)).1, (hlt (j + 6) (by omega)).2]; rfl
    · rintro k (rfl | rfl | rfl) b hbk
      · exact (hS b (d1 b hbk).1).1
      · exact (hS b (d2 b hbk).1).1
      · exact (hS b (d3 b ((hz2 b).1 hbk).1)).1
    · have x1 : ∀ b, (Value.slice a1 p.vars.length k1).ownBlock = some b → ¬ (Value.slice a2 p.arrays.length k2).ownBlock = some b := fun b hb => (d1 b hb).2.2
      rintro j k b hjk (rfl | rfl | rfl) (rfl | rfl | rfl) hj hk
      · exact hjk rfl
      · exact (d1 b hj).2.2 hk
      · exact (d1 b hj).2.1 ((hz2 b).1 hk).1
      · exact (d1 b hk).2.2 hj
      · exact hjk rfl
      · exact (d2 b hj).2 ((hz2 b).1 hk).1
      · exact (d1 b hk).2.1 ((hz2 b).1 hj).1
      · exact (d2 b hk).2 ((hz2 b).1 hj).1
      · exact hjk rfl
    · rintro k (rfl | rfl | rfl)
      · exact row_holds h1
      · exact row_holds h2
      · have e : blksOf z = fun b => S3 b ∧ b < w'.heap.size := funext fun b => propext (hz2 b)
        show (Rs.own (blksOf z) fun w => TreeO w (blksOf z) (.stmts p.body) (valOf z)).holds _ _
        rw [hz1, e]
        exact ⟨fun _ _ h hs => h.same hs, (TreeO.block.2 h3).cut, fun b hb => hb.2⟩

theorem c_markProgram (p : LProg) (k : Nat) (hb : k + mkPN p ≤ 9000000000000000000) : Ctr.ok Try.prog ⟨25, [oA 0, iA k], oP p, oP (mkP p k), iA (k + mkPN p)⟩ := by
  intro ι φ ψ w0 w F ρ M
  have r1 := row_of (M.holds (.inr 0))
  have r2 := row_of (M.holds (.inr 1))
  have r3 := (M.holds (.inr 2)).2.1
  have hO : ProgO w (.agg #[ρ 0, ρ 1, valOf (ρ 2)]) p (fun b => (ρ 0).ownBlock = some b ∨ (ρ 1).ownBlock = some b ∨ blksOf (ρ 2) b) :=
    ⟨_, _, _, blksOf (ρ 2), rfl, r1, r2, TreeO.block.1 r3,
      fun g hg => ⟨.inl hg, fun h => M.dis (.inr 0) (.inr 2) g (by simp) hg h, fun h => M.dis (.inr 0) (.inr 1) g (by simp) hg h⟩,
      fun g hg => ⟨.inr (.inl hg), fun h => M.dis (.inr 1) (.inr 2) g (by simp) hg h⟩, fun b hb => .inr (.inr hb)⟩
  refine (markProgram_any _ p k w _ hO hb).mono ?_
  rintro e w' ⟨rfl, hO', hk⟩
  obtain ⟨v1, v2, v3, S3, hv, h1, h2, h3, d1, d2, d3⟩ := hO'
  cases hv
  have hS3 : ∀ b, S3 b → blksOf (ρ 2) b := fun b hb => by
    rcases d3 b hb with h | h | h
    · exact ((d1 b h).2.1 hb).elim
    · exact ((d2 b h).2 hb).elim
    · exact h
  refine ⟨ρ, fun _ _ => rfl, rfl, M.turns (fun k b => ?_) (fun k => k = .inr 0 ∨ k = .inr 1 ∨ k = .inr 2) (fun k hk => ?_) ?_ ?_⟩
  · cases k with
    | inl i => rfl
    | inr j =>
      match j with
      | 0 => exact Iff.rfl
      | 1 => exact Iff.rfl
      | 2 => exact Iff.rfl
      | j + 3 => simp only [lay]; rw [lst_out (show (oP (mkP p _)).length ≤ j + 3 by simp), lst_out (show (oP p).length ≤ j + 3 by simp)]
  · cases k with
    | inl i => rfl
    | inr j =>
      match j, hk with
      | 0, h => exact absurd (.inl rfl) h
      | 1, h => exact absurd (.inr (.inl rfl)) h
      | 2, h => exact absurd (.inr (.inr rfl)) h
      | j + 3, _ => simp only [lay]; rw [lst_out (show (oP (mkP p _)).length ≤ j + 3 by simp), lst_out (show (oP p).length ≤ j + 3 by simp)]
  · refine ⟨hk.os, hk.tape, hk.output, hk.size, fun b hb hn => hk.block b hb ?_⟩
    rintro (h | h | h)
    · exact hn ⟨_, .inl rfl, h⟩
    · exact hn ⟨_, .inr (.inl rfl), h⟩
    · exact hn ⟨_, .inr (.inr rfl), h⟩
  · rintro k (rfl | rfl | rfl)
    · exact row_holds h1
    · exact row_holds h2
    · exact ⟨fun _ _ h hs => h.same hs, TreeO.block.2 (h3.mono hS3), fun b hb => Nat.lt_of_lt_of_le (M.lt (i := .inr 2) hb) hk.size⟩

theorem c_heldProgram (p : LProg) (k : Nat) (hb : k + mkPN p ≤ 9000000000000000000) : Ctr.ok Try.prog (fnC 30 [pA 0, iA k] (pS (mkP p k)) (iA (k + mkPN p))) :=
  old_ok fun φ w ρ h => heldProgram_any φ _ p k w ⟨ρ 0, ρ 1, ρ 2, rfl, h 0 _ rfl, h 1 _ rfl, h 2 _ rfl⟩ hb

/-- A law over one program and a number, told as before. -/
theorem prog_lawI (n : Int) {P : Program} {f : FuncId} {x : Value} {p : LProg} {post : List It} (hc : Ctr.ok P ⟨f, [pA 0, iA n], pS p, post, .v x⟩) (u : Value) (w : World) (hp : ProgV w (fun _ => True) u p) :
    Calls P f #[u, .int .i64 n] w fun e w' => e = .returned x ∧ Below w.heap.size w w' := by
  obtain ⟨v1, v2, v3, rfl, h1, h2, h3⟩ := hp
  have M0 : MemF (fun _ => True) (fun _ => True) w w (lay (fun _ : Empty => Rs.none) (fun _ => undef) (lst [])) := by
    refine (MemF.start (ι := Empty ⊕ Nat) (w0 := w) (φ := fun _ => True) (ψ := fun _ => True) fun _ _ => trivial).map (fun k => some k) (fun k k' i a b => by cases a; cases b; rfl) fun k => ?_
    cases k with
    | inl e => exact e.elim
    | inr j => exact .inr rfl
  have ha : Agr (fun _ => True) (FrF (fun _ => True) (lay (fun _ : Empty => Rs.none) (fun _ => undef) (lst []))) w w := Agr.mono fun b _ _ => ⟨trivial, fun i => by
    cases i with
    | inl e => exact e.elim
    | inr j => exact fun h => h.elim⟩
  obtain ⟨ρ', g1, M2, g2⟩ := MemF.dats [.sl (.ints p.vars), .sl (.ints p.arrays), .sl (.stmts p.body)] [v1, v2, v3] 0 M0
    ⟨RD.nice (.ints p.vars) _ _ _ _ _ ha h1, RD.nice (.ints p.arrays) _ _ _ _ _ ha h2, RD.nice (.stmts p.body) _ _ _ _ _ ha h3, trivial⟩ (fun _ _ => rfl) (fun _ _ _ => rfl)
  have e : updS (lst []) (xnew [.sl (.ints p.vars), .sl (.ints p.arrays), .sl (.stmts p.body)] 0) = lst (pS p) := by
    funext j
    match j with
    | 0 => rfl
    | 1 => rfl
    | 2 => rfl
    | j + 3 => simp [xnew, updS, lst]
  rw [e] at M2
  simp only [xav, AV.vals, AV.val, List.cons.injEq, and_true] at g2
  obtain ⟨rfl, rfl, rfl⟩ := g2
  refine (hc Empty _ _ w w _ ρ' M2).mono ?_
  rintro e w' ⟨ρ2, -, rfl, M3⟩
  exact ⟨rfl, M3.below fun _ _ => trivial⟩

end Go.Proofs.Ytgpkdfefgcpbiaa

namespace Go.Proofs.Ytgpkdfefgcpbiaa
set_option linter.unusedVariables false
set_option linter.unusedSimpArgs false
open Go Go.RowKit

set_option maxRecDepth 100000 in
theorem clone_ints (v : Value) (t : List Int) (w : World) (h : Row w v t.length 1 (ints t)) (hb : t.length ≤ 1000000000000) :
    Calls Try.prog 109 #[v] w fun e w' => ∃ u, e = .returned u ∧ Own w' w.heap.size w'.heap.size 3 1 u t.length (ints t) ∧ Below w.heap.size w w' := by
  obtain ⟨a, cap, rfl, hc1, hc2, hc3, -⟩ := h.open
  have hnil := fun w => Lib.run_eql_slice_nil (P := Try.prog) w 22 3 a t.length cap 0 0 Try.underlying22
  rcases a with _ | a
  · have hn : t.length = 0 := by
      rcases Nat.eq_zero_or_pos t.length with h0 | h0
      · exact h0
      · obtain ⟨_, a, c, he, _, _, hx⟩ := h
        cases he
        obtain ⟨_, _, he, _⟩ := hx h0
        cases he
    have ht : t = [] := List.eq_nil_of_length_eq_zero hn
    subst ht
    simp only [List.length_nil, Option.isNone_none] at hnil
    go_enter Try.func109, Try.ntmps109
    go_wp2_with fail
    go_ret
    exact ⟨_, rfl, ⟨World.ownsRow_nil _ _ _ _, fun g hg => by cases hg⟩, Below.refl _ _⟩
  · go_enter Try.func109, Try.ntmps109
    simp only [Option.isNone_some] at hnil
    have ba := (Below.refl w.heap.size w).alloc (Nat.le_refl _) (.cells #[] 3)
    go_wp2_with (at_builtin; refine wpList_app rfl _ _ rfl Try.underlying22 infoI rfl (by omega) rfl (own_built w #[] 0 1 _ rfl rfl (by omega)).1 rfl (h.below ba) ints_one (by omega) (by omega) (by simp) ?_; rintro a4 q4 w4 o4 b4 - -)
    go_ret
    refine ⟨_, rfl, Own.mk' (by simpa using o4), ba.trans b4⟩

theorem c_cloneInts (l : List Int) (hb : l.length ≤ 1000000000000) : Ctr.ok Try.prog ⟨109, [.ref 0], [.dat (.ints l)], [.dat (.ints l), .row 3 (.ints l)], .ref 1⟩ := by
  intro ι φ ψ w0 w F ρ M
  have hr := M.datAt (id := 0) (d := .ints l) rfl
  refine (clone_ints (ρ 0) l w (RowF.row hr) hb).mono ?_
  rintro e w' ⟨u, rfl, ⟨ho, hg⟩, hbl⟩
  refine ⟨fun i => if i = 1 then u else ρ i, fun i hi => if_neg (show ¬ i = 1 by have : i < 1 := hi; omega), by simp [AV.val], ?_⟩
  refine M.grow hbl (fun k => k = .inr 1) (fun k hk => ?_) ?_ ?_ ?_
  · cases k with
    | inl i => rfl
    | inr j =>
      match j, hk with
      | 0, _ => rfl
      | 1, h => exact absurd rfl h
      | j + 2, _ => rfl
  · rintro k rfl b hb; exact (World.ownsRow.lt ho b hb).1
  · rintro j k b hjk rfl rfl; exact absurd rfl hjk
  · rintro k rfl; exact row_holds (owns_base ho (Nat.zero_le _))
end Go.Proofs.Ytgpkdfefgcpbiaa

namespace Go.Proofs.Ytgpkdfefgcpbiaa
set_option linter.unusedVariables false
set_option linter.unusedSimpArgs false
open Go Go.RowKit

set_option maxRecDepth 100000 in
theorem c_isNone (e : LExpr) : Ctr.ok Try.prog ⟨203, [.agg [.v (.int .i64 e.kind), .v (.int .i64 e.value), .ref 0]], [.dat (.exprs e.kids)], [.dat (.exprs e.kids)], .v (.bool (noneB e))⟩ := by
  refine rx_enter 17 Try.func203 (by rfl) (by kernel_rfl) (by kernel_rfl) ?_
  intro ι φ ψ w0 w F ρ0 ρ a G
  replace G := Gam.at G [dE e.kids] [(0, eA e 0)]
  refine wp_seq ?_
  refine rs0 G [0, 1] [dE e.kids, .box (eL e 0)] [(1, .ptr 1 0), (2, bA false)] ?_
  clear G; intro ρ a w G
  refine th_n ?_
  refine wp_seq ?_
  cases h0 : (e.kind == (0 : Int))
  ·
   have q0 : ¬ (e.kind = 0) := ne_of_beq_false h0
   refine rs1 (dk := dkP) G ⟨[], [(e.kind == (0 : Int), false), (false, false)], [(4, 0), (5, 0), (6, 0), (1007, 0), (9, 1), (10, 1), (11, 1), (12, 1), (1013, 1)]⟩ calls_nil ⟨(by assumption), (by kernel_rfl), trivial⟩ [0] [dE e.kids] [(2, bA false)] [] trivial ?_
   clear G; intro ρ a w G
   refine th_n ?_
   refine wp_ret ?_
   exact rx_ret (v := bA false) G [0] (by kernel_rfl) (by kernel_rfl) (by kernel_rfl) (by have e1 : (noneB e : Bool) = (false) := (by rw [Bool.eq_iff_iff]; simp [noneB, h0, q0]; done); first | (rw [e1]; done) | (rw [e1]; rfl) | (simp only [e1]; done) | (simp only [e1]; rfl))
  ·
   have q0 : e.kind = 0 := eq_of_beq h0
   cases h1 : (e.value == (0 : Int))
   ·
    have q1 : ¬ (e.value = 0) := ne_of_beq_false h1
    refine rs1 (dk := dkP) G ⟨[], [(e.kind == (0 : Int), true), (e.value == (0 : Int), false)], [(4, 0), (5, 0), (6, 0), (1007, 0), (9, 1), (10, 1), (11, 1), (12, 1), (1013, 1)]⟩ calls_nil ⟨(by assumption), (by assumption), trivial⟩ [0] [dE e.kids] [(2, bA false)] [] trivial ?_
    clear G; intro ρ a w G
    refine th_n ?_
    refine wp_ret ?_
    exact rx_ret (v := bA false) G [0] (by kernel_rfl) (by kernel_rfl) (by kernel_rfl) (by have e1 : (noneB e : Bool) = (false) := (by rw [Bool.eq_iff_iff]; simp [noneB, h0, q0, h1, q1]; done); first | (rw [e1]; done) | (rw [e1]; rfl) | (simp only [e1]; done) | (simp only [e1]; rfl))
   ·
    have q1 : e.value = 0 := eq_of_beq h1
    refine rs1 (dk := dkP) G ⟨[], [(e.kind == (0 : Int), true), (e.value == (0 : Int), true)], [(4, 0), (5, 0), (6, 0), (1007, 0), (9, 1), (10, 1), (11, 1), (12, 1), (1013, 1)]⟩ calls_nil ⟨(by assumption), (by assumption), trivial⟩ [0] [dE e.kids] [(2, bA ((↑e.kids.length : Int) == 0))] [] trivial ?_
    clear G; intro ρ a w G
    refine th_n ?_
    refine wp_ret ?_
    exact rx_ret (v := bA ((↑e.kids.length : Int) == 0)) G [0] (by kernel_rfl) (by kernel_rfl) (by kernel_rfl) (by have e1 : (noneB e : Bool) = ((↑e.kids.length : Int) == 0) := (by rw [Bool.eq_iff_iff]; simp [noneB, h0, q0, h1, q1]; done); first | (rw [e1]; done) | (rw [e1]; rfl) | (simp only [e1]; done) | (simp only [e1]; rfl))

set_option maxRecDepth 100000 in
theorem c_l2None (e : LExpr) : Ctr.ok Try.prog ⟨208, [.agg [.v (.int .i64 e.kind), .v (.int .i64 e.value), .ref 0]], [.dat (.exprs e.kids)], [.dat (.exprs e.kids)], .v (.bool (noneB e))⟩ := by
  refine rx_enter 17 Try.func208 (by rfl) (by kernel_rfl) (by kernel_rfl) ?_
  intro ι φ ψ w0 w F ρ0 ρ a G
  replace G := Gam.at G [dE e.kids] [(0, eA e 0)]
  refine wp_seq ?_
  refine rs0 G [0, 1] [dE e.kids, .box (eL e 0)] [(1, .ptr 1 0), (2, bA false)] ?_
  clear G; intro ρ a w G
  refine th_n ?_
  refine wp_seq ?_
  cases h0 : (e.kind == (0 : Int))
  ·
   have q0 : ¬ (e.kind = 0) := ne_of_beq_false h0
   refine rs1 (dk := dkP) G ⟨[], [(e.kind == (0 : Int), false), (false, false)], [(4, 0), (5, 0), (6, 0), (1007, 0), (9, 1), (10, 1), (11, 1), (12, 1), (1013, 1)]⟩ calls_nil ⟨(by assumption), (by kernel_rfl), trivial⟩ [0] [dE e.kids] [(2, bA false)] [] trivial ?_
   clear G; intro ρ a w G
   refine th_n ?_
   refine wp_ret ?_
   exact rx_ret (v := bA false) G [0] (by kernel_rfl) (by kernel_rfl) (by kernel_rfl) (by have e1 : (noneB e : Bool) = (false) := (by rw [Bool.eq_iff_iff]; simp [noneB, h0, q0]; done); first | (rw [e1]; done) | (rw [e1]; rfl) | (simp only [e1]; done) | (simp only [e1]; rfl))
  ·
   have q0 : e.kind = 0 := eq_of_beq h0
   cases h1 : (e.value == (0 : Int))
   ·
    have q1 : ¬ (e.value = 0) := ne_of_beq_false h1
    refine rs1 (dk := dkP) G ⟨[], [(e.kind == (0 : Int), true), (e.value == (0 : Int), false)], [(4, 0), (5, 0), (6, 0), (1007, 0), (9, 1), (10, 1), (11, 1), (12, 1), (1013, 1)]⟩ calls_nil ⟨(by assumption), (by assumption), trivial⟩ [0] [dE e.kids] [(2, bA false)] [] trivial ?_
    clear G; intro ρ a w G
    refine th_n ?_
    refine wp_ret ?_
    exact rx_ret (v := bA false) G [0] (by kernel_rfl) (by kernel_rfl) (by kernel_rfl) (by have e1 : (noneB e : Bool) = (false) := (by rw [Bool.eq_iff_iff]; simp [noneB, h0, q0, h1, q1]; done); first | (rw [e1]; done) | (rw [e1]; rfl) | (simp only [e1]; done) | (simp only [e1]; rfl))
   ·
    have q1 : e.value = 0 := eq_of_beq h1
    refine rs1 (dk := dkP) G ⟨[], [(e.kind == (0 : Int), true), (e.value == (0 : Int), true)], [(4, 0), (5, 0), (6, 0), (1007, 0), (9, 1), (10, 1), (11, 1), (12, 1), (1013, 1)]⟩ calls_nil ⟨(by assumption), (by assumption), trivial⟩ [0] [dE e.kids] [(2, bA ((↑e.kids.length : Int) == 0))] [] trivial ?_
    clear G; intro ρ a w G
    refine th_n ?_
    refine wp_ret ?_
    exact rx_ret (v := bA ((↑e.kids.length : Int) == 0)) G [0] (by kernel_rfl) (by kernel_rfl) (by kernel_rfl) (by have e1 : (noneB e : Bool) = ((↑e.kids.length : Int) == 0) := (by rw [Bool.eq_iff_iff]; simp [noneB, h0, q0, h1, q1]; done); first | (rw [e1]; done) | (rw [e1]; rfl) | (simp only [e1]; done) | (simp only [e1]; rfl))

set_option maxRecDepth 100000 in
theorem c_l2Arity (k : Int) : Ctr.ok Try.prog ⟨188, [.v (.int .i64 k)], [], [], .v (.int .i64 (arity k))⟩ := by
  refine rx_enter 23 Try.func188 (by rfl) (by kernel_rfl) (by kernel_rfl) ?_
  intro ι φ ψ w0 w F ρ0 ρ a G
  replace G := Gam.at G [] [(0, iA k)]
  refine wp_seq ?_
  refine rs0s G [(0, iA k), (2, iA 0)] ?_
  clear G; intro ρ a w G
  refine th_n ?_
  refine wp_seq ?_
  refine wp_block ?_
  refine wp_seq ?_
  cases h0 : (k == (1 : Int))
  ·
   have q0 : ¬ (k = 1) := ne_of_beq_false h0
   refine rs1s G ⟨[], [(k == (1 : Int), false)], [(3, 0), (4, 0), (1005, 0)]⟩ calls_nil ⟨(by assumption), trivial⟩ [(0, iA k), (2, iA 0), (3, bA (k == 2))] [] trivial ?_
   clear G; intro ρ a w G
   refine th_n ?_
   cases h1 : (k == (2 : Int))
   ·
    have q1 : ¬ (k = 2) := ne_of_beq_false h1
    refine rF G (k == (2 : Int)) (by assumption) ?_
    refine wp_seq ?_
    refine rs0s G [(0, iA k), (2, iA 0), (10, bA (k == 3))] ?_
    clear G; intro ρ a w G
    refine th_n ?_
    cases h2 : (k == (3 : Int))
    ·
     have q2 : ¬ (k = 3) := ne_of_beq_false h2
     refine rF G (k == (3 : Int)) (by assumption) ?_
     refine wp_seq ?_
     cases h3 : (decide (k ≥ (4 : Int)))
     ·
      have q3 : ¬ (k ≥ 4) := of_decide_eq_false h3
      refine rs1s G ⟨[], [(decide (k ≥ (4 : Int)), false)], [(3, 0), (4, 0), (1005, 0)]⟩ calls_nil ⟨(by assumption), trivial⟩ [(0, iA k), (2, iA 0), (13, bA false)] [] trivial ?_
      clear G; intro ρ a w G
      refine th_n ?_
      refine rF G (false) (by kernel_rfl) ?_
      refine wp_seq ?_
      refine rs0s G [(2, iA 0), (20, bA (k == 11))] ?_
      clear G; intro ρ a w G
      refine th_n ?_
      cases h4 : (k == (11 : Int))
      ·
       have q4 : ¬ (k = 11) := ne_of_beq_false h4
       refine rF G (k == (11 : Int)) (by assumption) ?_
       refine wp_skip ?_
       refine bl_n ?_
       refine th_n ?_
       refine wp_seq ?_
       refine rs0s G [(2, iA (-1))] ?_
       clear G; intro ρ a w G
       refine th_n ?_
       refine wp_ret ?_
       exact rx_ret (v := iA (-1)) G [] (by kernel_rfl) (by kernel_rfl) (by kernel_rfl) (by have e1 : (arity k : Int) = (-1) := (by unfold arity; (repeat' split) <;> omega); first | (rw [e1]; done) | (rw [e1]; rfl) | (simp only [e1]; done) | (simp only [e1]; rfl))
      ·
       have q4 : k = 11 := eq_of_beq h4
       refine rT G (k == (11 : Int)) (by assumption) ?_
       refine wp_seq ?_
       refine rs0s G [(2, iA 3)] ?_
       clear G; intro ρ a w G
       refine th_n ?_
       refine wp_ret ?_
       refine bl_r ?_
       refine th_r ?_
       exact rx_ret (v := iA 3) G [] (by kernel_rfl) (by kernel_rfl) (by kernel_rfl) (by have e1 : (arity k : Int) = (3) := (by unfold arity; (repeat' split) <;> omega); first | (rw [e1]; done) | (rw [e1]; rfl) | (simp only [e1]; done) | (simp only [e1]; rfl))
     ·
      have q3 : k ≥ 4 := of_decide_eq_true h3
      refine rs1s G ⟨[], [(decide (k ≥ (4 : Int)), true)], [(3, 0), (4, 0), (1005, 0)]⟩ calls_nil ⟨(by assumption), trivial⟩ [(0, iA k), (2, iA 0), (13, bA (decide (k ≤ 10)))] [] trivial ?_
      clear G; intro ρ a w G
      refine th_n ?_
      cases h5 : (decide (k ≤ (10 : Int)))
      ·
       have q5 : ¬ (k ≤ 10) := of_decide_eq_false h5
       refine rF G (decide (k ≤ (10 : Int))) (by assumption) ?_
       refine wp_seq ?_
       refine rs0s G [(2, iA 0), (20, bA (k == 11))] ?_
       clear G; intro ρ a w G
       refine th_n ?_
       cases h6 : (k == (11 : Int))
       ·
        have q6 : ¬ (k = 11) := ne_of_beq_false h6
        refine rF G (k == (11 : Int)) (by assumption) ?_
        refine wp_skip ?_
        refine bl_n ?_
        refine th_n ?_
        refine wp_seq ?_
        refine rs0s G [(2, iA (-1))] ?_
        clear G; intro ρ a w G
        refine th_n ?_
        refine wp_ret ?_
        exact rx_ret (v := iA (-1)) G [] (by kernel_rfl) (by kernel_rfl) (by kernel_rfl) (by have e1 : (arity k : Int) = (-1) := (by unfold arity; (repeat' split) <;> omega); first | (rw [e1]; done) | (rw [e1]; rfl) | (simp only [e1]; done) | (simp only [e1]; rfl))
       ·
        have q6 : k = 11 := eq_of_beq h6
        refine rT G (k == (11 : Int)) (by assumption) ?_
        refine wp_seq ?_
        refine rs0s G [(2, iA 3)] ?_
        clear G; intro ρ a w G
        refine th_n ?_
        refine wp_ret ?_
        refine bl_r ?_
        refine th_r ?_
        exact rx_ret (v := iA 3) G [] (by kernel_rfl) (by kernel_rfl) (by kernel_rfl) (by have e1 : (arity k : Int) = (3) := (by unfold arity; (repeat' split) <;> omega); first | (rw [e1]; done) | (rw [e1]; rfl) | (simp only [e1]; done) | (simp only [e1]; rfl))
      ·
       have q5 : k ≤ 10 := of_decide_eq_true h5
       refine rT G (decide (k ≤ (10 : Int))) (by assumption) ?_
       refine wp_seq ?_
       refine rs0s G [(2, iA 2)] ?_
       clear G; intro ρ a w G
       refine th_n ?_
       refine wp_ret ?_
       refine bl_r ?_
       refine th_r ?_
       exact rx_ret (v := iA 2) G [] (by kernel_rfl) (by kernel_rfl) (by kernel_rfl) (by have e1 : (arity k : Int) = (2) := (by unfold arity; (repeat' split) <;> omega); first | (rw [e1]; done) | (rw [e1]; rfl) | (simp only [e1]; done) | (simp only [e1]; rfl))
    ·
     have q2 : k = 3 := eq_of_beq h2
     refine rT G (k == (3 : Int)) (by assumption) ?_
     refine wp_seq ?_
     refine rs0s G [(2, iA 1)] ?_
     clear G; intro ρ a w G
     refine th_n ?_
     refine wp_ret ?_
     refine bl_r ?_
     refine th_r ?_
     exact rx_ret (v := iA 1) G [] (by kernel_rfl) (by kernel_rfl) (by kernel_rfl) (by have e1 : (arity k : Int) = (1) := (by unfold arity; (repeat' split) <;> omega); first | (rw [e1]; done) | (rw [e1]; rfl) | (simp only [e1]; done) | (simp only [e1]; rfl))
   ·
    have q1 : k = 2 := eq_of_beq h1
    refine rT G (k == (2 : Int)) (by assumption) ?_
    refine wp_seq ?_
    refine rs0s G [(2, iA 0)] ?_
    clear G; intro ρ a w G
    refine th_n ?_
    refine wp_ret ?_
    refine bl_r ?_
    refine th_r ?_
    exact rx_ret (v := iA 0) G [] (by kernel_rfl) (by kernel_rfl) (by kernel_rfl) (by have e1 : (arity k : Int) = (0) := (by unfold arity; (repeat' split) <;> omega); first | (rw [e1]; done) | (rw [e1]; rfl) | (simp only [e1]; done) | (simp only [e1]; rfl))
  ·
   have q0 : k = 1 := eq_of_beq h0
   refine rs1s G ⟨[], [(k == (1 : Int), true)], [(3, 0), (4, 0), (1005, 0)]⟩ calls_nil ⟨(by assumption), trivial⟩ [(0, iA k), (2, iA 0), (3, bA true)] [] trivial ?_
   clear G; intro ρ a w G
   refine th_n ?_
   refine rT G (true) (by kernel_rfl) ?_
   refine wp_seq ?_
   refine rs0s G [(2, iA 0)] ?_
   clear G; intro ρ a w G
   refine th_n ?_
   refine wp_ret ?_
   refine bl_r ?_
   refine th_r ?_
   exact rx_ret (v := iA 0) G [] (by kernel_rfl) (by kernel_rfl) (by kernel_rfl) (by have e1 : (arity k : Int) = (0) := (by unfold arity; (repeat' split) <;> omega); first | (rw [e1]; done) | (rw [e1]; rfl) | (simp only [e1]; done) | (simp only [e1]; rfl))

end Go.Proofs.Ytgpkdfefgcpbiaa

namespace Go.Proofs.Ytgpkdfefgcpbiaa
set_option linter.unusedVariables false
set_option linter.unusedSimpArgs false
open Go Go.RowKit

set_option maxRecDepth 100000 in
theorem c_l2Atom (e : LExpr) : Ctr.ok Try.prog ⟨190, [.agg [.v (.int .i64 e.kind), .v (.int .i64 e.value), .ref 0]], [.dat (.exprs e.kids)], [.dat (.exprs e.kids)], .v (.bool (atomB e))⟩ := by
  refine rx_enter 11 Try.func190 (by rfl) (by kernel_rfl) (by kernel_rfl) ?_
  intro ι φ ψ w0 w F ρ0 ρ a G
  replace G := Gam.at G [dE e.kids] [(0, eA e 0)]
  refine wp_seq ?_
  refine rs0 G [0, 1] [dE e.kids, .box (eL e 0)] [(1, .ptr 1 0), (2, bA false)] ?_
  clear G; intro ρ a w G
  refine th_n ?_
  refine wp_seq ?_
  cases h0 : (e.kind == (1 : Int))
  ·
   have q0 : ¬ (e.kind = 1) := ne_of_beq_false h0
   refine rs1 (dk := dkP) G ⟨[], [(e.kind == (1 : Int), false)], [(4, 0), (5, 0), (6, 0), (1007, 0)]⟩ calls_nil ⟨(by assumption), trivial⟩ [0] [dE e.kids] [(2, bA (e.kind == 2))] [] trivial ?_
   clear G; intro ρ a w G
   refine th_n ?_
   refine wp_ret ?_
   exact rx_ret (v := bA (e.kind == 2)) G [0] (by kernel_rfl) (by kernel_rfl) (by kernel_rfl) (by have e1 : (atomB e : Bool) = (e.kind == 2) := (by rw [Bool.eq_iff_iff]; simp [atomB, h0, q0]; done); first | (rw [e1]; done) | (rw [e1]; rfl) | (simp only [e1]; done) | (simp only [e1]; rfl))
  ·
   have q0 : e.kind = 1 := eq_of_beq h0
   refine rs1 (dk := dkP) G ⟨[], [(e.kind == (1 : Int), true)], [(4, 0), (5, 0), (6, 0), (1007, 0)]⟩ calls_nil ⟨(by assumption), trivial⟩ [0] [dE e.kids] [(2, bA true)] [] trivial ?_
   clear G; intro ρ a w G
   refine th_n ?_
   refine wp_ret ?_
   exact rx_ret (v := bA true) G [0] (by kernel_rfl) (by kernel_rfl) (by kernel_rfl) (by have e1 : (atomB e : Bool) = (true) := (by rw [Bool.eq_iff_iff]; simp [atomB, h0, q0]; done); first | (rw [e1]; done) | (rw [e1]; rfl) | (simp only [e1]; done) | (simp only [e1]; rfl))

set_option maxRecDepth 100000 in
theorem c_l2Limit (vs ars : List Int) (b : List LStmt) (k : Int) : Ctr.ok Try.prog ⟨189, [.agg [.ref 0, .ref 1, .ref 2], .v (.int .i64 k)], [.dat (.ints vs), .dat (.ints ars), .dat (.stmts b)], [.dat (.ints vs), .dat (.ints ars), .dat (.stmts b)], .v (.int .i64 (limit vs.length ars.length k))⟩ := by
  refine rx_enter 18 Try.func189 (by rfl) (by kernel_rfl) (by kernel_rfl) ?_
  intro ι φ ψ w0 w F ρ0 ρ a G
  replace G := Gam.at G [dI vs, dI ars, dT b] [(0, pA 0), (1, iA k)]
  refine wp_seq ?_
  refine rs0 G [0, 1, 2, 3] [dI vs, dI ars, dT b, .box (pL 0)] [(1, iA k), (2, .ptr 3 0), (4, iA 0)] ?_
  clear G; intro ρ a w G
  refine th_n ?_
  refine wp_seq ?_
  refine wp_seq ?_
  refine rs0s G [(2, .ptr 3 0), (4, iA 0), (5, iA k)] ?_
  clear G; intro ρ a w G
  refine th_n ?_
  refine wp_block ?_
  refine wp_seq ?_
  refine rs0s G [(2, .ptr 3 0), (4, iA 0), (5, iA k), (6, bA (k == 1))] ?_
  clear G; intro ρ a w G
  refine th_n ?_
  cases h0 : (k == (1 : Int))
  ·
   have q0 : ¬ (k = 1) := ne_of_beq_false h0
   refine rF G (k == (1 : Int)) (by assumption) ?_
   refine wp_seq ?_
   refine rs0s G [(2, .ptr 3 0), (4, iA 0), (5, iA k), (8, bA (k == 2))] ?_
   clear G; intro ρ a w G
   refine th_n ?_
   cases h1 : (k == (2 : Int))
   ·
    have q1 : ¬ (k = 2) := ne_of_beq_false h1
    refine rF G (k == (2 : Int)) (by assumption) ?_
    refine wp_seq ?_
    refine rs0s G [(2, .ptr 3 0), (4, iA 0), (13, bA (k == 3))] ?_
    clear G; intro ρ a w G
    refine th_n ?_
    cases h2 : (k == (3 : Int))
    ·
     have q2 : ¬ (k = 3) := ne_of_beq_false h2
     refine rF G (k == (3 : Int)) (by assumption) ?_
     refine wp_skip ?_
     refine bl_n ?_
     refine th_n ?_
     refine wp_seq ?_
     refine rs0 G [0, 1, 2] [dI vs, dI ars, dT b] [(4, iA 1)] ?_
     clear G; intro ρ a w G
     refine th_n ?_
     refine wp_ret ?_
     exact rx_ret (v := iA 1) G [0, 1, 2] (by kernel_rfl) (by kernel_rfl) (by kernel_rfl) (by have e1 : (limit vs.length ars.length k : Int) = (1) := (by unfold limit; (repeat' split) <;> omega); first | (rw [e1]; done) | (rw [e1]; rfl) | (simp only [e1]; done) | (simp only [e1]; rfl))
    ·
     have q2 : k = 3 := eq_of_beq h2
     refine rT G (k == (3 : Int)) (by assumption) ?_
     refine wp_seq ?_
     refine rs0 G [0, 1, 2] [dI vs, dI ars, dT b] [(4, iA (↑ars.length : Int))] ?_
     clear G; intro ρ a w G
     refine th_n ?_
     refine wp_ret ?_
     refine bl_r ?_
     refine th_r ?_
     exact rx_ret (v := iA (↑ars.length : Int)) G [0, 1, 2] (by kernel_rfl) (by kernel_rfl) (by kernel_rfl) (by have e1 : (limit vs.length ars.length k : Int) = ((↑ars.length : Int)) := (by unfold limit; (repeat' split) <;> omega); first | (rw [e1]; done) | (rw [e1]; rfl) | (simp only [e1]; done) | (simp only [e1]; rfl))
   ·
    have q1 : k = 2 := eq_of_beq h1
    refine rT G (k == (2 : Int)) (by assumption) ?_
    refine wp_seq ?_
    refine rs0 G [0, 1, 2] [dI vs, dI ars, dT b] [(4, iA (↑vs.length : Int))] ?_
    clear G; intro ρ a w G
    refine th_n ?_
    refine wp_ret ?_
    refine bl_r ?_
    refine th_r ?_
    exact rx_ret (v := iA (↑vs.length : Int)) G [0, 1, 2] (by kernel_rfl) (by kernel_rfl) (by kernel_rfl) (by have e1 : (limit vs.length ars.length k : Int) = ((↑vs.length : Int)) := (by unfold limit; (repeat' split) <;> omega); first | (rw [e1]; done) | (rw [e1]; rfl) | (simp only [e1]; done) | (simp only [e1]; rfl))
  ·
   have q0 : k = 1 := eq_of_beq h0
   refine rT G (k == (1 : Int)) (by assumption) ?_
   refine wp_seq ?_
   refine rs0 G [0, 1, 2] [dI vs, dI ars, dT b] [(4, iA 256)] ?_
   clear G; intro ρ a w G
   refine th_n ?_
   refine wp_ret ?_
   refine bl_r ?_
   refine th_r ?_
   exact rx_ret (v := iA 256) G [0, 1, 2] (by kernel_rfl) (by kernel_rfl) (by kernel_rfl) (by have e1 : (limit vs.length ars.length k : Int) = (256) := (by unfold limit; (repeat' split) <;> omega); first | (rw [e1]; done) | (rw [e1]; rfl) | (simp only [e1]; done) | (simp only [e1]; rfl))

theorem all_next {α : Type} {l : List α} {k : Nat} {p : α → Bool} {z : α} (h : (l.take k).all p = true) (hk : k < l.length) (hp : p (l.getD k z) = true) : (l.take (k + 1)).all p = true := by
  rw [all_take_succ p l k hk, h, ← getD_lt (d := z) hk, hp]; rfl
theorem all_full {α : Type} {l : List α} {k : Nat} {p : α → Bool} (h : (l.take k).all p = true) (hk : l.length ≤ k) : l.all p = true := by
  rw [List.take_of_length_le hk] at h; exact h
section
variable {nv na d : Nat} {e : LExpr}
theorem shape_a (h : ¬ (e.kids.length : Int) = arity e.kind) : shapeB nv na (d + 1) e = false := by simp [shapeB, nodeB, h]
theorem shape_b (h : e.value < 0) : shapeB nv na (d + 1) e = false := by
  have : ¬ 0 ≤ e.value := by omega
  simp [shapeB, nodeB, this]
theorem shape_c (h : limit nv na e.kind ≤ e.value) : shapeB nv na (d + 1) e = false := by
  have : ¬ e.value < limit nv na e.kind := by omega
  simp [shapeB, nodeB, this]
theorem shape_d {k : Nat} {z : LExpr} (hk : k < e.kids.length) (h : shapeB nv na d (e.kids.getD k z) = false) : shapeB nv na (d + 1) e = false := by
  rw [getD_lt hk] at h
  have : e.kids.all (shapeB nv na d) = false := not_all hk h
  simp [shapeB, this]
theorem shape_node (h1 : (e.kids.length : Int) = arity e.kind) (h2 : ¬ e.value < 0) (h3 : ¬ limit nv na e.kind ≤ e.value) : nodeB nv na e = true := by
  unfold nodeB; rw [decide_eq_true h1, decide_eq_true (by omega), decide_eq_true (by omega)]; rfl
theorem shape_e (hn : nodeB nv na e = true) (ha : e.kids.all (shapeB nv na d) = true) (h : ¬ e.kind = 3) : shapeB nv na (d + 1) e = true := by
  rw [shapeB, hn, ha]; simp [readB, h]
theorem shape_f (hn : nodeB nv na e = true) (ha : e.kids.all (shapeB nv na d) = true) (h : e.kind = 3) (hl : 0 < e.kids.length) : shapeB nv na (d + 1) e = atomB (e.kids.getD 0 default) := by
  rw [shapeB, hn, ha, readB_get h hl, getD_lt hl]; simp [atomB]
theorem arity_pos (h1 : (e.kids.length : Int) = arity e.kind) (h : e.kind = 3) : 0 < e.kids.length := by
  rw [h] at h1; simp [arity] at h1; omega
end

set_option maxRecDepth 100000 in
theorem c_l2Shape0 (vs ars : List Int) (b : List LStmt) (e : LExpr) (n : Int) (hn : n = 0) : Ctr.ok Try.prog ⟨159, [.agg [.ref 0, .ref 1, .ref 2], .agg [.v (.int .i64 e.kind), .v (.int .i64 e.value), .ref 3], .v (.int .i64 n)], [.dat (.ints vs), .dat (.ints ars), .dat (.stmts b), .dat (.exprs e.kids)], [.dat (.ints vs), .dat (.ints ars), .dat (.stmts b), .dat (.exprs e.kids)], .v (.bool (shapeB vs.length ars.length 0 e))⟩ := by
  have h100 : decide (n < 1) = true := by simp; omega
  refine rx_enter 60 Try.func159 (by rfl) (by kernel_rfl) (by kernel_rfl) ?_
  intro ι φ ψ w0 w F ρ0 ρ a G
  replace G := Gam.at G [dI vs, dI ars, dT b, dE e.kids] [(0, pA 0), (1, eA e 3), (2, iA n)]
  refine wp_seq ?_
  refine rs0 G [0, 1, 2, 3, 4, 12] [dI vs, dI ars, dT b, dE e.kids, .box (pL 0), .box (eL e 3)] [(2, iA n), (3, .ptr 4 0), (4, .ptr 5 0), (6, bA false)] ?_
  clear G; intro ρ a w G
  refine th_n ?_
  refine wp_seq ?_
  refine wp_seq ?_
  refine rd1s G ⟨[], [(decide (n < (1 : Int)), true), (true, true)], [(3, 0), (4, 0), (5, 0), (6, 0), (7, 0), (8, 0), (9, 0), (1010, 0), (12, 1), (13, 1), (14, 1), (1015, 1), (17, 1), (18, 1), (19, 1), (20, 1), (21, 1), (22, 1), (23, 1), (1024, 1)]⟩ calls_nil ⟨(by assumption), (by kernel_rfl), trivial⟩ [0, 1, 3, 7, 15, 31, 7, 71, 199, 511, 1023, 2047, 4095, 8191, 16383, 32767, 65535, 131071, 262143, 131071, 131071, 1179647, 3801087, 8388607, 16777215] [(2, iA n), (3, .ptr 4 0), (4, .ptr 5 0), (6, bA false), (32, bA true)] [] trivial ?_
  clear G; intro ρ a w G
  refine th_n ?_
  refine rT G (true) (by kernel_rfl) ?_
  refine wp_seq ?_
  refine rs0s G [(2, iA n), (3, .ptr 4 0), (4, .ptr 5 0), (6, bA false)] ?_
  clear G; intro ρ a w G
  refine th_n ?_
  refine wp_ret ?_
  refine th_r ?_
  exact rx_ret (v := bA false) G [0, 1, 2, 3] (by kernel_rfl) (by kernel_rfl) (by kernel_rfl) (by kernel_rfl)

set_option maxRecDepth 100000 in
theorem c_l2ShapeS (vs ars : List Int) (b : List LStmt) (d : Nat) (hd : d ≤ 5) (ih : ∀ (e : LExpr) (n : Int), n = d → Ctr.ok Try.prog ⟨159, [.agg [.ref 0, .ref 1, .ref 2], .agg [.v (.int .i64 e.kind), .v (.int .i64 e.value), .ref 3], .v (.int .i64 n)], [.dat (.ints vs), .dat (.ints ars), .dat (.stmts b), .dat (.exprs e.kids)], [.dat (.ints vs), .dat (.ints ars), .dat (.stmts b), .dat (.exprs e.kids)], .v (.bool (shapeB vs.length ars.length d e))⟩)
    (e : LExpr) (n : Int) (hn : n = (d + 1 : Nat)) : Ctr.ok Try.prog ⟨159, [.agg [.ref 0, .ref 1, .ref 2], .agg [.v (.int .i64 e.kind), .v (.int .i64 e.value), .ref 3], .v (.int .i64 n)], [.dat (.ints vs), .dat (.ints ars), .dat (.stmts b), .dat (.exprs e.kids)], [.dat (.ints vs), .dat (.ints ars), .dat (.stmts b), .dat (.exprs e.kids)], .v (.bool (shapeB vs.length ars.length (d + 1) e))⟩ := by
  have h100 : decide (n < 1) = false := by simp; omega
  refine rx_enter 60 Try.func159 (by rfl) (by kernel_rfl) (by kernel_rfl) ?_
  intro ι φ ψ w0 w F ρ0 ρ a G
  replace G := Gam.at G [dI vs, dI ars, dT b, dE e.kids] [(0, pA 0), (1, eA e 3), (2, iA n)]
  refine wp_seq ?_
  refine rs0 G [0, 1, 2, 3, 4, 12] [dI vs, dI ars, dT b, dE e.kids, .box (pL 0), .box (eL e 3)] [(2, iA n), (3, .ptr 4 0), (4, .ptr 5 0), (6, bA false)] ?_
  clear G; intro ρ a w G
  refine th_n ?_
  refine wp_seq ?_
  refine wp_seq ?_
  cases h0 : ((↑e.kids.length : Int) != arity e.kind)
  ·
   have q0 : (↑e.kids.length : Int) = arity e.kind := (by simpa using h0)
   cases h1 : (decide (e.value < (0 : Int)))
   ·
    have q1 : ¬ (e.value < 0) := of_decide_eq_false h1
    refine rd1s G ⟨[(8, _, []), (22, _, [0, 1, 2])], [(decide (n < (1 : Int)), false), ((↑e.kids.length : Int) != arity e.kind, false), (decide (e.value < (0 : Int)), false)], [(3, 0), (4, 0), (5, 0), (6, 0), (7, 0), (8, 0), (9, 0), (1010, 0), (12, 1), (13, 1), (14, 1), (1015, 1), (17, 2), (18, 2), (19, 2), (20, 2), (21, 2), (22, 2), (23, 2), (1024, 2)]⟩ (calls_cons (c_l2Arity (e.kind)) (calls_cons (c_l2Limit (vs) (ars) (b) (e.kind)) calls_nil)) ⟨(by assumption), (by assumption), (by assumption), trivial⟩ [0, 1, 3, 7, 15, 31, 7, 71, 199, 511, 1023, 2047, 4095, 8191, 16383, 32767, 65535, 131071, 262143, 131071, 131071, 1179647, 3801087, 8388607, 16777215] [(2, iA n), (3, .ptr 4 0), (4, .ptr 5 0), (6, bA false), (32, bA (decide (e.value ≥ limit vs.length ars.length e.kind)))] [] trivial ?_
    clear G; intro ρ a w G
    refine th_n ?_
    cases h2 : (decide (e.value ≥ limit vs.length ars.length e.kind))
    ·
     have q2 : ¬ (e.value ≥ limit vs.length ars.length e.kind) := of_decide_eq_false h2
     refine rF G (decide (e.value ≥ limit vs.length ars.length e.kind)) (by assumption) ?_
     refine wp_skip ?_
     refine th_n ?_
     refine wp_seq ?_
     refine wp_seq ?_
     refine rs0s G [(2, iA n), (3, .ptr 4 0), (4, .ptr 5 0), (6, bA false), (7, iA 0)] ?_
     clear G; intro ρ a w G
     refine th_n ?_
     refine wp_block ?_
     refine rx_for (κ := Nat) (fun k => k ≤ e.kids.length ∧ (e.kids.take k).all (shapeB vs.length ars.length d) = true) (fun k => e.kids.length - k) (fun k => [dI vs, dI ars, dT b, dE e.kids, .box (pL 0), .box (eL e 3)]) (fun k => [(2, iA n), (3, .ptr 4 0), (4, .ptr 5 0), (6, bA false), (7, iA k)]) (0) (by simp [h100, h0, h1, h2]) (Gam.at G _ _) ?_
     clear G
     intro k ρ a w hp G
     replace G := Gam.at G [dI vs, dI ars, dT b, dE e.kids, .box (pL 0), .box (eL e 3)] [(2, iA n), (3, .ptr 4 0), (4, .ptr 5 0), (6, bA false), (7, iA (↑k : Int))]
     have hlen : e.kids.length ≤ 9223372036854775807 := G.len 3 (d := .exprs e.kids) (by kernel_rfl)
     have hnode := shape_node (nv := vs.length) (na := ars.length) q0 q1 q2
     refine wp_seq ?_
     refine wp_seq ?_
     refine rs0s G [(2, iA n), (3, .ptr 4 0), (4, .ptr 5 0), (6, bA false), (7, iA (↑k : Int)), (37, bA (decide ((↑k : Int) < (↑e.kids.length : Int))))] ?_
     clear G; intro ρ a w G
     refine th_n ?_
     cases h3 : (decide ((↑k : Int) < (↑e.kids.length : Int)))
     ·
      have q3 : ¬ ((↑k : Int) < (↑e.kids.length : Int)) := of_decide_eq_false h3
      refine rF G (decide ((↑k : Int) < (↑e.kids.length : Int))) (by assumption) ?_
      refine wp_exit ?_
      refine th_e ?_
      refine th_e ?_
      refine bl_hit ?_
      refine th_n ?_
      refine wp_seq ?_
      cases h4 : (e.kind != (3 : Int))
      ·
       have q4 : e.kind = 3 := (by simpa using h4)
       refine rs1 (dk := dkP) G ⟨[(8, _, [62])], [(e.kind != (3 : Int), false)], [(4, 0), (5, 0), (6, 0), (7, 0), (8, 0), (1009, 0)]⟩ (calls_cons (c_l2Atom (e.kids.getD 0 default)) calls_nil) ⟨(by assumption), trivial⟩ [0, 1, 2, 3] [dI vs, dI ars, dT b, dE e.kids] [(6, bA (atomB (e.kids.getD 0 default)))] [(0 : Int) ≤ (0 : Int), (0 : Int) < (↑e.kids.length : Int), (0 : Nat) < e.kids.length] ⟨(by simp [h100, h0, h1, h2, hnode, h3, h4]), (by have := arity_pos q0 (by omega); omega), (by have := arity_pos q0 (by omega); omega), trivial⟩ ?_
       clear G; intro ρ a w G
       refine th_n ?_
       refine wp_ret ?_
       exact rx_ret (v := bA (atomB (e.kids.getD 0 default))) G [0, 1, 2, 3] (by kernel_rfl) (by kernel_rfl) (by kernel_rfl) (by have e1 : (shapeB vs.length ars.length (d + 1) e : Bool) = (atomB (e.kids.getD 0 default)) := (by exact shape_f hnode (all_full hp.2 (by omega)) (by omega) (arity_pos q0 (by omega))); first | (rw [e1]; done) | (rw [e1]; rfl) | (simp only [e1]; done) | (simp only [e1]; rfl))
      ·
       have q4 : ¬ (e.kind = 3) := bne_iff_ne.1 h4
       refine rs1 (dk := dkP) G ⟨[], [(e.kind != (3 : Int), true)], [(4, 0), (5, 0), (6, 0), (7, 0), (8, 0), (1009, 0)]⟩ calls_nil ⟨(by assumption), trivial⟩ [0, 1, 2, 3] [dI vs, dI ars, dT b, dE e.kids] [(6, bA true)] [] trivial ?_
       clear G; intro ρ a w G
       refine th_n ?_
       refine wp_ret ?_
       exact rx_ret (v := bA true) G [0, 1, 2, 3] (by kernel_rfl) (by kernel_rfl) (by kernel_rfl) (by have e1 : (shapeB vs.length ars.length (d + 1) e : Bool) = (true) := (by exact shape_e hnode (all_full hp.2 (by omega)) (by omega)); first | (rw [e1]; done) | (rw [e1]; rfl) | (simp only [e1]; done) | (simp only [e1]; rfl))
     ·
      have q3 : (↑k : Int) < (↑e.kids.length : Int) := of_decide_eq_true h3
      refine rT G (decide ((↑k : Int) < (↑e.kids.length : Int))) (by assumption) ?_
      refine wp_skip ?_
      refine th_n ?_
      refine wp_seq ?_
      refine wp_block ?_
      refine wp_seq ?_
      refine rd1s G ⟨[(8, _, [0, 1, 2, 46])], [], []⟩ (calls_cons (ih (e.kids.getD k default) (n - 1) (by have := hp.1; omega)) calls_nil) trivial [0, 0, 2, 0, 14, 30, 0, 64, 255, 511] [(2, iA n), (3, .ptr 4 0), (4, .ptr 5 0), (6, bA false), (7, iA (↑k : Int)), (49, .v (.bool !shapeB vs.length ars.length d (e.kids.getD k default)))] [(0 : Int) ≤ (↑k : Int), (↑k : Int) < (↑e.kids.length : Int), k < e.kids.length, IntKind.i64.wrap (n - (1 : Int)) = n - (1 : Int)] ⟨(by simp [h100, h0, h1, h2, hnode, h3]), (by assumption), (by have := hp.1; omega), (by exact w64 (by omega) (by omega)), trivial⟩ ?_
      clear G; intro ρ a w G
      refine th_n ?_
      cases h5 : (!shapeB vs.length ars.length d (e.kids.getD k default))
      ·
       have q5 : (shapeB vs.length ars.length d (e.kids.getD k default)) = true := (fun hq => (hq)) (Eq.mp (Bool.not_eq_false' _) h5)
       refine rF G (!shapeB vs.length ars.length d (e.kids.getD k default)) (by assumption) ?_
       refine wp_skip ?_
       refine bl_n ?_
       refine th_n ?_
       refine rs1s G ⟨[], [], []⟩ calls_nil trivial [(2, iA n), (3, .ptr 4 0), (4, .ptr 5 0), (6, bA false), (7, iA ((↑k : Int) + 1))] [IntKind.i64.wrap ((↑k : Int) + (1 : Int)) = (↑k : Int) + (1 : Int)] ⟨(by exact w64 (by omega) (by omega)), trivial⟩ ?_
       clear G; intro ρ a w G
       refine th_n ?_
       exact rx_next G (k + 1) (by exact ⟨by omega, all_next hp.2 (by omega) (by assumption)⟩) (by have := hp.1; omega) [0, 1, 2, 3, 4, 5] [dI vs, dI ars, dT b, dE e.kids, .box (pL 0), .box (eL e 3)] [(2, iA n), (3, .ptr 4 0), (4, .ptr 5 0), (6, bA false), (7, iA (↑(k + 1) : Int))] (by kernel_rfl) (by kernel_rfl) (by kernel_rfl) (by kernel_rfl) (by kernel_rfl)
      ·
       have q5 : (shapeB vs.length ars.length d (e.kids.getD k default)) = false := (fun hq => (hq)) (Eq.mp (Bool.not_eq_true' _) h5)
       refine rT G (!shapeB vs.length ars.length d (e.kids.getD k default)) (by assumption) ?_
       refine wp_seq ?_
       refine rs0s G [(2, iA n), (3, .ptr 4 0), (4, .ptr 5 0), (6, bA false), (7, iA (↑k : Int))] ?_
       clear G; intro ρ a w G
       refine th_n ?_
       refine wp_ret ?_
       refine bl_r ?_
       refine th_r ?_
       refine th_r ?_
       refine bl_r ?_
       refine th_r ?_
       exact rx_ret (v := bA false) G [0, 1, 2, 3] (by kernel_rfl) (by kernel_rfl) (by kernel_rfl) (by have e1 : (shapeB vs.length ars.length (d + 1) e : Bool) = (false) := (by exact shape_d (k := k) (by omega) (by assumption)); first | (rw [e1]; done) | (rw [e1]; rfl) | (simp only [e1]; done) | (simp only [e1]; rfl))
    ·
     have q2 : e.value ≥ limit vs.length ars.length e.kind := of_decide_eq_true h2
     refine rT G (decide (e.value ≥ limit vs.length ars.length e.kind)) (by assumption) ?_
     refine wp_seq ?_
     refine rs0s G [(2, iA n), (3, .ptr 4 0), (4, .ptr 5 0), (6, bA false)] ?_
     clear G; intro ρ a w G
     refine th_n ?_
     refine wp_ret ?_
     refine th_r ?_
     exact rx_ret (v := bA false) G [0, 1, 2, 3] (by kernel_rfl) (by kernel_rfl) (by kernel_rfl) (by have e1 : (shapeB vs.length ars.length (d + 1) e : Bool) = (false) := (by exact shape_c (by omega)); first | (rw [e1]; done) | (rw [e1]; rfl) | (simp only [e1]; done) | (simp only [e1]; rfl))
   ·
    have q1 : e.value < 0 := of_decide_eq_true h1
    refine rd1s G ⟨[(8, _, [])], [(decide (n < (1 : Int)), false), ((↑e.kids.length : Int) != arity e.kind, false), (decide (e.value < (0 : Int)), true)], [(3, 0), (4, 0), (5, 0), (6, 0), (7, 0), (8, 0), (9, 0), (1010, 0), (12, 1), (13, 1), (14, 1), (1015, 1), (17, 2), (18, 2), (19, 2), (20, 2), (21, 2), (22, 2), (23, 2), (1024, 2)]⟩ (calls_cons (c_l2Arity (e.kind)) calls_nil) ⟨(by assumption), (by assumption), (by assumption), trivial⟩ [0, 1, 3, 7, 15, 31, 7, 71, 199, 511, 1023, 2047, 4095, 8191, 16383, 32767, 65535, 131071, 262143, 131071, 131071, 1179647, 3801087, 8388607, 16777215] [(2, iA n), (3, .ptr 4 0), (4, .ptr 5 0), (6, bA false), (32, bA true)] [] trivial ?_
    clear G; intro ρ a w G
    refine th_n ?_
    refine rT G (true) (by kernel_rfl) ?_
    refine wp_seq ?_
    refine rs0s G [(2, iA n), (3, .ptr 4 0), (4, .ptr 5 0), (6, bA false)] ?_
    clear G; intro ρ a w G
    refine th_n ?_
    refine wp_ret ?_
    refine th_r ?_
    exact rx_ret (v := bA false) G [0, 1, 2, 3] (by kernel_rfl) (by kernel_rfl) (by kernel_rfl) (by have e1 : (shapeB vs.length ars.length (d + 1) e : Bool) = (false) := (by exact shape_b (by omega)); first | (rw [e1]; done) | (rw [e1]; rfl) | (simp only [e1]; done) | (simp only [e1]; rfl))
  ·
   have q0 : ¬ ((↑e.kids.length : Int) = arity e.kind) := bne_iff_ne.1 h0
   refine rd1s G ⟨[(8, _, [])], [(decide (n < (1 : Int)), false), ((↑e.kids.length : Int) != arity e.kind, true), (true, true)], [(3, 0), (4, 0), (5, 0), (6, 0), (7, 0), (8, 0), (9, 0), (1010, 0), (12, 1), (13, 1), (14, 1), (1015, 1), (17, 2), (18, 2), (19, 2), (20, 2), (21, 2), (22, 2), (23, 2), (1024, 2)]⟩ (calls_cons (c_l2Arity (e.kind)) calls_nil) ⟨(by assumption), (by assumption), (by kernel_rfl), trivial⟩ [0, 1, 3, 7, 15, 31, 7, 71, 199, 511, 1023, 2047, 4095, 8191, 16383, 32767, 65535, 131071, 262143, 131071, 131071, 1179647, 3801087, 8388607, 16777215] [(2, iA n), (3, .ptr 4 0), (4, .ptr 5 0), (6, bA false), (32, bA true)] [] trivial ?_
   clear G; intro ρ a w G
   refine th_n ?_
   refine rT G (true) (by kernel_rfl) ?_
   refine wp_seq ?_
   refine rs0s G [(2, iA n), (3, .ptr 4 0), (4, .ptr 5 0), (6, bA false)] ?_
   clear G; intro ρ a w G
   refine th_n ?_
   refine wp_ret ?_
   refine th_r ?_
   exact rx_ret (v := bA false) G [0, 1, 2, 3] (by kernel_rfl) (by kernel_rfl) (by kernel_rfl) (by have e1 : (shapeB vs.length ars.length (d + 1) e : Bool) = (false) := (by exact shape_a (by omega)); first | (rw [e1]; done) | (rw [e1]; rfl) | (simp only [e1]; done) | (simp only [e1]; rfl))

end Go.Proofs.Ytgpkdfefgcpbiaa

namespace Go.Proofs.Ytgpkdfefgcpbiaa
set_option linter.unusedVariables false
set_option linter.unusedSimpArgs false
open Go Go.RowKit

/-- Statements counted down to a depth. -/
def sizeD : Nat → List LStmt → Nat
  | 0, ss => ss.length
  | d + 1, ss => ss.length + (ss.map fun s => sizeD d s.body + sizeD d s.els).sum
def szP (d : Nat) (ss : List LStmt) (k : Nat) : Nat := ss.length + ((ss.take k).map fun s => sizeD d s.body + sizeD d s.els).sum
theorem szP_zero (d : Nat) (ss : List LStmt) : szP d ss 0 = ss.length := by simp [szP]
theorem szP_all (d : Nat) (ss : List LStmt) {k : Nat} (h : ss.length ≤ k) : szP d ss k = sizeD (d + 1) ss := by unfold szP; rw [List.take_of_length_le h, sizeD]
theorem szP_succ {d : Nat} {ss : List LStmt} {k : Nat} (h : k < ss.length) : szP d ss (k + 1) = szP d ss k + (sizeD d (ss.getD k default).body + sizeD d (ss.getD k default).els) := by
  unfold szP
  rw [p_take_succ ss k h, List.map_append, List.sum_append, getD_lt h]
  simp; omega
theorem sizeD_le : ∀ (d : Nat) (ss : List LStmt), sizeD d ss ≤ szSs ss := by
  intro d
  induction d with
  | zero => intro ss; exact szSs_len ss
  | succ d ih =>
    intro ss
    induction ss with
    | nil => simp [sizeD]
    | cons s r ihr =>
      have h1 := ih s.body
      have h2 := ih s.els
      have h3 := szS_parts s
      simp only [sizeD, List.map_cons, List.sum_cons, List.length_cons, szSs] at ihr ⊢
      have h4 : szSs s.body + szSs s.els ≤ szS s := by
        rcases s with ⟨_, _, _, _, _, b, e⟩
        simp only [szS, LStmt.body, LStmt.els]; omega
      omega
theorem szP_le {d : Nat} {ss : List LStmt} {k : Nat} : szP d ss k ≤ szSs ss := by
  refine Nat.le_trans ?_ (sizeD_le (d + 1) ss)
  unfold szP
  rw [sizeD]
  have : ∀ (l : List Nat) (k : Nat), (l.take k).sum ≤ l.sum := fun l k => by
    have := List.sum_append (l₁ := l.take k) (l₂ := l.drop k)
    rw [List.take_append_drop] at this; omega
  have h := this (ss.map fun s => sizeD d s.body + sizeD d s.els) k
  rw [← List.map_take] at h
  omega
theorem body_le {ss : List LStmt} {k B : Nat} (h : szSs ss ≤ B) (hk : k < ss.length) : szSs (ss.getD k default).body ≤ B ∧ szSs (ss.getD k default).els ≤ B := by
  rw [getD_lt hk]
  have h1 := szS_mem (List.getElem_mem hk)
  have h2 := szS_parts ss[k]
  omega

set_option maxRecDepth 100000 in
theorem c_l2Size0 (ss : List LStmt) (n : Int) (hn : n = 1) (hb : szSs ss ≤ 1048576) : Ctr.ok Try.prog (fnC 145 [.ref 0, iA n] [.dat (.stmts ss)] (iA (sizeD 0 ss : Nat))) := by
  have h100 : decide (n > 1) = false := by simp; omega
  refine rx_enter 39 Try.func145 (by rfl) (by kernel_rfl) (by kernel_rfl) ?_
  intro ι φ ψ w0 w F ρ0 ρ a G
  replace G := Gam.at G [dT ss] [(0, .ref 0), (1, iA n)]
  refine wp_seq ?_
  refine rs0s G [(0, .ref 0), (1, iA n), (4, iA 0)] ?_
  clear G; intro ρ a w G
  refine th_n ?_
  refine wp_seq ?_
  refine rs0s G [(0, .ref 0), (1, iA n), (4, iA 0), (5, iA (↑ss.length : Int))] ?_
  clear G; intro ρ a w G
  refine th_n ?_
  refine wp_seq ?_
  refine wp_seq ?_
  refine rs0s G [(0, .ref 0), (1, iA n), (4, iA 0), (5, iA (↑ss.length : Int)), (6, iA 0)] ?_
  clear G; intro ρ a w G
  refine th_n ?_
  refine wp_block ?_
  refine rx_for (κ := Nat) (fun k => k = 0) (fun k => 0) (fun k => [dT ss]) (fun k => [(0, .ref 0), (1, iA n), (4, iA 0), (5, iA (ss.length : Nat)), (6, iA k)]) (0) (by kernel_rfl) (Gam.at G _ _) ?_
  clear G
  intro k ρ a w hp G
  replace G := Gam.at G [dT ss] [(0, .ref 0), (1, iA n), (4, iA 0), (5, iA (↑ss.length : Int)), (6, iA (↑k : Int))]
  refine wp_seq ?_
  refine wp_seq ?_
  cases h0 : (decide ((↑k : Int) < (↑ss.length : Int)))
  ·
   have q0 : ¬ ((↑k : Int) < (↑ss.length : Int)) := of_decide_eq_false h0
   refine rs1s G ⟨[], [(decide ((↑k : Int) < (↑ss.length : Int)), false)], [(5, 0), (6, 0), (1007, 0)]⟩ calls_nil ⟨(by assumption), trivial⟩ [(0, .ref 0), (1, iA n), (4, iA 0), (5, iA (↑ss.length : Int)), (6, iA (↑k : Int)), (16, bA false)] [] trivial ?_
   clear G; intro ρ a w G
   refine th_n ?_
   refine rF G (false) (by kernel_rfl) ?_
   refine wp_exit ?_
   refine th_e ?_
   refine th_e ?_
   refine bl_hit ?_
   refine th_n ?_
   refine wp_seq ?_
   refine rs0s G [(4, iA (↑ss.length : Int))] ?_
   clear G; intro ρ a w G
   refine th_n ?_
   refine wp_ret ?_
   exact rx_ret (v := iA (↑ss.length : Int)) G [0] (by kernel_rfl) (by kernel_rfl) (by kernel_rfl) (by kernel_rfl)
  ·
   have q0 : (↑k : Int) < (↑ss.length : Int) := of_decide_eq_true h0
   refine rs1s G ⟨[], [(decide ((↑k : Int) < (↑ss.length : Int)), true)], [(5, 0), (6, 0), (1007, 0)]⟩ calls_nil ⟨(by assumption), trivial⟩ [(0, .ref 0), (1, iA n), (4, iA 0), (5, iA (↑ss.length : Int)), (6, iA (↑k : Int)), (16, bA (decide (n > 1)))] [] trivial ?_
   clear G; intro ρ a w G
   refine th_n ?_
   refine rF G (decide (n > (1 : Int))) (by assumption) ?_
   refine wp_exit ?_
   refine th_e ?_
   refine th_e ?_
   refine bl_hit ?_
   refine th_n ?_
   refine wp_seq ?_
   refine rs0s G [(4, iA (↑ss.length : Int))] ?_
   clear G; intro ρ a w G
   refine th_n ?_
   refine wp_ret ?_
   exact rx_ret (v := iA (↑ss.length : Int)) G [0] (by kernel_rfl) (by kernel_rfl) (by kernel_rfl) (by kernel_rfl)

set_option maxRecDepth 100000 in
theorem c_l2SizeS (d : Nat) (hd : d ≤ 5) (ih : ∀ (ss : List LStmt) (n : Int), n = (d + 1 : Nat) → szSs ss ≤ 1048576 → Ctr.ok Try.prog (fnC 145 [.ref 0, iA n] [.dat (.stmts ss)] (iA (sizeD d ss : Nat))))
    (ss : List LStmt) (n : Int) (hn : n = (d + 2 : Nat)) (hb : szSs ss ≤ 1048576) : Ctr.ok Try.prog (fnC 145 [.ref 0, iA n] [.dat (.stmts ss)] (iA (sizeD (d + 1) ss : Nat))) := by
  have h100 : decide (n > 1) = true := by simp; omega
  refine rx_enter 39 Try.func145 (by rfl) (by kernel_rfl) (by kernel_rfl) ?_
  intro ι φ ψ w0 w F ρ0 ρ a G
  replace G := Gam.at G [dT ss] [(0, .ref 0), (1, iA n)]
  refine wp_seq ?_
  refine rs0s G [(0, .ref 0), (1, iA n), (4, iA 0)] ?_
  clear G; intro ρ a w G
  refine th_n ?_
  refine wp_seq ?_
  refine rs0s G [(0, .ref 0), (1, iA n), (4, iA 0), (5, iA (↑ss.length : Int))] ?_
  clear G; intro ρ a w G
  refine th_n ?_
  refine wp_seq ?_
  refine wp_seq ?_
  refine rs0s G [(0, .ref 0), (1, iA n), (4, iA 0), (5, iA (↑ss.length : Int)), (6, iA 0)] ?_
  clear G; intro ρ a w G
  refine th_n ?_
  refine wp_block ?_
  refine rx_for (κ := Nat) (fun k => k ≤ ss.length) (fun k => ss.length - k) (fun k => [dT ss]) (fun k => [(0, .ref 0), (1, iA n), (4, iA 0), (5, iA (szP d ss k : Nat)), (6, iA k)]) (0) (by simp [h100]) (Gam.at G _ _) ?_
  clear G
  intro k ρ a w hp G
  replace G := Gam.at G [dT ss] [(0, .ref 0), (1, iA n), (4, iA 0), (5, iA (↑(szP d ss k) : Int)), (6, iA (↑k : Int))]
  have hlen := szSs_len ss
  refine wp_seq ?_
  refine wp_seq ?_
  cases h0 : (decide ((↑k : Int) < (↑ss.length : Int)))
  ·
   have q0 : ¬ ((↑k : Int) < (↑ss.length : Int)) := of_decide_eq_false h0
   refine rs1s G ⟨[], [(decide ((↑k : Int) < (↑ss.length : Int)), false)], [(5, 0), (6, 0), (1007, 0)]⟩ calls_nil ⟨(by assumption), trivial⟩ [(0, .ref 0), (1, iA n), (4, iA 0), (5, iA (↑(szP d ss k) : Int)), (6, iA (↑k : Int)), (16, bA false)] [] trivial ?_
   clear G; intro ρ a w G
   refine th_n ?_
   refine rF G (false) (by kernel_rfl) ?_
   refine wp_exit ?_
   refine th_e ?_
   refine th_e ?_
   refine bl_hit ?_
   refine th_n ?_
   refine wp_seq ?_
   refine rs0s G [(4, iA (↑(szP d ss k) : Int))] ?_
   clear G; intro ρ a w G
   refine th_n ?_
   refine wp_ret ?_
   exact rx_ret (v := iA (↑(szP d ss k) : Int)) G [0] (by kernel_rfl) (by kernel_rfl) (by kernel_rfl) (by have e1 : ((↑(sizeD (d + 1) ss) : Int) : Int) = ((↑(szP d ss k) : Int)) := (by have h1 := szP_all d ss (k := k) (by omega); omega); first | (rw [e1]; done) | (rw [e1]; rfl) | (simp only [e1]; done) | (simp only [e1]; rfl))
  ·
   have q0 : (↑k : Int) < (↑ss.length : Int) := of_decide_eq_true h0
   refine rs1s G ⟨[], [(decide ((↑k : Int) < (↑ss.length : Int)), true)], [(5, 0), (6, 0), (1007, 0)]⟩ calls_nil ⟨(by assumption), trivial⟩ [(0, .ref 0), (1, iA n), (4, iA 0), (5, iA (↑(szP d ss k) : Int)), (6, iA (↑k : Int)), (16, bA (decide (n > 1)))] [] trivial ?_
   clear G; intro ρ a w G
   refine th_n ?_
   refine rT G (decide (n > (1 : Int))) (by assumption) ?_
   refine wp_skip ?_
   refine th_n ?_
   refine wp_seq ?_
   refine wp_block ?_
   refine rd1s G ⟨[(8, _, [41]), (17, _, [113])], [], []⟩ (calls_cons (ih ((ss.getD k default).body) (n - 1) (by have h1 := szP_succ (d := d) (ss := ss) (k := k) (by omega); have h2 := szP_le (d := d) (ss := ss) (k := k + 1); omega) (by exact (body_le hb (by omega)).1)) (calls_cons (ih ((ss.getD k default).els) (n - 1) (by have h1 := szP_succ (d := d) (ss := ss) (k := k) (by omega); have h2 := szP_le (d := d) (ss := ss) (k := k + 1); omega) (by exact (body_le hb (by omega)).2)) calls_nil)) trivial [0, 0, 0, 6, 14, 30, 0, 64, 254, 511, 0, 0, 3072, 7168, 15360, 0, 32768, 130558, 262143, 524287] [(0, .ref 0), (1, iA n), (4, iA 0), (5, iA ((↑(szP d ss k) : Int) + (↑(sizeD d (ss.getD k default).body) : Int) + (↑(sizeD d (ss.getD k default).els) : Int))), (6, iA (↑k : Int))] [(0 : Int) ≤ (↑k : Int), (↑k : Int) < (↑ss.length : Int), k < ss.length, IntKind.i64.wrap (n - (1 : Int)) = n - (1 : Int), IntKind.i64.wrap ((↑(szP d ss k) : Int) + (↑(sizeD d (ss.getD k default).body) : Int)) = (↑(szP d ss k) : Int) + (↑(sizeD d (ss.getD k default).body) : Int), (0 : Int) ≤ (↑k : Int), (↑k : Int) < (↑ss.length : Int), k < ss.length, IntKind.i64.wrap (n - (1 : Int)) = n - (1 : Int), IntKind.i64.wrap ((↑(szP d ss k) : Int) + (↑(sizeD d (ss.getD k default).body) : Int) + (↑(sizeD d (ss.getD k default).els) : Int)) = (↑(szP d ss k) : Int) + (↑(sizeD d (ss.getD k default).body) : Int) + (↑(sizeD d (ss.getD k default).els) : Int)] ⟨(by simp [h100, h0]), (by assumption), (by have h1 := szP_succ (d := d) (ss := ss) (k := k) (by omega); have h2 := szP_le (d := d) (ss := ss) (k := k + 1); omega), (by have h1 := szP_succ (d := d) (ss := ss) (k := k) (by omega); have h2 := szP_le (d := d) (ss := ss) (k := k + 1); exact w64 (by omega) (by omega)), (by have h1 := szP_succ (d := d) (ss := ss) (k := k) (by omega); have h2 := szP_le (d := d) (ss := ss) (k := k + 1); exact w64 (by omega) (by omega)), (by simp [h100, h0]), (by assumption), (by have h1 := szP_succ (d := d) (ss := ss) (k := k) (by omega); have h2 := szP_le (d := d) (ss := ss) (k := k + 1); omega), (by have h1 := szP_succ (d := d) (ss := ss) (k := k) (by omega); have h2 := szP_le (d := d) (ss := ss) (k := k + 1); exact w64 (by omega) (by omega)), (by have h1 := szP_succ (d := d) (ss := ss) (k := k) (by omega); have h2 := szP_le (d := d) (ss := ss) (k := k + 1); exact w64 (by omega) (by omega)), trivial⟩ ?_
   clear G; intro ρ a w G
   refine bl_n ?_
   refine th_n ?_
   refine rs1s G ⟨[], [], []⟩ calls_nil trivial [(0, .ref 0), (1, iA n), (4, iA 0), (5, iA ((↑(szP d ss k) : Int) + (↑(sizeD d (ss.getD k default).body) : Int) + (↑(sizeD d (ss.getD k default).els) : Int))), (6, iA ((↑k : Int) + 1))] [IntKind.i64.wrap ((↑k : Int) + (1 : Int)) = (↑k : Int) + (1 : Int)] ⟨(by have h1 := szP_succ (d := d) (ss := ss) (k := k) (by omega); have h2 := szP_le (d := d) (ss := ss) (k := k + 1); exact w64 (by omega) (by omega)), trivial⟩ ?_
   clear G; intro ρ a w G
   refine th_n ?_
   exact rx_next G (k + 1) (by have h1 := szP_succ (d := d) (ss := ss) (k := k) (by omega); have h2 := szP_le (d := d) (ss := ss) (k := k + 1); omega) (by have h1 := szP_succ (d := d) (ss := ss) (k := k) (by omega); have h2 := szP_le (d := d) (ss := ss) (k := k + 1); omega) [0] [dT ss] [(0, .ref 0), (1, iA n), (4, iA 0), (5, iA (↑(szP d ss (k + 1)) : Int)), (6, iA (↑(k + 1) : Int))] (by kernel_rfl) (by kernel_rfl) (by kernel_rfl) (by kernel_rfl) (by have e1 : ((↑(szP d ss (k + 1)) : Int) : Int) = ((↑(szP d ss k) : Int) + (↑(sizeD d (ss.getD k default).body) : Int) + (↑(sizeD d (ss.getD k default).els) : Int)) := (by have h1 := szP_succ (d := d) (ss := ss) (k := k) (by omega); have h2 := szP_le (d := d) (ss := ss) (k := k + 1); omega); first | (rw [e1]; done) | (rw [e1]; rfl) | (simp only [e1]; done) | (simp only [e1]; rfl))

end Go.Proofs.Ytgpkdfefgcpbiaa

namespace Go.Proofs.Ytgpkdfefgcpbiaa
set_option linter.unusedVariables false
set_option linter.unusedSimpArgs false
open Go Go.RowKit

theorem c_l2SizeD : ∀ d, d ≤ 5 → ∀ (ss : List LStmt) (n : Int), n = (d + 1 : Nat) → szSs ss ≤ 1048576 → Ctr.ok Try.prog (fnC 145 [.ref 0, iA n] [.dat (.stmts ss)] (iA (sizeD d ss : Nat))) := by
  intro d
  induction d with
  | zero => intro _ ss n hn hb; exact c_l2Size0 ss n (by omega) hb
  | succ d ih => intro hd ss n hn hb; exact c_l2SizeS d (by omega) (fun ss n hn hb => ih (by omega) ss n hn hb) ss n (by omega) hb
theorem c_l2Size (ss : List LStmt) (n : Int) (hn : n = 5) (hb : szSs ss ≤ 1048576) : Ctr.ok Try.prog (fnC 145 [.ref 0, iA n] [.dat (.stmts ss)] (iA (sizeD 4 ss : Nat))) :=
  c_l2SizeD 4 (by omega) ss n (by omega) hb
theorem sizeD_eq {nv na : Nat} : ∀ (d : Nat) (ss : List LStmt), (∀ s ∈ ss, stmtB nv na (d + 1) s = true) → sizeD d ss = nSs ss := by
  intro d
  induction d with
  | zero => intro ss h; rw [flat_nSs h]; rfl
  | succ d ih =>
    intro ss
    induction ss with
    | nil => intro _; rfl
    | cons s r ihr =>
      intro h
      have h1 := stmtB_blocks (h s List.mem_cons_self)
      have h2 := ih s.body fun x hx => List.all_eq_true.1 h1.1 x hx
      have h3 := ih s.els fun x hx => List.all_eq_true.1 h1.2 x hx
      have h4 := ihr fun x hx => h x (List.mem_cons_of_mem _ hx)
      rw [nSs, nS_def, ← h2, ← h3, ← h4]
      simp [sizeD]; omega
theorem progB_heads {p : LProg} (h : headsB p.vars p.arrays = false) : progB p = false := by simp [progB, h]
theorem progB_block {p : LProg} (h : blockB p.vars.length p.arrays.length 5 p.body = false) : progB p = false := by simp [progB, h]
theorem progB_size {p : LProg} (h1 : headsB p.vars p.arrays = true) (h2 : blockB p.vars.length p.arrays.length 5 p.body = true) : progB p = decide ((sizeD 4 p.body : Int) ≤ 60) := by
  have h3 := sizeD_eq (nv := p.vars.length) (na := p.arrays.length) 4 p.body (fun x hx => List.all_eq_true.1 h2 x hx)
  rw [progB, h1, h2, h3]
  simp
  exact ⟨fun h => by omega, fun h => by omega⟩

theorem c_l2Body (p : LProg) (n : Int) (hn : n = 5) : Ctr.ok Try.prog (fnC 144 [pA 0, .ref 2, iA n] (pS p) (bA (blockB p.vars.length p.arrays.length 5 p.body))) :=
  Ctr.dup (S := pS p) (S' := pS p) (d := .stmts p.body) (i := 2) (c_l2Block p p.body n hn) rfl rfl rfl (fun ρ h => by simp only [AV.vals, AV.val]; rw [show ρ 3 = ρ 2 from h]) rfl

set_option maxRecDepth 100000 in
theorem c_ProgramValid (p : LProg) (hb : szSs p.body ≤ 1048576) : Ctr.ok Try.prog (fnC 82 [pA 0] (pS p) (bA (progB p))) := by
  refine rx_enter 17 Try.func82 (by rfl) (by kernel_rfl) (by kernel_rfl) ?_
  intro ι φ ψ w0 w F ρ0 ρ a G
  replace G := Gam.at G [dI p.vars, dI p.arrays, dT p.body] [(0, pA 0)]
  refine wp_seq ?_
  refine rs0 G [0, 1, 2, 3] [dI p.vars, dI p.arrays, dT p.body, .box (pL 0)] [(1, .ptr 3 0), (2, bA false)] ?_
  clear G; intro ρ a w G
  refine th_n ?_
  refine wp_seq ?_
  cases h0 : (headsB p.vars p.arrays)
  ·
   refine rs1 (dk := dkP) G ⟨[(1, _, [0, 1, 2])], [(headsB p.vars p.arrays, false), (false, false)], [(3, 0), (4, 0), (5, 0), (6, 0), (1007, 0), (9, 1), (10, 1), (11, 1), (12, 1), (1013, 1)]⟩ (calls_cons (c_l2Heads (p)) calls_nil) ⟨(by assumption), (by kernel_rfl), trivial⟩ [0, 1, 2] [dI p.vars, dI p.arrays, dT p.body] [(2, bA false)] [] trivial ?_
   clear G; intro ρ a w G
   refine th_n ?_
   refine wp_ret ?_
   exact rx_ret (v := bA false) G [0, 1, 2] (by kernel_rfl) (by kernel_rfl) (by kernel_rfl) (by have e1 : (progB p : Bool) = (false) := (by exact progB_heads (by assumption)); first | (rw [e1]; done) | (rw [e1]; rfl) | (simp only [e1]; done) | (simp only [e1]; rfl))
  ·
   cases h1 : (blockB p.vars.length p.arrays.length (5 : Nat) p.body)
   ·
    refine rs1 (dk := dkP) G ⟨[(1, _, [0, 1, 2]), (6, _, [0, 1, 2])], [(headsB p.vars p.arrays, true), (blockB p.vars.length p.arrays.length (5 : Nat) p.body, false)], [(3, 0), (4, 0), (5, 0), (6, 0), (1007, 0), (9, 1), (10, 1), (11, 1), (12, 1), (1013, 1)]⟩ (calls_cons (c_l2Heads (p)) (calls_cons (c_l2Body (p) (5) (by kernel_rfl)) calls_nil)) ⟨(by assumption), (by assumption), trivial⟩ [0, 1, 2] [dI p.vars, dI p.arrays, dT p.body] [(2, bA false)] [] trivial ?_
    clear G; intro ρ a w G
    refine th_n ?_
    refine wp_ret ?_
    exact rx_ret (v := bA false) G [0, 1, 2] (by kernel_rfl) (by kernel_rfl) (by kernel_rfl) (by have e1 : (progB p : Bool) = (false) := (by exact progB_block (by assumption)); first | (rw [e1]; done) | (rw [e1]; rfl) | (simp only [e1]; done) | (simp only [e1]; rfl))
   ·
    refine rs1 (dk := dkP) G ⟨[(1, _, [0, 1, 2]), (6, _, [0, 1, 2]), (11, _, [2])], [(headsB p.vars p.arrays, true), (blockB p.vars.length p.arrays.length (5 : Nat) p.body, true)], [(3, 0), (4, 0), (5, 0), (6, 0), (1007, 0), (9, 1), (10, 1), (11, 1), (12, 1), (1013, 1)]⟩ (calls_cons (c_l2Heads (p)) (calls_cons (c_l2Body (p) (5) (by kernel_rfl)) (calls_cons (c_l2Size (p.body) (5) (by kernel_rfl) (by assumption)) calls_nil))) ⟨(by assumption), (by assumption), trivial⟩ [0, 1, 2] [dI p.vars, dI p.arrays, dT p.body] [(2, bA (decide ((↑(sizeD 4 p.body) : Int) ≤ 60)))] [] trivial ?_
    clear G; intro ρ a w G
    refine th_n ?_
    refine wp_ret ?_
    exact rx_ret (v := bA (decide ((↑(sizeD 4 p.body) : Int) ≤ 60))) G [0, 1, 2] (by kernel_rfl) (by kernel_rfl) (by kernel_rfl) (by have e1 : (progB p : Bool) = (decide ((↑(sizeD 4 p.body) : Int) ≤ 60)) := (by exact progB_size (by assumption) (by assumption)); first | (rw [e1]; done) | (rw [e1]; rfl) | (simp only [e1]; done) | (simp only [e1]; rfl))

/-- What a statement itself must be. -/
def headB (nv na : Nat) (s : LStmt) : Bool := partsB s &&
    (if s.kind = 1 ∨ s.kind = 5 then decide (0 ≤ s.target) && decide (s.target < nv) && rightB nv na s.value
     else if s.kind = 2 then decide (0 ≤ s.target) && decide (s.target < na) && rightB nv na s.index && atomB s.index && rightB nv na s.value
     else if s.kind = 3 then rightB nv na s.value
     else decide (s.kind = 4))
theorem stmtB_head {nv na d : Nat} {s : LStmt} : stmtB nv na (d + 1) s = (headB nv na s && (s.body.all (stmtB nv na d) && s.els.all (stmtB nv na d))) := by
  rw [Bool.eq_iff_iff]
  constructor
  · intro h
    have h1 := stmtB_blocks h
    rw [h1.1, h1.2, Bool.and_true, Bool.and_true]
    rw [stmtB, Bool.and_eq_true] at h
    rw [headB, h.1, Bool.true_and]
    obtain ⟨-, h⟩ := h
    split at h
    · rw [if_pos (by assumption)]; exact h
    split at h
    · rw [if_neg (by assumption), if_pos (by assumption)]; exact h
    split at h
    · rw [if_neg (by assumption), if_neg (by assumption), if_pos (by assumption)]
      simp only [Bool.and_eq_true] at h; exact h.1.1
    split at h
    · rw [if_neg (by assumption), if_neg (by assumption), if_neg (by assumption)]; simp [*]
    · simp at h
  · intro h
    simp only [Bool.and_eq_true] at h
    obtain ⟨h, hb, he⟩ := h
    rw [headB, Bool.and_eq_true] at h
    obtain ⟨h0, h⟩ := h
    rw [stmtB, h0, Bool.true_and]
    split at h
    · rw [if_pos (by assumption)]; exact h
    split at h
    · rw [if_neg (by assumption), if_pos (by assumption)]; exact h
    split at h
    · rw [if_neg (by assumption), if_neg (by assumption), if_pos (by assumption), h, hb, he]; rfl
    · rw [if_neg (by assumption), if_neg (by assumption), if_neg (by assumption), if_pos (by simpa using h), hb]
/-- Statements one after another, with a count. -/
def foldF (F : Nat → LStmt → Bool × Nat) : Nat → List LStmt → Bool × Nat
  | c, [] => (true, c)
  | c, s :: r => if (F c s).1 then foldF F (F c s).2 r else F c s
def stmtF (nv na : Nat) : Nat → Nat → LStmt → Bool × Nat
  | 0, c, _ => (false, c + 1)
  | d + 1, c, s => if 60 < c + 1 then (false, c + 1) else if headB nv na s then
      (if (foldF (stmtF nv na d) (c + 1) s.body).1 then foldF (stmtF nv na d) (foldF (stmtF nv na d) (c + 1) s.body).2 s.els else foldF (stmtF nv na d) (c + 1) s.body)
      else (false, c + 1)
abbrev stmtsF (nv na d c : Nat) (ss : List LStmt) : Bool × Nat := foldF (stmtF nv na d) c ss
theorem foldF_append (F : Nat → LStmt → Bool × Nat) : ∀ (a b : List LStmt) (c : Nat), foldF F c (a ++ b) = if (foldF F c a).1 then foldF F (foldF F c a).2 b else foldF F c a
  | [], b, c => by simp [foldF]
  | x :: r, b, c => by
    simp only [List.cons_append, foldF]
    by_cases h : (F c x).1 = true
    · simp only [h, if_true]; exact foldF_append F r b _
    · simp [h]
theorem foldF_next {F : Nat → LStmt → Bool × Nat} {c k : Nat} {ss : List LStmt} (h : (foldF F c (ss.take k)).1 = true) (hk : k < ss.length) : foldF F c (ss.take (k + 1)) = F (foldF F c (ss.take k)).2 (ss.getD k default) := by
  rw [take_succ_get _ _ hk, foldF_append, if_pos h, getD_lt hk]
  simp only [foldF]
  split
  · rename_i h; exact Prod.ext h.symm rfl
  · rfl
theorem foldF_stop {F : Nat → LStmt → Bool × Nat} {c k : Nat} {ss : List LStmt} (h : (foldF F c (ss.take k)).1 = true) (hk : k < ss.length) (hf : (F (foldF F c (ss.take k)).2 (ss.getD k default)).1 = false) : foldF F c ss = F (foldF F c (ss.take k)).2 (ss.getD k default) := by
  conv => lhs; rw [← List.take_append_drop (k + 1) ss]
  rw [foldF_append, foldF_next h hk, hf]
  rfl
theorem foldF_full {F : Nat → LStmt → Bool × Nat} {c k : Nat} {ss : List LStmt} (hk : ss.length ≤ k) : foldF F c (ss.take k) = foldF F c ss := by rw [List.take_of_length_le hk]
theorem foldF_le {F : Nat → LStmt → Bool × Nat} (hF : ∀ c s, c ≤ 60 → (F c s).2 ≤ 61 ∧ ((F c s).1 = true → (F c s).2 ≤ 60)) : ∀ (ss : List LStmt) (c : Nat), c ≤ 60 → (foldF F c ss).2 ≤ 61 ∧ ((foldF F c ss).1 = true → (foldF F c ss).2 ≤ 60)
  | [], c, h => ⟨by simp only [foldF]; omega, fun _ => by simp only [foldF]; omega⟩
  | s :: r, c, h => by
    simp only [foldF]
    by_cases h1 : (F c s).1 = true
    · rw [if_pos h1]; exact foldF_le hF r _ ((hF c s h).2 h1)
    · rw [if_neg h1]; exact hF c s h
theorem stmtF_le {nv na : Nat} : ∀ (d c : Nat) (s : LStmt), c ≤ 60 → (stmtF nv na d c s).2 ≤ 61 ∧ ((stmtF nv na d c s).1 = true → (stmtF nv na d c s).2 ≤ 60)
  | 0, c, s, h => by simp [stmtF]; omega
  | d + 1, c, s, h => by
    rw [stmtF]
    by_cases h1 : 60 < c + 1
    · rw [if_pos h1]; simp; omega
    rw [if_neg h1]
    by_cases h2 : headB nv na s = true
    · rw [if_pos h2]
      have h3 := foldF_le (stmtF_le (nv := nv) (na := na) d) s.body (c + 1) (by omega)
      by_cases h4 : (foldF (stmtF nv na d) (c + 1) s.body).1 = true
      · rw [if_pos h4]; exact foldF_le (stmtF_le d) s.els _ (h3.2 h4)
      · rw [if_neg h4]; exact h3
    · rw [if_neg h2]; simp; omega
theorem stmtsF_le {nv na d c : Nat} {ss : List LStmt} (h : c ≤ 60) (h1 : (stmtsF nv na d c ss).1 = true) : (stmtsF nv na d c ss).2 ≤ 60 := (foldF_le (stmtF_le d) ss c h).2 h1
section
variable {nv na d c : Nat} {s : LStmt}
theorem stmtF_over (h : 60 < c + 1) : stmtF nv na d c s = (false, c + 1) := by cases d with
  | zero => rfl
  | succ d => rw [stmtF, if_pos h]
theorem stmtF_bad (h : headB nv na s = false) : stmtF nv na d c s = (false, c + 1) := by cases d with
  | zero => rfl
  | succ d => rw [stmtF, h]; simp
theorem stmtF_body (h1 : c + 1 ≤ 60) (h : headB nv na s = true) (h2 : (stmtsF nv na d (c + 1) s.body).1 = false) : stmtF nv na (d + 1) c s = stmtsF nv na d (c + 1) s.body := by
  rw [stmtF, if_neg (by omega), if_pos h, if_neg (by simp [h2])]
theorem stmtF_els (h1 : c + 1 ≤ 60) (h : headB nv na s = true) (h2 : (stmtsF nv na d (c + 1) s.body).1 = true) : stmtF nv na (d + 1) c s = stmtsF nv na d (stmtsF nv na d (c + 1) s.body).2 s.els := by
  rw [stmtF, if_neg (by omega), if_pos h, if_pos h2]
end
/-- What the count comes to. -/
theorem foldF_eq {nv na d : Nat} (hF : ∀ c s, c ≤ 60 → ((stmtF nv na d c s).1 = (stmtB nv na d s && decide (c + nS s ≤ 60))) ∧ ((stmtF nv na d c s).1 = true → (stmtF nv na d c s).2 = c + nS s)) : ∀ (ss : List LStmt) (c : Nat), c ≤ 60 → ((stmtsF nv na d c ss).1 = (ss.all (stmtB nv na d) && decide (c + nSs ss ≤ 60))) ∧ ((stmtsF nv na d c ss).1 = true → (stmtsF nv na d c ss).2 = c + nSs ss)
  | [], c, h => by simp [foldF, nSs, h]
  | s :: r, c, h => by
    obtain ⟨h1, h2⟩ := hF c s h
    simp only [stmtsF, foldF]
    by_cases h3 : (stmtF nv na d c s).1 = true
    · rw [if_pos h3]
      have e := h2 h3
      have l := (stmtF_le d c s h).2 h3
      obtain ⟨h4, h5⟩ := foldF_eq hF r (stmtF nv na d c s).2 l
      rw [h1, Bool.and_eq_true] at h3
      constructor
      · rw [show foldF (stmtF nv na d) (stmtF nv na d c s).2 r = stmtsF nv na d (stmtF nv na d c s).2 r from rfl, h4, List.all_cons, h3.1, Bool.true_and, e, nSs, Nat.add_assoc]
      · intro h6; rw [show foldF (stmtF nv na d) (stmtF nv na d c s).2 r = stmtsF nv na d (stmtF nv na d c s).2 r from rfl, h5 h6, e, nSs]; omega
    · rw [if_neg h3]
      refine ⟨?_, fun h => absurd h h3⟩
      have h4 := h3
      rw [h1] at h4
      rw [Bool.eq_false_iff.2 h3, List.all_cons, nSs]
      cases ha : stmtB nv na d s
      · simp
      · rw [ha, Bool.true_and, decide_eq_true_eq] at h4
        rw [Bool.true_and, show decide (c + (nS s + nSs r) ≤ 60) = false from decide_eq_false (by omega), Bool.and_false]
theorem stmtF_eq {nv na : Nat} : ∀ (d c : Nat) (s : LStmt), c ≤ 60 → ((stmtF nv na d c s).1 = (stmtB nv na d s && decide (c + nS s ≤ 60))) ∧ ((stmtF nv na d c s).1 = true → (stmtF nv na d c s).2 = c + nS s)
  | 0, c, s, h => by simp [stmtF, stmtB]
  | d + 1, c, s, h => by
    have hs := nS_def s
    by_cases h1 : 60 < c + 1
    · rw [stmtF_over h1, show decide (c + nS s ≤ 60) = false from decide_eq_false (by omega), Bool.and_false]; simp
    cases h2 : headB nv na s
    · rw [stmtF_bad h2, stmtB_head, h2]; simp
    obtain ⟨b1, b2⟩ := foldF_eq (stmtF_eq (nv := nv) (na := na) d) s.body (c + 1) (by omega)
    rw [stmtB_head, h2, Bool.true_and]
    cases h3 : (stmtsF nv na d (c + 1) s.body).1
    · rw [stmtF_body (by omega) h2 h3, h3]
      refine ⟨?_, fun h => by simp at h⟩
      rw [h3] at b1
      cases h4 : s.body.all (stmtB nv na d)
      · simp
      · rw [h4, Bool.true_and] at b1
        have := of_decide_eq_false b1.symm
        rw [show decide (c + nS s ≤ 60) = false from decide_eq_false (by omega), Bool.and_false]
    · rw [stmtF_els (by omega) h2 h3]
      have e := b2 h3
      have l := stmtsF_le (nv := nv) (na := na) (d := d) (c := c + 1) (by omega) h3
      obtain ⟨e1, e2⟩ := foldF_eq (stmtF_eq (nv := nv) (na := na) d) s.els _ l
      rw [h3] at b1
      have b3 := b1.symm
      rw [Bool.and_eq_true] at b3
      rw [b3.1, Bool.true_and, e1, e]
      refine ⟨by rw [show c + 1 + nSs s.body + nSs s.els = c + nS s by omega], fun h => ?_⟩
      have h' : (stmtsF nv na d (stmtsF nv na d (c + 1) s.body).2 s.els).1 = true := by rw [e1, e]; exact h
      have := e2 h'
      rw [e] at this
      rw [this]; omega
theorem stmtsF_prog {p : LProg} (h : headsB p.vars p.arrays = true) : (stmtsF p.vars.length p.arrays.length 5 0 p.body).1 = progB p := by
  rw [(foldF_eq (stmtF_eq 5) p.body 0 (by omega)).1, progB, h, Bool.true_and, blockB]; simp

theorem stmtF_zero {nv na c : Nat} {s : LStmt} : stmtF nv na 0 c s = (false, c + 1) := rfl

set_option maxRecDepth 100000 in
theorem c_stmt0 (p : LProg) (s : LStmt) (c : Nat) (hc : c ≤ 60) (n : Int) (hn : n = 6) : Ctr.ok Try.prog ⟨181, [pA 0, sA s 4, iA n, .ptr 3 0], pS p ++ [.box [iA c]] ++ sS s, pS p ++ [.box [iA (stmtF p.vars.length p.arrays.length 0 c s).2]] ++ sS s, bA false⟩ := by
  have h100 : decide (n > 5) = true := by simp; omega
  refine rx_enter 149 Try.func181 (by rfl) (by kernel_rfl) (by kernel_rfl) ?_
  intro ι φ ψ w0 w F ρ0 ρ a G
  replace G := Gam.at G [dI p.vars, dI p.arrays, dT p.body, .box [iA (↑c : Int)], dE s.index.kids, dE s.value.kids, dT s.body, dT s.els] [(0, pA 0), (1, sA s 4), (2, iA n), (3, .ptr 3 0)]
  refine wp_seq ?_
  refine rs0 G [0, 1, 2, 3, 4, 5, 6, 7, 8, 16] [dI p.vars, dI p.arrays, dT p.body, .box [iA (↑c : Int)], dE s.index.kids, dE s.value.kids, dT s.body, dT s.els, .box (pL 0), .box (sL s 4)] [(2, iA n), (3, .ptr 3 0), (4, .ptr 8 0), (5, .ptr 9 0), (8, bA false)] ?_
  clear G; intro ρ a w G
  refine th_n ?_
  refine wp_seq ?_
  refine rs1 (dk := dkP) G ⟨[], [], []⟩ calls_nil trivial [0, 1, 2, 3, 4, 5, 6, 7, 8, 9] [dI p.vars, dI p.arrays, dT p.body, .box [iA ((↑c : Int) + 1)], dE s.index.kids, dE s.value.kids, dT s.body, dT s.els, .box (pL 0), .box (sL s 4)] [(2, iA n), (3, .ptr 3 0), (4, .ptr 8 0), (5, .ptr 9 0), (8, bA false)] [IntKind.i64.wrap ((↑c : Int) + (1 : Int)) = (↑c : Int) + (1 : Int)] ⟨(by exact w64 (by omega) (by omega)), trivial⟩ ?_
  clear G; intro ρ a w G
  refine th_n ?_
  refine wp_seq ?_
  refine wp_seq ?_
  cases h0 : (decide ((↑c : Int) + (1 : Int) > (60 : Int)))
  ·
   have q0 : ¬ ((↑c : Int) + 1 > 60) := of_decide_eq_false h0
   refine rs1s G ⟨[], [(decide ((↑c : Int) + (1 : Int) > (60 : Int)), false)], [(5, 0), (6, 0), (1007, 0)]⟩ calls_nil ⟨(by assumption), trivial⟩ [(2, iA n), (3, .ptr 3 0), (4, .ptr 8 0), (5, .ptr 9 0), (8, bA false), (27, bA (decide (n > 5)))] [] trivial ?_
   clear G; intro ρ a w G
   refine th_n ?_
   refine rT G (decide (n > (5 : Int))) (by assumption) ?_
   refine wp_seq ?_
   refine rs0s G [(2, iA n), (3, .ptr 3 0), (4, .ptr 8 0), (5, .ptr 9 0), (8, bA false)] ?_
   clear G; intro ρ a w G
   refine th_n ?_
   refine wp_ret ?_
   refine th_r ?_
   exact rx_ret (v := bA false) G [0, 1, 2, 3, 4, 5, 6, 7] (by kernel_rfl) (by kernel_rfl) (by kernel_rfl) (by kernel_rfl)
  ·
   have q0 : (↑c : Int) + 1 > 60 := of_decide_eq_true h0
   refine rs1s G ⟨[], [(decide ((↑c : Int) + (1 : Int) > (60 : Int)), true)], [(5, 0), (6, 0), (1007, 0)]⟩ calls_nil ⟨(by assumption), trivial⟩ [(2, iA n), (3, .ptr 3 0), (4, .ptr 8 0), (5, .ptr 9 0), (8, bA false), (27, bA true)] [] trivial ?_
   clear G; intro ρ a w G
   refine th_n ?_
   refine rT G (true) (by kernel_rfl) ?_
   refine wp_seq ?_
   refine rs0s G [(2, iA n), (3, .ptr 3 0), (4, .ptr 8 0), (5, .ptr 9 0), (8, bA false)] ?_
   clear G; intro ρ a w G
   refine th_n ?_
   refine wp_ret ?_
   refine th_r ?_
   exact rx_ret (v := bA false) G [0, 1, 2, 3, 4, 5, 6, 7] (by kernel_rfl) (by kernel_rfl) (by kernel_rfl) (by kernel_rfl)

end Go.Proofs.Ytgpkdfefgcpbiaa
