/-
  Texts of this claim, part 3: what the functions on the way do, and plain laws. Conditions: as each statement says.
-/
import Derived.WalkSpells
import Derived.Lib.SliceRun
import Derived.Test.YtimmlkmpbmbgdaaK2

namespace Go.Proofs.Ytimmlkmpbmbgdaa
set_option linter.unusedVariables false
set_option linter.unusedSimpArgs false
open Go Go.RowKit

set_option maxHeartbeats 400000 in
theorem spec_l2None (k n : Int) (a : Option Addr) (len c : Nat) (w : World) (hl : len ≤ 9223372036854775807) : Calls Try.prog 170 #[.agg #[.int .i64 k, .int .i64 n, .slice a len c]] w fun e w' => e = .returned (.bool (decide (k = 0) && decide (n = 0) && decide (len = 0))) ∧ Below w.heap.size w w' := by
  by_cases q1 : k = 0
  case neg =>
    have p1 : (k == 0) = false := by simp [q1]
    have HQ := show Hid _ from q1
    clear q1
    go_enter Try.func170, Try.ntmps170
    go_wp2_with fail
    go_ret
    exact ⟨ret_bool (by rw [decide_eq_false HQ.out]; rfl), by go_grown⟩
  have p1 : (k == 0) = true := by simp [q1]
  have HQ := show Hid _ from q1
  clear q1
  by_cases q2 : n = 0
  case neg =>
    have p2 : (n == 0) = false := by simp [q2]
    have HQ2 := show Hid _ from q2
    clear q2
    go_enter Try.func170, Try.ntmps170
    go_wp2_with fail
    go_ret
    exact ⟨ret_bool (by rw [decide_eq_true HQ.out, decide_eq_false HQ2.out]; rfl), by go_grown⟩
  have p2 : (n == 0) = true := by simp [q2]
  have HQ2 := show Hid _ from q2
  clear q2
  by_cases q3 : len = 0
  case neg =>
    have p3 : ((len : Int) == 0) = false := by simp [q3]
    have HQ3 := show Hid _ from q3
    clear q3
    go_enter Try.func170, Try.ntmps170
    go_wp2_with fail
    go_ret
    exact ⟨ret_bool (by rw [decide_eq_true HQ.out, decide_eq_true HQ2.out, decide_eq_false HQ3.out]; rfl), by go_grown⟩
  have p3 : ((len : Int) == 0) = true := by simp [q3]
  have HQ3 := show Hid _ from q3
  clear q3
  go_enter Try.func170, Try.ntmps170
  go_wp2_with fail
  go_ret
  exact ⟨ret_bool (by rw [decide_eq_true HQ.out, decide_eq_true HQ2.out, decide_eq_true HQ3.out]; rfl), by go_grown⟩

theorem StmtV.form {w : World} {φ : Nat → Prop} {v : Value} {s : LStmt} (h : StmtV w φ v s) : ∃ ai ci av cv ab cb ae ce, v = .agg #[.int .i64 s.kind, .int .i64 s.target, .int .i64 s.index.kind, .int .i64 s.index.value, .slice ai s.index.kids.length ci, .int .i64 s.value.kind, .int .i64 s.value.value, .slice av s.value.kids.length cv, .int .i64 s.count, .slice ab s.body.length cb, .slice ae s.els.length ce] ∧
    (KidsV w φ (.slice ai s.index.kids.length ci) s.index.kids ∧ KidsV w φ (.slice av s.value.kids.length cv) s.value.kids ∧ BlockV w φ (.slice ab s.body.length cb) s.body ∧ BlockV w φ (.slice ae s.els.length ce) s.els) ∧
    (s.index.kids.length ≤ 9223372036854775807 ∧ s.value.kids.length ≤ 9223372036854775807 ∧ s.body.length ≤ 9223372036854775807 ∧ s.els.length ≤ 9223372036854775807) := by
  obtain ⟨iv, vv, bv, ev, rfl, h1, h2, h3, h4⟩ := h
  obtain ⟨ai, ci, rfl, -, l1, -⟩ := h1.open
  obtain ⟨av, cv, rfl, -, l2, -⟩ := h2.open
  obtain ⟨ab, cb, rfl, -, l3, -⟩ := h3.open
  obtain ⟨ae, ce, rfl, -, l4, -⟩ := h4.open
  exact ⟨ai, ci, av, cv, ab, cb, ae, ce, rfl, ⟨h1, h2, h3, h4⟩, l1, l2, l3, l4⟩

set_option maxHeartbeats 4000000 in
theorem spec_l2Parts (φ : Nat → Prop) (v : Value) (s : LStmt) (w : World) (h : StmtV w φ v s) :
    Calls Try.prog 163 #[v] w fun x w' => x = .returned (.bool (partsB s)) ∧ Below w.heap.size w w' := by
  obtain ⟨ai, ci, av, cv, ab, cb, ae, ce, rfl, -, hl⟩ := h.form
  have HL := show Hid _ from hl
  have hl3 := hl.2.2.1
  have hl4 := hl.2.2.2
  clear h hl
  have HD : Hid (partsB s = if (s.kind = 3 ∨ s.kind = 4) then decide (s.target = 0) && (if s.kind = 4 then decide (s.els.length = 0) && decide (1 ≤ s.count) && decide (s.count ≤ 3) && noneB s.index && noneB s.value else decide (s.count = 0) && noneB s.index)
      else decide (s.body.length = 0) && decide (s.els.length = 0) && decide (s.count = 0) && (decide (s.kind = 2) || noneB s.index)) := rfl
  obtain ⟨W, hW, M⟩ : ∃ W, W = w.alloc (.cells #[.int .i64 s.kind, .int .i64 s.target, .int .i64 s.index.kind, .int .i64 s.index.value, .slice ai s.index.kids.length ci, .int .i64 s.value.kind, .int .i64 s.value.value, .slice av s.value.kids.length cv, .int .i64 s.count, .slice ab s.body.length cb, .slice ae s.els.length ce] 60) ∧ Mem (fun _ => True) (fun _ => True) w W [.box w.heap.size [.int .i64 s.kind, .int .i64 s.target, .int .i64 s.index.kind, .int .i64 s.index.value, .slice ai s.index.kids.length ci, .int .i64 s.value.kind, .int .i64 s.value.value, .slice av s.value.kids.length cv, .int .i64 s.count, .slice ab s.body.length cb, .slice ae s.els.length ce]] :=
    ⟨_, rfl, (Mem.start fun _ _ => trivial).box _ _⟩
  by_cases qk : s.kind = 3
  · have pk : (s.kind == 3) = true := by simp [qk]
    have pk4 : (s.kind == 4) = false := by simp [qk]
    have pk2 : (s.kind == 2) = false := by simp [qk]
    by_cases qpt : s.target = 0
    case neg =>
      have pt : (s.target != 0) = true := by first | (simp [qpt]; done) | (simp; omega) | exact decide_eq_true (by omega) | exact decide_eq_false (by omega)
      have HP : Hid (partsB s = false) := by rw [Hid, HD.out]; simp [qk, qpt]
      clear qpt qk HD
      have c0 := M.c 0 0 rfl rfl
      have c1 := M.c 0 1 rfl rfl
      have c2 := M.c 0 2 rfl rfl
      have c3 := M.c 0 3 rfl rfl
      have c4 := M.c 0 4 rfl rfl
      have c5 := M.c 0 5 rfl rfl
      have c6 := M.c 0 6 rfl rfl
      have c7 := M.c 0 7 rfl rfl
      have c8 := M.c 0 8 rfl rfl
      have c9 := M.c 0 9 rfl rfl
      have c10 := M.c 0 10 rfl rfl
      have HM := show Hid _ from M
      rw [hW] at c0 c1 c2 c3 c4 c5 c6 c7 c8 c9 c10
      clear M
      go_enter Try.func163, Try.ntmps163
      go_wp2_with fail
      rw [← hW]
      clear hW
      have M := HM.out
      clear HM c0 c1 c2 c3 c4 c5 c6 c7 c8 c9 c10
      go_ret
      exact ⟨ret_bool (by rw [HP.out]), M.below fun _ _ => trivial⟩
    have pt : (s.target != 0) = false := by first | (simp [qpt]; done) | (simp; omega) | exact decide_eq_true (by omega) | exact decide_eq_false (by omega)
    by_cases qpc : s.count = 0
    case neg =>
      have pc : (s.count == 0) = false := by first | (simp [qpc]; done) | (simp; omega) | exact decide_eq_true (by omega) | exact decide_eq_false (by omega)
      have HP : Hid (partsB s = false) := by rw [Hid, HD.out]; simp [qk, qpt, qpc]
      clear qpc qk qpt HD
      have c0 := M.c 0 0 rfl rfl
      have c1 := M.c 0 1 rfl rfl
      have c2 := M.c 0 2 rfl rfl
      have c3 := M.c 0 3 rfl rfl
      have c4 := M.c 0 4 rfl rfl
      have c5 := M.c 0 5 rfl rfl
      have c6 := M.c 0 6 rfl rfl
      have c7 := M.c 0 7 rfl rfl
      have c8 := M.c 0 8 rfl rfl
      have c9 := M.c 0 9 rfl rfl
      have c10 := M.c 0 10 rfl rfl
      have HM := show Hid _ from M
      rw [hW] at c0 c1 c2 c3 c4 c5 c6 c7 c8 c9 c10
      clear M
      go_enter Try.func163, Try.ntmps163
      go_wp2_with fail
      rw [← hW]
      clear hW
      have M := HM.out
      clear HM c0 c1 c2 c3 c4 c5 c6 c7 c8 c9 c10
      go_ret
      exact ⟨ret_bool (by rw [HP.out]), M.below fun _ _ => trivial⟩
    have pc : (s.count == 0) = true := by first | (simp [qpc]; done) | (simp; omega) | exact decide_eq_true (by omega) | exact decide_eq_false (by omega)
    have HP : Hid (partsB s = noneB s.index) := by rw [Hid, HD.out]; simp [qk, qpt, qpc]
    clear qpt qpc HD qk
    have c0 := M.c 0 0 rfl rfl
    have c1 := M.c 0 1 rfl rfl
    have c2 := M.c 0 2 rfl rfl
    have c3 := M.c 0 3 rfl rfl
    have c4 := M.c 0 4 rfl rfl
    have c5 := M.c 0 5 rfl rfl
    have c6 := M.c 0 6 rfl rfl
    have c7 := M.c 0 7 rfl rfl
    have c8 := M.c 0 8 rfl rfl
    have c9 := M.c 0 9 rfl rfl
    have c10 := M.c 0 10 rfl rfl
    have HM := show Hid _ from M
    rw [hW] at c0 c1 c2 c3 c4 c5 c6 c7 c8 c9 c10
    clear M
    go_enter Try.func163, Try.ntmps163
    go_wp2_with fail
    rw [← hW]
    clear hW
    have M := HM.out
    clear HM c0 c1 c2 c3 c4 c5 c6 c7 c8 c9 c10
    refine (spec_l2None s.index.kind s.index.value ai s.index.kids.length ci _ HL.out.1).mono ?_
    rintro x w1 ⟨rfl, b1⟩
    rw [show (decide (s.index.kind = 0) && decide (s.index.value = 0) && decide (s.index.kids.length = 0)) = noneB s.index from rfl]
    replace M := M.call b1
    clear b1
    have HM := show Hid _ from M
    clear M
    go_wp2_with fail
    go_ret
    exact ⟨ret_bool (by rw [HP.out]), HM.out.below fun _ _ => trivial⟩
  have qk3 := qk
  have pk3 : (s.kind == 3) = false := by simp [qk]
  clear qk
  by_cases qk : s.kind = 4
  · have pk4 : (s.kind == 4) = true := by simp [qk]
    clear qk3
    by_cases qpt : s.target = 0
    case neg =>
      have pt : (s.target != 0) = true := by first | (simp [qpt]; done) | (simp; omega) | exact decide_eq_true (by omega) | exact decide_eq_false (by omega)
      have HP : Hid (partsB s = false) := by rw [Hid, HD.out]; simp [qk, qpt]
      clear qpt qk HD
      have c0 := M.c 0 0 rfl rfl
      have c1 := M.c 0 1 rfl rfl
      have c2 := M.c 0 2 rfl rfl
      have c3 := M.c 0 3 rfl rfl
      have c4 := M.c 0 4 rfl rfl
      have c5 := M.c 0 5 rfl rfl
      have c6 := M.c 0 6 rfl rfl
      have c7 := M.c 0 7 rfl rfl
      have c8 := M.c 0 8 rfl rfl
      have c9 := M.c 0 9 rfl rfl
      have c10 := M.c 0 10 rfl rfl
      have HM := show Hid _ from M
      rw [hW] at c0 c1 c2 c3 c4 c5 c6 c7 c8 c9 c10
      clear M
      go_enter Try.func163, Try.ntmps163
      go_wp2_with fail
      rw [← hW]
      clear hW
      have M := HM.out
      clear HM c0 c1 c2 c3 c4 c5 c6 c7 c8 c9 c10
      go_ret
      exact ⟨ret_bool (by rw [HP.out]), M.below fun _ _ => trivial⟩
    have pt : (s.target != 0) = false := by first | (simp [qpt]; done) | (simp; omega) | exact decide_eq_true (by omega) | exact decide_eq_false (by omega)
    by_cases qpe : s.els.length = 0
    case neg =>
      have pe : ((s.els.length : Int) == 0) = false := by first | (simp [qpe]; done) | (simp; omega) | exact decide_eq_true (by omega) | exact decide_eq_false (by omega)
      have HP : Hid (partsB s = false) := by rw [Hid, HD.out]; simp [qk, qpt, qpe]
      clear qpe qk qpt HD
      have c0 := M.c 0 0 rfl rfl
      have c1 := M.c 0 1 rfl rfl
      have c2 := M.c 0 2 rfl rfl
      have c3 := M.c 0 3 rfl rfl
      have c4 := M.c 0 4 rfl rfl
      have c5 := M.c 0 5 rfl rfl
      have c6 := M.c 0 6 rfl rfl
      have c7 := M.c 0 7 rfl rfl
      have c8 := M.c 0 8 rfl rfl
      have c9 := M.c 0 9 rfl rfl
      have c10 := M.c 0 10 rfl rfl
      have HM := show Hid _ from M
      rw [hW] at c0 c1 c2 c3 c4 c5 c6 c7 c8 c9 c10
      clear M
      go_enter Try.func163, Try.ntmps163
      go_wp2_with fail
      rw [← hW]
      clear hW
      have M := HM.out
      clear HM c0 c1 c2 c3 c4 c5 c6 c7 c8 c9 c10
      go_ret
      exact ⟨ret_bool (by rw [HP.out]), M.below fun _ _ => trivial⟩
    have pe : ((s.els.length : Int) == 0) = true := by first | (simp [qpe]; done) | (simp; omega) | exact decide_eq_true (by omega) | exact decide_eq_false (by omega)
    by_cases qp1 : 1 ≤ s.count
    case neg =>
      have p1 : decide (1 ≤ s.count) = false := by first | (simp [qp1]; done) | (simp; omega) | exact decide_eq_true (by omega) | exact decide_eq_false (by omega)
      have HP : Hid (partsB s = false) := by rw [Hid, HD.out]; simp [qk, qpt, qpe, qp1]
      clear qp1 qk qpt qpe HD
      have c0 := M.c 0 0 rfl rfl
      have c1 := M.c 0 1 rfl rfl
      have c2 := M.c 0 2 rfl rfl
      have c3 := M.c 0 3 rfl rfl
      have c4 := M.c 0 4 rfl rfl
      have c5 := M.c 0 5 rfl rfl
      have c6 := M.c 0 6 rfl rfl
      have c7 := M.c 0 7 rfl rfl
      have c8 := M.c 0 8 rfl rfl
      have c9 := M.c 0 9 rfl rfl
      have c10 := M.c 0 10 rfl rfl
      have HM := show Hid _ from M
      rw [hW] at c0 c1 c2 c3 c4 c5 c6 c7 c8 c9 c10
      clear M
      go_enter Try.func163, Try.ntmps163
      go_wp2_with fail
      rw [← hW]
      clear hW
      have M := HM.out
      clear HM c0 c1 c2 c3 c4 c5 c6 c7 c8 c9 c10
      go_ret
      exact ⟨ret_bool (by rw [HP.out]), M.below fun _ _ => trivial⟩
    have p1 : decide (1 ≤ s.count) = true := by first | (simp [qp1]; done) | (simp; omega) | exact decide_eq_true (by omega) | exact decide_eq_false (by omega)
    by_cases qp3 : s.count ≤ 3
    case neg =>
      have p3 : decide (s.count ≤ 3) = false := by first | (simp [qp3]; done) | (simp; omega) | exact decide_eq_true (by omega) | exact decide_eq_false (by omega)
      have HP : Hid (partsB s = false) := by rw [Hid, HD.out]; simp [qk, qpt, qpe, qp1, qp3]
      clear qp3 qk qpt qpe qp1 HD
      have c0 := M.c 0 0 rfl rfl
      have c1 := M.c 0 1 rfl rfl
      have c2 := M.c 0 2 rfl rfl
      have c3 := M.c 0 3 rfl rfl
      have c4 := M.c 0 4 rfl rfl
      have c5 := M.c 0 5 rfl rfl
      have c6 := M.c 0 6 rfl rfl
      have c7 := M.c 0 7 rfl rfl
      have c8 := M.c 0 8 rfl rfl
      have c9 := M.c 0 9 rfl rfl
      have c10 := M.c 0 10 rfl rfl
      have HM := show Hid _ from M
      rw [hW] at c0 c1 c2 c3 c4 c5 c6 c7 c8 c9 c10
      clear M
      go_enter Try.func163, Try.ntmps163
      go_wp2_with fail
      rw [← hW]
      clear hW
      have M := HM.out
      clear HM c0 c1 c2 c3 c4 c5 c6 c7 c8 c9 c10
      go_ret
      exact ⟨ret_bool (by rw [HP.out]), M.below fun _ _ => trivial⟩
    have p3 : decide (s.count ≤ 3) = true := by first | (simp [qp3]; done) | (simp; omega) | exact decide_eq_true (by omega) | exact decide_eq_false (by omega)
    have HP0 : Hid (partsB s = (noneB s.index && noneB s.value)) := by rw [Hid, HD.out]; simp [qk, qpt, qpe, qp1, qp3]
    clear qpt qpe qp1 qp3 HD qk
    have c0 := M.c 0 0 rfl rfl
    have c1 := M.c 0 1 rfl rfl
    have c2 := M.c 0 2 rfl rfl
    have c3 := M.c 0 3 rfl rfl
    have c4 := M.c 0 4 rfl rfl
    have c5 := M.c 0 5 rfl rfl
    have c6 := M.c 0 6 rfl rfl
    have c7 := M.c 0 7 rfl rfl
    have c8 := M.c 0 8 rfl rfl
    have c9 := M.c 0 9 rfl rfl
    have c10 := M.c 0 10 rfl rfl
    have HM := show Hid _ from M
    rw [hW] at c0 c1 c2 c3 c4 c5 c6 c7 c8 c9 c10
    clear M
    go_enter Try.func163, Try.ntmps163
    go_wp2_with fail
    rw [← hW]
    clear hW
    have M := HM.out
    clear HM c0 c1 c2 c3 c4 c5 c6 c7 c8 c9 c10
    refine (spec_l2None s.index.kind s.index.value ai s.index.kids.length ci _ HL.out.1).mono ?_
    rintro x w1 ⟨rfl, b1⟩
    rw [show (decide (s.index.kind = 0) && decide (s.index.value = 0) && decide (s.index.kids.length = 0)) = noneB s.index from rfl]
    replace M := M.call b1
    clear b1
    obtain ⟨b, hb⟩ : ∃ b, b = noneB s.index := ⟨_, rfl⟩
    rw [← hb]
    have HB := show Hid _ from hb
    clear hb
    cases b
    · have HP : Hid (partsB s = false) := by rw [Hid, HP0.out, ← HB.out]; rfl
      clear HP0
      have HM := show Hid _ from M
      clear M
      go_wp2_with fail
      go_ret
      exact ⟨ret_bool (by rw [HP.out]), HM.out.below fun _ _ => trivial⟩
    · have HP : Hid (partsB s = noneB s.value) := by rw [Hid, HP0.out, ← HB.out]; rfl
      clear HP0
      have c5 := M.c 0 5 rfl rfl
      have c6 := M.c 0 6 rfl rfl
      have c7 := M.c 0 7 rfl rfl
      have HM := show Hid _ from M
      clear M
      go_wp2_with fail
      have M := HM.out
      clear HM c5 c6 c7
      refine (spec_l2None s.value.kind s.value.value av s.value.kids.length cv _ HL.out.2.1).mono ?_
      rintro x w1 ⟨rfl, b1⟩
      rw [show (decide (s.value.kind = 0) && decide (s.value.value = 0) && decide (s.value.kids.length = 0)) = noneB s.value from rfl]
      replace M := M.call b1
      clear b1
      have HM := show Hid _ from M
      clear M
      go_wp2_with fail
      go_ret
      exact ⟨ret_bool (by rw [HP.out]), HM.out.below fun _ _ => trivial⟩
  have qk4 := qk
  have pk4 : (s.kind == 4) = false := by simp [qk]
  clear qk
  by_cases qpb : s.body.length = 0
  case neg =>
    have pb : decide (0 < s.body.length) = true := by first | (simp [qpb]; done) | (simp; omega) | exact decide_eq_true (by omega) | exact decide_eq_false (by omega)
    have HP : Hid (partsB s = false) := by rw [Hid, HD.out]; simp [qk3, qk4, qpb]
    clear qpb qk3 qk4 HD
    have c0 := M.c 0 0 rfl rfl
    have c1 := M.c 0 1 rfl rfl
    have c2 := M.c 0 2 rfl rfl
    have c3 := M.c 0 3 rfl rfl
    have c4 := M.c 0 4 rfl rfl
    have c5 := M.c 0 5 rfl rfl
    have c6 := M.c 0 6 rfl rfl
    have c7 := M.c 0 7 rfl rfl
    have c8 := M.c 0 8 rfl rfl
    have c9 := M.c 0 9 rfl rfl
    have c10 := M.c 0 10 rfl rfl
    have HM := show Hid _ from M
    rw [hW] at c0 c1 c2 c3 c4 c5 c6 c7 c8 c9 c10
    clear M
    go_enter Try.func163, Try.ntmps163
    go_wp2_with fail
    rw [← hW]
    clear hW
    have M := HM.out
    clear HM c0 c1 c2 c3 c4 c5 c6 c7 c8 c9 c10
    go_ret
    exact ⟨ret_bool (by rw [HP.out]), M.below fun _ _ => trivial⟩
  have pb : decide (0 < s.body.length) = false := by first | (simp [qpb]; done) | (simp; omega) | exact decide_eq_true (by omega) | exact decide_eq_false (by omega)
  by_cases qpe : s.els.length = 0
  case neg =>
    have pe : decide (0 < s.els.length) = true := by first | (simp [qpe]; done) | (simp; omega) | exact decide_eq_true (by omega) | exact decide_eq_false (by omega)
    have HP : Hid (partsB s = false) := by rw [Hid, HD.out]; simp [qk3, qk4, qpb, qpe]
    clear qpe qk3 qk4 qpb HD
    have c0 := M.c 0 0 rfl rfl
    have c1 := M.c 0 1 rfl rfl
    have c2 := M.c 0 2 rfl rfl
    have c3 := M.c 0 3 rfl rfl
    have c4 := M.c 0 4 rfl rfl
    have c5 := M.c 0 5 rfl rfl
    have c6 := M.c 0 6 rfl rfl
    have c7 := M.c 0 7 rfl rfl
    have c8 := M.c 0 8 rfl rfl
    have c9 := M.c 0 9 rfl rfl
    have c10 := M.c 0 10 rfl rfl
    have HM := show Hid _ from M
    rw [hW] at c0 c1 c2 c3 c4 c5 c6 c7 c8 c9 c10
    clear M
    go_enter Try.func163, Try.ntmps163
    go_wp2_with fail
    rw [← hW]
    clear hW
    have M := HM.out
    clear HM c0 c1 c2 c3 c4 c5 c6 c7 c8 c9 c10
    go_ret
    exact ⟨ret_bool (by rw [HP.out]), M.below fun _ _ => trivial⟩
  have pe : decide (0 < s.els.length) = false := by first | (simp [qpe]; done) | (simp; omega) | exact decide_eq_true (by omega) | exact decide_eq_false (by omega)
  by_cases qpc : s.count = 0
  case neg =>
    have pc : (s.count == 0) = false := by first | (simp [qpc]; done) | (simp; omega) | exact decide_eq_true (by omega) | exact decide_eq_false (by omega)
    have HP : Hid (partsB s = false) := by rw [Hid, HD.out]; simp [qk3, qk4, qpb, qpe, qpc]
    clear qpc qk3 qk4 qpb qpe HD
    have c0 := M.c 0 0 rfl rfl
    have c1 := M.c 0 1 rfl rfl
    have c2 := M.c 0 2 rfl rfl
    have c3 := M.c 0 3 rfl rfl
    have c4 := M.c 0 4 rfl rfl
    have c5 := M.c 0 5 rfl rfl
    have c6 := M.c 0 6 rfl rfl
    have c7 := M.c 0 7 rfl rfl
    have c8 := M.c 0 8 rfl rfl
    have c9 := M.c 0 9 rfl rfl
    have c10 := M.c 0 10 rfl rfl
    have HM := show Hid _ from M
    rw [hW] at c0 c1 c2 c3 c4 c5 c6 c7 c8 c9 c10
    clear M
    go_enter Try.func163, Try.ntmps163
    go_wp2_with fail
    rw [← hW]
    clear hW
    have M := HM.out
    clear HM c0 c1 c2 c3 c4 c5 c6 c7 c8 c9 c10
    go_ret
    exact ⟨ret_bool (by rw [HP.out]), M.below fun _ _ => trivial⟩
  have pc : (s.count == 0) = true := by first | (simp [qpc]; done) | (simp; omega) | exact decide_eq_true (by omega) | exact decide_eq_false (by omega)
  by_cases qk2 : s.kind = 2
  · have pk2 : (s.kind == 2) = true := by simp [qk2]
    have HP : Hid (partsB s = true) := by rw [Hid, HD.out]; simp [qk2, qpb, qpe, qpc]
    clear qk2 qk3 qk4 qpb qpe qpc HD
    have c0 := M.c 0 0 rfl rfl
    have c1 := M.c 0 1 rfl rfl
    have c2 := M.c 0 2 rfl rfl
    have c3 := M.c 0 3 rfl rfl
    have c4 := M.c 0 4 rfl rfl
    have c5 := M.c 0 5 rfl rfl
    have c6 := M.c 0 6 rfl rfl
    have c7 := M.c 0 7 rfl rfl
    have c8 := M.c 0 8 rfl rfl
    have c9 := M.c 0 9 rfl rfl
    have c10 := M.c 0 10 rfl rfl
    have HM := show Hid _ from M
    rw [hW] at c0 c1 c2 c3 c4 c5 c6 c7 c8 c9 c10
    clear M
    go_enter Try.func163, Try.ntmps163
    go_wp2_with fail
    rw [← hW]
    clear hW
    have M := HM.out
    clear HM c0 c1 c2 c3 c4 c5 c6 c7 c8 c9 c10
    go_ret
    exact ⟨ret_bool (by rw [HP.out]), M.below fun _ _ => trivial⟩
  · have pk2 : (s.kind == 2) = false := by simp [qk2]
    have HP : Hid (partsB s = noneB s.index) := by rw [Hid, HD.out]; simp [qk2, qk3, qk4, qpb, qpe, qpc]
    clear qk2 qk3 qk4 qpb qpe qpc HD
    have c0 := M.c 0 0 rfl rfl
    have c1 := M.c 0 1 rfl rfl
    have c2 := M.c 0 2 rfl rfl
    have c3 := M.c 0 3 rfl rfl
    have c4 := M.c 0 4 rfl rfl
    have c5 := M.c 0 5 rfl rfl
    have c6 := M.c 0 6 rfl rfl
    have c7 := M.c 0 7 rfl rfl
    have c8 := M.c 0 8 rfl rfl
    have c9 := M.c 0 9 rfl rfl
    have c10 := M.c 0 10 rfl rfl
    have HM := show Hid _ from M
    rw [hW] at c0 c1 c2 c3 c4 c5 c6 c7 c8 c9 c10
    clear M
    go_enter Try.func163, Try.ntmps163
    go_wp2_with fail
    rw [← hW]
    clear hW
    have M := HM.out
    clear HM c0 c1 c2 c3 c4 c5 c6 c7 c8 c9 c10
    refine (spec_l2None s.index.kind s.index.value ai s.index.kids.length ci _ HL.out.1).mono ?_
    rintro x w1 ⟨rfl, b1⟩
    rw [show (decide (s.index.kind = 0) && decide (s.index.value = 0) && decide (s.index.kids.length = 0)) = noneB s.index from rfl]
    replace M := M.call b1
    clear b1
    have HM := show Hid _ from M
    clear M
    go_wp2_with fail
    go_ret
    exact ⟨ret_bool (by rw [HP.out]), HM.out.below fun _ _ => trivial⟩


def StB (a1 a2 : Option Addr) (nv c1 na c2 : Nat) (v3 : Value) (d : Nat) : Prop := ∀ (s : LStmt) (φ : Nat → Prop) (v : Value) (w : World), StmtV w φ v s →
  Calls Try.prog 144 #[.agg #[.slice a1 nv c1, .slice a2 na c2, v3], v, .int .i64 d] w fun x w' => x = .returned (.bool (stmtB nv na d s)) ∧ Below w.heap.size w w'
def BlB (a1 a2 : Option Addr) (nv c1 na c2 : Nat) (v3 : Value) (d : Nat) : Prop := ∀ (ss : List LStmt) (φ : Nat → Prop) (v : Value) (w : World), BlockV w φ v ss →
  Calls Try.prog 120 #[.agg #[.slice a1 nv c1, .slice a2 na c2, v3], v, .int .i64 d] w fun x w' => x = .returned (.bool (ss.all (stmtB nv na d))) ∧ Below w.heap.size w w'

set_option maxHeartbeats 2000000 in
theorem l2Block_of (a1 a2 : Option Addr) (nv c1 na c2 : Nat) (v3 : Value) (d : Nat) (hd : d ≤ 5) (ih : StB a1 a2 nv c1 na c2 v3 d) : BlB a1 a2 nv c1 na c2 v3 d := by
  intro ss φ v w h
  obtain ⟨ak, ck, rfl, -, hn, -, hc⟩ := h.open
  obtain ⟨W, hW, M⟩ : ∃ W, W = w.alloc (.cells #[.slice a1 nv c1, .slice a2 na c2, v3] 31) ∧ Mem (fun _ => True) (fun _ => True) w W [.box w.heap.size [.slice a1 nv c1, .slice a2 na c2, v3]] :=
    ⟨_, rfl, (Mem.start fun _ _ => trivial).box _ _⟩
  have HC := show Hid _ from hc
  clear h hc
  go_enter Try.func120, Try.ntmps120
  go_wp2_with fail
  rw [← hW]
  clear hW
  go_loopw [7] (fun i wr => ∃ k : Nat, k ≤ ss.length ∧ i = .int .i64 k ∧ (ss.take k).all (stmtB nv na d) = true ∧ Mem (fun _ => True) (fun _ => True) w wr [.box w.heap.size [.slice a1 nv c1, .slice a2 na c2, v3]]) (fun i _ => ss.length - (intOf i).toNat)
  case atStart => exact ⟨0, Nat.zero_le _, rfl, rfl, M⟩
  case round =>
    clear M
    obtain ⟨k, hk, rfl, hall, M⟩ := hrel
    have HALL := show Hid _ from hall
    clear hall
    have hB := M.below fun _ _ => trivial
    have x0 := M.c 0 0 rfl rfl
    have x1 := M.c 0 1 rfl rfl
    have x2 := M.c 0 2 rfl rfl
    by_cases hlt : k < ss.length
    · obtain ⟨b, off, iv, vv, bv, ev, rfl, hbk, hf, ⟨e0, e1, e2, e3, e4, e5, e6, e7, e8, e9, e10⟩, g1, g2, g3, g4⟩ := HC.out k hlt
      rw [← (bcell hB).1 _ _ hbk] at e0 e1 e2 e3 e4 e5 e6 e7 e8 e9 e10
      obtain ⟨q, hq⟩ : ∃ q, q = stmtB nv na d ss[k] := ⟨_, rfl⟩
      have HC3 : Hid (∀ X, Calls Try.prog 144 #[.agg #[.slice a1 nv c1, .slice a2 na c2, v3], .agg #[.int .i64 ss[k].kind, .int .i64 ss[k].target, .int .i64 ss[k].index.kind, .int .i64 ss[k].index.value, iv, .int .i64 ss[k].value.kind, .int .i64 ss[k].value.value, vv, .int .i64 ss[k].count, bv, ev], .int .i64 d] (wr.ext X) fun x w'' => x = .returned (.bool q) ∧ ∃ Y, w'' = wr.ext Y) := fun X => by
        have bb := hB.trans ((ext_below wr X).mono hB.size)
        rw [hq]
        exact Calls.ext_of' (ih _ φ _ _ (StmtV.nice _ _ _ _ _ _ (Agr.below bb) ⟨iv, vv, bv, ev, rfl, g1, g2, g3, g4⟩))
      have HQQ := show Hid _ from hq
      have HM := show Hid _ from M
      have j0 := fun X => ext_cell e0 X
      have j1 := fun X => ext_cell e1 X
      have j2 := fun X => ext_cell e2 X
      have j3 := fun X => ext_cell e3 X
      have j4 := fun X => ext_cell e4 X
      have j5 := fun X => ext_cell e5 X
      have j6 := fun X => ext_cell e6 X
      have j7 := fun X => ext_cell e7 X
      have j8 := fun X => ext_cell e8 X
      have j9 := fun X => ext_cell e9 X
      have j10 := fun X => ext_cell e10 X
      have z0 := fun X => ext_cell x0 X
      have z1 := fun X => ext_cell x1 X
      have z2 := fun X => ext_cell x2 X
      have hlt' : (k : Int) < ss.length := by omega
      clear g1 g2 g3 g4 hq e0 e1 e2 e3 e4 e5 e6 e7 e8 e9 e10 x0 x1 x2 M hB
      cases q
      · go_wp2_with fail
        refine wp_region_ext (by kernel_rfl) (by kernel_rfl) ?_
        repeat (any_goals (first | go_big_quiet_step (((go_at_call 144; exact HC3.out _))) | quiet_step (((go_at_call 144; exact HC3.out _)))))
        refine wpQuiet_nil ?_
        rintro _ ⟨X, rfl⟩
        go_wp2_with fail
        go_ret
        exact ⟨ret_bool (by symm; exact List.all_eq_false.2 ⟨_, List.getElem_mem hlt, by rw [← HQQ.out]; simp⟩), (HM.out.call (ext_below wr X)).below fun _ _ => trivial⟩
      · go_wp2_with fail
        refine wp_region_ext (by kernel_rfl) (by kernel_rfl) ?_
        repeat (any_goals (first | go_big_quiet_step (((go_at_call 144; exact HC3.out _))) | quiet_step (((go_at_call 144; exact HC3.out _)))))
        refine wpQuiet_nil ?_
        rintro _ ⟨X, rfl⟩
        go_wp2_with fail
        refine ⟨⟨k + 1, by omega, by go_num, ?_, HM.out.call (ext_below wr X)⟩, by simp [intOf]; omega⟩
        rw [p_take_succ _ _ hlt, List.all_append, HALL.out]
        simp [← HQQ.out]
    · have hkn : k = ss.length := by omega
      subst hkn
      have hall := HALL.out
      rw [List.take_of_length_le (Nat.le_refl _)] at hall
      have HAL := show Hid _ from hall
      have HB := show Hid _ from hB
      clear hall x0 x1 x2 M hB
      go_wp2_with fail
      go_ret
      exact ⟨ret_bool HAL.out.symm, HB.out⟩

set_option maxRecDepth 100000 in
set_option maxHeartbeats 8000000 in
theorem l2Stmt_of (a1 a2 : Option Addr) (nv c1 na c2 : Nat) (v3 : Value) (h1 : nv ≤ 9223372036854775807) (h2 : na ≤ 9223372036854775807) : ∀ d : Nat, d ≤ 5 → StB a1 a2 nv c1 na c2 v3 d := by
  intro d
  induction d with
  | zero =>
    intro _ s φ v w h
    obtain ⟨ai, ci, av, cv, ab, cb, ae, ce, rfl, -, -⟩ := h.form
    have HP : Hid (stmtB nv na 0 s = false) := rfl
    clear h
    go_enter Try.func144, Try.ntmps144
    go_wp2_with fail
    go_ret
    exact ⟨ret_bool HP.out.symm, by go_grown⟩
  | succ d ih0 =>
    intro hd5 s φ v w h
    have ih := ih0 (by omega)
    clear ih0
    have hfull := h
    obtain ⟨ai, ci, av, cv, ab, cb, ae, ce, rfl, ⟨g1, g2, g3, g4⟩, -⟩ := h.form
    have hd0 : (d : Int) ≤ 5 := by omega
    have p9 : decide ((d : Int) + 1 < 1) = false := decide_eq_false (by omega)
    have HD0 : Hid (stmtB nv na (d + 1) s = (partsB s && (if s.kind = 1 ∨ s.kind = 5 then decide (0 ≤ s.target) && decide (s.target < (nv : Int)) && rightB nv na s.value else if s.kind = 2 then decide (0 ≤ s.target) && decide (s.target < (na : Int)) && rightB nv na s.index && atomB s.index && rightB nv na s.value
      else if s.kind = 3 then rightB nv na s.value && s.body.all (stmtB nv na d) && s.els.all (stmtB nv na d) else if s.kind = 4 then s.body.all (stmtB nv na d) else false))) := rfl
    have HG : Hid (∀ W, Below w.heap.size w W → ExprV W φ (.agg #[.int .i64 s.index.kind, .int .i64 s.index.value, .slice ai s.index.kids.length ci]) s.index ∧ ExprV W φ (.agg #[.int .i64 s.value.kind, .int .i64 s.value.value, .slice av s.value.kids.length cv]) s.value ∧ BlockV W φ (.slice ab s.body.length cb) s.body ∧ BlockV W φ (.slice ae s.els.length ce) s.els) := fun W k =>
      ⟨⟨_, rfl, KidsV.nice _ _ _ _ _ _ (Agr.below k) g1⟩, ⟨_, rfl, KidsV.nice _ _ _ _ _ _ (Agr.below k) g2⟩, BlockV.nice _ _ _ _ _ _ (Agr.below k) g3, BlockV.nice _ _ _ _ _ _ (Agr.below k) g4⟩
    have HF : Hid (∀ W, Below w.heap.size w W → StmtV W φ (.agg #[.int .i64 s.kind, .int .i64 s.target, .int .i64 s.index.kind, .int .i64 s.index.value, .slice ai s.index.kids.length ci, .int .i64 s.value.kind, .int .i64 s.value.value, .slice av s.value.kids.length cv, .int .i64 s.count, .slice ab s.body.length cb, .slice ae s.els.length ce]) s) := fun W k => StmtV.nice _ _ _ _ _ _ (Agr.below k) hfull
    obtain ⟨W, hW, M⟩ : ∃ W, W = (w.alloc (.cells #[.slice a1 nv c1, .slice a2 na c2, v3] 31)).alloc (.cells #[.int .i64 s.kind, .int .i64 s.target, .int .i64 s.index.kind, .int .i64 s.index.value, .slice ai s.index.kids.length ci, .int .i64 s.value.kind, .int .i64 s.value.value, .slice av s.value.kids.length cv, .int .i64 s.count, .slice ab s.body.length cb, .slice ae s.els.length ce] 60) ∧ Mem (fun _ => True) (fun _ => True) w W [.box w.heap.size [.slice a1 nv c1, .slice a2 na c2, v3], .box (w.heap.size + 1) [.int .i64 s.kind, .int .i64 s.target, .int .i64 s.index.kind, .int .i64 s.index.value, .slice ai s.index.kids.length ci, .int .i64 s.value.kind, .int .i64 s.value.value, .slice av s.value.kids.length cv, .int .i64 s.count, .slice ab s.body.length cb, .slice ae s.els.length ce]] :=
      ⟨_, rfl, ((Mem.start fun _ _ => trivial).box _ _).box' _ _ (by simp)⟩
    clear g1 g2 g3 g4 h hfull
    have c0 := M.c 1 0 rfl rfl
    have c1 := M.c 1 1 rfl rfl
    have c2 := M.c 1 2 rfl rfl
    have c3 := M.c 1 3 rfl rfl
    have c4 := M.c 1 4 rfl rfl
    have c5 := M.c 1 5 rfl rfl
    have c6 := M.c 1 6 rfl rfl
    have c7 := M.c 1 7 rfl rfl
    have c8 := M.c 1 8 rfl rfl
    have c9 := M.c 1 9 rfl rfl
    have c10 := M.c 1 10 rfl rfl
    have x0 := M.c 0 0 rfl rfl
    have x1 := M.c 0 1 rfl rfl
    have x2 := M.c 0 2 rfl rfl
    have HM := show Hid _ from M
    rw [hW] at c0 c1 c2 c3 c4 c5 c6 c7 c8 c9 c10 x0 x1 x2
    clear M
    go_enter Try.func144, Try.ntmps144
    go_wp2_with fail
    rw [← hW]
    clear hW
    have M := HM.out
    clear HM c0 c1 c2 c3 c4 c5 c6 c7 c8 c9 c10 x0 x1 x2
    refine (spec_l2Parts φ _ s _ (HF.out _ (M.below fun _ _ => trivial))).mono ?_
    rintro x w1 ⟨rfl, b1⟩
    replace M := M.call b1
    clear b1
    obtain ⟨b, hb⟩ : ∃ b, b = partsB s := ⟨_, rfl⟩
    rw [← hb]
    have HB := show Hid _ from hb
    clear hb
    cases b
    · have HP : Hid (stmtB nv na (d + 1) s = false) := by rw [Hid, HD0.out, ← HB.out]; rfl
      clear HD0 HB
      have c0 := M.c 1 0 rfl rfl
      have c1 := M.c 1 1 rfl rfl
      have c2 := M.c 1 2 rfl rfl
      have c3 := M.c 1 3 rfl rfl
      have c4 := M.c 1 4 rfl rfl
      have c5 := M.c 1 5 rfl rfl
      have c6 := M.c 1 6 rfl rfl
      have c7 := M.c 1 7 rfl rfl
      have c8 := M.c 1 8 rfl rfl
      have c9 := M.c 1 9 rfl rfl
      have c10 := M.c 1 10 rfl rfl
      have x0 := M.c 0 0 rfl rfl
      have x1 := M.c 0 1 rfl rfl
      have x2 := M.c 0 2 rfl rfl
      have HM := show Hid _ from M
      clear M
      go_wp2_with fail
      go_ret
      exact ⟨ret_bool (by rw [HP.out]), HM.out.below fun _ _ => trivial⟩
    have HD := show Hid (stmtB nv na (d + 1) s = (if s.kind = 1 ∨ s.kind = 5 then decide (0 ≤ s.target) && decide (s.target < (nv : Int)) && rightB nv na s.value else if s.kind = 2 then decide (0 ≤ s.target) && decide (s.target < (na : Int)) && rightB nv na s.index && atomB s.index && rightB nv na s.value
      else if s.kind = 3 then rightB nv na s.value && s.body.all (stmtB nv na d) && s.els.all (stmtB nv na d) else if s.kind = 4 then s.body.all (stmtB nv na d) else false)) from by rw [Hid, HD0.out, ← HB.out]; rfl
    clear HD0 HB
    by_cases qk : s.kind = 1
    · have k1 : (s.kind == 1) = true := by simp [qk]
      have k5 : (s.kind == 5) = false := by simp [qk]
      have k2 : (s.kind == 2) = false := by simp [qk]
      have k3 : (s.kind == 3) = false := by simp [qk]
      have k4 : (s.kind == 4) = false := by simp [qk]
      have HP1 := show Hid (stmtB nv na (d + 1) s = (decide (0 ≤ s.target) && decide (s.target < (nv : Int)) && rightB nv na s.value)) from by rw [Hid, HD.out, if_pos (.inl qk)]
      clear qk
      have HP0 := show Hid (stmtB nv na (d + 1) s = (decide (0 ≤ s.target) && decide (s.target < (nv : Int)) && rightB nv na s.value)) from HP1.out
      clear HP1
      by_cases t0 : 0 ≤ s.target
      case neg =>
        have p0 : decide (0 ≤ s.target) = false := decide_eq_false t0
        have HP : Hid (stmtB nv na (d + 1) s = false) := by rw [Hid, HP0.out, p0]; rfl
        clear HP0 t0
        have c0 := M.c 1 0 rfl rfl
        have c1 := M.c 1 1 rfl rfl
        have c2 := M.c 1 2 rfl rfl
        have c3 := M.c 1 3 rfl rfl
        have c4 := M.c 1 4 rfl rfl
        have c5 := M.c 1 5 rfl rfl
        have c6 := M.c 1 6 rfl rfl
        have c7 := M.c 1 7 rfl rfl
        have c8 := M.c 1 8 rfl rfl
        have c9 := M.c 1 9 rfl rfl
        have c10 := M.c 1 10 rfl rfl
        have x0 := M.c 0 0 rfl rfl
        have x1 := M.c 0 1 rfl rfl
        have x2 := M.c 0 2 rfl rfl
        have HM := show Hid _ from M
        clear M
        go_wp2_with fail
        go_ret
        exact ⟨ret_bool (by rw [HP.out]), HM.out.below fun _ _ => trivial⟩
      have p0 : decide (0 ≤ s.target) = true := decide_eq_true t0
      by_cases t1 : s.target < (nv : Int)
      case neg =>
        have p1 : decide (s.target < (nv : Int)) = false := decide_eq_false t1
        have HP : Hid (stmtB nv na (d + 1) s = false) := by rw [Hid, HP0.out, p0, p1]; rfl
        clear HP0 t0 t1
        have c0 := M.c 1 0 rfl rfl
        have c1 := M.c 1 1 rfl rfl
        have c2 := M.c 1 2 rfl rfl
        have c3 := M.c 1 3 rfl rfl
        have c4 := M.c 1 4 rfl rfl
        have c5 := M.c 1 5 rfl rfl
        have c6 := M.c 1 6 rfl rfl
        have c7 := M.c 1 7 rfl rfl
        have c8 := M.c 1 8 rfl rfl
        have c9 := M.c 1 9 rfl rfl
        have c10 := M.c 1 10 rfl rfl
        have x0 := M.c 0 0 rfl rfl
        have x1 := M.c 0 1 rfl rfl
        have x2 := M.c 0 2 rfl rfl
        have HM := show Hid _ from M
        clear M
        go_wp2_with fail
        go_ret
        exact ⟨ret_bool (by rw [HP.out]), HM.out.below fun _ _ => trivial⟩
      have p1 : decide (s.target < (nv : Int)) = true := decide_eq_true t1
      have HP1 := show Hid (stmtB nv na (d + 1) s = (rightB nv na s.value)) from by rw [Hid, HP0.out, p0, p1]; rfl
      clear HP0 t0 t1
      have HP0 := show Hid (stmtB nv na (d + 1) s = (rightB nv na s.value)) from HP1.out
      clear HP1
      have c0 := M.c 1 0 rfl rfl
      have c1 := M.c 1 1 rfl rfl
      have c2 := M.c 1 2 rfl rfl
      have c3 := M.c 1 3 rfl rfl
      have c4 := M.c 1 4 rfl rfl
      have c5 := M.c 1 5 rfl rfl
      have c6 := M.c 1 6 rfl rfl
      have c7 := M.c 1 7 rfl rfl
      have c8 := M.c 1 8 rfl rfl
      have c9 := M.c 1 9 rfl rfl
      have c10 := M.c 1 10 rfl rfl
      have x0 := M.c 0 0 rfl rfl
      have x1 := M.c 0 1 rfl rfl
      have x2 := M.c 0 2 rfl rfl
      have HM := show Hid _ from M
      clear M
      go_wp2_with fail
      have M := HM.out
      clear HM c0 c1 c2 c3 c4 c5 c6 c7 c8 c9 c10 x0 x1 x2
      refine (spec_l2Right a1 a2 nv c1 na c2 v3 h1 h2 s.value φ _ _ (HG.out _ (M.below fun _ _ => trivial)).2.1).mono ?_
      rintro x w1 ⟨rfl, b1⟩
      replace M := M.call b1
      clear b1
      have HP : Hid (stmtB nv na (d + 1) s = rightB nv na s.value) := HP0.out
      clear HP0
      have HM := show Hid _ from M
      clear M
      go_wp2_with fail
      go_ret
      exact ⟨ret_bool (by rw [HP.out]), HM.out.below fun _ _ => trivial⟩
    have qn1 := qk
    clear qk
    by_cases qk : s.kind = 5
    · have k1 : (s.kind == 1) = false := by simp [qk]
      have k5 : (s.kind == 5) = true := by simp [qk]
      have k2 : (s.kind == 2) = false := by simp [qk]
      have k3 : (s.kind == 3) = false := by simp [qk]
      have k4 : (s.kind == 4) = false := by simp [qk]
      have HP1 := show Hid (stmtB nv na (d + 1) s = (decide (0 ≤ s.target) && decide (s.target < (nv : Int)) && rightB nv na s.value)) from by rw [Hid, HD.out, if_pos (.inr qk)]
      clear qk
      have HP0 := show Hid (stmtB nv na (d + 1) s = (decide (0 ≤ s.target) && decide (s.target < (nv : Int)) && rightB nv na s.value)) from HP1.out
      clear HP1
      by_cases t0 : 0 ≤ s.target
      case neg =>
        have p0 : decide (0 ≤ s.target) = false := decide_eq_false t0
        have HP : Hid (stmtB nv na (d + 1) s = false) := by rw [Hid, HP0.out, p0]; rfl
        clear HP0 t0
        have c0 := M.c 1 0 rfl rfl
        have c1 := M.c 1 1 rfl rfl
        have c2 := M.c 1 2 rfl rfl
        have c3 := M.c 1 3 rfl rfl
        have c4 := M.c 1 4 rfl rfl
        have c5 := M.c 1 5 rfl rfl
        have c6 := M.c 1 6 rfl rfl
        have c7 := M.c 1 7 rfl rfl
        have c8 := M.c 1 8 rfl rfl
        have c9 := M.c 1 9 rfl rfl
        have c10 := M.c 1 10 rfl rfl
        have x0 := M.c 0 0 rfl rfl
        have x1 := M.c 0 1 rfl rfl
        have x2 := M.c 0 2 rfl rfl
        have HM := show Hid _ from M
        clear M
        go_wp2_with fail
        go_ret
        exact ⟨ret_bool (by rw [HP.out]), HM.out.below fun _ _ => trivial⟩
      have p0 : decide (0 ≤ s.target) = true := decide_eq_true t0
      by_cases t1 : s.target < (nv : Int)
      case neg =>
        have p1 : decide (s.target < (nv : Int)) = false := decide_eq_false t1
        have HP : Hid (stmtB nv na (d + 1) s = false) := by rw [Hid, HP0.out, p0, p1]; rfl
        clear HP0 t0 t1
        have c0 := M.c 1 0 rfl rfl
        have c1 := M.c 1 1 rfl rfl
        have c2 := M.c 1 2 rfl rfl
        have c3 := M.c 1 3 rfl rfl
        have c4 := M.c 1 4 rfl rfl
        have c5 := M.c 1 5 rfl rfl
        have c6 := M.c 1 6 rfl rfl
        have c7 := M.c 1 7 rfl rfl
        have c8 := M.c 1 8 rfl rfl
        have c9 := M.c 1 9 rfl rfl
        have c10 := M.c 1 10 rfl rfl
        have x0 := M.c 0 0 rfl rfl
        have x1 := M.c 0 1 rfl rfl
        have x2 := M.c 0 2 rfl rfl
        have HM := show Hid _ from M
        clear M
        go_wp2_with fail
        go_ret
        exact ⟨ret_bool (by rw [HP.out]), HM.out.below fun _ _ => trivial⟩
      have p1 : decide (s.target < (nv : Int)) = true := decide_eq_true t1
      have HP1 := show Hid (stmtB nv na (d + 1) s = (rightB nv na s.value)) from by rw [Hid, HP0.out, p0, p1]; rfl
      clear HP0 t0 t1
      have HP0 := show Hid (stmtB nv na (d + 1) s = (rightB nv na s.value)) from HP1.out
      clear HP1
      have c0 := M.c 1 0 rfl rfl
      have c1 := M.c 1 1 rfl rfl
      have c2 := M.c 1 2 rfl rfl
      have c3 := M.c 1 3 rfl rfl
      have c4 := M.c 1 4 rfl rfl
      have c5 := M.c 1 5 rfl rfl
      have c6 := M.c 1 6 rfl rfl
      have c7 := M.c 1 7 rfl rfl
      have c8 := M.c 1 8 rfl rfl
      have c9 := M.c 1 9 rfl rfl
      have c10 := M.c 1 10 rfl rfl
      have x0 := M.c 0 0 rfl rfl
      have x1 := M.c 0 1 rfl rfl
      have x2 := M.c 0 2 rfl rfl
      have HM := show Hid _ from M
      clear M
      go_wp2_with fail
      have M := HM.out
      clear HM c0 c1 c2 c3 c4 c5 c6 c7 c8 c9 c10 x0 x1 x2
      refine (spec_l2Right a1 a2 nv c1 na c2 v3 h1 h2 s.value φ _ _ (HG.out _ (M.below fun _ _ => trivial)).2.1).mono ?_
      rintro x w1 ⟨rfl, b1⟩
      replace M := M.call b1
      clear b1
      have HP : Hid (stmtB nv na (d + 1) s = rightB nv na s.value) := HP0.out
      clear HP0
      have HM := show Hid _ from M
      clear M
      go_wp2_with fail
      go_ret
      exact ⟨ret_bool (by rw [HP.out]), HM.out.below fun _ _ => trivial⟩
    have qn5 := qk
    clear qk
    by_cases qk : s.kind = 2
    · have k1 : (s.kind == 1) = false := by simp [qk]
      have k5 : (s.kind == 5) = false := by simp [qk]
      have k2 : (s.kind == 2) = true := by simp [qk]
      have k3 : (s.kind == 3) = false := by simp [qk]
      have k4 : (s.kind == 4) = false := by simp [qk]
      have HP1 := show Hid (stmtB nv na (d + 1) s = (decide (0 ≤ s.target) && decide (s.target < (na : Int)) && rightB nv na s.index && atomB s.index && rightB nv na s.value)) from by rw [Hid, HD.out, if_neg (by omega), if_pos qk]
      clear qk
      have HP0 := show Hid (stmtB nv na (d + 1) s = (decide (0 ≤ s.target) && decide (s.target < (na : Int)) && rightB nv na s.index && atomB s.index && rightB nv na s.value)) from HP1.out
      clear HP1
      by_cases t0 : 0 ≤ s.target
      case neg =>
        have p0 : decide (0 ≤ s.target) = false := decide_eq_false t0
        have HP : Hid (stmtB nv na (d + 1) s = false) := by rw [Hid, HP0.out, p0]; rfl
        clear HP0 t0
        have c0 := M.c 1 0 rfl rfl
        have c1 := M.c 1 1 rfl rfl
        have c2 := M.c 1 2 rfl rfl
        have c3 := M.c 1 3 rfl rfl
        have c4 := M.c 1 4 rfl rfl
        have c5 := M.c 1 5 rfl rfl
        have c6 := M.c 1 6 rfl rfl
        have c7 := M.c 1 7 rfl rfl
        have c8 := M.c 1 8 rfl rfl
        have c9 := M.c 1 9 rfl rfl
        have c10 := M.c 1 10 rfl rfl
        have x0 := M.c 0 0 rfl rfl
        have x1 := M.c 0 1 rfl rfl
        have x2 := M.c 0 2 rfl rfl
        have HM := show Hid _ from M
        clear M
        go_wp2_with fail
        go_ret
        exact ⟨ret_bool (by rw [HP.out]), HM.out.below fun _ _ => trivial⟩
      have p0 : decide (0 ≤ s.target) = true := decide_eq_true t0
      by_cases t1 : s.target < (na : Int)
      case neg =>
        have p1 : decide (s.target < (na : Int)) = false := decide_eq_false t1
        have HP : Hid (stmtB nv na (d + 1) s = false) := by rw [Hid, HP0.out, p0, p1]; rfl
        clear HP0 t0 t1
        have c0 := M.c 1 0 rfl rfl
        have c1 := M.c 1 1 rfl rfl
        have c2 := M.c 1 2 rfl rfl
        have c3 := M.c 1 3 rfl rfl
        have c4 := M.c 1 4 rfl rfl
        have c5 := M.c 1 5 rfl rfl
        have c6 := M.c 1 6 rfl rfl
        have c7 := M.c 1 7 rfl rfl
        have c8 := M.c 1 8 rfl rfl
        have c9 := M.c 1 9 rfl rfl
        have c10 := M.c 1 10 rfl rfl
        have x0 := M.c 0 0 rfl rfl
        have x1 := M.c 0 1 rfl rfl
        have x2 := M.c 0 2 rfl rfl
        have HM := show Hid _ from M
        clear M
        go_wp2_with fail
        go_ret
        exact ⟨ret_bool (by rw [HP.out]), HM.out.below fun _ _ => trivial⟩
      have p1 : decide (s.target < (na : Int)) = true := decide_eq_true t1
      have HP1 := show Hid (stmtB nv na (d + 1) s = (rightB nv na s.index && atomB s.index && rightB nv na s.value)) from by rw [Hid, HP0.out, p0, p1]; rfl
      clear HP0 t0 t1
      have HP0 := show Hid (stmtB nv na (d + 1) s = (rightB nv na s.index && atomB s.index && rightB nv na s.value)) from HP1.out
      clear HP1
      have c0 := M.c 1 0 rfl rfl
      have c1 := M.c 1 1 rfl rfl
      have c2 := M.c 1 2 rfl rfl
      have c3 := M.c 1 3 rfl rfl
      have c4 := M.c 1 4 rfl rfl
      have c5 := M.c 1 5 rfl rfl
      have c6 := M.c 1 6 rfl rfl
      have c7 := M.c 1 7 rfl rfl
      have c8 := M.c 1 8 rfl rfl
      have c9 := M.c 1 9 rfl rfl
      have c10 := M.c 1 10 rfl rfl
      have x0 := M.c 0 0 rfl rfl
      have x1 := M.c 0 1 rfl rfl
      have x2 := M.c 0 2 rfl rfl
      have HM := show Hid _ from M
      clear M
      go_wp2_with fail
      have M := HM.out
      clear HM c0 c1 c2 c3 c4 c5 c6 c7 c8 c9 c10 x0 x1 x2
      refine (spec_l2Right a1 a2 nv c1 na c2 v3 h1 h2 s.index φ _ _ (HG.out _ (M.below fun _ _ => trivial)).1).mono ?_
      rintro x w1 ⟨rfl, b1⟩
      replace M := M.call b1
      clear b1
      obtain ⟨b, hb⟩ : ∃ b, b = rightB nv na s.index := ⟨_, rfl⟩
      rw [← hb]
      have HB := show Hid _ from hb
      clear hb
      cases b
      · have HP : Hid (stmtB nv na (d + 1) s = false) := by rw [Hid, HP0.out, ← HB.out]; rfl
        clear HP0
        have c0 := M.c 1 0 rfl rfl
        have c1 := M.c 1 1 rfl rfl
        have c2 := M.c 1 2 rfl rfl
        have c3 := M.c 1 3 rfl rfl
        have c4 := M.c 1 4 rfl rfl
        have c5 := M.c 1 5 rfl rfl
        have c6 := M.c 1 6 rfl rfl
        have c7 := M.c 1 7 rfl rfl
        have c8 := M.c 1 8 rfl rfl
        have c9 := M.c 1 9 rfl rfl
        have c10 := M.c 1 10 rfl rfl
        have x0 := M.c 0 0 rfl rfl
        have x1 := M.c 0 1 rfl rfl
        have x2 := M.c 0 2 rfl rfl
        have HM := show Hid _ from M
        clear M
        go_wp2_with fail
        go_ret
        exact ⟨ret_bool (by rw [HP.out]), HM.out.below fun _ _ => trivial⟩
      · have HP1 := show Hid (stmtB nv na (d + 1) s = (atomB s.index && rightB nv na s.value)) from by rw [Hid, HP0.out, ← HB.out]; rfl
        clear HP0 HB
        have HP0 := show Hid (stmtB nv na (d + 1) s = (atomB s.index && rightB nv na s.value)) from HP1.out
        clear HP1
        have c0 := M.c 1 0 rfl rfl
        have c1 := M.c 1 1 rfl rfl
        have c2 := M.c 1 2 rfl rfl
        have c3 := M.c 1 3 rfl rfl
        have c4 := M.c 1 4 rfl rfl
        have c5 := M.c 1 5 rfl rfl
        have c6 := M.c 1 6 rfl rfl
        have c7 := M.c 1 7 rfl rfl
        have c8 := M.c 1 8 rfl rfl
        have c9 := M.c 1 9 rfl rfl
        have c10 := M.c 1 10 rfl rfl
        have x0 := M.c 0 0 rfl rfl
        have x1 := M.c 0 1 rfl rfl
        have x2 := M.c 0 2 rfl rfl
        have HM := show Hid _ from M
        clear M
        go_wp2_with fail
        have M := HM.out
        clear HM c0 c1 c2 c3 c4 c5 c6 c7 c8 c9 c10 x0 x1 x2
        refine (spec_l2Atom _ _ _ _).mono ?_
        rintro x w1 ⟨rfl, b1⟩
        replace M := M.call b1
        clear b1
        rw [show (decide (s.index.kind = 1) || decide (s.index.kind = 2)) = atomB s.index from rfl]
        obtain ⟨b, hb⟩ : ∃ b, b = atomB s.index := ⟨_, rfl⟩
        rw [← hb]
        have HB := show Hid _ from hb
        clear hb
        cases b
        · have HP : Hid (stmtB nv na (d + 1) s = false) := by rw [Hid, HP0.out, ← HB.out]; rfl
          clear HP0
          have c0 := M.c 1 0 rfl rfl
          have c1 := M.c 1 1 rfl rfl
          have c2 := M.c 1 2 rfl rfl
          have c3 := M.c 1 3 rfl rfl
          have c4 := M.c 1 4 rfl rfl
          have c5 := M.c 1 5 rfl rfl
          have c6 := M.c 1 6 rfl rfl
          have c7 := M.c 1 7 rfl rfl
          have c8 := M.c 1 8 rfl rfl
          have c9 := M.c 1 9 rfl rfl
          have c10 := M.c 1 10 rfl rfl
          have x0 := M.c 0 0 rfl rfl
          have x1 := M.c 0 1 rfl rfl
          have x2 := M.c 0 2 rfl rfl
          have HM := show Hid _ from M
          clear M
          go_wp2_with fail
          go_ret
          exact ⟨ret_bool (by rw [HP.out]), HM.out.below fun _ _ => trivial⟩
        · have HP1 := show Hid (stmtB nv na (d + 1) s = (rightB nv na s.value)) from by rw [Hid, HP0.out, ← HB.out]; rfl
          clear HP0 HB
          have HP0 := show Hid (stmtB nv na (d + 1) s = (rightB nv na s.value)) from HP1.out
          clear HP1
          have c0 := M.c 1 0 rfl rfl
          have c1 := M.c 1 1 rfl rfl
          have c2 := M.c 1 2 rfl rfl
          have c3 := M.c 1 3 rfl rfl
          have c4 := M.c 1 4 rfl rfl
          have c5 := M.c 1 5 rfl rfl
          have c6 := M.c 1 6 rfl rfl
          have c7 := M.c 1 7 rfl rfl
          have c8 := M.c 1 8 rfl rfl
          have c9 := M.c 1 9 rfl rfl
          have c10 := M.c 1 10 rfl rfl
          have x0 := M.c 0 0 rfl rfl
          have x1 := M.c 0 1 rfl rfl
          have x2 := M.c 0 2 rfl rfl
          have HM := show Hid _ from M
          clear M
          go_wp2_with fail
          have M := HM.out
          clear HM c0 c1 c2 c3 c4 c5 c6 c7 c8 c9 c10 x0 x1 x2
          refine (spec_l2Right a1 a2 nv c1 na c2 v3 h1 h2 s.value φ _ _ (HG.out _ (M.below fun _ _ => trivial)).2.1).mono ?_
          rintro x w1 ⟨rfl, b1⟩
          replace M := M.call b1
          clear b1
          have HP : Hid (stmtB nv na (d + 1) s = rightB nv na s.value) := HP0.out
          clear HP0
          have HM := show Hid _ from M
          clear M
          go_wp2_with fail
          go_ret
          exact ⟨ret_bool (by rw [HP.out]), HM.out.below fun _ _ => trivial⟩
    have qn2 := qk
    clear qk
    by_cases qk : s.kind = 3
    · have k1 : (s.kind == 1) = false := by simp [qk]
      have k5 : (s.kind == 5) = false := by simp [qk]
      have k2 : (s.kind == 2) = false := by simp [qk]
      have k3 : (s.kind == 3) = true := by simp [qk]
      have k4 : (s.kind == 4) = false := by simp [qk]
      have HP1 := show Hid (stmtB nv na (d + 1) s = (rightB nv na s.value && s.body.all (stmtB nv na d) && s.els.all (stmtB nv na d))) from by rw [Hid, HD.out, if_neg (by omega), if_neg (by omega), if_pos qk]
      clear qk
      have HP0 := show Hid (stmtB nv na (d + 1) s = (rightB nv na s.value && s.body.all (stmtB nv na d) && s.els.all (stmtB nv na d))) from HP1.out
      clear HP1
      have c0 := M.c 1 0 rfl rfl
      have c1 := M.c 1 1 rfl rfl
      have c2 := M.c 1 2 rfl rfl
      have c3 := M.c 1 3 rfl rfl
      have c4 := M.c 1 4 rfl rfl
      have c5 := M.c 1 5 rfl rfl
      have c6 := M.c 1 6 rfl rfl
      have c7 := M.c 1 7 rfl rfl
      have c8 := M.c 1 8 rfl rfl
      have c9 := M.c 1 9 rfl rfl
      have c10 := M.c 1 10 rfl rfl
      have x0 := M.c 0 0 rfl rfl
      have x1 := M.c 0 1 rfl rfl
      have x2 := M.c 0 2 rfl rfl
      have HM := show Hid _ from M
      clear M
      go_wp2_with fail
      have M := HM.out
      clear HM c0 c1 c2 c3 c4 c5 c6 c7 c8 c9 c10 x0 x1 x2
      refine (spec_l2Right a1 a2 nv c1 na c2 v3 h1 h2 s.value φ _ _ (HG.out _ (M.below fun _ _ => trivial)).2.1).mono ?_
      rintro x w1 ⟨rfl, b1⟩
      replace M := M.call b1
      clear b1
      obtain ⟨b, hb⟩ : ∃ b, b = rightB nv na s.value := ⟨_, rfl⟩
      rw [← hb]
      have HB := show Hid _ from hb
      clear hb
      cases b
      · have HP : Hid (stmtB nv na (d + 1) s = false) := by rw [Hid, HP0.out, ← HB.out]; rfl
        clear HP0
        have c0 := M.c 1 0 rfl rfl
        have c1 := M.c 1 1 rfl rfl
        have c2 := M.c 1 2 rfl rfl
        have c3 := M.c 1 3 rfl rfl
        have c4 := M.c 1 4 rfl rfl
        have c5 := M.c 1 5 rfl rfl
        have c6 := M.c 1 6 rfl rfl
        have c7 := M.c 1 7 rfl rfl
        have c8 := M.c 1 8 rfl rfl
        have c9 := M.c 1 9 rfl rfl
        have c10 := M.c 1 10 rfl rfl
        have x0 := M.c 0 0 rfl rfl
        have x1 := M.c 0 1 rfl rfl
        have x2 := M.c 0 2 rfl rfl
        have HM := show Hid _ from M
        clear M
        go_wp2_with fail
        go_ret
        exact ⟨ret_bool (by rw [HP.out]), HM.out.below fun _ _ => trivial⟩
      · have HP1 := show Hid (stmtB nv na (d + 1) s = (s.body.all (stmtB nv na d) && s.els.all (stmtB nv na d))) from by rw [Hid, HP0.out, ← HB.out]; rfl
        clear HP0 HB
        have HP0 := show Hid (stmtB nv na (d + 1) s = (s.body.all (stmtB nv na d) && s.els.all (stmtB nv na d))) from HP1.out
        clear HP1
        have c0 := M.c 1 0 rfl rfl
        have c1 := M.c 1 1 rfl rfl
        have c2 := M.c 1 2 rfl rfl
        have c3 := M.c 1 3 rfl rfl
        have c4 := M.c 1 4 rfl rfl
        have c5 := M.c 1 5 rfl rfl
        have c6 := M.c 1 6 rfl rfl
        have c7 := M.c 1 7 rfl rfl
        have c8 := M.c 1 8 rfl rfl
        have c9 := M.c 1 9 rfl rfl
        have c10 := M.c 1 10 rfl rfl
        have x0 := M.c 0 0 rfl rfl
        have x1 := M.c 0 1 rfl rfl
        have x2 := M.c 0 2 rfl rfl
        have HM := show Hid _ from M
        clear M
        go_wp2_with fail
        have M := HM.out
        clear HM c0 c1 c2 c3 c4 c5 c6 c7 c8 c9 c10 x0 x1 x2
        refine (l2Block_of a1 a2 nv c1 na c2 v3 d (by omega) ih s.body φ _ _ (HG.out _ (M.below fun _ _ => trivial)).2.2.1).mono ?_
        rintro x w1 ⟨rfl, b1⟩
        replace M := M.call b1
        clear b1
        obtain ⟨b, hb⟩ : ∃ b, b = s.body.all (stmtB nv na d) := ⟨_, rfl⟩
        rw [← hb]
        have HB := show Hid _ from hb
        clear hb
        cases b
        · have HP : Hid (stmtB nv na (d + 1) s = false) := by rw [Hid, HP0.out, ← HB.out]; rfl
          clear HP0
          have c0 := M.c 1 0 rfl rfl
          have c1 := M.c 1 1 rfl rfl
          have c2 := M.c 1 2 rfl rfl
          have c3 := M.c 1 3 rfl rfl
          have c4 := M.c 1 4 rfl rfl
          have c5 := M.c 1 5 rfl rfl
          have c6 := M.c 1 6 rfl rfl
          have c7 := M.c 1 7 rfl rfl
          have c8 := M.c 1 8 rfl rfl
          have c9 := M.c 1 9 rfl rfl
          have c10 := M.c 1 10 rfl rfl
          have x0 := M.c 0 0 rfl rfl
          have x1 := M.c 0 1 rfl rfl
          have x2 := M.c 0 2 rfl rfl
          have HM := show Hid _ from M
          clear M
          go_wp2_with fail
          go_ret
          exact ⟨ret_bool (by rw [HP.out]), HM.out.below fun _ _ => trivial⟩
        · have HP1 := show Hid (stmtB nv na (d + 1) s = (s.els.all (stmtB nv na d))) from by rw [Hid, HP0.out, ← HB.out]; rfl
          clear HP0 HB
          have HP0 := show Hid (stmtB nv na (d + 1) s = (s.els.all (stmtB nv na d))) from HP1.out
          clear HP1
          have c0 := M.c 1 0 rfl rfl
          have c1 := M.c 1 1 rfl rfl
          have c2 := M.c 1 2 rfl rfl
          have c3 := M.c 1 3 rfl rfl
          have c4 := M.c 1 4 rfl rfl
          have c5 := M.c 1 5 rfl rfl
          have c6 := M.c 1 6 rfl rfl
          have c7 := M.c 1 7 rfl rfl
          have c8 := M.c 1 8 rfl rfl
          have c9 := M.c 1 9 rfl rfl
          have c10 := M.c 1 10 rfl rfl
          have x0 := M.c 0 0 rfl rfl
          have x1 := M.c 0 1 rfl rfl
          have x2 := M.c 0 2 rfl rfl
          have HM := show Hid _ from M
          clear M
          go_wp2_with fail
          have M := HM.out
          clear HM c0 c1 c2 c3 c4 c5 c6 c7 c8 c9 c10 x0 x1 x2
          refine (l2Block_of a1 a2 nv c1 na c2 v3 d (by omega) ih s.els φ _ _ (HG.out _ (M.below fun _ _ => trivial)).2.2.2).mono ?_
          rintro x w1 ⟨rfl, b1⟩
          replace M := M.call b1
          clear b1
          have HP : Hid (stmtB nv na (d + 1) s = (s.els.all (stmtB nv na d))) := HP0.out
          clear HP0
          have HM := show Hid _ from M
          clear M
          go_wp2_with fail
          go_ret
          exact ⟨ret_bool (by rw [HP.out]), HM.out.below fun _ _ => trivial⟩
    have qn3 := qk
    clear qk
    by_cases qk : s.kind = 4
    · have k1 : (s.kind == 1) = false := by simp [qk]
      have k5 : (s.kind == 5) = false := by simp [qk]
      have k2 : (s.kind == 2) = false := by simp [qk]
      have k3 : (s.kind == 3) = false := by simp [qk]
      have k4 : (s.kind == 4) = true := by simp [qk]
      have HP1 := show Hid (stmtB nv na (d + 1) s = ((s.body.all (stmtB nv na d)))) from by rw [Hid, HD.out, if_neg (by omega), if_neg (by omega), if_neg (by omega), if_pos qk]
      clear qk
      have HP0 := show Hid (stmtB nv na (d + 1) s = ((s.body.all (stmtB nv na d)))) from HP1.out
      clear HP1
      have c0 := M.c 1 0 rfl rfl
      have c1 := M.c 1 1 rfl rfl
      have c2 := M.c 1 2 rfl rfl
      have c3 := M.c 1 3 rfl rfl
      have c4 := M.c 1 4 rfl rfl
      have c5 := M.c 1 5 rfl rfl
      have c6 := M.c 1 6 rfl rfl
      have c7 := M.c 1 7 rfl rfl
      have c8 := M.c 1 8 rfl rfl
      have c9 := M.c 1 9 rfl rfl
      have c10 := M.c 1 10 rfl rfl
      have x0 := M.c 0 0 rfl rfl
      have x1 := M.c 0 1 rfl rfl
      have x2 := M.c 0 2 rfl rfl
      have HM := show Hid _ from M
      clear M
      go_wp2_with fail
      have M := HM.out
      clear HM c0 c1 c2 c3 c4 c5 c6 c7 c8 c9 c10 x0 x1 x2
      refine (l2Block_of a1 a2 nv c1 na c2 v3 d (by omega) ih s.body φ _ _ (HG.out _ (M.below fun _ _ => trivial)).2.2.1).mono ?_
      rintro x w1 ⟨rfl, b1⟩
      replace M := M.call b1
      clear b1
      have HP : Hid (stmtB nv na (d + 1) s = (s.body.all (stmtB nv na d))) := HP0.out
      clear HP0
      have HM := show Hid _ from M
      clear M
      go_wp2_with fail
      go_ret
      exact ⟨ret_bool (by rw [HP.out]), HM.out.below fun _ _ => trivial⟩
    have HP : Hid (stmtB nv na (d + 1) s = false) := by rw [Hid, HD.out, if_neg (by omega), if_neg qn2, if_neg qn3, if_neg qk]
    have k1 : (s.kind == 1) = false := by simp [qn1]
    have k5 : (s.kind == 5) = false := by simp [qn5]
    have k2 : (s.kind == 2) = false := by simp [qn2]
    have k3 : (s.kind == 3) = false := by simp [qn3]
    have k4 : (s.kind == 4) = false := by simp [qk]
    clear HD qn1 qn5 qn2 qn3 qk
    have c0 := M.c 1 0 rfl rfl
    have c1 := M.c 1 1 rfl rfl
    have c2 := M.c 1 2 rfl rfl
    have c3 := M.c 1 3 rfl rfl
    have c4 := M.c 1 4 rfl rfl
    have c5 := M.c 1 5 rfl rfl
    have c6 := M.c 1 6 rfl rfl
    have c7 := M.c 1 7 rfl rfl
    have c8 := M.c 1 8 rfl rfl
    have c9 := M.c 1 9 rfl rfl
    have c10 := M.c 1 10 rfl rfl
    have x0 := M.c 0 0 rfl rfl
    have x1 := M.c 0 1 rfl rfl
    have x2 := M.c 0 2 rfl rfl
    have HM := show Hid _ from M
    clear M
    go_wp2_with fail
    go_ret
    exact ⟨ret_bool (by rw [HP.out]), HM.out.below fun _ _ => trivial⟩


section
variable {P : Program} {f : FuncId}

theorem old_ok {args : List AV} {S : List It} {x : Value} (h : ∀ (φ : Nat → Prop) (w : World) (ρ : Nat → Value), (∀ i d, lst S i = .dat d → RD w φ d (ρ i)) → Calls P f (AV.vals ρ args).toArray w fun e w' => e = .returned x ∧ Below w.heap.size w w') : Ctr.ok P (fnC f args S (.v x)) := by
  intro ι φ ψ w0 w F ρ M
  refine (h (FrF φ (lay F ρ (lst S))) w ρ fun i d hi => M.datAt hi).mono ?_
  rintro e w' ⟨rfl, hb⟩
  exact ⟨ρ, fun _ _ => rfl, rfl, M.call hb⟩
end
theorem rd_form {w : World} {φ : Nat → Prop} {d : D} {v : Value} (h : RD w φ d v) : ∃ a cap, v = .slice a d.len cap ∧ d.len ≤ 9223372036854775807 := by
  obtain ⟨a, cap, h1, h2, h3, _⟩ := h.open
  unfold maxLen at h3
  exact ⟨a, cap, h1, by omega⟩

theorem c_LabelValid (l : Int) : Ctr.ok Try.prog (fnC 90 [iA l] [] (bA (labOk l))) :=
  old_ok fun φ w ρ _ => (spec_LabelValid l w).mono fun e w' h => ⟨h.1, h.2 ▸ Below.refl _ _⟩
theorem c_iLabelValid (l : Int) : Ctr.ok Try.prog (fnC 88 [iA l] [] (bA (labOk l))) :=
  old_ok fun φ w ρ _ => (impl_LabelValid l w).mono fun e w' h => ⟨h.1, h.2 ▸ Below.refl _ _⟩
theorem c_within (n lo hi : Int) : Ctr.ok Try.prog (fnC 72 [iA n, iA lo, iA hi] [] (bA (decide (lo ≤ n) && decide (n ≤ hi)))) :=
  old_ok fun φ w ρ _ => (impl_within n lo hi w).mono fun e w' h => ⟨h.1, h.2 ▸ Below.refl _ _⟩
theorem c_l2Heads (p : LProg) : Ctr.ok Try.prog (fnC 119 [pA 0] (pS p) (bA (headsB p.vars p.arrays))) :=
  old_ok fun φ w ρ h => spec_l2Heads (ρ 0) (ρ 1) (ρ 2) _ _ w (RowF.row (h 0 _ rfl)) (RowF.row (h 1 _ rfl))
theorem c_declared (vs ars : List Int) : Ctr.ok Try.prog (fnC 71 [.ref 0, .ref 1] [.dat (.ints vs), .dat (.ints ars)] (bA (headsB vs ars))) :=
  old_ok fun φ w ρ h => (impl_declared (ρ 0) (ρ 1) _ _ w (RowF.row (h 0 _ rfl)) (RowF.row (h 1 _ rfl))).mono fun e w' h => ⟨h.1, h.2 ▸ Below.refl _ _⟩
theorem c_l2Right (p : LProg) (e : LExpr) : Ctr.ok Try.prog (fnC 164 [pA 0, eA e 3] (pS p ++ eS e) (bA (rightB p.vars.length p.arrays.length e))) :=
  old_ok fun φ w ρ h => by
    obtain ⟨a1, c1, h1, l1⟩ := rd_form (h 0 _ rfl)
    obtain ⟨a2, c2, h2, l2⟩ := rd_form (h 1 _ rfl)
    simp only [AV.vals, AV.val, h1, h2]
    exact spec_l2Right a1 a2 _ c1 _ c2 (ρ 2) l1 l2 e φ _ w ⟨_, rfl, h 3 _ rfl⟩
theorem c_expr (p : LProg) (e : LExpr) : Ctr.ok Try.prog (fnC 145 [pA 0, eA e 3] (pS p ++ eS e) (bA (rightB p.vars.length p.arrays.length e))) :=
  old_ok fun φ w ρ h => by
    obtain ⟨a1, c1, h1, l1⟩ := rd_form (h 0 _ rfl)
    obtain ⟨a2, c2, h2, l2⟩ := rd_form (h 1 _ rfl)
    simp only [AV.vals, AV.val, h1, h2]
    exact impl_expr a1 a2 _ c1 _ c2 (ρ 2) l1 l2 e φ _ w ⟨_, rfl, h 3 _ rfl⟩
theorem c_l2Block (p : LProg) (ss : List LStmt) (n : Int) (hn : n = 5) : Ctr.ok Try.prog (fnC 120 [pA 0, .ref 3, iA n] (pS p ++ [.dat (.stmts ss)]) (bA (blockB p.vars.length p.arrays.length 5 ss))) :=
  old_ok fun φ w ρ h => by
    subst hn
    obtain ⟨a1, c1, h1, l1⟩ := rd_form (h 0 _ rfl)
    obtain ⟨a2, c2, h2, l2⟩ := rd_form (h 1 _ rfl)
    simp only [AV.vals, AV.val, h1, h2]
    exact l2Block_of a1 a2 _ c1 _ c2 (ρ 2) 5 (by omega) (l2Stmt_of a1 a2 _ c1 _ c2 (ρ 2) l1 l2 5 (by omega)) ss φ _ w (h 3 _ rfl)
theorem c_isPlain (e : LExpr) : Ctr.ok Try.prog (fnC 146 [eA e 0] (eS e) (bA (atomB e))) :=
  old_ok fun φ w ρ h => impl_isPlain e.kind e.value (ρ 0) w

theorem nSs_append (a b : List LStmt) : nSs (a ++ b) = nSs a + nSs b := by
  induction a with
  | nil => simp [nSs]
  | cons x r ih => simp [nSs, ih]; omega
theorem nSs_take1 {ss : List LStmt} {k : Nat} (h : k < ss.length) : nSs (ss.take (k + 1)) = nSs (ss.take k) + nS ss[k] := by
  rw [take_succ_get _ _ h, nSs_append]; simp [nSs]
theorem nSs_take_le (ss : List LStmt) (k : Nat) : nSs (ss.take k) ≤ nSs ss := by
  have := nSs_append (ss.take k) (ss.drop k)
  rw [List.take_append_drop] at this
  omega
theorem nS_def (s : LStmt) : nS s = 1 + nSs s.body + nSs s.els := by cases s; simp only [nS]; rfl
theorem stmtB_blocks {nv na d : Nat} {s : LStmt} (h : stmtB nv na (d + 1) s = true) : s.body.all (stmtB nv na d) = true ∧ s.els.all (stmtB nv na d) = true := by
  rw [stmtB, Bool.and_eq_true] at h
  obtain ⟨h1, h2⟩ := h
  unfold partsB at h1
  by_cases k3 : s.kind = 3
  · rw [if_neg (by omega), if_neg (by omega), if_pos k3] at h2
    simp only [Bool.and_eq_true] at h2
    exact ⟨h2.1.2, h2.2⟩
  by_cases k4 : s.kind = 4
  · rw [if_neg (by omega), if_neg (by omega), if_neg (by omega), if_pos k4] at h2
    rw [if_pos (.inr k4), if_pos k4] at h1
    simp only [Bool.and_eq_true, decide_eq_true_eq] at h1
    exact ⟨h2, by rw [List.eq_nil_of_length_eq_zero h1.2.1.1.1.1]; rfl⟩
  · rw [if_neg (by omega)] at h1
    simp only [Bool.and_eq_true, decide_eq_true_eq] at h1
    exact ⟨by rw [List.eq_nil_of_length_eq_zero h1.1.1.1]; rfl, by rw [List.eq_nil_of_length_eq_zero h1.1.1.2]; rfl⟩

theorem szS_parts (s : LStmt) : szSs s.body ≤ szS s ∧ szSs s.els ≤ szS s := by
  rcases s with ⟨_, _, _, _, _, b, e⟩
  simp only [szS, LStmt.body, LStmt.els]
  omega
theorem flat_nSs {nv na : Nat} : ∀ {ss : List LStmt}, (∀ s ∈ ss, stmtB nv na 1 s = true) → nSs ss = ss.length
  | [], _ => rfl
  | s :: r, h => by
    have h1 := stmtB_blocks (h s List.mem_cons_self)
    have key : ∀ l : List LStmt, l.all (stmtB nv na 0) = true → l = [] := fun l hl => by
      cases l with
      | nil => rfl
      | cons a r => simp [stmtB] at hl
    have h2 := flat_nSs (ss := r) fun x hx => h x (List.mem_cons_of_mem _ hx)
    rw [nSs, nS_def, key _ h1.1, key _ h1.2, h2]
    simp [nSs]; omega


def orI (x y : Int) : Int := IntKind.i64.wrap ((BitVec.ofInt (IntKind.bits .i64) x ||| BitVec.ofInt (IntKind.bits .i64) y).toNat : Int)
def andI (x y : Int) : Int := IntKind.i64.wrap ((BitVec.ofInt (IntKind.bits .i64) x &&& BitVec.ofInt (IntKind.bits .i64) y).toNat : Int)
def xorI (x y : Int) : Int := IntKind.i64.wrap ((BitVec.ofInt (IntKind.bits .i64) x ^^^ BitVec.ofInt (IntKind.bits .i64) y).toNat : Int)
def anI (x y : Int) : Int := IntKind.i64.wrap ((BitVec.ofInt (IntKind.bits .i64) x &&& ~~~(BitVec.ofInt (IntKind.bits .i64) y)).toNat : Int)

theorem Ctr.dup {P : Program} {f : FuncId} {args args' : List AV} {S S' : List It} {d : D} {res : AV} {i : Nat} (hc : Ctr.ok P ⟨f, args, S ++ [.dat d], S' ++ [.dat d], res⟩) (hi : S[i]? = some (.dat d)) (hl : S'.length = S.length)
    (hS : S.all (fun x => ltAll S.length x.ids) = true) (ha : ∀ ρ : Nat → Value, ρ S.length = ρ i → AV.vals ρ args = AV.vals ρ args') (hg : ltAll S.length (AV.idsL args') = true) : Ctr.ok P ⟨f, args', S, S', res⟩ := by
  intro ι φ ψ w0 w F ρ M
  have hi' : lst S i = .dat d := by simp [lst, hi]
  have hlt : i < S.length := (List.getElem?_eq_some_iff.1 hi).1
  have hinv : Inv (lst S) ρ [S.length] := fun ρ' h j => by
    by_cases hj : j < S.length
    · refine It.res_congr _ (fun k hk => h k ?_) (.inr (.inr (h j (by simp; omega))))
      have h1 := ltAll_iff (List.all_eq_true.1 hS (S[j]) (List.getElem_mem hj)) k (by simpa [lst, List.getD_eq_getElem?_getD, List.getElem?_eq_getElem hj] using hk)
      simp; omega
    · rw [show lst S j = .none by simp only [lst, List.getD_eq_getElem?_getD, List.getElem?_eq_none (Nat.le_of_not_lt hj)]; rfl]; rfl
  obtain ⟨ρ', h1, M1, h2⟩ := M.newDat (id := S.length) (by simp [lst]) hinv (M.datAt hi')
  have e : updS (lst S) [(S.length, .dat d)] = lst (S ++ [.dat d]) := by
    funext j
    simp only [updS, lst, List.getD_eq_getElem?_getD]
    by_cases hj : j = S.length
    · subst hj; simp
    · rw [if_neg hj]
      by_cases hj2 : j < S.length
      · rw [List.getElem?_append_left hj2]
      · rw [List.getElem?_eq_none (by omega), List.getElem?_eq_none (by simp; omega)]
  rw [e] at M1
  have hρ : ρ' i = ρ i := h1 i (by simp; omega)
  have ea : AV.vals ρ args' = AV.vals ρ' args := by
    rw [ha ρ' (by rw [← h2, hρ])]
    exact (AV.vals_congr _ fun k hk => by
      have := ltAll_iff hg k hk
      exact h1 k (by simp; omega)).symm
  simp only
  rw [ea]
  refine (hc ι φ ψ w0 w F ρ' M1).mono ?_
  rintro x w' ⟨ρ2, g1, g2, M2⟩
  refine ⟨ρ2, fun k hk => ?_, g2, ?_⟩
  · rw [g1 k (by simp; omega)]; exact h1 k (by simp; omega)
  · refine M2.map (fun k => match k with | .inl i => some (.inl i) | .inr j => if j < S'.length then some (.inr j) else none) ?_ ?_
    · intro k k' x h1 h2
      match k, k' with
      | .inl i, .inl i' => simp at h1 h2; rw [h1, h2]
      | .inl i, .inr j => simp at h1; subst h1; simp at h2
      | .inr j, .inl i => simp at h2; subst h2; simp at h1
      | .inr j, .inr j' => simp at h1 h2; rw [← h1.2] at h2; rw [Sum.inr.inj h2.2]
    · intro k
      match k with
      | .inl i => exact .inl ⟨.inl i, rfl, rfl⟩
      | .inr j =>
        by_cases hj : j < S'.length
        · refine .inl ⟨.inr j, by simp [hj], ?_⟩
          simp only [lay, lst, List.getD_eq_getElem?_getD, List.getElem?_append_left hj]
        · refine .inr ?_
          simp only [lay, lst, List.getD_eq_getElem?_getD, List.getElem?_eq_none (Nat.le_of_not_lt hj)]
          rfl


def pkX (b : List UInt8) (k : Int) : Int := ((b.getD (k.tmod b.length).toNat 0).toNat : Int) * 131 + ((b.getD ((k * 7 + 3).tmod b.length).toNat 0).toNat : Int) * 1117 + k * 29 + k.tdiv b.length * 53
def pk (b : List UInt8) (k n : Int) : Int :=
  if n < 1 ∨ b.length = 0 then 0 else if k < b.length then ((b.getD k.toNat 0).toNat : Int).tmod n else (xorI (pkX b k) ((pkX b k).tdiv 64)).tmod n
def nm (b : List UInt8) (k : Int) (l : List Int) : Int := l.getD (pk b k l.length).toNat 0
theorem xorI_nn {x y : Int} (hx : 0 ≤ x) (hx2 : x < 9223372036854775808) (hy : 0 ≤ y) (hy2 : y < 9223372036854775808) : 0 ≤ xorI x y := by
  obtain ⟨a, rfl⟩ := Int.eq_ofNat_of_zero_le hx
  obtain ⟨c, rfl⟩ := Int.eq_ofNat_of_zero_le hy
  have ha : a < 2 ^ 63 := by omega
  have hc : c < 2 ^ 63 := by omega
  have h : (BitVec.ofInt (IntKind.bits .i64) (a : Int) ^^^ BitVec.ofInt (IntKind.bits .i64) (c : Int)).toNat < 2 ^ 63 := by
    rw [BitVec.toNat_xor]
    refine Nat.xor_lt_two_pow ?_ ?_
    · simp only [BitVec.ofInt_natCast, BitVec.toNat_ofNat, IntKind.bits]; omega
    · simp only [BitVec.ofInt_natCast, BitVec.toNat_ofNat, IntKind.bits]; omega
  unfold xorI
  generalize (BitVec.ofInt (IntKind.bits .i64) (a : Int) ^^^ BitVec.ofInt (IntKind.bits .i64) (c : Int)).toNat = z at h ⊢
  rw [w64 (by omega) (by omega)]
  omega
theorem u8_le (x : UInt8) : ((x.toNat : Nat) : Int) ≤ 255 := by have := x.toNat_lt; omega
theorem tdiv_le' {k n : Int} (hk : 0 ≤ k) (hn : 1 ≤ n) : 0 ≤ k.tdiv n ∧ k.tdiv n ≤ k := by
  refine ⟨Int.tdiv_nonneg hk (by omega), ?_⟩
  rw [Int.tdiv_eq_ediv_of_nonneg hk]
  exact Int.ediv_le_self _ hk
theorem pkX_b {b : List UInt8} {k : Int} (hk : 0 ≤ k) (hk2 : k ≤ 1000000000) (hb : b.length ≠ 0) : 0 ≤ pkX b k ∧ pkX b k ≤ 100000000000 := by
  unfold pkX
  have h1 := u8_le (b.getD (k.tmod b.length).toNat 0)
  have h2 := u8_le (b.getD ((k * 7 + 3).tmod b.length).toNat 0)
  have h3 := tdiv_le' (n := b.length) hk (by omega)
  omega
theorem tmod_b {x n : Int} (hx : 0 ≤ x) (hn : 1 ≤ n) : 0 ≤ x.tmod n ∧ x.tmod n < n := ⟨Int.tmod_nonneg _ hx, Int.tmod_lt_of_pos _ (by omega)⟩
theorem pkX_d {b : List UInt8} {k : Int} (hk : 0 ≤ k) (hk2 : k ≤ 1000000000) (hb : b.length ≠ 0) : 0 ≤ (pkX b k).tdiv 64 ∧ (pkX b k).tdiv 64 ≤ 100000000000 := by
  have h := pkX_b hk hk2 hb
  have h2 := tdiv_le' (n := 64) h.1 (by omega)
  omega
theorem pk_b (b : List UInt8) {k n : Int} (hk : 0 ≤ k) (hk2 : k ≤ 1000000000) (hn : 1 ≤ n) : 0 ≤ pk b k n ∧ pk b k n < n := by
  unfold pk
  split
  · omega
  · split
    · exact tmod_b (by omega) hn
    · have h := pkX_b hk hk2 (show b.length ≠ 0 by omega)
      have h2 := pkX_d hk hk2 (show b.length ≠ 0 by omega)
      exact tmod_b (xorI_nn h.1 (by omega) h2.1 (by omega)) hn
theorem nm_at (b : List UInt8) {k : Int} (hk : 0 ≤ k) (hk2 : k ≤ 1000000000) {l : List Int} (hl : l ≠ []) : 0 ≤ pk b k l.length ∧ pk b k l.length < l.length ∧ (pk b k l.length).toNat < l.length := by
  have h0 : 0 < l.length := List.length_pos_iff.2 hl
  have h := pk_b b (n := l.length) hk hk2 (by omega)
  omega
theorem nm_mem (b : List UInt8) {k : Int} (hk : 0 ≤ k) (hk2 : k ≤ 1000000000) {l : List Int} (hl : l ≠ []) : nm b k l ∈ l := by
  unfold nm
  rw [getD_lt (nm_at b hk hk2 hl).2.2]
  exact List.getElem_mem _

abbrev l1L : List Int := [-1] ++ ([4] ++ ([9223372036854775807] ++ ([-9223372036854775808] ++ [])))
def l1D (b : List UInt8) (k : Int) : Int := if pk b k 12 = 0 then nm b (k + 1) l1L else pk b (k + 1) 4
def drN {α : Type} (f : Int → α × Int) : Nat → Int → List α × Int
  | 0, k => ([], k)
  | n + 1, k => ((drN f n k).1 ++ [(f (drN f n k).2).1], (f (drN f n k).2).2)
theorem drN_len {α : Type} (f : Int → α × Int) (n : Nat) (k : Int) : (drN f n k).1.length = n := by
  induction n with
  | zero => rfl
  | succ n ih => simp [drN, ih]
theorem drN_b {α : Type} {f : Int → α × Int} {c : Int} (hc : 0 ≤ c) {m : Nat} : ∀ (n : Nat) (k : Int), n ≤ m → (∀ j, k ≤ j → j ≤ k + m * c → j ≤ (f j).2 ∧ (f j).2 ≤ j + c) → k ≤ (drN f n k).2 ∧ (drN f n k).2 ≤ k + n * c := by
  intro n
  induction n with
  | zero => intro k _ _; simp [drN]
  | succ n ih =>
    intro k hm h
    have h1 := ih k (by omega) h
    have e : ((n + 1 : Nat) : Int) * c = n * c + c := by rw [Int.natCast_add, Int.add_mul]; simp
    have h3 : ((n + 1 : Nat) : Int) * c ≤ m * c := Int.mul_le_mul_of_nonneg_right (by omega) hc
    have h2 := h (drN f n k).2 h1.1 (by omega)
    simp only [drN]
    rw [e]
    omega
theorem drN_mem {α : Type} {f : Int → α × Int} {Q : α → Prop} (h : ∀ j, Q (f j).1) (n : Nat) (k : Int) : ∀ x ∈ (drN f n k).1, Q x := by
  induction n with
  | zero => intro x hx; cases hx
  | succ n ih =>
    intro x hx
    simp only [drN, List.mem_append, List.mem_singleton] at hx
    rcases hx with hx | rfl
    · exact ih x hx
    · exact h _

abbrev atL : List Int := [1] ++ ([0] ++ ([2] ++ ([3] ++ ([255] ++ ([7] ++ ([128] ++ []))))))
def atomD (b : List UInt8) (nv : Int) (k : Int) : LExpr := if pk b k 3 = 0 then ⟨1, nm b (k + 1) atL, []⟩ else ⟨2, pk b (k + 1) nv, []⟩
abbrev kdL : List Int := [4] ++ ([10] ++ ([8] ++ ([9] ++ ([3] ++ ([6] ++ ([7] ++ ([5] ++ ([11] ++ []))))))))
def drE (b : List UInt8) (nv na : Int) : Nat → Int → LExpr × Int
  | 0, k => (atomD b nv k, k + 2)
  | d + 1, k => if d = 0 then (atomD b nv k, k + 2) else if pk b k 4 = 0 then (atomD b nv (k + 1), k + 3)
    else if nm b (k + 1) kdL = 3 then (if na = 0 then (atomD b nv (k + 2), k + 4) else (⟨3, pk b (k + 2) na, [atomD b nv (k + 3)]⟩, k + 5))
    else (⟨nm b (k + 1) kdL, 0, (drN (drE b nv na d) (arity (nm b (k + 1) kdL)).toNat (k + 2)).1⟩, (drN (drE b nv na d) (arity (nm b (k + 1) kdL)).toNat (k + 2)).2)
def cE : Nat → Int
  | 0 => 2
  | d + 1 => 5 + 3 * cE d
theorem cE_nn (d : Nat) : 2 ≤ cE d := by
  induction d with
  | zero => exact Int.le_refl _
  | succ d ih => simp only [cE]; omega
theorem ar3 (k : Int) : (arity k).toNat ≤ 3 := by unfold arity; (repeat' split) <;> decide
theorem drE_b (b : List UInt8) (nv na : Int) : ∀ (d : Nat) (k : Int), k ≤ (drE b nv na d k).2 ∧ (drE b nv na d k).2 ≤ k + cE d
  | 0, k => by simp only [drE, cE]; omega
  | d + 1, k => by
    have hc := cE_nn d
    rw [drE]
    simp only [cE]
    split
    · simp only; omega
    · split
      · simp only; omega
      · split
        · split <;> (simp only; omega)
        · have h3 := ar3 (nm b (k + 1) kdL)
          have h := drN_b (f := drE b nv na d) (c := cE d) (m := 3) (by omega) (arity (nm b (k + 1) kdL)).toNat (k + 2) h3 fun j _ _ => drE_b b nv na d j
          have h4 : ((arity (nm b (k + 1) kdL)).toNat : Int) * cE d ≤ 3 * cE d := Int.mul_le_mul_of_nonneg_right (by omega) (by omega)
          simp only
          omega
theorem szEs_le {c : Nat} : ∀ {l : List LExpr}, (∀ x ∈ l, szE x ≤ c) → szEs l ≤ l.length * (1 + c)
  | [], _ => Nat.zero_le _
  | e :: r, h => by
    have h1 := h e (List.mem_cons_self ..)
    have h2 := szEs_le (l := r) fun x hx => h x (List.mem_cons_of_mem _ hx)
    simp only [szEs, List.length_cons]
    rw [Nat.add_mul]
    omega
theorem drE_sz (b : List UInt8) (nv na : Int) : ∀ (d : Nat) (k : Int), (szE (drE b nv na d k).1 : Int) ≤ cE d
  | 0, k => by
    simp only [drE, cE, atomD]
    split <;> simp [szE, szEs]
  | d + 1, k => by
    have hc := cE_nn d
    have ha : ∀ j, szE (atomD b nv j) = 0 := fun j => by unfold atomD; split <;> rfl
    rw [drE]
    simp only [cE]
    split
    · simp only [ha]; omega
    · split
      · simp only [ha]; omega
      · split
        · split
          · simp only [ha]; omega
          · simp only [szE, szEs, ha]; omega
        · have h3 := ar3 (nm b (k + 1) kdL)
          have h1 := drN_mem (f := drE b nv na d) (Q := fun x => szE x ≤ (cE d).toNat) (fun j => by have := drE_sz b nv na d j; omega) (arity (nm b (k + 1) kdL)).toNat (k + 2)
          have h2 := szEs_le h1
          rw [drN_len] at h2
          simp only [szE]
          have h4 := Nat.mul_le_mul_right (1 + (cE d).toNat) h3
          omega
abbrev dpL : List Int := [2] ++ ([3] ++ ([2] ++ ([1] ++ ([4] ++ []))))
def smD (b : List UInt8) (nv na : Nat) (k : Int) : LExpr × Int :=
  if rightB nv na (drE b nv na (nm b k dpL).toNat (k + 1)).1 = true then drE b nv na (nm b k dpL).toNat (k + 1)
  else (atomD b nv (drE b nv na (nm b k dpL).toNat (k + 1)).2, (drE b nv na (nm b k dpL).toNat (k + 1)).2 + 2)
theorem cE4 {d : Nat} (h : d ≤ 4) : cE d ≤ 364 := by
  match d, h with
  | 0, _ => decide
  | 1, _ => decide
  | 2, _ => decide
  | 3, _ => decide
  | 4, _ => decide
theorem dp4 (b : List UInt8) {k : Int} (hk : 0 ≤ k) (hk2 : k ≤ 1000000000) : 1 ≤ nm b k dpL ∧ nm b k dpL ≤ 4 ∧ (nm b k dpL).toNat ≤ 4 := by
  have h := nm_mem b hk hk2 (l := dpL) (by simp)
  simp only [List.mem_append, List.mem_cons, List.not_mem_nil, or_false] at h
  omega
theorem dp_nat (b : List UInt8) {k : Int} (hk : 0 ≤ k) (hk2 : k ≤ 1000000000) : nm b k dpL = ((nm b k dpL).toNat : Int) := by have := dp4 b hk hk2; omega
theorem smD_b (b : List UInt8) (nv na : Nat) {k : Int} (hk : 0 ≤ k) (hk2 : k ≤ 1000000000) : k ≤ (smD b nv na k).2 ∧ (smD b nv na k).2 ≤ k + 367 := by
  have h := drE_b b nv na (nm b k dpL).toNat (k + 1)
  have h2 := cE4 (dp4 b hk hk2).2.2
  unfold smD
  split
  · omega
  · simp only; omega
theorem atomD_sz (b : List UInt8) (nv j : Int) : szE (atomD b nv j) = 0 := by unfold atomD; split <;> rfl
theorem smD_sz (b : List UInt8) (nv na : Nat) {k : Int} (hk : 0 ≤ k) (hk2 : k ≤ 1000000000) : szE (smD b nv na k).1 ≤ 364 := by
  have h := drE_sz b nv na (nm b k dpL).toNat (k + 1)
  have h2 := cE4 (dp4 b hk hk2).2.2
  unfold smD
  split
  · omega
  · rw [atomD_sz]; omega

abbrev noE : LExpr := ⟨0, 0, []⟩
abbrev skL : List Int := [1] ++ ([1] ++ ([2] ++ ([3] ++ ([4] ++ ([1] ++ ([3] ++ ([5] ++ [])))))))
abbrev ibL : List Int := [1] ++ ([2] ++ ([1] ++ ([0] ++ [])))
abbrev ieL : List Int := [0] ++ ([1] ++ ([0] ++ ([2] ++ [])))
abbrev rcL : List Int := [2] ++ ([1] ++ ([3] ++ []))
abbrev rbL : List Int := [1] ++ ([2] ++ ([1] ++ []))
def dfS (b : List UInt8) (nv na : Nat) (kd k : Int) : LStmt × Int := (⟨if kd = 5 then 5 else 1, pk b k nv, noE, (smD b nv na (k + 1)).1, 0, [], []⟩, (smD b nv na (k + 1)).2)
def soS (b : List UInt8) (nv na : Nat) (k : Int) : LStmt × Int := (⟨2, pk b k na, atomD b nv (k + 1), (smD b nv na (k + 1 + 2)).1, 0, [], []⟩, (smD b nv na (k + 1 + 2)).2)
def mnD (b : List UInt8) (f : Int → LStmt × Int) (l : List Int) (k : Int) : List LStmt × Int := drN f (nm b k l).toNat (k + 1)
def ifS (b : List UInt8) (nv na : Nat) (f : Int → LStmt × Int) (k : Int) : LStmt × Int :=
  (⟨3, 0, noE, (smD b nv na k).1, 0, (mnD b f ibL (smD b nv na k).2).1, (mnD b f ieL (mnD b f ibL (smD b nv na k).2).2).1⟩, (mnD b f ieL (mnD b f ibL (smD b nv na k).2).2).2)
def rpS (b : List UInt8) (f : Int → LStmt × Int) (k : Int) : LStmt × Int := (⟨4, 0, noE, noE, nm b k rcL, (mnD b f rbL (k + 1)).1, []⟩, (mnD b f rbL (k + 1)).2)
def stD (b : List UInt8) (nv na : Nat) : Nat → Int → LStmt × Int
  | 0, k => if nm b k skL = 2 ∧ na ≠ 0 then soS b nv na (k + 1) else dfS b nv na (nm b k skL) (k + 1)
  | d + 1, k => if nm b k skL = 2 ∧ na ≠ 0 then soS b nv na (k + 1) else if nm b k skL = 3 ∧ d ≠ 0 then ifS b nv na (stD b nv na d) (k + 1) else if nm b k skL = 4 ∧ d ≠ 0 then rpS b (stD b nv na d) (k + 1)
    else dfS b nv na (nm b k skL) (k + 1)
def cS : Nat → Int
  | 0 => 402
  | d + 1 => 402 + 4 * cS d
theorem cS_nn (d : Nat) : 402 ≤ cS d := by
  induction d with
  | zero => exact Int.le_refl _
  | succ d ih => simp only [cS]; omega
section
variable (b : List UInt8) (nv na : Nat) {k : Int}
theorem dfS_b (kd : Int) (hk : 0 ≤ k) (hk2 : k + 400 ≤ 1000000000) : k ≤ (dfS b nv na kd k).2 ∧ (dfS b nv na kd k).2 ≤ k + 368 := by
  have h := smD_b b nv na (k := k + 1) (by omega) (by omega)
  simp only [dfS]; omega
theorem soS_b (hk : 0 ≤ k) (hk2 : k + 400 ≤ 1000000000) : k ≤ (soS b nv na k).2 ∧ (soS b nv na k).2 ≤ k + 370 := by
  have h := smD_b b nv na (k := k + 1 + 2) (by omega) (by omega)
  simp only [soS]; omega
theorem nm2 {l : List Int} (hl : l ≠ []) (h : ∀ x ∈ l, 0 ≤ x ∧ x ≤ 2) (hk : 0 ≤ k) (hk2 : k ≤ 1000000000) : (nm b k l).toNat ≤ 2 ∧ nm b k l = ((nm b k l).toNat : Int) := by
  have := h _ (nm_mem b hk hk2 hl); omega
theorem mnD_b {f : Int → LStmt × Int} {c : Int} {l : List Int} (hl : l ≠ []) (h : ∀ x ∈ l, 0 ≤ x ∧ x ≤ 2) (hc : 0 ≤ c) (hk : 0 ≤ k) (hk2 : k + 1 + 2 * c ≤ 1000000000) (hf : ∀ j, 0 ≤ j → j + c ≤ 1000000000 → j ≤ (f j).2 ∧ (f j).2 ≤ j + c) : k ≤ (mnD b f l k).2 ∧ (mnD b f l k).2 ≤ k + 1 + 2 * c := by
  have h2 := (nm2 b hl h hk (by omega)).1
  have h3 : ∀ m : Nat, m ≤ 2 → k + 1 ≤ (drN f m (k + 1)).2 ∧ (drN f m (k + 1)).2 ≤ k + 1 + m * c := by
    intro m
    induction m with
    | zero => intro _; simp [drN]
    | succ m ih =>
      intro hm
      have h4 := ih (by omega)
      have h6 : (m : Int) * c ≤ 1 * c := Int.mul_le_mul_of_nonneg_right (by omega) hc
      have h5 := hf (drN f m (k + 1)).2 (by omega) (by omega)
      have e : ((m + 1 : Nat) : Int) * c = m * c + c := by rw [Int.natCast_add, Int.add_mul]; simp
      simp only [drN]
      rw [e]
      omega
  have h4 := h3 _ h2
  have h6 : ((nm b k l).toNat : Int) * c ≤ 2 * c := Int.mul_le_mul_of_nonneg_right (by omega) hc
  unfold mnD
  omega
theorem ibL_ok : ∀ x : Int, x ∈ ibL → 0 ≤ x ∧ x ≤ 2 := by intro x hx; simp only [List.mem_append, List.mem_cons, List.not_mem_nil, or_false] at hx; omega
theorem ieL_ok : ∀ x : Int, x ∈ ieL → 0 ≤ x ∧ x ≤ 2 := by intro x hx; simp only [List.mem_append, List.mem_cons, List.not_mem_nil, or_false] at hx; omega
theorem rbL_ok : ∀ x : Int, x ∈ rbL → 0 ≤ x ∧ x ≤ 2 := by intro x hx; simp only [List.mem_append, List.mem_cons, List.not_mem_nil, or_false] at hx; omega
theorem ifS_b {f : Int → LStmt × Int} {c : Int} (hc : 0 ≤ c) (hk : 0 ≤ k) (hk2 : k + 380 + 4 * c ≤ 1000000000) (hf : ∀ j, 0 ≤ j → j + c ≤ 1000000000 → j ≤ (f j).2 ∧ (f j).2 ≤ j + c) : k ≤ (smD b nv na k).2 ∧ (smD b nv na k).2 ≤ k + 367 ∧ (smD b nv na k).2 ≤ (mnD b f ibL (smD b nv na k).2).2 ∧ (mnD b f ibL (smD b nv na k).2).2 ≤ k + 370 + 2 * c ∧ k ≤ (ifS b nv na f k).2 ∧ (ifS b nv na f k).2 ≤ k + 380 + 4 * c := by
  have h1 := smD_b b nv na (k := k) (by omega) (by omega)
  have h2 := mnD_b b (k := (smD b nv na k).2) (f := f) (c := c) (l := ibL) (by simp) ibL_ok hc (by omega) (by omega) hf
  have h3 := mnD_b b (k := (mnD b f ibL (smD b nv na k).2).2) (f := f) (c := c) (l := ieL) (by simp) ieL_ok hc (by omega) (by omega) hf
  simp only [ifS]
  omega
theorem rpS_b {f : Int → LStmt × Int} {c : Int} (hc : 0 ≤ c) (hk : 0 ≤ k) (hk2 : k + 10 + 2 * c ≤ 1000000000) (hf : ∀ j, 0 ≤ j → j + c ≤ 1000000000 → j ≤ (f j).2 ∧ (f j).2 ≤ j + c) : k ≤ (rpS b f k).2 ∧ (rpS b f k).2 ≤ k + 10 + 2 * c := by
  have h2 := mnD_b b (k := k + 1) (f := f) (c := c) (l := rbL) (by simp) rbL_ok hc (by omega) (by omega) hf
  simp only [rpS]; omega
theorem stD_b : ∀ (d : Nat) (k : Int), 0 ≤ k → k + cS d ≤ 1000000000 → k ≤ (stD b nv na d k).2 ∧ (stD b nv na d k).2 ≤ k + cS d
  | 0, k, hk, hk2 => by
    rw [stD]
    simp only [cS] at hk2 ⊢
    have h1 := soS_b b nv na (k := k + 1) (by omega) (by omega)
    have h2 := dfS_b b nv na (k := k + 1) (nm b k skL) (by omega) (by omega)
    split <;> omega
  | d + 1, k, hk, hk2 => by
    rw [stD]
    simp only [cS] at hk2 ⊢
    have hc := cS_nn d
    have ih := stD_b d
    have h1 := soS_b b nv na (k := k + 1) (by omega) (by omega)
    have h2 := dfS_b b nv na (k := k + 1) (nm b k skL) (by omega) (by omega)
    have h3 := ifS_b b nv na (k := k + 1) (f := stD b nv na d) (c := cS d) (by omega) (by omega) (by omega) ih
    have h4 := rpS_b b (k := k + 1) (f := stD b nv na d) (c := cS d) (by omega) (by omega) (by omega) ih
    (repeat' split) <;> omega

theorem noE_sz : szE noE = 0 := rfl
theorem dfS_sz (kd : Int) (hk : 0 ≤ k) (hk2 : k + 400 ≤ 1000000000) : szS (dfS b nv na kd k).1 ≤ 364 := by
  have h := smD_sz b nv na (k := k + 1) (by omega) (by omega)
  simp only [dfS, szS, szSs, noE_sz]; omega
theorem soS_sz (hk : 0 ≤ k) (hk2 : k + 400 ≤ 1000000000) : szS (soS b nv na k).1 ≤ 364 := by
  have h := smD_sz b nv na (k := k + 1 + 2) (by omega) (by omega)
  simp only [soS, szS, szSs, atomD_sz]; omega
def Drw (f : Int → LStmt × Int) (c : Int) : Prop := ∀ j, 0 ≤ j → j + c ≤ 1000000000 → j ≤ (f j).2 ∧ (f j).2 ≤ j + c ∧ (szS (f j).1 : Int) ≤ c
theorem drN_sz {f : Int → LStmt × Int} {c : Int} (hc : 0 ≤ c) (hf : Drw f c) : ∀ (m : Nat) (k : Int), 0 ≤ k → k + m * c ≤ 1000000000 → k ≤ (drN f m k).2 ∧ (drN f m k).2 ≤ k + m * c ∧ (szSs (drN f m k).1 : Int) ≤ m * (1 + c) := by
  intro m
  induction m with
  | zero => intro k _ _; simp [drN, szSs]
  | succ m ih =>
    intro k hk hk2
    have e : ((m + 1 : Nat) : Int) * c = m * c + c := by rw [Int.natCast_add, Int.add_mul]; simp
    have e2 : ((m + 1 : Nat) : Int) * (1 + c) = m * (1 + c) + (1 + c) := by rw [Int.natCast_add, Int.add_mul]; simp
    rw [e] at hk2
    have h4 := ih k hk (by omega)
    have h5 := hf (drN f m k).2 (by omega) (by omega)
    have h6 : szSs ((drN f m k).1 ++ [(f (drN f m k).2).1]) = szSs (drN f m k).1 + (1 + szS (f (drN f m k).2).1) := by
      generalize (drN f m k).1 = l
      induction l with
      | nil => simp [szSs]
      | cons a r ih => simp only [List.cons_append, szSs]; omega
    simp only [drN]
    rw [e, e2, h6]
    omega
theorem mnD_sz {f : Int → LStmt × Int} {c : Int} {l : List Int} (hl : l ≠ []) (h : ∀ x ∈ l, 0 ≤ x ∧ x ≤ 2) (hc : 0 ≤ c) (hk : 0 ≤ k) (hk2 : k + 1 + 2 * c ≤ 1000000000) (hf : Drw f c) : (szSs (mnD b f l k).1 : Int) ≤ 2 * (1 + c) := by
  have h2 := (nm2 b hl h hk (by omega)).1
  have h6 : ((nm b k l).toNat : Int) * c ≤ 2 * c := Int.mul_le_mul_of_nonneg_right (by omega) hc
  have h7 : ((nm b k l).toNat : Int) * (1 + c) ≤ 2 * (1 + c) := Int.mul_le_mul_of_nonneg_right (by omega) (by omega)
  have h3 := (drN_sz hc hf (nm b k l).toNat (k + 1) (by omega) (by omega)).2.2
  unfold mnD
  omega
theorem stD_sz : ∀ (d : Nat) (k : Int), 0 ≤ k → k + cS d ≤ 1000000000 → (szS (stD b nv na d k).1 : Int) ≤ cS d
  | 0, k, hk, hk2 => by
    rw [stD]
    simp only [cS] at hk2 ⊢
    have h1 := soS_sz b nv na (k := k + 1) (by omega) (by omega)
    have h2 := dfS_sz b nv na (k := k + 1) (nm b k skL) (by omega) (by omega)
    split <;> omega
  | d + 1, k, hk, hk2 => by
    rw [stD]
    simp only [cS] at hk2 ⊢
    have hc := cS_nn d
    have ih := stD_b b nv na d
    have hf : Drw (stD b nv na d) (cS d) := fun j h1 h2 => ⟨(ih j h1 h2).1, (ih j h1 h2).2, stD_sz d j h1 h2⟩
    have h1 := soS_sz b nv na (k := k + 1) (by omega) (by omega)
    have h2 := dfS_sz b nv na (k := k + 1) (nm b k skL) (by omega) (by omega)
    have h3 := ifS_b b nv na (k := k + 1) (f := stD b nv na d) (c := cS d) (by omega) (by omega) (by omega) ih
    have h4 := smD_sz b nv na (k := k + 1) (by omega) (by omega)
    have h5 := mnD_sz b (k := (smD b nv na (k + 1)).2) (l := ibL) (by simp) ibL_ok (by omega) (by omega) (by omega) hf
    have h6 := mnD_sz b (k := (mnD b (stD b nv na d) ibL (smD b nv na (k + 1)).2).2) (l := ieL) (by simp) ieL_ok (by omega) (by omega) (by omega) hf
    have h7 := mnD_sz b (k := k + 1 + 1) (l := rbL) (by simp) rbL_ok (by omega) (by omega) (by omega) hf
    split
    · omega
    · split
      · simp only [ifS, szS, noE_sz]; omega
      · split
        · simp only [rpS, szS, noE_sz, szSs]; omega
        · omega
theorem drwS (d : Nat) : Drw (stD b nv na d) (cS d) := fun j h1 h2 => ⟨(stD_b b nv na d j h1 h2).1, (stD_b b nv na d j h1 h2).2, stD_sz b nv na d j h1 h2⟩
theorem blk_b {d m i : Nat} {B : Int} (hB : (m : Int) * cS d ≤ B) (hi : i ≤ m) (hk : 0 ≤ k) (hk2 : k + B ≤ 1000000000) : k ≤ (drN (stD b nv na d) i k).2 ∧ (drN (stD b nv na d) i k).2 ≤ k + B := by
  have hc := cS_nn d
  have h6 : (i : Int) * cS d ≤ m * cS d := Int.mul_le_mul_of_nonneg_right (by omega) (by omega)
  have h := drN_sz (by omega) (drwS b nv na d) i k hk (by omega)
  omega
theorem blk_c {d m i : Nat} {B : Int} (hB : (m : Int) * cS d ≤ B) (hi : i < m) (hk : 0 ≤ k) (hk2 : k + B ≤ 1000000000) : (drN (stD b nv na d) i k).2 + cS d ≤ k + B := by
  have hc := cS_nn d
  have h6 : ((i + 1 : Nat) : Int) * cS d ≤ m * cS d := Int.mul_le_mul_of_nonneg_right (by omega) (by omega)
  have e : ((i + 1 : Nat) : Int) * cS d = i * cS d + cS d := by rw [Int.natCast_add, Int.add_mul]; simp
  have h := drN_sz (by omega) (drwS b nv na d) i k hk (by omega)
  omega
theorem mul2 {m : Int} {c : Int} (h0 : 0 ≤ m) (hm : m ≤ 2) (hc : 0 ≤ c) : (m.toNat : Int) * c ≤ 2 * c := Int.mul_le_mul_of_nonneg_right (by omega) hc
theorem mul4 {m : Int} {c : Int} (h0 : 0 ≤ m) (hm : m ≤ 4) (hc : 0 ≤ c) : (m.toNat : Int) * c ≤ 4 * c := Int.mul_le_mul_of_nonneg_right (by omega) hc
end
theorem rg_of (b : List UInt8) {k : Int} {l : List Int} {m : Int} (hl : l ≠ []) (h : ∀ x ∈ l, 0 ≤ x ∧ x ≤ m) (hk : 0 ≤ k) (hk2 : k ≤ 1000000000) : 0 ≤ nm b k l ∧ nm b k l ≤ m := h _ (nm_mem b hk hk2 hl)

mutual
/-- The number n read as nil: as a slice, or (t) as a slice with all that hangs on it. -/
def AV.den (t : Bool) (n : Nat) : AV → AV
  | .v x => .v x
  | .ptr a b => .ptr a b
  | .ea a b c d => .ea a b c d
  | .ref i => if !t && natEq i n then .v (.slice none 0 0) else .ref i
  | .agg l => .agg (AV.denL t n l)
  | .tup l => .tup (AV.denL t n l)
  | .fn f l => .fn f (AV.denL t n l)
  | .bm f l => .bm f (AV.denL t n l)
  | .tref i => if t && natEq i n then .v (.slice none 0 0) else .tref i
def AV.denL (t : Bool) (n : Nat) : List AV → List AV
  | [] => []
  | x :: r => x.den t n :: AV.denL t n r
end
def It.den (t : Bool) (n : Nat) : It → It
  | .box cs => .box (AV.denL t n cs)
  | x => x
mutual
theorem AV.val_den {ρ : Nat → Value} {t : Bool} {n : Nat} {z : Value} (hz : if t then valOf z = .slice none 0 0 else z = .slice none 0 0) : ∀ (x : AV), (∀ i ∈ (x.den t n).ids, i < n) → x.val (fun j => if j = n then z else ρ j) = (x.den t n).val ρ ∧ ∀ i ∈ x.ids, i < n + 1
  | .v _, _ => ⟨rfl, fun i hi => by simp [AV.ids] at hi⟩
  | .ptr a b, h => by
    have ha : a < n := h a (by simp [AV.den, AV.ids])
    refine ⟨?_, fun i hi => by simp [AV.ids] at hi; omega⟩
    simp only [AV.den, AV.val]
    rw [if_neg (by omega)]
  | .ea a b c d, h => by
    have ha : a < n := h a (by simp [AV.den, AV.ids])
    refine ⟨?_, fun i hi => by simp [AV.ids] at hi; omega⟩
    simp only [AV.den, AV.val]
    rw [if_neg (by omega)]
  | .ref a, h => by
    by_cases e : t = false ∧ a = n
    · obtain ⟨rfl, rfl⟩ := e
      refine ⟨?_, fun i hi => by simp [AV.ids] at hi; omega⟩
      simp only [Bool.false_eq_true, if_false] at hz
      simp [AV.den, AV.val, natEq, hz]
    · have hd : (AV.ref a).den t n = .ref a := by
        simp only [AV.den]
        rw [if_neg]
        simp [natEq]; intro h1 h2; exact e ⟨h1, h2⟩
      rw [hd] at h ⊢
      have ha : a < n := h a (by simp [AV.ids])
      refine ⟨?_, fun i hi => by simp [AV.ids] at hi; omega⟩
      simp only [AV.val]
      rw [if_neg (by omega)]
  | .tref a, h => by
    by_cases e : t = true ∧ a = n
    · obtain ⟨rfl, rfl⟩ := e
      refine ⟨?_, fun i hi => by simp [AV.ids] at hi; omega⟩
      simp only [if_true] at hz
      simp [AV.den, AV.val, natEq, hz]
    · have hd : (AV.tref a).den t n = .tref a := by
        simp only [AV.den]
        rw [if_neg]
        simp [natEq]; intro h1 h2; exact e ⟨h1, h2⟩
      rw [hd] at h ⊢
      have ha : a < n := h a (by simp [AV.ids])
      refine ⟨?_, fun i hi => by simp [AV.ids] at hi; omega⟩
      simp only [AV.val]
      rw [if_neg (by omega)]
  | .agg l, h => by
    obtain ⟨h1, h2⟩ := AV.vals_den hz l (by simpa [AV.den, AV.ids] using h)
    exact ⟨by simp only [AV.den, AV.val]; rw [h1], by simpa [AV.ids] using h2⟩
  | .tup l, h => by
    obtain ⟨h1, h2⟩ := AV.vals_den hz l (by simpa [AV.den, AV.ids] using h)
    exact ⟨by simp only [AV.den, AV.val]; rw [h1], by simpa [AV.ids] using h2⟩
  | .fn f l, h => by
    obtain ⟨h1, h2⟩ := AV.vals_den hz l (by simpa [AV.den, AV.ids] using h)
    exact ⟨by simp only [AV.den, AV.val]; rw [h1], by simpa [AV.ids] using h2⟩
  | .bm f l, h => by
    obtain ⟨h1, h2⟩ := AV.vals_den hz l (by simpa [AV.den, AV.ids] using h)
    exact ⟨by simp only [AV.den, AV.val]; rw [h1], by simpa [AV.ids] using h2⟩
theorem AV.vals_den {ρ : Nat → Value} {t : Bool} {n : Nat} {z : Value} (hz : if t then valOf z = .slice none 0 0 else z = .slice none 0 0) : ∀ (l : List AV), (∀ i ∈ AV.idsL (AV.denL t n l), i < n) → AV.vals (fun j => if j = n then z else ρ j) l = AV.vals ρ (AV.denL t n l) ∧ ∀ i ∈ AV.idsL l, i < n + 1
  | [], _ => ⟨rfl, fun i hi => by simp [AV.idsL] at hi⟩
  | x :: r, h => by
    obtain ⟨h1, h2⟩ := AV.val_den hz x fun i hi => h i (by simp only [AV.denL, AV.idsL, List.mem_append]; exact .inl hi)
    obtain ⟨h3, h4⟩ := AV.vals_den hz r fun i hi => h i (by simp only [AV.denL, AV.idsL, List.mem_append]; exact .inr hi)
    refine ⟨by simp only [AV.denL, AV.vals]; rw [h1, h3], fun i hi => ?_⟩
    simp only [AV.idsL, List.mem_append] at hi
    rcases hi with hi | hi
    · exact h2 i hi
    · exact h4 i hi
end
theorem look_den {m : Bool} {n : Nat} {t : Nat} {x : AV} : ∀ {tm : List (Nat × AV)}, look tm t = some x → look (tm.map fun p => (p.1, p.2.den m n)) t = some (x.den m n)
  | [], h => by cases h
  | (k, y) :: r, h => by
    simp only [look, List.map_cons] at h ⊢
    split at h
    · rename_i e; cases h; rw [if_pos e]
    · rename_i e; rw [if_neg e]; exact look_den h

section
variable {P : Program} {ι : Type} {φ ψ : Nat → Prop} {w0 w : World} {F : ι → Rs} {ρ ρ0 : Nat → Value} {N m n : Nat} {S : List It} {tm : List (Nat × AV)} {a : Act}
theorem Gam.nilW (G : Gam φ ψ w0 F N m ρ0 ρ S tm a w) (n : Nat) (hn : S.length = n) (b : Bool) (x : It) (z : Value) (hz : if b then valOf z = .slice none 0 0 else z = .slice none 0 0) (hids : x.ids = []) (hb : ∀ g, ¬ (x.res (fun j => if j = n then z else ρ j) n).blk g)
    (hx : ∀ φ', (x.res (fun j => if j = n then z else ρ j) n).holds w φ') (S1 : List It) (tm1 : List (Nat × AV)) (hS : S = S1.map (It.den b n)) (ht : tm = tm1.map fun p => (p.1, p.2.den b n)) :
    ∃ ρ', Gam φ ψ w0 F N m ρ0 ρ' (S1 ++ [x]) tm1 a w := by
  have hl : S1.length = n := by rw [← hn, hS, List.length_map]
  have hat : ∀ j (hj : j < n), lst S j = (S1[j]'(by omega)).den b n := fun j hj => by
    rw [lst_at (show j < S.length by omega)]
    have h1 := congrArg (·[j]?) hS
    simp only [List.getElem?_map, List.getElem?_eq_getElem (show j < S.length by omega), List.getElem?_eq_getElem (show j < S1.length by omega), Option.map_some, Option.some.injEq] at h1
    exact h1
  have hnew : ∀ j (hj : j < n), lst (S1 ++ [x]) j = S1[j]'(by omega) := fun j hj => by
    simp [lst, List.getD_eq_getElem?_getD, List.getElem?_append_left (show j < S1.length by omega), List.getElem?_eq_getElem (show j < S1.length by omega)]
  have hlast : lst (S1 ++ [x]) n = x := by
    simp [lst, List.getD_eq_getElem?_getD, ← hl]
  have hout : ∀ j, n < j → lst (S1 ++ [x]) j = .none := fun j hj => lst_out (by simp; omega)
  have hbx : ∀ j (hj : j < n), ((S1[j]'(by omega)).res (fun j => if j = n then z else ρ j) j = (lst S j).res ρ j) ∧ ∀ i ∈ (S1[j]'(by omega)).ids, i < n + 1 := fun j hj => by
    rw [hat j hj]
    have hb := (G.bd j).1
    rw [hat j hj, hn] at hb
    generalize S1[j]'(by omega) = x at *
    cases x with
    | box cs =>
      obtain ⟨h1, h2⟩ := AV.vals_den (ρ := ρ) (n := n) hz cs hb
      refine ⟨?_, h2⟩
      simp only [It.res, It.den]
      rw [h1, if_neg (show ¬ j = n by omega)]
    | none => exact ⟨rfl, fun i hi => by cases hi⟩
    | dead => exact ⟨rfl, fun i hi => by cases hi⟩
    | dat d' => exact ⟨by simp only [It.res, It.den]; rw [if_neg (show ¬ j = n by omega)], fun i hi => by cases hi⟩
    | row e' d' => exact ⟨by simp only [It.res, It.den]; rw [if_neg (show ¬ j = n by omega)], fun i hi => by cases hi⟩
    | tree d' => exact ⟨by simp only [It.res, It.den]; rw [if_neg (show ¬ j = n by omega)], fun i hi => by cases hi⟩
    | kept e' d' => exact ⟨by cases e' <;> (simp only [It.res, It.den]; rw [if_neg (show ¬ j = n by omega)]), fun i hi => by cases hi⟩
  have hw : ∀ t x, look tm1 t = some x → x.val (fun j => if j = n then z else ρ j) = (x.den b n).val ρ ∧ ∀ i ∈ x.ids, i < n + 1 := fun t x hx => by
    refine AV.val_den hz x fun i hi => ?_
    have h1 : look tm t = some (x.den b n) := by rw [ht]; exact look_den hx
    have := G.tmi t _ h1 i hi
    omega
  refine ⟨fun j => if j = n then z else ρ j, ?_⟩
  refine ⟨G.size, G.defs, fun t x hx => ?_, fun t x hx i hi => ?_, fun j => ⟨fun i hi => ?_, fun hj => lst_out hj⟩, ?_, ?_, fun i hi => ?_⟩
  · have h1 : look tm t = some (x.den b n) := by rw [ht]; exact look_den hx
    rw [(hw t x hx).1]; exact G.tmv t _ h1
  · have := (hw t x hx).2 i hi
    simp; omega
  · rcases Nat.lt_trichotomy j n with h | h | h
    · rw [hnew j h] at hi
      have := (hbx j h).2 i hi
      simp; omega
    · subst h; rw [hlast, hids] at hi; cases hi
    · rw [hout j h] at hi; cases hi
  · refine MemF.put G.mem (.inr n) (fun k hk => ?_) (Kept.refl _ _) ?_ ?_
    · cases k with
      | inl i => rfl
      | inr j =>
        simp only [lay]
        rcases Nat.lt_trichotomy j n with h | h | h
        · rw [hnew j h]; exact (hbx j h).1
        · exact absurd (by rw [h]) hk
        · rw [hout j h, lst_out (show S.length ≤ j by omega)]; rfl
    · simp only [lay, hlast]; exact hx _
    · intro g hg
      simp only [lay, hlast] at hg
      exact absurd hg (hb g)
  · have := G.le; simp; omega
  · show (if i = n then _ else ρ i) = ρ0 i
    have := G.le
    rw [if_neg (by omega)]; exact G.old i hi
theorem Gam.nil (G : Gam φ ψ w0 F N m ρ0 ρ S tm a w) (n : Nat) (e : TypeId) (d : D) (k : Nat) (S1 : List It) (tm1 : List (Nat × AV)) (hn : S.length = n := by kernel_rfl) (hd : D.nil k = some d := by kernel_rfl) (hS : S = S1.map (It.den false n) := by kernel_rfl) (ht : tm = tm1.map (fun p => (p.1, p.2.den false n)) := by kernel_rfl) :
    ∃ ρ', Gam φ ψ w0 F N m ρ0 ρ' (S1 ++ [.row e d]) tm1 a w := by
  have hz := D.nil_len hd
  refine G.nilW n hn false (.row e d) (.slice none 0 0) (by simp) rfl (fun g hg => ?_) (fun φ' => ?_) S1 tm1 hS ht
  · simp only [It.res, if_true] at hg
    cases hg
  · simp only [It.res, if_true]
    refine ⟨fun xs => RW.nice d xs, [], ?_, RW.nil hz _⟩
    rw [hz]; exact World.ownsRow_nil _ _ _ _
theorem Gam.nilT (G : Gam φ ψ w0 F N m ρ0 ρ S tm a w) (n : Nat) (d : D) (S1 : List It) (tm1 : List (Nat × AV)) (hn : S.length = n := by kernel_rfl) (hd : ((treeE d).isSome && natEq d.len 0) = true := by kernel_rfl) (hS : S = S1.map (It.den true n) := by kernel_rfl) (ht : tm = tm1.map (fun p => (p.1, p.2.den true n)) := by kernel_rfl) :
    ∃ ρ', Gam φ ψ w0 F N m ρ0 ρ' (S1 ++ [.tree d]) tm1 a w := by
  simp only [Bool.and_eq_true, natEq, beq_iff_eq] at hd
  obtain ⟨e, he⟩ := Option.isSome_iff_exists.1 hd.1
  obtain ⟨z, h1, h2⟩ := enc_exists (.slice none 0 0) (fun _ => False) 0 fun b h => h.elim
  refine G.nilW n hn true (.tree d) z (by simp [h1]) rfl (fun g hg => ?_) (fun φ' => ?_) S1 tm1 hS ht
  · simp only [It.res, if_true] at hg
    exact ((h2 g).1 hg).elim
  · simp only [It.res, if_true]
    rw [h1]
    refine ⟨fun _ _ h hs => h.same hs, ⟨e, [], fun _ => False, he, ?_, (fun g hg => by cases hg), (fun b hb => hb.elim), ?_⟩, fun b hb => ((h2 b).1 hb).elim⟩
    · rw [hd.2]; exact World.ownsRow_nil _ _ _ _
    · have h0 := hd.2
      cases d <;> simp only [treeE] at he <;> first | cases he | skip
      all_goals (simp only [D.len] at h0; rw [List.eq_nil_of_length_eq_zero h0]; rfl)
end

inductive Ln where
  | no
  | row (e : TypeId)
  | tree
def lnAt (M : List Ln) (i : Nat) : Ln := M.getD i .no
def Ln.isT : Ln → Bool
  | .tree => true
  | _ => false
mutual
def AV.tr (M : List Ln) : AV → AV
  | .v x => .v x
  | .ptr a b => .ptr a b
  | .ea a b c d => .ea a b c d
  | .ref i => if (lnAt M i).isT then .tref i else .ref i
  | .agg l => .agg (AV.trL M l)
  | .tup l => .tup (AV.trL M l)
  | .fn f l => .fn f (AV.trL M l)
  | .bm f l => .bm f (AV.trL M l)
  | .tref i => .tref i
def AV.trL (M : List Ln) : List AV → List AV
  | [] => []
  | x :: r => x.tr M :: AV.trL M r
end
mutual
/-- No address of, and no other word for, what is lent as a tree. -/
def AV.trOk (M : List Ln) : AV → Bool
  | .v _ => true
  | .ptr a _ => !(lnAt M a).isT
  | .ea a _ _ _ => !(lnAt M a).isT
  | .ref _ => true
  | .agg l => AV.trOkL M l
  | .tup l => AV.trOkL M l
  | .fn _ l => AV.trOkL M l
  | .bm _ l => AV.trOkL M l
  | .tref i => !(lnAt M i).isT
def AV.trOkL (M : List Ln) : List AV → Bool
  | [] => true
  | x :: r => x.trOk M && AV.trOkL M r
end
mutual
theorem AV.val_tr {ρ ρ' : Nat → Value} {M : List Ln} (h : ∀ i, ρ' i = if (lnAt M i).isT then valOf (ρ i) else ρ i) : ∀ (x : AV), x.trOk M = true → (x.tr M).val ρ = x.val ρ'
  | .v _, _ => rfl
  | .ptr a _, hx => by
    simp only [AV.trOk, Bool.not_eq_true'] at hx
    simp only [AV.tr, AV.val]; rw [h a, hx]; rfl
  | .ea a _ _ _, hx => by
    simp only [AV.trOk, Bool.not_eq_true'] at hx
    simp only [AV.tr, AV.val]; rw [h a, hx]; rfl
  | .ref i, _ => by
    simp only [AV.tr]
    cases hm : (lnAt M i).isT
    · simp only [Bool.false_eq_true, if_false, AV.val]; rw [h i, hm]; rfl
    · simp only [if_true, AV.val]; rw [h i, hm]; rfl
  | .agg l, hx => by simp only [AV.tr, AV.val]; rw [AV.vals_tr h l (by simpa [AV.trOk] using hx)]
  | .tup l, hx => by simp only [AV.tr, AV.val]; rw [AV.vals_tr h l (by simpa [AV.trOk] using hx)]
  | .fn _ l, hx => by simp only [AV.tr, AV.val]; rw [AV.vals_tr h l (by simpa [AV.trOk] using hx)]
  | .bm _ l, hx => by simp only [AV.tr, AV.val]; rw [AV.vals_tr h l (by simpa [AV.trOk] using hx)]
  | .tref i, hx => by
    simp only [AV.trOk, Bool.not_eq_true'] at hx
    simp only [AV.tr, AV.val]; rw [h i, hx]; rfl
theorem AV.vals_tr {ρ ρ' : Nat → Value} {M : List Ln} (h : ∀ i, ρ' i = if (lnAt M i).isT then valOf (ρ i) else ρ i) : ∀ (l : List AV), AV.trOkL M l = true → AV.vals ρ (AV.trL M l) = AV.vals ρ' l
  | [], _ => rfl
  | x :: r, hx => by
    simp only [AV.trOkL, Bool.and_eq_true] at hx
    simp only [AV.trL, AV.vals]; rw [AV.val_tr h x hx.1, AV.vals_tr h r hx.2]
end
def lendIt (M : List Ln) : Ln → It → It
  | .row e, .dat d => .row e d
  | .tree, .dat d => .tree d
  | .no, .box cs => .box (AV.trL M cs)
  | _, x => x
def lendL (M : List Ln) (S : List It) : List It := (List.range S.length).map fun i => lendIt M (lnAt M i) (lst S i)
theorem lst_lend (M : List Ln) (S : List It) (i : Nat) : lst (lendL M S) i = lendIt M (lnAt M i) (lst S i) := by
  unfold lendL
  rcases Nat.lt_or_ge i S.length with h | h
  · conv => lhs; rw [lst, List.getD_eq_getElem?_getD, List.getElem?_map, List.getElem?_range h]
    rfl
  · rw [lst_out (by simpa using h), lst_out h]
    cases lnAt M i <;> rfl
def flatD : D → Bool
  | .rows _ => false
  | .brows _ => false
  | .exprs _ => false
  | .stmts _ => false
  | _ => true
theorem flat_rw {w w' : World} {φ φ' : Nat → Prop} {d : D} {xs : List Value} (hd : flatD d = true) (h : RW w φ d xs) : RW w' φ' d xs := by
  intro i hi j x hx
  obtain ⟨u, h1, h2⟩ := h i hi j x hx
  refine ⟨u, h1, ?_⟩
  have : ∃ y, x = .v y := by
    have hm := List.mem_of_getElem? hx
    cases d <;> simp only [flatD, Bool.false_eq_true] at hd <;> simp [D.elem, insX, eventX] at hm
    · exact ⟨_, hm⟩
    · exact ⟨_, hm⟩
    · exact ⟨_, hm⟩
    · exact ⟨_, hm⟩
    · rcases hm with h | h | h | h | h <;> exact ⟨_, h⟩
    · rcases hm with h | h <;> exact ⟨_, h⟩
  obtain ⟨y, rfl⟩ := this
  exact h2
def lnOk (M : List Ln) (l : Ln) (p x : It) : Bool :=
  match l with
  | .no => match x with
    | .dat _ => (match p with | .dat _ => true | _ => false)
    | .row _ d => flatD d
    | .box cs => AV.trOkL M cs
    | .kept _ _ => false
    | _ => true
  | .row _ => (match p, x with | .dat d, .dat _ => flatD d | _, _ => false)
  | .tree => (match p, x with | .dat d, .dat _ => (treeE d).isSome | _, _ => false)
def preLn (M : List Ln) (l : Ln) (p : It) : Bool :=
  match l, p with
  | .no, .box cs => AV.trOkL M cs
  | _, _ => true
def lendB (M : List Ln) (c : Ctr) : Bool :=
  decide (M.length ≤ c.pre.length) && decide (c.pre.length ≤ c.post.length) && AV.trOkL M c.args && c.res.trOk M && (List.range c.post.length).all (fun i => lnOk M (lnAt M i) (lst c.pre i) (lst c.post i)) && (List.range c.pre.length).all fun i => preLn M (lnAt M i) (lst c.pre i)

def Rs.snap (w : World) (r : Rs) : Rs := .own r.blk fun w' => ∀ b, r.blk b → b < w.heap.size → w'.heap[b]? = w.heap[b]?
theorem Rs.snap_holds {w : World} {φ φ' : Nat → Prop} {r : Rs} (h : r.holds w φ) : (r.snap w).holds w φ' := by
  refine ⟨fun w1 w2 h1 h2 b hb hlt => ?_, fun b _ _ => rfl, fun b hb => Rs.lt h hb⟩
  have h3 := h1 b hb hlt
  rw [h2 b hb, h3]
  have : (w1.heap[b]?).isSome = true := by rw [h3, Array.getElem?_eq_getElem hlt]; rfl
  obtain ⟨o, ho⟩ := Option.isSome_iff_exists.1 this
  exact (Array.getElem?_eq_some_iff.1 ho).1
theorem datP_at : ∀ {P X : List It} {i : Nat} {d e : D}, datP P X = datQ P X → lst P i = .dat d → lst X i = .dat e → d = e
  | P, X, i, d, e, h, h1, h2 => by
    have hp : P[i]? = some (.dat d) := by
      rcases Nat.lt_or_ge i P.length with hl | hl
      · rw [lst_at hl] at h1; rw [List.getElem?_eq_getElem hl, h1]
      · rw [lst_out hl] at h1; cases h1
    have hx : X[i]? = some (.dat e) := by
      rcases Nat.lt_or_ge i X.length with hl | hl
      · rw [lst_at hl] at h2; rw [List.getElem?_eq_getElem hl, h2]
      · rw [lst_out hl] at h2; cases h2
    exact dat_eq h hp hx

theorem Ctr.lend0 {P : Program} {c : Ctr} (hc : c.ok P) (M : List Ln) (hb : lendB M c = true) (he : datP c.pre c.post = datQ c.pre c.post) : Ctr.ok P ⟨c.f, AV.trL M c.args, lendL M c.pre, lendL M c.post, c.res.tr M⟩ := by
  simp only [lendB, Bool.and_eq_true, decide_eq_true_eq] at hb
  obtain ⟨⟨⟨⟨⟨hM, hle⟩, hargs⟩, hres⟩, hpost⟩, hpre⟩ := hb
  have hno : ∀ i, c.pre.length ≤ i → lnAt M i = .no := fun i hi => by
    unfold lnAt; rw [List.getD_eq_getElem?_getD, List.getElem?_eq_none (by omega)]; rfl
  have hpo : ∀ i, lnOk M (lnAt M i) (lst c.pre i) (lst c.post i) = true := fun i => by
    rcases Nat.lt_or_ge i c.post.length with h | h
    · exact List.all_eq_true.1 hpost i (List.mem_range.2 h)
    · rw [hno i (by omega), lst_out h]; rfl
  have hpr : ∀ i, preLn M (lnAt M i) (lst c.pre i) = true := fun i => by
    rcases Nat.lt_or_ge i c.pre.length with h | h
    · exact List.all_eq_true.1 hpre i (List.mem_range.2 h)
    · rw [hno i h, lst_out h]; rfl
  intro ι φ ψ w0 w F ρ MM
  -- what the call sees
  let ρ1 : Nat → Value := fun i => if (lnAt M i).isT then valOf (ρ i) else ρ i
  have hρ1 : ∀ i, ρ1 i = if (lnAt M i).isT then valOf (ρ i) else ρ i := fun _ => rfl
  let F1 : ι → Rs := fun i => (F i).snap w
  have hLi : ∀ i, lay F ρ (lst (lendL M c.pre)) (.inl i) = F i := fun _ => rfl
  have hLj : ∀ j, lay F ρ (lst (lendL M c.pre)) (.inr j) = (lendIt M (lnAt M j) (lst c.pre j)).res ρ j := fun j => by simp only [lay]; rw [lst_lend]
  generalize hL : lay F ρ (lst (lendL M c.pre)) = L at MM hLi hLj
  have h1j : ∀ j, lnAt M j = .no → (lst c.pre j).res ρ1 j = L (.inr j) := fun j hl => by
    rw [hLj, hl]
    have hp := hpr j
    have e : ρ1 j = ρ j := by rw [hρ1, hl]; rfl
    cases hx : lst c.pre j with
    | none => rfl
    | dead => rfl
    | dat d => simp only [lendIt, It.res]; rw [e]
    | row e' d => simp only [lendIt, It.res]; rw [e]
    | tree d => simp only [lendIt, It.res]; rw [e]
    | kept e' d => cases e' <;> (simp only [lendIt, It.res]; rw [e])
    | box cs =>
      rw [hl, hx] at hp
      simp only [preLn] at hp
      simp only [lendIt, It.res]
      rw [e, AV.vals_tr hρ1 cs hp]
  -- lent things own nothing in the call's eyes
  have hlent : ∀ j, lnAt M j ≠ .no → (∃ d, lst c.pre j = .dat d ∧ lst c.post j = .dat d ∧ ((∃ e, lnAt M j = .row e ∧ flatD d = true) ∨ lnAt M j = .tree)) := fun j hj => by
    have h := hpo j
    cases hl : lnAt M j with
    | no => exact absurd hl hj
    | row e =>
      rw [hl] at h
      simp only [lnOk] at h
      split at h
      · rename_i d d' h1 h2
        exact ⟨d, h1, by rw [h2, ← datP_at he h1 h2], .inl ⟨e, rfl, h⟩⟩
      · cases h
    | tree =>
      rw [hl] at h
      simp only [lnOk] at h
      split at h
      · rename_i d d' h1 h2
        exact ⟨d, h1, by rw [h2, ← datP_at he h1 h2], .inr rfl⟩
      · cases h
  have hsub : ∀ k b, (lay F1 ρ1 (lst c.pre) k).blk b → (L k).blk b ∧ ∀ j, k = .inr j → lnAt M j = .no := fun k b hb => by
    cases k with
    | inl i => rw [hLi]; exact ⟨hb, fun j h => by cases h⟩
    | inr j =>
      by_cases hl : lnAt M j = .no
      · simp only [lay] at hb
        rw [h1j j hl] at hb
        exact ⟨hb, fun j' h => by cases h; exact hl⟩
      · obtain ⟨d, h1, _⟩ := hlent j hl
        simp only [lay, h1, It.res] at hb
        exact hb.elim
  have hfr1 : ∀ b, FrF φ L b → FrF φ (lay F1 ρ1 (lst c.pre)) b := fun b hb => ⟨hb.1, fun k hk => hb.2 k (hsub k b hk).1⟩
  let ψ1 : Nat → Prop := fun b => ∀ k, ¬ (lay F1 ρ1 (lst c.pre) k).blk b
  have M1 : MemF φ ψ1 w w (lay F1 ρ1 (lst c.pre)) := by
    refine ⟨Kept.refl _ _, fun b hb => MM.fresh b (Nat.le_trans MM.size hb), fun k => ?_, fun k k' b hkk h1 h2 => MM.dis k k' b hkk (hsub k b h1).1 (hsub k' b h2).1, fun k b h1 => .inr fun h => h k h1, fun k b h1 => MM.ph k b (hsub k b h1).1⟩
    cases k with
    | inl i => exact Rs.snap_holds (show (F i).holds w _ from by rw [← hLi i]; exact MM.holds (.inl i))
    | inr j =>
      by_cases hl : lnAt M j = .no
      · simp only [lay]
        rw [h1j j hl]
        exact Rs.keep (MM.holds (.inr j)) (Agr.mono fun b _ hf => hfr1 b hf) fun _ _ => rfl
      · obtain ⟨d, h1, h2, h3⟩ := hlent j hl
        have hh := MM.holds (.inr j)
        have hown : ∀ b, (L (.inr j)).blk b → FrF φ (lay F1 ρ1 (lst c.pre)) b := fun b hb => ⟨MM.ph _ _ hb, fun k hk => by
          obtain ⟨q1, q2⟩ := hsub k b hk
          by_cases e : k = .inr j
          · exact hl (q2 j e)
          · exact MM.dis k (.inr j) b e q1 hb⟩
        simp only [lay, h1, It.res]
        refine ⟨RD.nice _ _, ?_⟩
        rcases h3 with ⟨e, h3, hflat⟩ | h3
        · rw [hLj, h3, h1] at hh
          simp only [lendIt, It.res] at hh
          obtain ⟨_, xs, o1, o2⟩ := hh
          have e1 : ρ1 j = ρ j := by rw [hρ1, h3]; rfl
          rw [e1]
          refine RD.make (owns_rowF o1 fun g hg => hown g ?_) (flat_rw hflat o2)
          rw [hLj, h3, h1]; exact hg
        · rw [hLj, h3, h1] at hh
          simp only [lendIt, It.res] at hh
          have e1 : ρ1 j = valOf (ρ j) := by rw [hρ1, h3]; rfl
          rw [e1]
          refine TreeO.read hh.2.1 fun b hb => hown b ?_
          rw [hLj, h3, h1]; exact hb
  simp only
  rw [AV.vals_tr hρ1 c.args hargs]
  refine (hc ι φ ψ1 w w F1 ρ1 M1).mono ?_
  rintro x w' ⟨ρ2, g1, g2, M2⟩
  have hplen : (lendL M c.pre).length = c.pre.length := by simp [lendL]
  let ρ' : Nat → Value := fun j => if j < c.pre.length then ρ j else ρ2 j
  have hρ' : ∀ j, ρ2 j = if (lnAt M j).isT then valOf (ρ' j) else ρ' j := fun j => by
    show _ = if (lnAt M j).isT then valOf (if j < c.pre.length then ρ j else ρ2 j) else (if j < c.pre.length then ρ j else ρ2 j)
    rcases Nat.lt_or_ge j c.pre.length with h | h
    · rw [if_pos h, g1 j h]
    · rw [hno j h]
      exact (if_neg (Nat.not_lt.2 h)).symm
  have hρo : ∀ j, lnAt M j ≠ .no → ρ' j = ρ j := fun j hj => by
    rcases Nat.lt_or_ge j c.pre.length with h | h
    · exact if_pos h
    · exact absurd (hno j h) hj
  refine ⟨ρ', fun i hi => if_pos (by rw [hplen] at hi; exact hi), by rw [AV.val_tr hρ' c.res hres]; exact g2, ?_⟩
  have hL'j : ∀ j, lay F ρ' (lst (lendL M c.post)) (.inr j) = (lendIt M (lnAt M j) (lst c.post j)).res ρ' j := fun j => by simp only [lay]; rw [lst_lend]
  have hL'i : ∀ i, lay F ρ' (lst (lendL M c.post)) (.inl i) = F i := fun _ => rfl
  generalize hL' : lay F ρ' (lst (lendL M c.post)) = L' at hL'j hL'i
  have hL2j : ∀ j, lnAt M j = .no → L' (.inr j) = lay F1 ρ2 (lst c.post) (.inr j) := fun j hl => by
    rw [hL'j, hl]
    have hp := hpo j
    have e : ρ2 j = ρ' j := by rw [hρ', hl]; rfl
    simp only [lay]
    cases hx : lst c.post j with
    | none => rfl
    | dead => rfl
    | dat d => simp only [lendIt, It.res]; rw [e]
    | row e' d => simp only [lendIt, It.res]; rw [e]
    | tree d => simp only [lendIt, It.res]; rw [e]
    | kept e' d => cases e' <;> (simp only [lendIt, It.res]; rw [e])
    | box cs =>
      rw [hl, hx] at hp
      simp only [lnOk] at hp
      simp only [lendIt, It.res]
      rw [e, AV.vals_tr hρ' cs hp]
  have hlj : ∀ j, lnAt M j ≠ .no → L' (.inr j) = L (.inr j) := fun j hl => by
    obtain ⟨d, h1, h2, h3⟩ := hlent j hl
    rw [hL'j, hLj, h1, h2]
    rcases h3 with ⟨e, h3, _⟩ | h3
    · rw [h3]; simp only [lendIt, It.res]; rw [hρo j hl]
    · rw [h3]; simp only [lendIt, It.res]; rw [hρo j hl]
  -- where what stands behind lies
  have hin : ∀ b, b < w.heap.size → ¬ ψ1 b → ∃ k, (L k).blk b ∧ ∀ j, k = .inr j → lnAt M j = .no := fun b _ hn => by
    obtain ⟨k, hk⟩ := Classical.not_forall.1 hn
    exact ⟨k, hsub k b (Classical.not_not.1 hk)⟩
  have hnew : ∀ k b, (∀ j, k = .inr j → lnAt M j = .no) → (lay F1 ρ2 (lst c.post) k).blk b → b < w.heap.size → ∃ k', (L k').blk b ∧ ∀ j, k' = .inr j → lnAt M j = .no := fun k b _ hb hlt => by
    rcases M2.ge k b hb with h | h
    · omega
    · exact hin b hlt h
  have hback : ∀ k b, (L' k).blk b → b < w.heap.size → ∃ k', (L k').blk b := fun k b hb hlt => by
    cases k with
    | inl i => rw [hL'i] at hb; exact ⟨.inl i, by rw [hLi]; exact hb⟩
    | inr j =>
      by_cases hl : lnAt M j = .no
      · rw [hL2j j hl] at hb
        obtain ⟨k', h1, _⟩ := hnew (.inr j) b (fun j' h => by cases h; exact hl) hb hlt
        exact ⟨k', h1⟩
      · rw [hlj j hl] at hb; exact ⟨_, hb⟩
  have hsame : ∀ b, b < w.heap.size → ψ1 b → w'.heap[b]? = w.heap[b]? := fun b h1 h2 => M2.kept.block b h1 h2
  have hagr : Agr (FrF φ L) (FrF φ L') w w' := ⟨M2.kept.size, fun b hb hf => ⟨⟨hf.1, fun k hk => let ⟨k', h1⟩ := hback k b hk hb; hf.2 k' h1⟩, hsame b hb fun k hk => (hfr1 b hf).2 k hk⟩⟩
  have hlsame : ∀ j, lnAt M j ≠ .no → ∀ b, (L (.inr j)).blk b → w'.heap[b]? = w.heap[b]? := fun j hl b hb => hsame b (MM.lt hb) fun k hk => by
    obtain ⟨q1, q2⟩ := hsub k b hk
    by_cases e : k = .inr j
    · exact hl (q2 j e)
    · exact MM.dis k (.inr j) b e q1 hb
  have hcross : ∀ j k b, lnAt M j ≠ .no → (∀ j, k = .inr j → lnAt M j = .no) → (L (.inr j)).blk b → ¬ (lay F1 ρ2 (lst c.post) k).blk b := fun j k b hl hk h1 h2 => by
    obtain ⟨k', h3, h4⟩ := hnew k b hk h2 (MM.lt h1)
    exact MM.dis k' (.inr j) b (fun e => hl (h4 j e)) h3 h1
  refine ⟨⟨M2.kept.os.trans MM.kept.os, M2.kept.tape.trans MM.kept.tape, M2.kept.output.trans MM.kept.output, Nat.le_trans MM.size M2.kept.size, fun b hb hp => (hsame b (Nat.lt_of_lt_of_le hb MM.size) fun k hk => ?_).trans (MM.kept.block b hb hp)⟩, MM.fresh, fun k => ?_, fun k k' b hkk h1 h2 => ?_, fun k b h1 => ?_, fun k b h1 => ?_⟩
  · rcases MM.ge k b (hsub k b hk).1 with h | h
    · omega
    · exact h hp
  · cases k with
    | inl i =>
      rw [hL'i, ← hLi i]
      refine Rs.keep (MM.holds (.inl i)) hagr fun b hb => ?_
      have := (M2.holds (.inl i)).2.1 b (by rw [← hLi i]; exact hb) (MM.lt hb)
      exact this
    | inr j =>
      by_cases hl : lnAt M j = .no
      · have hh := M2.holds (.inr j)
        rw [← hL2j j hl] at hh
        have hp := hpo j
        rw [hl] at hp
        cases hx : lst c.post j with
        | none => rw [hL'j, hl, hx]; exact Rs.none_holds _ _
        | dead => rw [hL'j, hl, hx]; exact Rs.none_holds _ _
        | box cs => rw [hL'j, hl, hx] at hh ⊢; exact hh
        | tree d => rw [hL'j, hl, hx] at hh ⊢; exact hh
        | kept e' d => rw [hx] at hp; exact absurd hp (by simp [lnOk])
        | row e d =>
          rw [hx] at hp
          simp only [lnOk] at hp
          rw [hL'j, hl, hx] at hh ⊢
          simp only [lendIt, It.res] at hh ⊢
          obtain ⟨_, xs, o1, o2⟩ := hh
          exact ⟨fun xs => RW.nice d xs, xs, o1, flat_rw hp o2⟩
        | dat d =>
          rw [hx] at hp
          simp only [lnOk] at hp
          split at hp
          · rename_i d' hpx
            have hd : d' = d := datP_at he hpx hx
            subst hd
            have e : L' (.inr j) = L (.inr j) := by
              rw [hL'j, hLj, hl, hx, hpx]
              simp only [lendIt, It.res]
              have : j < c.pre.length := by
                rcases Nat.lt_or_ge j c.pre.length with h | h
                · exact h
                · rw [lst_out h] at hpx; cases hpx
              rw [show ρ' j = ρ j from if_pos this]
            rw [e]
            refine Rs.keep (MM.holds (.inr j)) hagr fun b hb => ?_
            rw [hLj, hl, hpx] at hb
            exact hb.elim
          · cases hp
      · rw [hlj j hl]
        exact Rs.keep (MM.holds (.inr j)) hagr fun b hb => hlsame j hl b hb
  · have key : ∀ k, (∃ j, k = .inr j ∧ lnAt M j ≠ .no ∧ (L' k) = L k) ∨ ((∀ j, k = .inr j → lnAt M j = .no) ∧ ∀ b, (L' k).blk b → (lay F1 ρ2 (lst c.post) k).blk b) := fun k => by
      cases k with
      | inl i => exact .inr ⟨(fun j h => by cases h), fun b hb => by rw [hL'i] at hb; exact hb⟩
      | inr j =>
        by_cases hl : lnAt M j = .no
        · exact .inr ⟨fun j' h => by cases h; exact hl, fun b hb => by rw [hL2j j hl] at hb; exact hb⟩
        · exact .inl ⟨j, rfl, hl, hlj j hl⟩
    rcases key k with ⟨j, rfl, k1, k2⟩ | ⟨k1, k2⟩ <;> rcases key k' with ⟨j', rfl, k3, k4⟩ | ⟨k3, k4⟩
    · rw [k2] at h1; rw [k4] at h2; exact MM.dis _ _ b hkk h1 h2
    · rw [k2] at h1; exact hcross j k' b k1 k3 h1 (k4 b h2)
    · rw [k4] at h2; exact hcross j' k b k3 k1 h2 (k2 b h1)
    · exact M2.dis k k' b hkk (k2 b h1) (k4 b h2)
  · cases k with
    | inl i => rw [hL'i, ← hLi i] at h1; exact MM.ge _ b h1
    | inr j =>
      by_cases hl : lnAt M j = .no
      · rw [hL2j j hl] at h1
        rcases Nat.lt_or_ge b w.heap.size with hlt | hge
        · obtain ⟨k', h2, _⟩ := hnew (.inr j) b (fun j' h => by cases h; exact hl) h1 hlt
          exact MM.ge k' b h2
        · exact .inl (Nat.le_trans MM.size hge)
      · rw [hlj j hl] at h1; exact MM.ge _ b h1
  · cases k with
    | inl i => rw [hL'i, ← hLi i] at h1; exact MM.ph _ b h1
    | inr j =>
      by_cases hl : lnAt M j = .no
      · rw [hL2j j hl] at h1; exact M2.ph _ b h1
      · rw [hlj j hl] at h1; exact MM.ph _ b h1

def keepIt (M : List Ln) : Ln → It → It
  | .row e, .dat d => .kept (some e) d
  | .tree, .dat d => .kept none d
  | .no, .box cs => .box (AV.trL M cs)
  | _, x => x
def keepL (M : List Ln) (S : List It) : List It := (List.range S.length).map fun i => keepIt M (lnAt M i) (lst S i)
theorem lst_keep (M : List Ln) (S : List It) (i : Nat) : lst (keepL M S) i = keepIt M (lnAt M i) (lst S i) := by
  unfold keepL
  rcases Nat.lt_or_ge i S.length with h | h
  · conv => lhs; rw [lst, List.getD_eq_getElem?_getD, List.getElem?_map, List.getElem?_range h]
    rfl
  · rw [lst_out (by simpa using h), lst_out h]
    cases lnAt M i <;> rfl
theorem Ctr.lend {P : Program} {c : Ctr} (hc : c.ok P) (M : List Ln) (hb : lendB M c = true := by kernel_rfl) (he : datP c.pre c.post = datQ c.pre c.post := by kernel_rfl) : Ctr.ok P ⟨c.f, AV.trL M c.args, lendL M c.pre, keepL M c.post, c.res.tr M⟩ :=
  Ctr.okPost (Ctr.lend0 hc M hb he) _ fun ρ i => by
    simp only
    rw [lst_keep, lst_lend]
    cases lnAt M i <;> cases lst c.post i <;> rfl


section
variable {P : Program} {ι κ : Type} {φ ψ : Nat → Prop} {w0 w : World} {F : ι → Rs} {ρ ρ0 : Nat → Value} {N m n : Nat} {S : List It} {tm : List (Nat × AV)} {a : Act}

end




section
variable {P : Program} {ι κ : Type} {φ ψ : Nat → Prop} {w0 w w' : World} {F : ι → Rs} {ρ ρ0 : Nat → Value}
theorem MemF.grow {L L' : κ → Rs} (M : MemF φ ψ w0 w L) (hb : Below w.heap.size w w') (K : κ → Prop) (ho : ∀ k, ¬ K k → L' k = L k) (hg : ∀ k, K k → ∀ b, (L' k).blk b → w.heap.size ≤ b) (hd : ∀ j k b, j ≠ k → K j → K k → (L' j).blk b → ¬ (L' k).blk b) (h : ∀ k, K k → (L' k).holds w' (FrF φ L')) : MemF φ ψ w0 w' L' := by
  have M1 := M.call hb
  have old : ∀ k, ¬ K k → ∀ b, (L' k).blk b → b < w.heap.size := fun k hk b h1 => by rw [ho k hk] at h1; exact M.lt h1
  refine ⟨M1.kept, M.fresh, fun k => ?_, fun i j g hij h1 h2 => ?_, fun i b h1 => ?_, fun i b h1 => ?_⟩
  · by_cases e : K k
    · exact h k e
    · rw [ho k e]
      refine Rs.keep (M.holds k) ⟨hb.size, fun b hl hf => ⟨⟨hf.1, fun j hj => ?_⟩, hb.block b hl⟩⟩ fun g hgx => hb.block g (M.lt hgx)
      by_cases e2 : K j
      · have := hg j e2 b hj; omega
      · rw [ho j e2] at hj; exact hf.2 j hj
  · by_cases e1 : K i <;> by_cases e2 : K j
    · exact hd i j g hij e1 e2 h1 h2
    · have := hg i e1 g h1; have := old j e2 g h2; omega
    · have := hg j e2 g h2; have := old i e1 g h1; omega
    · rw [ho i e1] at h1; rw [ho j e2] at h2; exact M.dis i j g hij h1 h2
  · by_cases e : K i
    · exact .inl (Nat.le_trans M.size (hg i e b h1))
    · rw [ho i e] at h1; exact M.ge i b h1
  · by_cases e : K i
    · exact M.fresh b (Nat.le_trans M.size (hg i e b h1))
    · rw [ho i e] at h1; exact M.ph i b h1
end

abbrev oP (p : LProg) : List It := [.row 3 (.ints p.vars), .row 3 (.ints p.arrays), .tree (.stmts p.body)]
abbrev oA (r : Nat) : AV := .agg [.ref r, .ref (r + 1), .tref (r + 2)]
theorem row_holds {w : World} {φ : Nat → Prop} {v : Value} {l : List Int} (h : w.ownsRow 0 3 1 v l.length (ints l)) : (Rs.row 3 (D.ints l).sz v (D.ints l).len fun xs w φ => RW w φ (.ints l) xs).holds w φ := by
  refine ⟨fun xs => RW.nice (.ints l) xs, ints l, h, fun i hi j x hx => ?_⟩
  have hi' : i < l.length := hi
  simp only [D.elem] at hx
  have hj : j = 0 := by
    cases j with
    | zero => rfl
    | succ j => simp at hx
  subst hj
  simp at hx
  subst hx
  refine ⟨_, ?_, rfl⟩
  simp only [D.sz]
  rw [Nat.mul_one, Nat.add_zero]
  simp [ints, hi']


set_option maxRecDepth 100000 in
theorem clone_ints (v : Value) (t : List Int) (w : World) (h : Row w v t.length 1 (ints t)) (hb : t.length ≤ 1000000000000) :
    Calls Try.prog 62 #[v] w fun e w' => ∃ u, e = .returned u ∧ Own w' w.heap.size w'.heap.size 3 1 u t.length (ints t) ∧ Below w.heap.size w w' := by
  obtain ⟨a, cap, rfl, hc1, hc2, hc3, -⟩ := h.open
  have hnil := fun w => Lib.run_eql_slice_nil (P := Try.prog) w 22 3 a t.length cap 0 0 Try.underlying22
  rcases a with _ | a
  · have hn : t.length = 0 := by
      rcases Nat.eq_zero_or_pos t.length with h0 | h0
      · exact h0
      · obtain ⟨_, a, c, he, _, _, hx⟩ := h
        cases he
        obtain ⟨_, _, he, _⟩ := hx h0
        cases he
    have ht : t = [] := List.eq_nil_of_length_eq_zero hn
    subst ht
    simp only [List.length_nil, Option.isNone_none] at hnil
    go_enter Try.func62, Try.ntmps62
    go_wp2_with fail
    go_ret
    exact ⟨_, rfl, ⟨World.ownsRow_nil _ _ _ _, fun g hg => by cases hg⟩, Below.refl _ _⟩
  · go_enter Try.func62, Try.ntmps62
    simp only [Option.isNone_some] at hnil
    have ba := (Below.refl w.heap.size w).alloc (Nat.le_refl _) (.cells #[] 3)
    go_wp2_with (at_builtin; refine wpList_app rfl _ _ rfl Try.underlying22 infoI rfl (by omega) rfl (own_built w #[] 0 1 _ rfl rfl (by omega)).1 rfl (h.below ba) ints_one (by omega) (by omega) (by simp) ?_; rintro a4 q4 w4 o4 b4 - -)
    go_ret
    refine ⟨_, rfl, Own.mk' (by simpa using o4), ba.trans b4⟩

theorem c_cloneInts (l : List Int) (hb : l.length ≤ 1000000000000) : Ctr.ok Try.prog ⟨62, [.ref 0], [.dat (.ints l)], [.dat (.ints l), .row 3 (.ints l)], .ref 1⟩ := by
  intro ι φ ψ w0 w F ρ M
  have hr := M.datAt (id := 0) (d := .ints l) rfl
  refine (clone_ints (ρ 0) l w (RowF.row hr) hb).mono ?_
  rintro e w' ⟨u, rfl, ⟨ho, hg⟩, hbl⟩
  refine ⟨fun i => if i = 1 then u else ρ i, fun i hi => if_neg (show ¬ i = 1 by have : i < 1 := hi; omega), by simp [AV.val], ?_⟩
  refine M.grow hbl (fun k => k = .inr 1) (fun k hk => ?_) ?_ ?_ ?_
  · cases k with
    | inl i => rfl
    | inr j =>
      match j, hk with
      | 0, _ => rfl
      | 1, h => exact absurd rfl h
      | j + 2, _ => rfl
  · rintro k rfl b hb; exact (World.ownsRow.lt ho b hb).1
  · rintro j k b hjk rfl rfl; exact absurd rfl hjk
  · rintro k rfl; exact row_holds (owns_base ho (Nat.zero_le _))

set_option maxRecDepth 100000 in
theorem c_isNone (e : LExpr) : Ctr.ok Try.prog ⟨147, [.agg [.v (.int .i64 e.kind), .v (.int .i64 e.value), .ref 0]], [.dat (.exprs e.kids)], [.dat (.exprs e.kids)], .v (.bool (noneB e))⟩ := by
  refine rx_enter 17 Try.func147 (by rfl) (by kernel_rfl) (by kernel_rfl) ?_; intro ι φ ψ w0 w F ρ0 ρ a G; replace G := Gam.at G [dE e.kids] [(0, eA e 0)]; refine wp_seq ?_; refine rs0 G [0, 1] [dE e.kids, .box (eL e 0)] [(1, .ptr 1 0), (2, bA false)] fun ρ a w G => th_n (wp_seq ?_); cases h0 : (e.kind == (0 : Int))
  · have q0 : ¬ (e.kind = 0) := ne_of_beq_false h0; refine rs1 (dk := dkP) G ⟨[], [(e.kind == (0 : Int), false), (false, false)], us [(4, 6, 0), (1007, 1007, 0), (9, 12, 1), (1013, 1013, 1)]⟩ calls_nil ⟨(by assumption), (by kernel_rfl), trivial⟩ [0] [dE e.kids] [(2, bA false)] [] trivial fun ρ a w G => th_n (wp_ret ?_); exact rx_ret (v := bA false) G [0] (by kernel_rfl) (by kernel_rfl) (by kernel_rfl) (by have e1 : (noneB e : Bool) = (false) := (by rw [Bool.eq_iff_iff]; simp [noneB, h0, q0]; done); (first | rw [e1] | simp only [e1]) <;> rfl)
  ·
   have q0 : e.kind = 0 := eq_of_beq h0; cases h1 : (e.value == (0 : Int))
   · have q1 : ¬ (e.value = 0) := ne_of_beq_false h1; refine rs1 (dk := dkP) G ⟨[], [(e.kind == (0 : Int), true), (e.value == (0 : Int), false)], us [(4, 6, 0), (1007, 1007, 0), (9, 12, 1), (1013, 1013, 1)]⟩ calls_nil ⟨(by assumption), (by assumption), trivial⟩ [0] [dE e.kids] [(2, bA false)] [] trivial fun ρ a w G => th_n (wp_ret ?_); exact rx_ret (v := bA false) G [0] (by kernel_rfl) (by kernel_rfl) (by kernel_rfl) (by have e1 : (noneB e : Bool) = (false) := (by rw [Bool.eq_iff_iff]; simp [noneB, h0, q0, h1, q1]; done); (first | rw [e1] | simp only [e1]) <;> rfl)
   · have q1 : e.value = 0 := eq_of_beq h1; refine rs1 (dk := dkP) G ⟨[], [(e.kind == (0 : Int), true), (e.value == (0 : Int), true)], us [(4, 6, 0), (1007, 1007, 0), (9, 12, 1), (1013, 1013, 1)]⟩ calls_nil ⟨(by assumption), (by assumption), trivial⟩ [0] [dE e.kids] [(2, bA ((↑e.kids.length : Int) == 0))] [] trivial fun ρ a w G => th_n (wp_ret ?_); exact rx_ret (v := bA ((↑e.kids.length : Int) == 0)) G [0] (by kernel_rfl) (by kernel_rfl) (by kernel_rfl) (by have e1 : (noneB e : Bool) = ((↑e.kids.length : Int) == 0) := (by rw [Bool.eq_iff_iff]; simp [noneB, h0, q0, h1, q1]; done); (first | rw [e1] | simp only [e1]) <;> rfl)

set_option maxRecDepth 100000 in
theorem c_l2Arity (k : Int) : Ctr.ok Try.prog ⟨175, [.v (.int .i64 k)], [], [], .v (.int .i64 (arity k))⟩ := by
  refine rx_enter 23 Try.func175 (by rfl) (by kernel_rfl) (by kernel_rfl) ?_; intro ι φ ψ w0 w F ρ0 ρ a G; replace G := Gam.at G [] [(0, iA k)]; refine wp_seq ?_; refine rs0s G [(0, iA k), (2, iA 0)] fun ρ a w G => th_n (wp_seq (wp_block (wp_seq ?_))); cases h0 : (k == (1 : Int))
  ·
   have q0 : ¬ (k = 1) := ne_of_beq_false h0; refine rs1s G ⟨[], [(k == (1 : Int), false)], [(3, 0), (4, 0), (1005, 0)]⟩ calls_nil ⟨(by assumption), trivial⟩ [(0, iA k), (2, iA 0), (3, bA (k == 2))] [] trivial fun ρ a w G => th_n ?_; cases h1 : (k == (2 : Int))
   ·
    have q1 : ¬ (k = 2) := ne_of_beq_false h1; refine rF G (k == (2 : Int)) (by assumption) ?_; refine wp_seq ?_; refine rs0s G [(0, iA k), (2, iA 0), (10, bA (k == 3))] fun ρ a w G => th_n ?_; cases h2 : (k == (3 : Int))
    ·
     have q2 : ¬ (k = 3) := ne_of_beq_false h2; refine rF G (k == (3 : Int)) (by assumption) ?_; refine wp_seq ?_; cases h3 : (decide (k ≥ (4 : Int)))
     ·
      have q3 : ¬ (k ≥ 4) := dFf h3; refine rs1s G ⟨[], [(decide (k ≥ (4 : Int)), false)], [(3, 0), (4, 0), (1005, 0)]⟩ calls_nil ⟨(by assumption), trivial⟩ [(0, iA k), (2, iA 0), (13, bA false)] [] trivial fun ρ a w G => th_n ?_; refine rF G (false) (by kernel_rfl) ?_; refine wp_seq ?_; refine rs0s G [(2, iA 0), (20, bA (k == 11))] fun ρ a w G => th_n ?_; cases h4 : (k == (11 : Int))
      · have q4 : ¬ (k = 11) := ne_of_beq_false h4; refine rF G (k == (11 : Int)) (by assumption) ?_; refine wp_skip ?_; refine bl_n ?_; refine th_n (wp_seq ?_); refine rs0s G [(2, iA (-1))] fun ρ a w G => th_n (wp_ret ?_); exact rx_ret (v := iA (-1)) G [] (by kernel_rfl) (by kernel_rfl) (by kernel_rfl) (by have e1 : (arity k : Int) = (-1) := (by unfold arity; (repeat' split) <;> omega); (first | rw [e1] | simp only [e1]) <;> rfl)
      · have q4 : k = 11 := eq_of_beq h4; refine rT G (k == (11 : Int)) (by assumption) ?_; refine wp_seq ?_; refine rs0s G [(2, iA 3)] fun ρ a w G => th_n (wp_ret (bl_r (th_r ?_))); exact rx_ret (v := iA 3) G [] (by kernel_rfl) (by kernel_rfl) (by kernel_rfl) (by have e1 : (arity k : Int) = (3) := (by unfold arity; (repeat' split) <;> omega); (first | rw [e1] | simp only [e1]) <;> rfl)
     ·
      have q3 : k ≥ 4 := dTt h3; refine rs1s G ⟨[], [(decide (k ≥ (4 : Int)), true)], [(3, 0), (4, 0), (1005, 0)]⟩ calls_nil ⟨(by assumption), trivial⟩ [(0, iA k), (2, iA 0), (13, bA (decide (k ≤ 10)))] [] trivial fun ρ a w G => th_n ?_; cases h5 : (decide (k ≤ (10 : Int)))
      ·
       have q5 : ¬ (k ≤ 10) := dFf h5; refine rF G (decide (k ≤ (10 : Int))) (by assumption) ?_; refine wp_seq ?_; refine rs0s G [(2, iA 0), (20, bA (k == 11))] fun ρ a w G => th_n ?_; cases h6 : (k == (11 : Int))
       · have q6 : ¬ (k = 11) := ne_of_beq_false h6; refine rF G (k == (11 : Int)) (by assumption) ?_; refine wp_skip ?_; refine bl_n ?_; refine th_n (wp_seq ?_); refine rs0s G [(2, iA (-1))] fun ρ a w G => th_n (wp_ret ?_); exact rx_ret (v := iA (-1)) G [] (by kernel_rfl) (by kernel_rfl) (by kernel_rfl) (by have e1 : (arity k : Int) = (-1) := (by unfold arity; (repeat' split) <;> omega); (first | rw [e1] | simp only [e1]) <;> rfl)
       · have q6 : k = 11 := eq_of_beq h6; refine rT G (k == (11 : Int)) (by assumption) ?_; refine wp_seq ?_; refine rs0s G [(2, iA 3)] fun ρ a w G => th_n (wp_ret (bl_r (th_r ?_))); exact rx_ret (v := iA 3) G [] (by kernel_rfl) (by kernel_rfl) (by kernel_rfl) (by have e1 : (arity k : Int) = (3) := (by unfold arity; (repeat' split) <;> omega); (first | rw [e1] | simp only [e1]) <;> rfl)
      · have q5 : k ≤ 10 := dTt h5; refine rT G (decide (k ≤ (10 : Int))) (by assumption) ?_; refine wp_seq ?_; refine rs0s G [(2, iA 2)] fun ρ a w G => th_n (wp_ret (bl_r (th_r ?_))); exact rx_ret (v := iA 2) G [] (by kernel_rfl) (by kernel_rfl) (by kernel_rfl) (by have e1 : (arity k : Int) = (2) := (by unfold arity; (repeat' split) <;> omega); (first | rw [e1] | simp only [e1]) <;> rfl)
    · have q2 : k = 3 := eq_of_beq h2; refine rT G (k == (3 : Int)) (by assumption) ?_; refine wp_seq ?_; refine rs0s G [(2, iA 1)] fun ρ a w G => th_n (wp_ret (bl_r (th_r ?_))); exact rx_ret (v := iA 1) G [] (by kernel_rfl) (by kernel_rfl) (by kernel_rfl) (by have e1 : (arity k : Int) = (1) := (by unfold arity; (repeat' split) <;> omega); (first | rw [e1] | simp only [e1]) <;> rfl)
   · have q1 : k = 2 := eq_of_beq h1; refine rT G (k == (2 : Int)) (by assumption) ?_; refine wp_seq ?_; refine rs0s G [(2, iA 0)] fun ρ a w G => th_n (wp_ret (bl_r (th_r ?_))); exact rx_ret (v := iA 0) G [] (by kernel_rfl) (by kernel_rfl) (by kernel_rfl) (by have e1 : (arity k : Int) = (0) := (by unfold arity; (repeat' split) <;> omega); (first | rw [e1] | simp only [e1]) <;> rfl)
  · have q0 : k = 1 := eq_of_beq h0; refine rs1s G ⟨[], [(k == (1 : Int), true)], [(3, 0), (4, 0), (1005, 0)]⟩ calls_nil ⟨(by assumption), trivial⟩ [(0, iA k), (2, iA 0), (3, bA true)] [] trivial fun ρ a w G => th_n ?_; refine rT G (true) (by kernel_rfl) ?_; refine wp_seq ?_; refine rs0s G [(2, iA 0)] fun ρ a w G => th_n (wp_ret (bl_r (th_r ?_))); exact rx_ret (v := iA 0) G [] (by kernel_rfl) (by kernel_rfl) (by kernel_rfl) (by have e1 : (arity k : Int) = (0) := (by unfold arity; (repeat' split) <;> omega); (first | rw [e1] | simp only [e1]) <;> rfl)


section
variable {nv na d : Nat} {e : LExpr}
end


def sizeD : Nat → List LStmt → Nat
  | 0, ss => ss.length
  | d + 1, ss => ss.length + (ss.map fun s => sizeD d s.body + sizeD d s.els).sum
def szP (d : Nat) (ss : List LStmt) (k : Nat) : Nat := ss.length + ((ss.take k).map fun s => sizeD d s.body + sizeD d s.els).sum
theorem szP_all (d : Nat) (ss : List LStmt) {k : Nat} (h : ss.length ≤ k) : szP d ss k = sizeD (d + 1) ss := by unfold szP; rw [List.take_of_length_le h, sizeD]
theorem szP_succ {d : Nat} {ss : List LStmt} {k : Nat} (h : k < ss.length) : szP d ss (k + 1) = szP d ss k + (sizeD d (ss.getD k default).body + sizeD d (ss.getD k default).els) := by
  unfold szP
  rw [p_take_succ ss k h, List.map_append, List.sum_append, getD_lt h]
  simp; omega
theorem sizeD_le : ∀ (d : Nat) (ss : List LStmt), sizeD d ss ≤ szSs ss := by
  intro d
  induction d with
  | zero => intro ss; exact szSs_len ss
  | succ d ih =>
    intro ss
    induction ss with
    | nil => simp [sizeD]
    | cons s r ihr =>
      have h1 := ih s.body
      have h2 := ih s.els
      have h3 := szS_parts s
      simp only [sizeD, List.map_cons, List.sum_cons, List.length_cons, szSs] at ihr ⊢
      have h4 : szSs s.body + szSs s.els ≤ szS s := by
        rcases s with ⟨_, _, _, _, _, b, e⟩
        simp only [szS, LStmt.body, LStmt.els]; omega
      omega
theorem szP_le {d : Nat} {ss : List LStmt} {k : Nat} : szP d ss k ≤ szSs ss := by
  refine Nat.le_trans ?_ (sizeD_le (d + 1) ss)
  unfold szP
  rw [sizeD]
  have : ∀ (l : List Nat) (k : Nat), (l.take k).sum ≤ l.sum := fun l k => by
    have := List.sum_append (l₁ := l.take k) (l₂ := l.drop k)
    rw [List.take_append_drop] at this; omega
  have h := this (ss.map fun s => sizeD d s.body + sizeD d s.els) k
  rw [← List.map_take] at h
  omega
theorem body_le {ss : List LStmt} {k B : Nat} (h : szSs ss ≤ B) (hk : k < ss.length) : szSs (ss.getD k default).body ≤ B ∧ szSs (ss.getD k default).els ≤ B := by
  rw [getD_lt hk]
  have h1 := szS_mem (List.getElem_mem hk)
  have h2 := szS_parts ss[k]
  omega

set_option maxRecDepth 100000 in
theorem c_l2Size0 (ss : List LStmt) (n : Int) (hn : n = 1) (hb : szSs ss ≤ 1048576) : Ctr.ok Try.prog (fnC 121 [.ref 0, iA n] [.dat (.stmts ss)] (iA (sizeD 0 ss : Nat))) := by
  have h100 : decide (n > 1) = false := by simp; omega
  refine rx_enter 39 Try.func121 (by rfl) (by kernel_rfl) (by kernel_rfl) ?_; intro ι φ ψ w0 w F ρ0 ρ a G; replace G := Gam.at G [dT ss] [(0, .ref 0), (1, iA n)]; refine wp_seq ?_; refine rs0s G [(0, .ref 0), (1, iA n), (4, iA 0)] fun ρ a w G => th_n (wp_seq ?_); refine rs0s G [(0, .ref 0), (1, iA n), (4, iA 0), (5, iA (↑ss.length : Int))] fun ρ a w G => th_n (wp_seq (wp_seq ?_)); refine rs0s G [(0, .ref 0), (1, iA n), (4, iA 0), (5, iA (↑ss.length : Int)), (6, iA 0)] fun ρ a w G => th_n (wp_block ?_); refine rx_for (κ := Nat) (fun k => k = 0) (fun k => 0) (fun k => [dT ss]) (fun k => [(0, .ref 0), (1, iA n), (4, iA 0), (5, iA (ss.length : Nat)), (6, iA k)]) (0) (by kernel_rfl) (Gam.at G _ _) ?_; clear G; intro k ρ a w hp G; replace G := Gam.at G [dT ss] [(0, .ref 0), (1, iA n), (4, iA 0), (5, iA (↑ss.length : Int)), (6, iA (↑k : Int))]; refine wp_seq (wp_seq ?_); cases h0 : (decide ((↑k : Int) < (↑ss.length : Int)))
  · have q0 : ¬ ((↑k : Int) < (↑ss.length : Int)) := dFf h0; refine rs1s G ⟨[], [(decide ((↑k : Int) < (↑ss.length : Int)), false)], [(5, 0), (6, 0), (1007, 0)]⟩ calls_nil ⟨(by assumption), trivial⟩ [(0, .ref 0), (1, iA n), (4, iA 0), (5, iA (↑ss.length : Int)), (6, iA (↑k : Int)), (16, bA false)] [] trivial fun ρ a w G => th_n ?_; refine rF G (false) (by kernel_rfl) ?_; refine wp_exit (th_e (th_e (bl_hit (th_n (wp_seq ?_))))); refine rs0s G [(4, iA (↑ss.length : Int))] fun ρ a w G => th_n (wp_ret ?_); exact rx_ret (v := iA (↑ss.length : Int)) G [0] (by kernel_rfl) (by kernel_rfl) (by kernel_rfl) (by kernel_rfl)
  · have q0 : (↑k : Int) < (↑ss.length : Int) := dTt h0; refine rs1s G ⟨[], [(decide ((↑k : Int) < (↑ss.length : Int)), true)], [(5, 0), (6, 0), (1007, 0)]⟩ calls_nil ⟨(by assumption), trivial⟩ [(0, .ref 0), (1, iA n), (4, iA 0), (5, iA (↑ss.length : Int)), (6, iA (↑k : Int)), (16, bA (decide (n > 1)))] [] trivial fun ρ a w G => th_n ?_; refine rF G (decide (n > (1 : Int))) (by assumption) ?_; refine wp_exit (th_e (th_e (bl_hit (th_n (wp_seq ?_))))); refine rs0s G [(4, iA (↑ss.length : Int))] fun ρ a w G => th_n (wp_ret ?_); exact rx_ret (v := iA (↑ss.length : Int)) G [0] (by kernel_rfl) (by kernel_rfl) (by kernel_rfl) (by kernel_rfl)

set_option maxRecDepth 100000 in
theorem c_l2SizeS (d : Nat) (hd : d ≤ 5) (ih : ∀ (ss : List LStmt) (n : Int), n = (d + 1 : Nat) → szSs ss ≤ 1048576 → Ctr.ok Try.prog (fnC 121 [.ref 0, iA n] [.dat (.stmts ss)] (iA (sizeD d ss : Nat))))
    (ss : List LStmt) (n : Int) (hn : n = (d + 2 : Nat)) (hb : szSs ss ≤ 1048576) : Ctr.ok Try.prog (fnC 121 [.ref 0, iA n] [.dat (.stmts ss)] (iA (sizeD (d + 1) ss : Nat))) := by
  have h100 : decide (n > 1) = true := by simp; omega
  refine rx_enter 39 Try.func121 (by rfl) (by kernel_rfl) (by kernel_rfl) ?_; intro ι φ ψ w0 w F ρ0 ρ a G; replace G := Gam.at G [dT ss] [(0, .ref 0), (1, iA n)]; refine wp_seq ?_; refine rs0s G [(0, .ref 0), (1, iA n), (4, iA 0)] fun ρ a w G => th_n (wp_seq ?_); refine rs0s G [(0, .ref 0), (1, iA n), (4, iA 0), (5, iA (↑ss.length : Int))] fun ρ a w G => th_n (wp_seq (wp_seq ?_)); refine rs0s G [(0, .ref 0), (1, iA n), (4, iA 0), (5, iA (↑ss.length : Int)), (6, iA 0)] fun ρ a w G => th_n (wp_block ?_); refine rx_for (κ := Nat) (fun k => k ≤ ss.length) (fun k => ss.length - k) (fun k => [dT ss]) (fun k => [(0, .ref 0), (1, iA n), (4, iA 0), (5, iA (szP d ss k : Nat)), (6, iA k)]) (0) (by simp [h100]) (Gam.at G _ _) ?_; clear G; intro k ρ a w hp G; replace G := Gam.at G [dT ss] [(0, .ref 0), (1, iA n), (4, iA 0), (5, iA (↑(szP d ss k) : Int)), (6, iA (↑k : Int))]; have hlen := szSs_len ss; refine wp_seq (wp_seq ?_); cases h0 : (decide ((↑k : Int) < (↑ss.length : Int)))
  · have q0 : ¬ ((↑k : Int) < (↑ss.length : Int)) := dFf h0; refine rs1s G ⟨[], [(decide ((↑k : Int) < (↑ss.length : Int)), false)], [(5, 0), (6, 0), (1007, 0)]⟩ calls_nil ⟨(by assumption), trivial⟩ [(0, .ref 0), (1, iA n), (4, iA 0), (5, iA (↑(szP d ss k) : Int)), (6, iA (↑k : Int)), (16, bA false)] [] trivial fun ρ a w G => th_n ?_; refine rF G (false) (by kernel_rfl) ?_; refine wp_exit (th_e (th_e (bl_hit (th_n (wp_seq ?_))))); refine rs0s G [(4, iA (↑(szP d ss k) : Int))] fun ρ a w G => th_n (wp_ret ?_); exact rx_ret (v := iA (↑(szP d ss k) : Int)) G [0] (by kernel_rfl) (by kernel_rfl) (by kernel_rfl) (by have e1 : ((↑(sizeD (d + 1) ss) : Int) : Int) = ((↑(szP d ss k) : Int)) := (by have h1 := szP_all d ss (k := k) (by omega); omega); (first | rw [e1] | simp only [e1]) <;> rfl)
  · have q0 : (↑k : Int) < (↑ss.length : Int) := dTt h0; refine rs1s G ⟨[], [(decide ((↑k : Int) < (↑ss.length : Int)), true)], [(5, 0), (6, 0), (1007, 0)]⟩ calls_nil ⟨(by assumption), trivial⟩ [(0, .ref 0), (1, iA n), (4, iA 0), (5, iA (↑(szP d ss k) : Int)), (6, iA (↑k : Int)), (16, bA (decide (n > 1)))] [] trivial fun ρ a w G => th_n ?_; refine rT G (decide (n > (1 : Int))) (by assumption) ?_; refine wp_skip (th_n (wp_seq (wp_block ?_))); refine rd1s G ⟨[(8, _, [41]), (17, _, [113])], [], []⟩ (calls_cons (ih ((ss.getD k default).body) (n - 1) (by have h1 := szP_succ (d := d) (ss := ss) (k := k) (by omega); have h2 := szP_le (d := d) (ss := ss) (k := k + 1); omega) (by exact (body_le hb (by omega)).1)) (calls_cons (ih ((ss.getD k default).els) (n - 1) (by have h1 := szP_succ (d := d) (ss := ss) (k := k) (by omega); have h2 := szP_le (d := d) (ss := ss) (k := k + 1); omega) (by exact (body_le hb (by omega)).2)) calls_nil)) trivial [0, 0, 0, 6, 14, 30, 0, 64, 254, 511, 0, 0, 3072, 7168, 15360, 0, 32768, 130558, 262143, 524287] [(0, .ref 0), (1, iA n), (4, iA 0), (5, iA ((↑(szP d ss k) : Int) + (↑(sizeD d (ss.getD k default).body) : Int) + (↑(sizeD d (ss.getD k default).els) : Int))), (6, iA (↑k : Int))] [(0 : Int) ≤ (↑k : Int), (↑k : Int) < (↑ss.length : Int), k < ss.length, IntKind.i64.wrap (n - (1 : Int)) = n - (1 : Int), IntKind.i64.wrap ((↑(szP d ss k) : Int) + (↑(sizeD d (ss.getD k default).body) : Int)) = (↑(szP d ss k) : Int) + (↑(sizeD d (ss.getD k default).body) : Int), (0 : Int) ≤ (↑k : Int), (↑k : Int) < (↑ss.length : Int), k < ss.length, IntKind.i64.wrap (n - (1 : Int)) = n - (1 : Int), IntKind.i64.wrap ((↑(szP d ss k) : Int) + (↑(sizeD d (ss.getD k default).body) : Int) + (↑(sizeD d (ss.getD k default).els) : Int)) = (↑(szP d ss k) : Int) + (↑(sizeD d (ss.getD k default).body) : Int) + (↑(sizeD d (ss.getD k default).els) : Int)] ⟨(by simp [h100, h0]), (by assumption), (by have h1 := szP_succ (d := d) (ss := ss) (k := k) (by omega); have h2 := szP_le (d := d) (ss := ss) (k := k + 1); omega), (by have h1 := szP_succ (d := d) (ss := ss) (k := k) (by omega); have h2 := szP_le (d := d) (ss := ss) (k := k + 1); exact w64 (by omega) (by omega)), (by have h1 := szP_succ (d := d) (ss := ss) (k := k) (by omega); have h2 := szP_le (d := d) (ss := ss) (k := k + 1); exact w64 (by omega) (by omega)), (by simp [h100, h0]), (by assumption), (by have h1 := szP_succ (d := d) (ss := ss) (k := k) (by omega); have h2 := szP_le (d := d) (ss := ss) (k := k + 1); omega), (by have h1 := szP_succ (d := d) (ss := ss) (k := k) (by omega); have h2 := szP_le (d := d) (ss := ss) (k := k + 1); exact w64 (by omega) (by omega)), (by have h1 := szP_succ (d := d) (ss := ss) (k := k) (by omega); have h2 := szP_le (d := d) (ss := ss) (k := k + 1); exact w64 (by omega) (by omega)), trivial⟩ ?_; intro ρ a w G; refine bl_n ?_; refine th_n ?_; refine rs1s G ⟨[], [], []⟩ calls_nil trivial [(0, .ref 0), (1, iA n), (4, iA 0), (5, iA ((↑(szP d ss k) : Int) + (↑(sizeD d (ss.getD k default).body) : Int) + (↑(sizeD d (ss.getD k default).els) : Int))), (6, iA ((↑k : Int) + 1))] [IntKind.i64.wrap ((↑k : Int) + (1 : Int)) = (↑k : Int) + (1 : Int)] ⟨(by have h1 := szP_succ (d := d) (ss := ss) (k := k) (by omega); have h2 := szP_le (d := d) (ss := ss) (k := k + 1); exact w64 (by omega) (by omega)), trivial⟩ fun ρ a w G => th_n ?_; exact rx_next G (k + 1) (by have h1 := szP_succ (d := d) (ss := ss) (k := k) (by omega); have h2 := szP_le (d := d) (ss := ss) (k := k + 1); omega) (by have h1 := szP_succ (d := d) (ss := ss) (k := k) (by omega); have h2 := szP_le (d := d) (ss := ss) (k := k + 1); omega) [0] [dT ss] [(0, .ref 0), (1, iA n), (4, iA 0), (5, iA (↑(szP d ss (k + 1)) : Int)), (6, iA (↑(k + 1) : Int))] (by kernel_rfl) (by kernel_rfl) (by kernel_rfl) (by kernel_rfl) (by have e1 : ((↑(szP d ss (k + 1)) : Int) : Int) = ((↑(szP d ss k) : Int) + (↑(sizeD d (ss.getD k default).body) : Int) + (↑(sizeD d (ss.getD k default).els) : Int)) := (by have h1 := szP_succ (d := d) (ss := ss) (k := k) (by omega); have h2 := szP_le (d := d) (ss := ss) (k := k + 1); omega); (first | rw [e1] | simp only [e1]) <;> rfl)


theorem c_l2SizeD : ∀ d, d ≤ 5 → ∀ (ss : List LStmt) (n : Int), n = (d + 1 : Nat) → szSs ss ≤ 1048576 → Ctr.ok Try.prog (fnC 121 [.ref 0, iA n] [.dat (.stmts ss)] (iA (sizeD d ss : Nat))) := by
  intro d
  induction d with
  | zero => intro _ ss n hn hb; exact c_l2Size0 ss n (by omega) hb
  | succ d ih => intro hd ss n hn hb; exact c_l2SizeS d (by omega) (fun ss n hn hb => ih (by omega) ss n hn hb) ss n (by omega) hb
theorem c_l2Size (ss : List LStmt) (n : Int) (hn : n = 5) (hb : szSs ss ≤ 1048576) : Ctr.ok Try.prog (fnC 121 [.ref 0, iA n] [.dat (.stmts ss)] (iA (sizeD 4 ss : Nat))) :=
  c_l2SizeD 4 (by omega) ss n (by omega) hb
theorem sizeD_eq {nv na : Nat} : ∀ (d : Nat) (ss : List LStmt), (∀ s ∈ ss, stmtB nv na (d + 1) s = true) → sizeD d ss = nSs ss := by
  intro d
  induction d with
  | zero => intro ss h; rw [flat_nSs h]; rfl
  | succ d ih =>
    intro ss
    induction ss with
    | nil => intro _; rfl
    | cons s r ihr =>
      intro h
      have h1 := stmtB_blocks (h s List.mem_cons_self)
      have h2 := ih s.body fun x hx => List.all_eq_true.1 h1.1 x hx
      have h3 := ih s.els fun x hx => List.all_eq_true.1 h1.2 x hx
      have h4 := ihr fun x hx => h x (List.mem_cons_of_mem _ hx)
      rw [nSs, nS_def, ← h2, ← h3, ← h4]
      simp [sizeD]; omega
theorem progB_heads {p : LProg} (h : headsB p.vars p.arrays = false) : progB p = false := by simp [progB, h]
theorem progB_block {p : LProg} (h : blockB p.vars.length p.arrays.length 5 p.body = false) : progB p = false := by simp [progB, h]
theorem progB_size {p : LProg} (h1 : headsB p.vars p.arrays = true) (h2 : blockB p.vars.length p.arrays.length 5 p.body = true) : progB p = decide ((sizeD 4 p.body : Int) ≤ 60) := by
  have h3 := sizeD_eq (nv := p.vars.length) (na := p.arrays.length) 4 p.body (fun x hx => List.all_eq_true.1 h2 x hx)
  rw [progB, h1, h2, h3]
  simp
  exact ⟨fun h => by omega, fun h => by omega⟩

theorem c_l2Body (p : LProg) (n : Int) (hn : n = 5) : Ctr.ok Try.prog (fnC 120 [pA 0, .ref 2, iA n] (pS p) (bA (blockB p.vars.length p.arrays.length 5 p.body))) :=
  Ctr.dup (S := pS p) (S' := pS p) (d := .stmts p.body) (i := 2) (c_l2Block p p.body n hn) rfl rfl rfl (fun ρ h => by simp only [AV.vals, AV.val]; rw [show ρ 3 = ρ 2 from h]) rfl

set_option maxRecDepth 100000 in
theorem c_ProgramValid (p : LProg) (hb : szSs p.body ≤ 1048576) : Ctr.ok Try.prog (fnC 81 [pA 0] (pS p) (bA (progB p))) := by
  refine rx_enter 17 Try.func81 (by rfl) (by kernel_rfl) (by kernel_rfl) ?_; intro ι φ ψ w0 w F ρ0 ρ a G; replace G := Gam.at G [dI p.vars, dI p.arrays, dT p.body] [(0, pA 0)]; refine wp_seq ?_; refine rs0 G (rg 4) [dI p.vars, dI p.arrays, dT p.body, .box (pL 0)] [(1, .ptr 3 0), (2, bA false)] fun ρ a w G => th_n (wp_seq ?_); cases h0 : (headsB p.vars p.arrays)
  · refine rs1 (dk := dkP) G ⟨[(1, _, [0, 1, 2])], [(headsB p.vars p.arrays, false), (false, false)], us [(3, 6, 0), (1007, 1007, 0), (9, 12, 1), (1013, 1013, 1)]⟩ (calls_cons (c_l2Heads (p)) calls_nil) ⟨(by assumption), (by kernel_rfl), trivial⟩ [0, 1, 2] [dI p.vars, dI p.arrays, dT p.body] [(2, bA false)] [] trivial fun ρ a w G => th_n (wp_ret ?_); exact rx_ret (v := bA false) G [0, 1, 2] (by kernel_rfl) (by kernel_rfl) (by kernel_rfl) (by have e1 : (progB p : Bool) = (false) := (by exact progB_heads (by assumption)); (first | rw [e1] | simp only [e1]) <;> rfl)
  ·
   cases h1 : (blockB p.vars.length p.arrays.length (5 : Nat) p.body)
   · refine rs1 (dk := dkP) G ⟨[(1, _, [0, 1, 2]), (6, _, [0, 1, 2])], [(headsB p.vars p.arrays, true), (blockB p.vars.length p.arrays.length (5 : Nat) p.body, false)], us [(3, 6, 0), (1007, 1007, 0), (9, 12, 1), (1013, 1013, 1)]⟩ (calls_cons (c_l2Heads (p)) (calls_cons (c_l2Body (p) (5) (by kernel_rfl)) calls_nil)) ⟨(by assumption), (by assumption), trivial⟩ [0, 1, 2] [dI p.vars, dI p.arrays, dT p.body] [(2, bA false)] [] trivial fun ρ a w G => th_n (wp_ret ?_); exact rx_ret (v := bA false) G [0, 1, 2] (by kernel_rfl) (by kernel_rfl) (by kernel_rfl) (by have e1 : (progB p : Bool) = (false) := (by exact progB_block (by assumption)); (first | rw [e1] | simp only [e1]) <;> rfl)
   · refine rs1 (dk := dkP) G ⟨[(1, _, [0, 1, 2]), (6, _, [0, 1, 2]), (11, _, [2])], [(headsB p.vars p.arrays, true), (blockB p.vars.length p.arrays.length (5 : Nat) p.body, true)], us [(3, 6, 0), (1007, 1007, 0), (9, 12, 1), (1013, 1013, 1)]⟩ (calls_cons (c_l2Heads (p)) (calls_cons (c_l2Body (p) (5) (by kernel_rfl)) (calls_cons (c_l2Size (p.body) (5) (by kernel_rfl) (by assumption)) calls_nil))) ⟨(by assumption), (by assumption), trivial⟩ [0, 1, 2] [dI p.vars, dI p.arrays, dT p.body] [(2, bA (decide ((↑(sizeD 4 p.body) : Int) ≤ 60)))] [] trivial fun ρ a w G => th_n (wp_ret ?_); exact rx_ret (v := bA (decide ((↑(sizeD 4 p.body) : Int) ≤ 60))) G [0, 1, 2] (by kernel_rfl) (by kernel_rfl) (by kernel_rfl) (by have e1 : (progB p : Bool) = (decide ((↑(sizeD 4 p.body) : Int) ≤ 60)) := (by exact progB_size (by assumption) (by assumption)); (first | rw [e1] | simp only [e1]) <;> rfl)

def headB (nv na : Nat) (s : LStmt) : Bool := partsB s &&
    (if s.kind = 1 ∨ s.kind = 5 then decide (0 ≤ s.target) && decide (s.target < nv) && rightB nv na s.value
     else if s.kind = 2 then decide (0 ≤ s.target) && decide (s.target < na) && rightB nv na s.index && atomB s.index && rightB nv na s.value
     else if s.kind = 3 then rightB nv na s.value
     else decide (s.kind = 4))
theorem stmtB_head {nv na d : Nat} {s : LStmt} : stmtB nv na (d + 1) s = (headB nv na s && (s.body.all (stmtB nv na d) && s.els.all (stmtB nv na d))) := by
  rw [Bool.eq_iff_iff]
  constructor
  · intro h
    have h1 := stmtB_blocks h
    rw [h1.1, h1.2, Bool.and_true, Bool.and_true]
    rw [stmtB, Bool.and_eq_true] at h
    rw [headB, h.1, Bool.true_and]
    obtain ⟨-, h⟩ := h
    split at h
    · rw [if_pos (by assumption)]; exact h
    split at h
    · rw [if_neg (by assumption), if_pos (by assumption)]; exact h
    split at h
    · rw [if_neg (by assumption), if_neg (by assumption), if_pos (by assumption)]
      simp only [Bool.and_eq_true] at h; exact h.1.1
    split at h
    · rw [if_neg (by assumption), if_neg (by assumption), if_neg (by assumption)]; simp [*]
    · simp at h
  · intro h
    simp only [Bool.and_eq_true] at h
    obtain ⟨h, hb, he⟩ := h
    rw [headB, Bool.and_eq_true] at h
    obtain ⟨h0, h⟩ := h
    rw [stmtB, h0, Bool.true_and]
    split at h
    · rw [if_pos (by assumption)]; exact h
    split at h
    · rw [if_neg (by assumption), if_pos (by assumption)]; exact h
    split at h
    · rw [if_neg (by assumption), if_neg (by assumption), if_pos (by assumption), h, hb, he]; rfl
    · rw [if_neg (by assumption), if_neg (by assumption), if_neg (by assumption), if_pos (by simpa using h), hb]
def foldF (F : Nat → LStmt → Bool × Nat) : Nat → List LStmt → Bool × Nat
  | c, [] => (true, c)
  | c, s :: r => if (F c s).1 then foldF F (F c s).2 r else F c s
def stmtF (nv na : Nat) : Nat → Nat → LStmt → Bool × Nat
  | 0, c, _ => (false, c + 1)
  | d + 1, c, s => if 60 < c + 1 then (false, c + 1) else if headB nv na s then
      (if (foldF (stmtF nv na d) (c + 1) s.body).1 then foldF (stmtF nv na d) (foldF (stmtF nv na d) (c + 1) s.body).2 s.els else foldF (stmtF nv na d) (c + 1) s.body)
      else (false, c + 1)
abbrev stmtsF (nv na d c : Nat) (ss : List LStmt) : Bool × Nat := foldF (stmtF nv na d) c ss
theorem foldF_append (F : Nat → LStmt → Bool × Nat) : ∀ (a b : List LStmt) (c : Nat), foldF F c (a ++ b) = if (foldF F c a).1 then foldF F (foldF F c a).2 b else foldF F c a
  | [], b, c => by simp [foldF]
  | x :: r, b, c => by
    simp only [List.cons_append, foldF]
    by_cases h : (F c x).1 = true
    · simp only [h, if_true]; exact foldF_append F r b _
    · simp [h]
theorem foldF_next {F : Nat → LStmt → Bool × Nat} {c k : Nat} {ss : List LStmt} (h : (foldF F c (ss.take k)).1 = true) (hk : k < ss.length) : foldF F c (ss.take (k + 1)) = F (foldF F c (ss.take k)).2 (ss.getD k default) := by
  rw [take_succ_get _ _ hk, foldF_append, if_pos h, getD_lt hk]
  simp only [foldF]
  split
  · rename_i h; exact Prod.ext h.symm rfl
  · rfl
theorem foldF_stop {F : Nat → LStmt → Bool × Nat} {c k : Nat} {ss : List LStmt} (h : (foldF F c (ss.take k)).1 = true) (hk : k < ss.length) (hf : (F (foldF F c (ss.take k)).2 (ss.getD k default)).1 = false) : foldF F c ss = F (foldF F c (ss.take k)).2 (ss.getD k default) := by
  conv => lhs; rw [← List.take_append_drop (k + 1) ss]
  rw [foldF_append, foldF_next h hk, hf]
  rfl
theorem foldF_full {F : Nat → LStmt → Bool × Nat} {c k : Nat} {ss : List LStmt} (hk : ss.length ≤ k) : foldF F c (ss.take k) = foldF F c ss := by rw [List.take_of_length_le hk]
theorem foldF_le {F : Nat → LStmt → Bool × Nat} (hF : ∀ c s, c ≤ 60 → (F c s).2 ≤ 61 ∧ ((F c s).1 = true → (F c s).2 ≤ 60)) : ∀ (ss : List LStmt) (c : Nat), c ≤ 60 → (foldF F c ss).2 ≤ 61 ∧ ((foldF F c ss).1 = true → (foldF F c ss).2 ≤ 60)
  | [], c, h => ⟨by simp only [foldF]; omega, fun _ => by simp only [foldF]; omega⟩
  | s :: r, c, h => by
    simp only [foldF]
    by_cases h1 : (F c s).1 = true
    · rw [if_pos h1]; exact foldF_le hF r _ ((hF c s h).2 h1)
    · rw [if_neg h1]; exact hF c s h
theorem stmtF_le {nv na : Nat} : ∀ (d c : Nat) (s : LStmt), c ≤ 60 → (stmtF nv na d c s).2 ≤ 61 ∧ ((stmtF nv na d c s).1 = true → (stmtF nv na d c s).2 ≤ 60)
  | 0, c, s, h => by simp [stmtF]; omega
  | d + 1, c, s, h => by
    rw [stmtF]
    by_cases h1 : 60 < c + 1
    · rw [if_pos h1]; simp; omega
    rw [if_neg h1]
    by_cases h2 : headB nv na s = true
    · rw [if_pos h2]
      have h3 := foldF_le (stmtF_le (nv := nv) (na := na) d) s.body (c + 1) (by omega)
      by_cases h4 : (foldF (stmtF nv na d) (c + 1) s.body).1 = true
      · rw [if_pos h4]; exact foldF_le (stmtF_le d) s.els _ (h3.2 h4)
      · rw [if_neg h4]; exact h3
    · rw [if_neg h2]; simp; omega
theorem stmtsF_le {nv na d c : Nat} {ss : List LStmt} (h : c ≤ 60) (h1 : (stmtsF nv na d c ss).1 = true) : (stmtsF nv na d c ss).2 ≤ 60 := (foldF_le (stmtF_le d) ss c h).2 h1
section
variable {nv na d c : Nat} {s : LStmt}
theorem stmtF_over (h : 60 < c + 1) : stmtF nv na d c s = (false, c + 1) := by cases d with
  | zero => rfl
  | succ d => rw [stmtF, if_pos h]
theorem stmtF_bad (h : headB nv na s = false) : stmtF nv na d c s = (false, c + 1) := by cases d with
  | zero => rfl
  | succ d => rw [stmtF, h]; simp
theorem stmtF_body (h1 : c + 1 ≤ 60) (h : headB nv na s = true) (h2 : (stmtsF nv na d (c + 1) s.body).1 = false) : stmtF nv na (d + 1) c s = stmtsF nv na d (c + 1) s.body := by
  rw [stmtF, if_neg (by omega), if_pos h, if_neg (by simp [h2])]
theorem stmtF_els (h1 : c + 1 ≤ 60) (h : headB nv na s = true) (h2 : (stmtsF nv na d (c + 1) s.body).1 = true) : stmtF nv na (d + 1) c s = stmtsF nv na d (stmtsF nv na d (c + 1) s.body).2 s.els := by
  rw [stmtF, if_neg (by omega), if_pos h, if_pos h2]
end
theorem foldF_eq {nv na d : Nat} (hF : ∀ c s, c ≤ 60 → ((stmtF nv na d c s).1 = (stmtB nv na d s && decide (c + nS s ≤ 60))) ∧ ((stmtF nv na d c s).1 = true → (stmtF nv na d c s).2 = c + nS s)) : ∀ (ss : List LStmt) (c : Nat), c ≤ 60 → ((stmtsF nv na d c ss).1 = (ss.all (stmtB nv na d) && decide (c + nSs ss ≤ 60))) ∧ ((stmtsF nv na d c ss).1 = true → (stmtsF nv na d c ss).2 = c + nSs ss)
  | [], c, h => by simp [foldF, nSs, h]
  | s :: r, c, h => by
    obtain ⟨h1, h2⟩ := hF c s h
    simp only [stmtsF, foldF]
    by_cases h3 : (stmtF nv na d c s).1 = true
    · rw [if_pos h3]
      have e := h2 h3
      have l := (stmtF_le d c s h).2 h3
      obtain ⟨h4, h5⟩ := foldF_eq hF r (stmtF nv na d c s).2 l
      rw [h1, Bool.and_eq_true] at h3
      constructor
      · rw [show foldF (stmtF nv na d) (stmtF nv na d c s).2 r = stmtsF nv na d (stmtF nv na d c s).2 r from rfl, h4, List.all_cons, h3.1, Bool.true_and, e, nSs, Nat.add_assoc]
      · intro h6; rw [show foldF (stmtF nv na d) (stmtF nv na d c s).2 r = stmtsF nv na d (stmtF nv na d c s).2 r from rfl, h5 h6, e, nSs]; omega
    · rw [if_neg h3]
      refine ⟨?_, fun h => absurd h h3⟩
      have h4 := h3
      rw [h1] at h4
      rw [Bool.eq_false_iff.2 h3, List.all_cons, nSs]
      cases ha : stmtB nv na d s
      · simp
      · rw [ha, Bool.true_and, decide_eq_true_eq] at h4
        rw [Bool.true_and, show decide (c + (nS s + nSs r) ≤ 60) = false from decide_eq_false (by omega), Bool.and_false]
theorem stmtF_eq {nv na : Nat} : ∀ (d c : Nat) (s : LStmt), c ≤ 60 → ((stmtF nv na d c s).1 = (stmtB nv na d s && decide (c + nS s ≤ 60))) ∧ ((stmtF nv na d c s).1 = true → (stmtF nv na d c s).2 = c + nS s)
  | 0, c, s, h => by simp [stmtF, stmtB]
  | d + 1, c, s, h => by
    have hs := nS_def s
    by_cases h1 : 60 < c + 1
    · rw [stmtF_over h1, show decide (c + nS s ≤ 60) = false from decide_eq_false (by omega), Bool.and_false]; simp
    cases h2 : headB nv na s
    · rw [stmtF_bad h2, stmtB_head, h2]; simp
    obtain ⟨b1, b2⟩ := foldF_eq (stmtF_eq (nv := nv) (na := na) d) s.body (c + 1) (by omega)
    rw [stmtB_head, h2, Bool.true_and]
    cases h3 : (stmtsF nv na d (c + 1) s.body).1
    · rw [stmtF_body (by omega) h2 h3, h3]
      refine ⟨?_, fun h => by simp at h⟩
      rw [h3] at b1
      cases h4 : s.body.all (stmtB nv na d)
      · simp
      · rw [h4, Bool.true_and] at b1
        have := of_decide_eq_false b1.symm
        rw [show decide (c + nS s ≤ 60) = false from decide_eq_false (by omega), Bool.and_false]
    · rw [stmtF_els (by omega) h2 h3]
      have e := b2 h3
      have l := stmtsF_le (nv := nv) (na := na) (d := d) (c := c + 1) (by omega) h3
      obtain ⟨e1, e2⟩ := foldF_eq (stmtF_eq (nv := nv) (na := na) d) s.els _ l
      rw [h3] at b1
      have b3 := b1.symm
      rw [Bool.and_eq_true] at b3
      rw [b3.1, Bool.true_and, e1, e]
      refine ⟨by rw [show c + 1 + nSs s.body + nSs s.els = c + nS s by omega], fun h => ?_⟩
      have h' : (stmtsF nv na d (stmtsF nv na d (c + 1) s.body).2 s.els).1 = true := by rw [e1, e]; exact h
      have := e2 h'
      rw [e] at this
      rw [this]; omega
theorem stmtsF_prog {p : LProg} (h : headsB p.vars p.arrays = true) : (stmtsF p.vars.length p.arrays.length 5 0 p.body).1 = progB p := by
  rw [(foldF_eq (stmtF_eq 5) p.body 0 (by omega)).1, progB, h, Bool.true_and, blockB]; simp

set_option maxRecDepth 100000 in
theorem c_stmt0 (p : LProg) (s : LStmt) (c : Nat) (hc : c ≤ 60) (n : Int) (hn : n = 6) : Ctr.ok Try.prog ⟨122, [pA 0, sA s 4, iA n, .ptr 3 0], pS p ++ [.box [iA c]] ++ sS s, pS p ++ [.box [iA (stmtF p.vars.length p.arrays.length 0 c s).2]] ++ sS s, bA false⟩ := by
  have h100 : decide (n > 5) = true := by simp; omega
  refine rx_enter 149 Try.func122 (by rfl) (by kernel_rfl) (by kernel_rfl) ?_; intro ι φ ψ w0 w F ρ0 ρ a G; replace G := Gam.at G [dI p.vars, dI p.arrays, dT p.body, .box [iA (↑c : Int)], dE s.index.kids, dE s.value.kids, dT s.body, dT s.els] [(0, pA 0), (1, sA s 4), (2, iA n), (3, .ptr 3 0)]; refine wp_seq ?_; refine rs0 G [0, 1, 2, 3, 4, 5, 6, 7, 8, 16] [dI p.vars, dI p.arrays, dT p.body, .box [iA (↑c : Int)], dE s.index.kids, dE s.value.kids, dT s.body, dT s.els, .box (pL 0), .box (sL s 4)] [(2, iA n), (3, .ptr 3 0), (4, .ptr 8 0), (5, .ptr 9 0), (8, bA false)] fun ρ a w G => th_n (wp_seq ?_); refine rs1 (dk := dkP) G ⟨[], [], []⟩ calls_nil trivial (rg 10) [dI p.vars, dI p.arrays, dT p.body, .box [iA ((↑c : Int) + 1)], dE s.index.kids, dE s.value.kids, dT s.body, dT s.els, .box (pL 0), .box (sL s 4)] [(2, iA n), (3, .ptr 3 0), (4, .ptr 8 0), (5, .ptr 9 0), (8, bA false)] [IntKind.i64.wrap ((↑c : Int) + (1 : Int)) = (↑c : Int) + (1 : Int)] ⟨(by exact w64 (by omega) (by omega)), trivial⟩ fun ρ a w G => th_n (wp_seq (wp_seq ?_)); cases h0 : (decide ((↑c : Int) + (1 : Int) > (60 : Int)))
  · have q0 : ¬ ((↑c : Int) + 1 > 60) := dFf h0; refine rs1s G ⟨[], [(decide ((↑c : Int) + (1 : Int) > (60 : Int)), false)], [(5, 0), (6, 0), (1007, 0)]⟩ calls_nil ⟨(by assumption), trivial⟩ [(2, iA n), (3, .ptr 3 0), (4, .ptr 8 0), (5, .ptr 9 0), (8, bA false), (27, bA (decide (n > 5)))] [] trivial fun ρ a w G => th_n ?_; refine rT G (decide (n > (5 : Int))) (by assumption) ?_; refine wp_seq ?_; refine rs0s G [(2, iA n), (3, .ptr 3 0), (4, .ptr 8 0), (5, .ptr 9 0), (8, bA false)] fun ρ a w G => th_n (wp_ret (th_r ?_)); exact rx_ret (v := bA false) G (rg 8) (by kernel_rfl) (by kernel_rfl) (by kernel_rfl) (by kernel_rfl)
  · have q0 : (↑c : Int) + 1 > 60 := dTt h0; refine rs1s G ⟨[], [(decide ((↑c : Int) + (1 : Int) > (60 : Int)), true)], [(5, 0), (6, 0), (1007, 0)]⟩ calls_nil ⟨(by assumption), trivial⟩ [(2, iA n), (3, .ptr 3 0), (4, .ptr 8 0), (5, .ptr 9 0), (8, bA false), (27, bA true)] [] trivial fun ρ a w G => th_n ?_; refine rT G (true) (by kernel_rfl) ?_; refine wp_seq ?_; refine rs0s G [(2, iA n), (3, .ptr 3 0), (4, .ptr 8 0), (5, .ptr 9 0), (8, bA false)] fun ρ a w G => th_n (wp_ret (th_r ?_)); exact rx_ret (v := bA false) G (rg 8) (by kernel_rfl) (by kernel_rfl) (by kernel_rfl) (by kernel_rfl)


abbrev stmtC (p : LProg) (d c : Nat) (s : LStmt) (n : Int) : Ctr := ⟨122, [pA 0, sA s 4, iA n, .ptr 3 0], pS p ++ [.box [iA c]] ++ sS s, pS p ++ [.box [iA (stmtF p.vars.length p.arrays.length d c s).2]] ++ sS s, bA (stmtF p.vars.length p.arrays.length d c s).1⟩
abbrev stmtsC (p : LProg) (d c : Nat) (ss : List LStmt) (n : Int) : Ctr := ⟨83, [pA 0, .ref 4, iA n, .ptr 3 0], pS p ++ [.box [iA c]] ++ [.dat (.stmts ss)], pS p ++ [.box [iA (stmtsF p.vars.length p.arrays.length d c ss).2]] ++ [.dat (.stmts ss)], bA (stmtsF p.vars.length p.arrays.length d c ss).1⟩

set_option maxRecDepth 100000 in
theorem c_stmtsS (p : LProg) (d : Nat) (hd : d ≤ 5) (ih : ∀ (s : LStmt) (c : Nat) (n : Int), c ≤ 60 → n = 6 - (d : Int) → Ctr.ok Try.prog (stmtC p d c s n))
    (ss : List LStmt) (c : Nat) (n : Int) (hc : c ≤ 60) (hn : n = 6 - (d : Int)) : Ctr.ok Try.prog (stmtsC p d c ss n) := by
  refine rx_enter 24 Try.func83 (by rfl) (by kernel_rfl) (by kernel_rfl) ?_; intro ι φ ψ w0 w F ρ0 ρ a G; replace G := Gam.at G [dI p.vars, dI p.arrays, dT p.body, .box [iA (↑c : Int)], dT ss] [(0, pA 0), (1, .ref 4), (2, iA n), (3, .ptr 3 0)]; refine wp_seq ?_; refine rs0 G (rg 6) [dI p.vars, dI p.arrays, dT p.body, .box [iA (↑c : Int)], dT ss, .box (pL 0)] [(1, .ref 4), (2, iA n), (3, .ptr 3 0), (4, .ptr 5 0), (8, bA false)] fun ρ a w G => th_n (wp_seq (wp_seq ?_)); refine rs0s G [(2, iA n), (3, .ptr 3 0), (4, .ptr 5 0), (8, bA false), (11, .ref 4), (12, iA (↑ss.length : Int)), (13, iA 0)] fun ρ a w G => th_n (wp_block ?_); have hlen : ss.length ≤ 9223372036854775807 := G.len 4 (d := .stmts ss) (by kernel_rfl); refine rx_for (κ := Nat) (fun k => k ≤ ss.length ∧ (stmtsF p.vars.length p.arrays.length d c (ss.take k)).1 = true) (fun k => ss.length - k) (fun k => [dI p.vars, dI p.arrays, dT p.body, .box [iA (stmtsF p.vars.length p.arrays.length d c (ss.take k)).2], dT ss, .box (pL 0)]) (fun k => [(2, iA n), (3, .ptr 3 0), (4, .ptr 5 0), (8, bA false), (11, .ref 4), (12, iA (↑ss.length : Int)), (13, iA k)]) (0) (by simp [stmtsF, foldF]; done) (Gam.at G _ _) ?_; clear G; intro k ρ a w hp G; replace G := Gam.at G [dI p.vars, dI p.arrays, dT p.body, .box [iA (↑(stmtsF p.vars.length p.arrays.length d c (List.take k ss)).snd : Int)], dT ss, .box (pL 0)] [(2, iA n), (3, .ptr 3 0), (4, .ptr 5 0), (8, bA false), (11, .ref 4), (12, iA (↑ss.length : Int)), (13, iA (↑k : Int))]; refine wp_seq ?_; refine rs0s G [(2, iA n), (3, .ptr 3 0), (4, .ptr 5 0), (8, bA false), (11, .ref 4), (12, iA (↑ss.length : Int)), (13, iA (↑k : Int)), (14, bA (decide ((↑k : Int) < (↑ss.length : Int))))] fun ρ a w G => th_n (wp_seq ?_); cases h0 : (decide ((↑k : Int) < (↑ss.length : Int)))
  · have q0 : ¬ ((↑k : Int) < (↑ss.length : Int)) := dFf h0; refine rF G (decide ((↑k : Int) < (↑ss.length : Int))) (by assumption) ?_; refine wp_exit (th_e (th_e (bl_hit (th_n (wp_seq ?_))))); refine rs0 G (rg 5) [dI p.vars, dI p.arrays, dT p.body, .box [iA (↑(stmtsF p.vars.length p.arrays.length d c (List.take k ss)).snd : Int)], dT ss] [(8, bA true)] fun ρ a w G => th_n (wp_ret ?_); exact rx_ret (v := bA true) G (rg 5) (by kernel_rfl) (by kernel_rfl) (by show _ = List.map (It.ren (nth (rg 5))) [dI p.vars, dI p.arrays, dT p.body, .box [iA (↑(stmtsF p.vars.length p.arrays.length d c ss).snd : Int)], dT ss]; have e1 : ((↑(stmtsF p.vars.length p.arrays.length d c ss).snd : Int) : Int) = ((↑(stmtsF p.vars.length p.arrays.length d c (List.take k ss)).snd : Int)) := (by rw [stmtsF, ← foldF_full (k := k) (by omega)]); (first | rw [e1] | simp only [e1]) <;> rfl) (by have e1 : ((stmtsF p.vars.length p.arrays.length d c ss).fst : Bool) = (true) := (by rw [stmtsF, ← foldF_full (k := k) (by omega)]; exact hp.2); (first | rw [e1] | simp only [e1]) <;> rfl)
  ·
   have q0 : (↑k : Int) < (↑ss.length : Int) := dTt h0; refine rT G (decide ((↑k : Int) < (↑ss.length : Int))) (by assumption) ?_; refine wp_skip (th_n (wp_seq (wp_block (wp_seq ?_)))); refine rs1 (dk := dkP) G ⟨[], [], []⟩ calls_nil trivial [0, 1, 2, 3, 4, 5, 14, 15, 16, 17, 22] [dI p.vars, dI p.arrays, dT p.body, .box [iA (↑(stmtsF p.vars.length p.arrays.length d c (List.take k ss)).snd : Int)], dT ss, .box (pL 0), dE (ss.getD k default).index.kids, dE (ss.getD k default).value.kids, dT (ss.getD k default).body, dT (ss.getD k default).els, .box (sL (ss.getD k default) 6)] [(2, iA n), (3, .ptr 3 0), (4, .ptr 5 0), (8, bA false), (10, .ptr 10 0), (11, .ref 4), (12, iA (↑ss.length : Int)), (13, iA (↑k : Int))] [(0 : Int) ≤ (↑k : Int), (↑k : Int) < (↑ss.length : Int), k < ss.length] ⟨(by simp [h0]), (by assumption), (by have hp := hp; omega), trivial⟩ fun ρ a w G => th_n (wp_seq ?_); refine rs1 (dk := dkP) G ⟨[(4, _, [0, 1, 2, 3, 6, 7, 8, 9])], [], []⟩ (calls_cons (ih (ss.getD k default) ((stmtsF p.vars.length p.arrays.length d c (List.take k ss)).snd) (n) (by exact stmtsF_le (by omega) hp.2) (by assumption)) calls_nil) trivial (rg 6) [dI p.vars, dI p.arrays, dT p.body, .box [iA (↑(stmtF p.vars.length p.arrays.length d (stmtsF p.vars.length p.arrays.length d c (List.take k ss)).snd (ss.getD k default)).snd : Int)], dT ss, .box (pL 0)] [(2, iA n), (3, .ptr 3 0), (4, .ptr 5 0), (8, bA false), (11, .ref 4), (12, iA (↑ss.length : Int)), (13, iA (↑k : Int)), (22, .v (.bool !(stmtF p.vars.length p.arrays.length d (stmtsF p.vars.length p.arrays.length d c (List.take k ss)).snd (ss.getD k default)).fst))] [] trivial fun ρ a w G => th_n ?_; cases h1 : (!(stmtF p.vars.length p.arrays.length d (stmtsF p.vars.length p.arrays.length d c (List.take k ss)).snd (ss.getD k default)).fst)
   · have q1 : ((stmtF p.vars.length p.arrays.length d (stmtsF p.vars.length p.arrays.length d c (List.take k ss)).snd (ss.getD k default)).fst) = true := (Eq.mp (Bool.not_eq_false' _) h1); refine rF G (!(stmtF p.vars.length p.arrays.length d (stmtsF p.vars.length p.arrays.length d c (List.take k ss)).snd (ss.getD k default)).fst) (by assumption) ?_; refine wp_skip ?_; refine bl_n ?_; refine th_n ?_; refine rs1s G ⟨[], [], []⟩ calls_nil trivial [(2, iA n), (3, .ptr 3 0), (4, .ptr 5 0), (8, bA false), (11, .ref 4), (12, iA (↑ss.length : Int)), (13, iA ((↑k : Int) + 1))] [IntKind.i64.wrap ((↑k : Int) + (1 : Int)) = (↑k : Int) + (1 : Int)] ⟨(by exact w64 (by omega) (by omega)), trivial⟩ fun ρ a w G => th_n ?_; exact rx_next G (k + 1) (by exact ⟨by omega, by rw [stmtsF, foldF_next hp.2 (by omega)]; assumption⟩) (by have hp := hp; omega) (rg 6) [dI p.vars, dI p.arrays, dT p.body, .box [iA (↑(stmtsF p.vars.length p.arrays.length d c (List.take (k + 1) ss)).snd : Int)], dT ss, .box (pL 0)] [(2, iA n), (3, .ptr 3 0), (4, .ptr 5 0), (8, bA false), (11, .ref 4), (12, iA (↑ss.length : Int)), (13, iA (↑(k + 1) : Int))] (by kernel_rfl) (by kernel_rfl) (by kernel_rfl) (by have e1 : ((↑(stmtsF p.vars.length p.arrays.length d c (List.take (k + 1) ss)).snd : Int) : Int) = ((↑(stmtF p.vars.length p.arrays.length d (stmtsF p.vars.length p.arrays.length d c (List.take k ss)).snd (ss.getD k default)).snd : Int)) := (by rw [stmtsF, foldF_next hp.2 (by omega)]); (first | rw [e1] | simp only [e1]) <;> rfl) (by kernel_rfl)
   · have q1 : ((stmtF p.vars.length p.arrays.length d (stmtsF p.vars.length p.arrays.length d c (List.take k ss)).snd (ss.getD k default)).fst) = false := (Eq.mp (Bool.not_eq_true' _) h1); refine rT G (!(stmtF p.vars.length p.arrays.length d (stmtsF p.vars.length p.arrays.length d c (List.take k ss)).snd (ss.getD k default)).fst) (by assumption) ?_; refine wp_seq ?_; refine rs0s G [(2, iA n), (3, .ptr 3 0), (4, .ptr 5 0), (8, bA false), (11, .ref 4), (12, iA (↑ss.length : Int)), (13, iA (↑k : Int))] fun ρ a w G => th_n (wp_ret (bl_r (th_r (th_r (bl_r (th_r ?_)))))); exact rx_ret (v := bA false) G (rg 5) (by kernel_rfl) (by kernel_rfl) (by show _ = List.map (It.ren (nth (rg 5))) [dI p.vars, dI p.arrays, dT p.body, .box [iA (↑(stmtsF p.vars.length p.arrays.length d c ss).snd : Int)], dT ss]; have e1 : ((↑(stmtsF p.vars.length p.arrays.length d c ss).snd : Int) : Int) = ((↑(stmtF p.vars.length p.arrays.length d (stmtsF p.vars.length p.arrays.length d c (List.take k ss)).snd (ss.getD k default)).snd : Int)) := (by rw [stmtsF, foldF_stop hp.2 (by omega) (by assumption)]); (first | rw [e1] | simp only [e1]) <;> rfl) (by have e1 : ((stmtsF p.vars.length p.arrays.length d c ss).fst : Bool) = (false) := (by rw [stmtsF, foldF_stop hp.2 (by omega) (by assumption)]; assumption); (first | rw [e1] | simp only [e1]) <;> rfl)

section
variable {nv na : Nat} {s : LStmt}
theorem head1 (k : s.kind = 1 ∨ s.kind = 5) : headB nv na s = (decide (0 ≤ s.target ∧ s.target < nv ∧ s.body.length = 0 ∧ s.els.length = 0 ∧ s.count = 0) && (noneB s.index && rightB nv na s.value)) := by
  rw [headB, partsB, if_pos k, if_neg (by omega), show decide (s.kind = 2) = false from decide_eq_false (by omega), Bool.eq_iff_iff]
  simp only [Bool.and_eq_true, decide_eq_true_eq, Bool.false_or]
  constructor
  · rintro ⟨⟨⟨⟨a, b⟩, c⟩, d⟩, ⟨e, f⟩, g⟩; exact ⟨⟨e, f, a, b, c⟩, d, g⟩
  · rintro ⟨⟨e, f, a, b, c⟩, d, g⟩; exact ⟨⟨⟨⟨a, b⟩, c⟩, d⟩, ⟨e, f⟩, g⟩
theorem head2 (k : s.kind = 2) : headB nv na s = (decide (0 ≤ s.target ∧ s.target < na ∧ s.body.length = 0 ∧ s.els.length = 0 ∧ s.count = 0) && (rightB nv na s.index && (atomB s.index && rightB nv na s.value))) := by
  rw [headB, partsB, if_neg (by omega), if_pos k, if_neg (by omega), show decide (s.kind = 2) = true from decide_eq_true k, Bool.eq_iff_iff]
  simp only [Bool.and_eq_true, decide_eq_true_eq, Bool.true_or]
  constructor
  · rintro ⟨⟨⟨⟨a, b⟩, c⟩, -⟩, ⟨⟨⟨e, f⟩, i⟩, j⟩, g⟩; exact ⟨⟨e, f, a, b, c⟩, i, j, g⟩
  · rintro ⟨⟨e, f, a, b, c⟩, i, j, g⟩; exact ⟨⟨⟨⟨a, b⟩, c⟩, trivial⟩, ⟨⟨⟨e, f⟩, i⟩, j⟩, g⟩
theorem head3 (k : s.kind = 3) : headB nv na s = (decide (s.target = 0 ∧ s.count = 0) && (noneB s.index && rightB nv na s.value)) := by
  rw [headB, partsB, if_pos (show s.kind = 3 ∨ s.kind = 4 from .inl k), if_neg (show ¬ s.kind = 4 by omega), if_neg (by omega), if_neg (by omega), if_pos k, Bool.eq_iff_iff]
  simp only [Bool.and_eq_true, decide_eq_true_eq]
  constructor
  · rintro ⟨⟨a, b, c⟩, d⟩; exact ⟨⟨a, b⟩, c, d⟩
  · rintro ⟨⟨a, b⟩, c, d⟩; exact ⟨⟨a, b, c⟩, d⟩
theorem head4 (k : s.kind = 4) : headB nv na s = (decide (s.target = 0 ∧ s.els.length = 0 ∧ 1 ≤ s.count ∧ s.count ≤ 3) && (noneB s.index && noneB s.value)) := by
  rw [headB, partsB, if_pos (show s.kind = 3 ∨ s.kind = 4 from .inr k), if_pos k, if_neg (by omega), if_neg (by omega), if_neg (by omega), show decide (s.kind = 4) = true from decide_eq_true k, Bool.eq_iff_iff]
  simp only [Bool.and_eq_true, decide_eq_true_eq]
  constructor
  · rintro ⟨⟨a, ⟨⟨⟨b, c⟩, d⟩, e⟩, f⟩, -⟩; exact ⟨⟨a, b, c, d⟩, e, f⟩
  · rintro ⟨⟨a, b, c, d⟩, e, f⟩; exact ⟨⟨a, ⟨⟨⟨b, c⟩, d⟩, e⟩, f⟩, trivial⟩
theorem head0 (k : ¬ s.kind = 1 ∧ ¬ s.kind = 2 ∧ ¬ s.kind = 3 ∧ ¬ s.kind = 4 ∧ ¬ s.kind = 5) : headB nv na s = false := by
  rw [headB, if_neg (by omega), if_neg (by omega), if_neg (by omega), show decide (s.kind = 4) = false from decide_eq_false (by omega), Bool.and_false]
theorem and_t {p : Prop} [Decidable p] {a b : Bool} (hp : p) (ha : a = true) (hb : b = true) : (decide p && (a && b)) = true := by rw [ha, hb, decide_eq_true hp]; rfl
theorem and_t3 {p : Prop} [Decidable p] {a b c : Bool} (hp : p) (ha : a = true) (hb : b = true) (hc : c = true) : (decide p && (a && (b && c))) = true := by rw [ha, hb, hc, decide_eq_true hp]; rfl
end

abbrev yRvF0 (p : LProg) (d : Nat) (s : LStmt) (c : Nat) := stmtsF p.vars.length p.arrays.length d (stmtsF p.vars.length p.arrays.length d (c + 1) s.body).snd s.els
abbrev yRvF1 (p : LProg) (d : Nat) (s : LStmt) (c : Nat) := stmtsF p.vars.length p.arrays.length d (c + 1) s.body
abbrev yRvF2 (p : LProg) (d : Nat) (s : LStmt) (c : Nat) : List It := [dI p.vars, dI p.arrays, dT p.body, .box [iA (↑(stmtF p.vars.length p.arrays.length (d + 1) c s).snd : Int)], dE s.index.kids, dE s.value.kids, dT s.body, dT s.els]
set_option maxHeartbeats 4000000 in
set_option maxRecDepth 100000 in
theorem c_stmtS (p : LProg) (d : Nat) (hd : d ≤ 4) (ih : ∀ (ss : List LStmt) (c : Nat) (n : Int), c ≤ 60 → n = 6 - (d : Int) → Ctr.ok Try.prog (stmtsC p d c ss n))
    (s : LStmt) (c : Nat) (n : Int) (hc : c ≤ 60) (hn : n = 5 - (d : Int)) : Ctr.ok Try.prog (stmtC p (d + 1) c s n) := by
  have h100 : decide (n > 5) = false := by simp; omega
  refine rx_enter 149 Try.func122 (by rfl) (by kernel_rfl) (by kernel_rfl) ?_; intro ι φ ψ w0 w F ρ0 ρ a G; replace G := Gam.at G [dI p.vars, dI p.arrays, dT p.body, .box [iA (↑c : Int)], dE s.index.kids, dE s.value.kids, dT s.body, dT s.els] [(0, pA 0), (1, sA s 4), (2, iA n), (3, .ptr 3 0)]; have hl0 : p.vars.length ≤ 9223372036854775807 := G.len 0 (d := .ints p.vars) (by kernel_rfl); have hl1 : p.arrays.length ≤ 9223372036854775807 := G.len 1 (d := .ints p.arrays) (by kernel_rfl); refine wp_seq ?_; refine rs0 G [0, 1, 2, 3, 4, 5, 6, 7, 8, 16] [dI p.vars, dI p.arrays, dT p.body, .box [iA (↑c : Int)], dE s.index.kids, dE s.value.kids, dT s.body, dT s.els, .box (pL 0), .box (sL s 4)] [(2, iA n), (3, .ptr 3 0), (4, .ptr 8 0), (5, .ptr 9 0), (8, bA false)] fun ρ a w G => th_n (wp_seq ?_); refine rs1 (dk := dkP) G ⟨[], [], []⟩ calls_nil trivial (rg 10) [dI p.vars, dI p.arrays, dT p.body, .box [iA ((↑c : Int) + 1)], dE s.index.kids, dE s.value.kids, dT s.body, dT s.els, .box (pL 0), .box (sL s 4)] [(2, iA n), (3, .ptr 3 0), (4, .ptr 8 0), (5, .ptr 9 0), (8, bA false)] [IntKind.i64.wrap ((↑c : Int) + (1 : Int)) = (↑c : Int) + (1 : Int)] ⟨(by exact w64 (by omega) (by omega)), trivial⟩ fun ρ a w G => th_n (wp_seq (wp_seq ?_)); cases h0 : (decide ((↑c : Int) + (1 : Int) > (60 : Int)))
  ·
   have q0 : ¬ ((↑c : Int) + 1 > 60) := dFf h0; refine rs1s G ⟨[], [(decide ((↑c : Int) + (1 : Int) > (60 : Int)), false)], [(5, 0), (6, 0), (1007, 0)]⟩ calls_nil ⟨(by assumption), trivial⟩ [(2, iA n), (3, .ptr 3 0), (4, .ptr 8 0), (5, .ptr 9 0), (8, bA false), (27, bA (decide (n > 5)))] [] trivial fun ρ a w G => th_n ?_; refine rF G (decide (n > (5 : Int))) (by assumption) ?_; refine wp_skip (th_n (wp_seq ?_)); refine rs0s G [(2, iA n), (3, .ptr 3 0), (4, .ptr 8 0), (5, .ptr 9 0), (8, bA false), (9, iA 1), (10, bA false), (11, bA true), (12, bA false), (13, bA false), (14, bA false)] fun ρ a w G => th_n (wp_seq (wp_seq ?_)); refine rs0s G [(2, iA n), (3, .ptr 3 0), (4, .ptr 8 0), (5, .ptr 9 0), (8, bA false), (9, iA 1), (10, bA false), (11, bA true), (12, bA false), (13, bA false), (14, bA false), (29, iA s.kind)] fun ρ a w G => th_n (wp_block (wp_seq (wp_seq ?_))); refine rs0s G [(2, iA n), (3, .ptr 3 0), (4, .ptr 8 0), (5, .ptr 9 0), (8, bA false), (9, iA 1), (10, bA false), (11, bA true), (12, bA false), (13, bA false), (14, bA false), (29, iA s.kind), (30, bA (s.kind == 1))] fun ρ a w G => th_n ?_; cases h1 : (s.kind == (1 : Int))
   ·
    have q1 : ¬ (s.kind = 1) := ne_of_beq_false h1; refine rF G (s.kind == (1 : Int)) (by assumption) ?_; refine rs0s G [(2, iA n), (3, .ptr 3 0), (4, .ptr 8 0), (5, .ptr 9 0), (8, bA false), (9, iA 1), (10, bA false), (11, bA true), (12, bA false), (13, bA false), (14, bA false), (29, iA s.kind), (30, bA (s.kind == 5))] fun ρ a w G => th_n ?_; cases h2 : (s.kind == (5 : Int))
    ·
     have q2 : ¬ (s.kind = 5) := ne_of_beq_false h2; refine rF G (s.kind == (5 : Int)) (by assumption) ?_; refine wp_seq ?_; refine rs0s G [(2, iA n), (3, .ptr 3 0), (4, .ptr 8 0), (5, .ptr 9 0), (8, bA false), (9, iA 1), (10, bA false), (11, bA true), (12, bA false), (13, bA false), (14, bA false), (29, iA s.kind), (36, bA (s.kind == 2))] fun ρ a w G => th_n ?_; cases h3 : (s.kind == (2 : Int))
     ·
      have q3 : ¬ (s.kind = 2) := ne_of_beq_false h3; refine rF G (s.kind == (2 : Int)) (by assumption) ?_; refine wp_seq ?_; refine rs0s G [(2, iA n), (3, .ptr 3 0), (4, .ptr 8 0), (5, .ptr 9 0), (8, bA false), (9, iA 1), (10, bA false), (11, bA true), (12, bA false), (13, bA false), (14, bA false), (29, iA s.kind), (41, bA (s.kind == 3))] fun ρ a w G => th_n ?_; cases h4 : (s.kind == (3 : Int))
      ·
       have q4 : ¬ (s.kind = 3) := ne_of_beq_false h4; refine rF G (s.kind == (3 : Int)) (by assumption) ?_; refine wp_seq ?_; refine rs0s G [(2, iA n), (3, .ptr 3 0), (4, .ptr 8 0), (5, .ptr 9 0), (8, bA false), (9, iA 1), (10, bA false), (11, bA true), (12, bA false), (13, bA false), (14, bA false), (43, bA (s.kind == 4))] fun ρ a w G => th_n ?_; cases h5 : (s.kind == (4 : Int))
       · have q5 : ¬ (s.kind = 4) := ne_of_beq_false h5; refine rF G (s.kind == (4 : Int)) (by assumption) ?_; refine wp_seq ?_; refine rs0s G [(2, iA n), (3, .ptr 3 0), (4, .ptr 8 0), (5, .ptr 9 0), (8, bA false), (9, iA 1), (10, bA false), (11, bA true), (12, bA false), (13, bA false), (14, bA false)] fun ρ a w G => th_n (wp_ret (bl_r (th_r ?_))); exact rx_ret (v := bA false) G (rg 8) (by kernel_rfl) (by kernel_rfl) (by show _ = List.map (It.ren (nth (rg 8))) (yRvF2 p d s c); unfold yRvF2; rw [stmtF_bad (by exact head0 (by omega))] <;> rfl) (by have e1 : ((stmtF p.vars.length p.arrays.length (d + 1) c s).fst : Bool) = (false) := (by rw [stmtF_bad (by exact head0 (by omega))]; done); (first | rw [e1] | simp only [e1]) <;> rfl)
       ·
        have q5 : s.kind = 4 := eq_of_beq h5; refine rT G (s.kind == (4 : Int)) (by assumption) ?_; refine rs0s G [(2, iA n), (3, .ptr 3 0), (4, .ptr 8 0), (5, .ptr 9 0), (8, bA false), (9, iA 1), (10, bA false), (11, bA false), (12, bA true), (13, bA true), (14, bA false)] ?_; intro ρ a w G; refine bl_n ?_; refine th_n (wp_seq (wp_seq ?_)); cases h6 : (!(decide ((0 : Int) ≤ s.target) && decide (s.target ≤ (0 : Int))))
        ·
         have q6 : (0 ≤ s.target) ∧ (s.target ≤ 0) := (fun hq => And.imp (fun hq => of_decide_eq_true (hq)) (fun hq => of_decide_eq_true (hq)) (Bool.and_eq_true_iff.1 (hq))) (Eq.mp (Bool.not_eq_false' _) h6); cases h7 : (!(decide ((1 : Int) ≤ s.count) && decide (s.count ≤ (3 : Int))))
         ·
          have q7 : (1 ≤ s.count) ∧ (s.count ≤ 3) := (fun hq => And.imp (fun hq => of_decide_eq_true (hq)) (fun hq => of_decide_eq_true (hq)) (Bool.and_eq_true_iff.1 (hq))) (Eq.mp (Bool.not_eq_false' _) h7); refine rs1s G ⟨[(4, _, []), (11, _, [])], [(!(decide ((0 : Int) ≤ s.target) && decide (s.target ≤ (0 : Int))), false), (true, true), (!(decide ((1 : Int) ≤ s.count) && decide (s.count ≤ (3 : Int))), false), (false, false)], us [(7, 8, 0), (9, 12, 1), (13, 13, 0), (1013, 1013, 1), (1014, 1014, 0), (16, 18, 2), (19, 21, 3), (22, 22, 2), (1022, 1022, 3), (1023, 1023, 2), (25, 32, 3), (1032, 1033, 3), (35, 37, 3), (38, 41, 1), (42, 42, 3), (1042, 1042, 1), (1043, 1043, 3)]⟩ (calls_cons (c_within (s.target) (0) (0)) (calls_cons (c_within (s.count) (1) (3)) calls_nil)) ⟨(by assumption), (by kernel_rfl), (by assumption), (by kernel_rfl), trivial⟩ [(2, iA n), (3, .ptr 3 0), (4, .ptr 8 0), (5, .ptr 9 0), (8, bA false), (10, bA false), (11, bA false), (88, bA (decide ((↑s.els.length : Int) > 0)))] [IntKind.i64.wrap ((1 : Int) - (1 : Int)) = (1 : Int) - (1 : Int)] ⟨(by kernel_rfl), trivial⟩ fun ρ a w G => th_n ?_; cases h8 : (decide ((↑s.els.length : Int) > (0 : Int)))
          ·
           have q8 : ¬ ((↑s.els.length : Int) > 0) := dFf h8; refine rF G (decide ((↑s.els.length : Int) > (0 : Int))) (by assumption) ?_; refine wp_skip (th_n (wp_seq (wp_seq ?_))); cases h9 : (!noneB s.index)
           ·
            have q9 : (noneB s.index) = true := (Eq.mp (Bool.not_eq_false' _) h9); refine rs1s G ⟨[(20, _, [4]), (40, _, [5])], [(false, false), (true, true), (!noneB s.index, false)], us [(2, 7, 0), (12, 12, 0), (1013, 1013, 0), (15, 17, 0), (18, 21, 1), (22, 22, 0), (1022, 1022, 1), (1023, 1023, 0), (25, 26, 2), (27, 31, 0), (32, 32, 2), (1032, 1032, 0), (1033, 1033, 2), (35, 37, 0), (38, 41, 1), (42, 42, 0), (1042, 1042, 1), (1043, 1043, 0)]⟩ (calls_cons (c_isNone (s.index)) (calls_cons (c_isNone (s.value)) calls_nil)) ⟨(by kernel_rfl), (by kernel_rfl), (by assumption), trivial⟩ [(2, iA n), (3, .ptr 3 0), (4, .ptr 8 0), (5, .ptr 9 0), (8, bA false), (132, .v (.bool !noneB s.value))] [] trivial fun ρ a w G => th_n ?_; cases h10 : (!noneB s.value)
            ·
             have q10 : (noneB s.value) = true := (Eq.mp (Bool.not_eq_false' _) h10); refine rF G (!noneB s.value) (by assumption) ?_; refine wp_skip (th_n (wp_seq ?_)); cases h11 : ((stmtsF p.vars.length p.arrays.length d (c + (1 : Nat)) s.body).fst)
             · refine rs1 (dk := dkP) G ⟨[(6, _, [0, 1, 2, 3, 6])], [((stmtsF p.vars.length p.arrays.length d (c + (1 : Nat)) s.body).fst, false)], us [(8, 14, 0), (1015, 1015, 0)]⟩ (calls_cons (ih (s.body) (c + 1) (n + 1) (by simp; omega) (by omega)) calls_nil) ⟨(by assumption), trivial⟩ (rg 8) [dI p.vars, dI p.arrays, dT p.body, .box [iA (↑(yRvF1 p d s c).snd : Int)], dE s.index.kids, dE s.value.kids, dT s.body, dT s.els] [(8, bA false)] [IntKind.i64.wrap (n + (1 : Int)) = n + (1 : Int)] ⟨(by exact w64 (by omega) (by omega)), trivial⟩ fun ρ a w G => th_n (wp_ret ?_); exact rx_ret (v := bA false) G (rg 8) (by kernel_rfl) (by kernel_rfl) (by show _ = List.map (It.ren (nth (rg 8))) (yRvF2 p d s c); unfold yRvF2; rw [stmtF_body (by omega) (by (rw [head4 (by omega)]; exact and_t (by omega) (by assumption) (by assumption))) (by assumption)] <;> rfl) (by have e1 : ((stmtF p.vars.length p.arrays.length (d + 1) c s).fst : Bool) = (false) := (by rw [stmtF_body (by omega) (by (rw [head4 (by omega)]; exact and_t (by omega) (by assumption) (by assumption))) (by assumption)]; assumption); (first | rw [e1] | simp only [e1]) <;> rfl)
             · refine rs1 (dk := dkP) G ⟨[(6, _, [0, 1, 2, 3, 6]), (14, _, [0, 1, 2, 3, 7])], [((stmtsF p.vars.length p.arrays.length d (c + (1 : Nat)) s.body).fst, true)], us [(8, 14, 0), (1015, 1015, 0)]⟩ (calls_cons (ih (s.body) (c + 1) (n + 1) (by simp; omega) (by omega)) (calls_cons (ih (s.els) ((yRvF1 p d s c).snd) (n + 1) (by exact stmtsF_le (by omega) (by assumption)) (by omega)) calls_nil)) ⟨(by assumption), trivial⟩ (rg 8) [dI p.vars, dI p.arrays, dT p.body, .box [iA (↑(yRvF0 p d s c).snd : Int)], dE s.index.kids, dE s.value.kids, dT s.body, dT s.els] [(8, bA (yRvF0 p d s c).fst)] [IntKind.i64.wrap (n + (1 : Int)) = n + (1 : Int), IntKind.i64.wrap (n + (1 : Int)) = n + (1 : Int)] ⟨(by exact w64 (by omega) (by omega)), (by exact w64 (by omega) (by omega)), trivial⟩ fun ρ a w G => th_n (wp_ret ?_); exact rx_ret (v := bA (stmtsF p.vars.length p.arrays.length d (stmtsF p.vars.length p.arrays.length d (c + 1) s.body).snd s.els).fst) G (rg 8) (by kernel_rfl) (by kernel_rfl) (by show _ = List.map (It.ren (nth (rg 8))) (yRvF2 p d s c); unfold yRvF2; rw [stmtF_els (by omega) (by (rw [head4 (by omega)]; exact and_t (by omega) (by assumption) (by assumption))) (by assumption)] <;> rfl) (by have e1 : ((stmtF p.vars.length p.arrays.length (d + 1) c s).fst : Bool) = ((stmtsF p.vars.length p.arrays.length d (stmtsF p.vars.length p.arrays.length d (c + 1) s.body).snd s.els).fst) := (by rw [stmtF_els (by omega) (by (rw [head4 (by omega)]; exact and_t (by omega) (by assumption) (by assumption))) (by assumption)]; done); (first | rw [e1] | simp only [e1]) <;> rfl)
            · have q10 : (noneB s.value) = false := (Eq.mp (Bool.not_eq_true' _) h10); refine rT G (!noneB s.value) (by assumption) ?_; refine wp_seq ?_; refine rs0s G [(2, iA n), (3, .ptr 3 0), (4, .ptr 8 0), (5, .ptr 9 0), (8, bA false)] fun ρ a w G => th_n (wp_ret (th_r ?_)); exact rx_ret (v := bA false) G (rg 8) (by kernel_rfl) (by kernel_rfl) (by show _ = List.map (It.ren (nth (rg 8))) (yRvF2 p d s c); unfold yRvF2; rw [stmtF_bad (by (rw [head4 (by omega)]; simp [h100, h0, q0, h1, q1, h2, q2, h3, q3, h4, q4, h5, q5, h6, q6, h7, q7, h8, q8, h9, q9, h10, q10]; done))] <;> rfl) (by have e1 : ((stmtF p.vars.length p.arrays.length (d + 1) c s).fst : Bool) = (false) := (by rw [stmtF_bad (by (rw [head4 (by omega)]; simp [h100, h0, q0, h1, q1, h2, q2, h3, q3, h4, q4, h5, q5, h6, q6, h7, q7, h8, q8, h9, q9, h10, q10]; done))]; done); (first | rw [e1] | simp only [e1]) <;> rfl)
           · have q9 : (noneB s.index) = false := (Eq.mp (Bool.not_eq_true' _) h9); refine rs1s G ⟨[(20, _, [4])], [(false, false), (true, true), (!noneB s.index, true)], us [(2, 7, 0), (12, 12, 0), (1013, 1013, 0), (15, 17, 0), (18, 21, 1), (22, 22, 0), (1022, 1022, 1), (1023, 1023, 0), (25, 26, 2), (32, 32, 2), (1033, 1033, 2), (35, 37, 1), (42, 42, 1), (1043, 1043, 1)]⟩ (calls_cons (c_isNone (s.index)) calls_nil) ⟨(by kernel_rfl), (by kernel_rfl), (by assumption), trivial⟩ [(2, iA n), (3, .ptr 3 0), (4, .ptr 8 0), (5, .ptr 9 0), (8, bA false), (132, bA true)] [] trivial fun ρ a w G => th_n ?_; refine rT G (true) (by kernel_rfl) ?_; refine wp_seq ?_; refine rs0s G [(2, iA n), (3, .ptr 3 0), (4, .ptr 8 0), (5, .ptr 9 0), (8, bA false)] fun ρ a w G => th_n (wp_ret (th_r ?_)); exact rx_ret (v := bA false) G (rg 8) (by kernel_rfl) (by kernel_rfl) (by show _ = List.map (It.ren (nth (rg 8))) (yRvF2 p d s c); unfold yRvF2; rw [stmtF_bad (by (rw [head4 (by omega)]; simp [h100, h0, q0, h1, q1, h2, q2, h3, q3, h4, q4, h5, q5, h6, q6, h7, q7, h8, q8, h9, q9]; done))] <;> rfl) (by have e1 : ((stmtF p.vars.length p.arrays.length (d + 1) c s).fst : Bool) = (false) := (by rw [stmtF_bad (by (rw [head4 (by omega)]; simp [h100, h0, q0, h1, q1, h2, q2, h3, q3, h4, q4, h5, q5, h6, q6, h7, q7, h8, q8, h9, q9]; done))]; done); (first | rw [e1] | simp only [e1]) <;> rfl)
          · have q8 : (↑s.els.length : Int) > 0 := dTt h8; refine rT G (decide ((↑s.els.length : Int) > (0 : Int))) (by assumption) ?_; refine wp_seq ?_; refine rs0s G [(2, iA n), (3, .ptr 3 0), (4, .ptr 8 0), (5, .ptr 9 0), (8, bA false), (10, bA false), (11, bA false)] fun ρ a w G => th_n (wp_ret (th_r ?_)); exact rx_ret (v := bA false) G (rg 8) (by kernel_rfl) (by kernel_rfl) (by show _ = List.map (It.ren (nth (rg 8))) (yRvF2 p d s c); unfold yRvF2; rw [stmtF_bad (by (rw [head4 (by omega), decide_eq_false (by omega)]; rfl))] <;> rfl) (by have e1 : ((stmtF p.vars.length p.arrays.length (d + 1) c s).fst : Bool) = (false) := (by rw [stmtF_bad (by (rw [head4 (by omega), decide_eq_false (by omega)]; rfl))]; done); (first | rw [e1] | simp only [e1]) <;> rfl)
         · have q7 : (¬ (1 ≤ s.count)) ∨ (¬ (s.count ≤ 3)) := (fun hq => Or.imp (fun hq => of_decide_eq_false (hq)) (fun hq => of_decide_eq_false (hq)) (Bool.and_eq_false_iff.1 (hq))) (Eq.mp (Bool.not_eq_true' _) h7); refine rs1s G ⟨[(4, _, []), (11, _, [])], [(!(decide ((0 : Int) ≤ s.target) && decide (s.target ≤ (0 : Int))), false), (true, true), (!(decide ((1 : Int) ≤ s.count) && decide (s.count ≤ (3 : Int))), true)], us [(7, 8, 0), (9, 12, 1), (13, 13, 0), (1013, 1013, 1), (1014, 1014, 0), (16, 18, 2), (22, 22, 2), (1023, 1023, 2), (25, 27, 1), (32, 32, 1), (1033, 1033, 1), (35, 37, 1), (42, 42, 1), (1043, 1043, 1)]⟩ (calls_cons (c_within (s.target) (0) (0)) (calls_cons (c_within (s.count) (1) (3)) calls_nil)) ⟨(by assumption), (by kernel_rfl), (by assumption), trivial⟩ [(2, iA n), (3, .ptr 3 0), (4, .ptr 8 0), (5, .ptr 9 0), (8, bA false), (10, bA false), (11, bA false), (88, bA true)] [IntKind.i64.wrap ((1 : Int) - (1 : Int)) = (1 : Int) - (1 : Int)] ⟨(by kernel_rfl), trivial⟩ fun ρ a w G => th_n ?_; refine rT G (true) (by kernel_rfl) ?_; refine wp_seq ?_; refine rs0s G [(2, iA n), (3, .ptr 3 0), (4, .ptr 8 0), (5, .ptr 9 0), (8, bA false), (10, bA false), (11, bA false)] fun ρ a w G => th_n (wp_ret (th_r ?_)); exact rx_ret (v := bA false) G (rg 8) (by kernel_rfl) (by kernel_rfl) (by show _ = List.map (It.ren (nth (rg 8))) (yRvF2 p d s c); unfold yRvF2; rw [stmtF_bad (by (rw [head4 (by omega), decide_eq_false (by omega)]; rfl))] <;> rfl) (by have e1 : ((stmtF p.vars.length p.arrays.length (d + 1) c s).fst : Bool) = (false) := (by rw [stmtF_bad (by (rw [head4 (by omega), decide_eq_false (by omega)]; rfl))]; done); (first | rw [e1] | simp only [e1]) <;> rfl)
        · have q6 : (¬ (0 ≤ s.target)) ∨ (¬ (s.target ≤ 0)) := (fun hq => Or.imp (fun hq => of_decide_eq_false (hq)) (fun hq => of_decide_eq_false (hq)) (Bool.and_eq_false_iff.1 (hq))) (Eq.mp (Bool.not_eq_true' _) h6); refine rs1s G ⟨[(4, _, [])], [(!(decide ((0 : Int) ≤ s.target) && decide (s.target ≤ (0 : Int))), true), (true, true)], [(7, 0), (8, 0), (13, 0), (1014, 0), (16, 1), (17, 1), (18, 1), (22, 1), (1023, 1), (25, 1), (26, 1), (27, 1), (32, 1), (1033, 1), (35, 1), (36, 1), (37, 1), (42, 1), (1043, 1)]⟩ (calls_cons (c_within (s.target) (0) (0)) calls_nil) ⟨(by assumption), (by kernel_rfl), trivial⟩ [(2, iA n), (3, .ptr 3 0), (4, .ptr 8 0), (5, .ptr 9 0), (8, bA false), (10, bA false), (11, bA false), (88, bA true)] [IntKind.i64.wrap ((1 : Int) - (1 : Int)) = (1 : Int) - (1 : Int)] ⟨(by kernel_rfl), trivial⟩ fun ρ a w G => th_n ?_; refine rT G (true) (by kernel_rfl) ?_; refine wp_seq ?_; refine rs0s G [(2, iA n), (3, .ptr 3 0), (4, .ptr 8 0), (5, .ptr 9 0), (8, bA false), (10, bA false), (11, bA false)] fun ρ a w G => th_n (wp_ret (th_r ?_)); exact rx_ret (v := bA false) G (rg 8) (by kernel_rfl) (by kernel_rfl) (by show _ = List.map (It.ren (nth (rg 8))) (yRvF2 p d s c); unfold yRvF2; rw [stmtF_bad (by (rw [head4 (by omega), decide_eq_false (by omega)]; rfl))] <;> rfl) (by have e1 : ((stmtF p.vars.length p.arrays.length (d + 1) c s).fst : Bool) = (false) := (by rw [stmtF_bad (by (rw [head4 (by omega), decide_eq_false (by omega)]; rfl))]; done); (first | rw [e1] | simp only [e1]) <;> rfl)
      ·
       have q4 : s.kind = 3 := eq_of_beq h4; refine rT G (s.kind == (3 : Int)) (by assumption) ?_; refine rs0s G [(2, iA n), (3, .ptr 3 0), (4, .ptr 8 0), (5, .ptr 9 0), (8, bA false), (9, iA 1), (10, bA false), (11, bA true), (12, bA false), (13, bA true), (14, bA true)] ?_; intro ρ a w G; refine bl_n ?_; refine th_n (wp_seq (wp_seq ?_)); cases h12 : (!(decide ((0 : Int) ≤ s.target) && decide (s.target ≤ (0 : Int))))
       ·
        have q12 : (0 ≤ s.target) ∧ (s.target ≤ 0) := (fun hq => And.imp (fun hq => of_decide_eq_true (hq)) (fun hq => of_decide_eq_true (hq)) (Bool.and_eq_true_iff.1 (hq))) (Eq.mp (Bool.not_eq_false' _) h12); cases h13 : (s.count != (0 : Int))
        ·
         have q13 : s.count = 0 := (by simpa using h13); refine rs1s G ⟨[(4, _, [])], [(!(decide ((0 : Int) ≤ s.target) && decide (s.target ≤ (0 : Int))), false), (false, false), (true, true), (s.count != (0 : Int), false)], us [(7, 8, 0), (9, 12, 1), (13, 13, 0), (1013, 1013, 1), (1014, 1014, 0), (16, 18, 1), (19, 21, 2), (22, 22, 1), (1022, 1022, 2), (1023, 1023, 1), (25, 27, 3), (28, 31, 1), (32, 32, 3), (1032, 1032, 1), (1033, 1033, 3), (35, 42, 1), (1042, 1043, 1)]⟩ (calls_cons (c_within (s.target) (0) (0)) calls_nil) ⟨(by assumption), (by kernel_rfl), (by kernel_rfl), (by assumption), trivial⟩ [(2, iA n), (3, .ptr 3 0), (4, .ptr 8 0), (5, .ptr 9 0), (8, bA false), (10, bA false), (11, bA true), (88, bA false)] [IntKind.i64.wrap ((1 : Int) - (1 : Int)) = (1 : Int) - (1 : Int)] ⟨(by kernel_rfl), trivial⟩ fun ρ a w G => th_n ?_; refine rF G (false) (by kernel_rfl) ?_; refine wp_skip (th_n (wp_seq (wp_seq ?_))); cases h14 : (!noneB s.index)
         ·
          have q14 : (noneB s.index) = true := (Eq.mp (Bool.not_eq_false' _) h14); cases h15 : (!rightB p.vars.length p.arrays.length s.value)
          ·
           have q15 : (rightB p.vars.length p.arrays.length s.value) = true := (Eq.mp (Bool.not_eq_false' _) h15); refine rs1s G ⟨[(20, _, [4]), (30, _, [0, 1, 2, 5])], [(false, false), (true, true), (!noneB s.index, false), (!rightB p.vars.length p.arrays.length s.value, false)], us [(2, 7, 0), (12, 12, 0), (1013, 1013, 0), (15, 17, 0), (18, 21, 1), (22, 22, 0), (1022, 1022, 1), (1023, 1023, 0), (25, 26, 2), (27, 31, 1), (32, 32, 2), (1032, 1032, 1), (1033, 1033, 2), (35, 37, 3), (38, 41, 0), (42, 42, 3), (1042, 1042, 0), (1043, 1043, 3)]⟩ (calls_cons (c_isNone (s.index)) (calls_cons (c_expr (p) (s.value)) calls_nil)) ⟨(by kernel_rfl), (by kernel_rfl), (by assumption), (by assumption), trivial⟩ [(2, iA n), (3, .ptr 3 0), (4, .ptr 8 0), (5, .ptr 9 0), (8, bA false), (132, bA false)] [] trivial fun ρ a w G => th_n ?_; refine rF G (false) (by kernel_rfl) ?_; refine wp_skip (th_n (wp_seq ?_)); cases h16 : ((stmtsF p.vars.length p.arrays.length d (c + (1 : Nat)) s.body).fst)
           · refine rs1 (dk := dkP) G ⟨[(6, _, [0, 1, 2, 3, 6])], [((stmtsF p.vars.length p.arrays.length d (c + (1 : Nat)) s.body).fst, false)], us [(8, 14, 0), (1015, 1015, 0)]⟩ (calls_cons (ih (s.body) (c + 1) (n + 1) (by simp; omega) (by omega)) calls_nil) ⟨(by assumption), trivial⟩ (rg 8) [dI p.vars, dI p.arrays, dT p.body, .box [iA (↑(yRvF1 p d s c).snd : Int)], dE s.index.kids, dE s.value.kids, dT s.body, dT s.els] [(8, bA false)] [IntKind.i64.wrap (n + (1 : Int)) = n + (1 : Int)] ⟨(by exact w64 (by omega) (by omega)), trivial⟩ fun ρ a w G => th_n (wp_ret ?_); exact rx_ret (v := bA false) G (rg 8) (by kernel_rfl) (by kernel_rfl) (by show _ = List.map (It.ren (nth (rg 8))) (yRvF2 p d s c); unfold yRvF2; rw [stmtF_body (by omega) (by (rw [head3 (by omega)]; exact and_t (by omega) (by assumption) (by assumption))) (by assumption)] <;> rfl) (by have e1 : ((stmtF p.vars.length p.arrays.length (d + 1) c s).fst : Bool) = (false) := (by rw [stmtF_body (by omega) (by (rw [head3 (by omega)]; exact and_t (by omega) (by assumption) (by assumption))) (by assumption)]; assumption); (first | rw [e1] | simp only [e1]) <;> rfl)
           · refine rs1 (dk := dkP) G ⟨[(6, _, [0, 1, 2, 3, 6]), (14, _, [0, 1, 2, 3, 7])], [((stmtsF p.vars.length p.arrays.length d (c + (1 : Nat)) s.body).fst, true)], us [(8, 14, 0), (1015, 1015, 0)]⟩ (calls_cons (ih (s.body) (c + 1) (n + 1) (by simp; omega) (by omega)) (calls_cons (ih (s.els) ((yRvF1 p d s c).snd) (n + 1) (by exact stmtsF_le (by omega) (by assumption)) (by omega)) calls_nil)) ⟨(by assumption), trivial⟩ (rg 8) [dI p.vars, dI p.arrays, dT p.body, .box [iA (↑(yRvF0 p d s c).snd : Int)], dE s.index.kids, dE s.value.kids, dT s.body, dT s.els] [(8, bA (yRvF0 p d s c).fst)] [IntKind.i64.wrap (n + (1 : Int)) = n + (1 : Int), IntKind.i64.wrap (n + (1 : Int)) = n + (1 : Int)] ⟨(by exact w64 (by omega) (by omega)), (by exact w64 (by omega) (by omega)), trivial⟩ fun ρ a w G => th_n (wp_ret ?_); exact rx_ret (v := bA (stmtsF p.vars.length p.arrays.length d (stmtsF p.vars.length p.arrays.length d (c + 1) s.body).snd s.els).fst) G (rg 8) (by kernel_rfl) (by kernel_rfl) (by show _ = List.map (It.ren (nth (rg 8))) (yRvF2 p d s c); unfold yRvF2; rw [stmtF_els (by omega) (by (rw [head3 (by omega)]; exact and_t (by omega) (by assumption) (by assumption))) (by assumption)] <;> rfl) (by have e1 : ((stmtF p.vars.length p.arrays.length (d + 1) c s).fst : Bool) = ((stmtsF p.vars.length p.arrays.length d (stmtsF p.vars.length p.arrays.length d (c + 1) s.body).snd s.els).fst) := (by rw [stmtF_els (by omega) (by (rw [head3 (by omega)]; exact and_t (by omega) (by assumption) (by assumption))) (by assumption)]; done); (first | rw [e1] | simp only [e1]) <;> rfl)
          · have q15 : (rightB p.vars.length p.arrays.length s.value) = false := (Eq.mp (Bool.not_eq_true' _) h15); refine rs1s G ⟨[(20, _, [4]), (30, _, [0, 1, 2, 5])], [(false, false), (true, true), (!noneB s.index, false), (!rightB p.vars.length p.arrays.length s.value, true)], us [(2, 7, 0), (12, 12, 0), (1013, 1013, 0), (15, 17, 0), (18, 21, 1), (22, 22, 0), (1022, 1022, 1), (1023, 1023, 0), (25, 26, 2), (27, 31, 1), (32, 32, 2), (1032, 1032, 1), (1033, 1033, 2), (35, 37, 3), (42, 42, 3), (1043, 1043, 3)]⟩ (calls_cons (c_isNone (s.index)) (calls_cons (c_expr (p) (s.value)) calls_nil)) ⟨(by kernel_rfl), (by kernel_rfl), (by assumption), (by assumption), trivial⟩ [(2, iA n), (3, .ptr 3 0), (4, .ptr 8 0), (5, .ptr 9 0), (8, bA false), (132, bA true)] [] trivial fun ρ a w G => th_n ?_; refine rT G (true) (by kernel_rfl) ?_; refine wp_seq ?_; refine rs0s G [(2, iA n), (3, .ptr 3 0), (4, .ptr 8 0), (5, .ptr 9 0), (8, bA false)] fun ρ a w G => th_n (wp_ret (th_r ?_)); exact rx_ret (v := bA false) G (rg 8) (by kernel_rfl) (by kernel_rfl) (by show _ = List.map (It.ren (nth (rg 8))) (yRvF2 p d s c); unfold yRvF2; rw [stmtF_bad (by (rw [head3 (by omega)]; simp [h100, h0, q0, h1, q1, h2, q2, h3, q3, h4, q4, h12, q12, h13, q13, h14, q14, h15, q15]; done))] <;> rfl) (by have e1 : ((stmtF p.vars.length p.arrays.length (d + 1) c s).fst : Bool) = (false) := (by rw [stmtF_bad (by (rw [head3 (by omega)]; simp [h100, h0, q0, h1, q1, h2, q2, h3, q3, h4, q4, h12, q12, h13, q13, h14, q14, h15, q15]; done))]; done); (first | rw [e1] | simp only [e1]) <;> rfl)
         · have q14 : (noneB s.index) = false := (Eq.mp (Bool.not_eq_true' _) h14); refine rs1s G ⟨[(20, _, [4])], [(false, false), (true, true), (!noneB s.index, true)], us [(2, 7, 0), (12, 12, 0), (1013, 1013, 0), (15, 17, 0), (18, 21, 1), (22, 22, 0), (1022, 1022, 1), (1023, 1023, 0), (25, 26, 2), (32, 32, 2), (1033, 1033, 2), (35, 37, 1), (42, 42, 1), (1043, 1043, 1)]⟩ (calls_cons (c_isNone (s.index)) calls_nil) ⟨(by kernel_rfl), (by kernel_rfl), (by assumption), trivial⟩ [(2, iA n), (3, .ptr 3 0), (4, .ptr 8 0), (5, .ptr 9 0), (8, bA false), (132, bA true)] [] trivial fun ρ a w G => th_n ?_; refine rT G (true) (by kernel_rfl) ?_; refine wp_seq ?_; refine rs0s G [(2, iA n), (3, .ptr 3 0), (4, .ptr 8 0), (5, .ptr 9 0), (8, bA false)] fun ρ a w G => th_n (wp_ret (th_r ?_)); exact rx_ret (v := bA false) G (rg 8) (by kernel_rfl) (by kernel_rfl) (by show _ = List.map (It.ren (nth (rg 8))) (yRvF2 p d s c); unfold yRvF2; rw [stmtF_bad (by (rw [head3 (by omega)]; simp [h100, h0, q0, h1, q1, h2, q2, h3, q3, h4, q4, h12, q12, h13, q13, h14, q14]; done))] <;> rfl) (by have e1 : ((stmtF p.vars.length p.arrays.length (d + 1) c s).fst : Bool) = (false) := (by rw [stmtF_bad (by (rw [head3 (by omega)]; simp [h100, h0, q0, h1, q1, h2, q2, h3, q3, h4, q4, h12, q12, h13, q13, h14, q14]; done))]; done); (first | rw [e1] | simp only [e1]) <;> rfl)
        · have q13 : ¬ (s.count = 0) := bne_iff_ne.1 h13; refine rs1s G ⟨[(4, _, [])], [(!(decide ((0 : Int) ≤ s.target) && decide (s.target ≤ (0 : Int))), false), (false, false), (true, true), (s.count != (0 : Int), true)], us [(7, 8, 0), (9, 12, 1), (13, 13, 0), (1013, 1013, 1), (1014, 1014, 0), (16, 18, 1), (19, 21, 2), (22, 22, 1), (1022, 1022, 2), (1023, 1023, 1), (25, 27, 3), (32, 32, 3), (1033, 1033, 3), (35, 37, 2), (42, 42, 2), (1043, 1043, 2)]⟩ (calls_cons (c_within (s.target) (0) (0)) calls_nil) ⟨(by assumption), (by kernel_rfl), (by kernel_rfl), (by assumption), trivial⟩ [(2, iA n), (3, .ptr 3 0), (4, .ptr 8 0), (5, .ptr 9 0), (8, bA false), (10, bA false), (11, bA true), (88, bA true)] [IntKind.i64.wrap ((1 : Int) - (1 : Int)) = (1 : Int) - (1 : Int)] ⟨(by kernel_rfl), trivial⟩ fun ρ a w G => th_n ?_; refine rT G (true) (by kernel_rfl) ?_; refine wp_seq ?_; refine rs0s G [(2, iA n), (3, .ptr 3 0), (4, .ptr 8 0), (5, .ptr 9 0), (8, bA false), (10, bA false), (11, bA true)] fun ρ a w G => th_n (wp_ret (th_r ?_)); exact rx_ret (v := bA false) G (rg 8) (by kernel_rfl) (by kernel_rfl) (by show _ = List.map (It.ren (nth (rg 8))) (yRvF2 p d s c); unfold yRvF2; rw [stmtF_bad (by (rw [head3 (by omega), decide_eq_false (by omega)]; rfl))] <;> rfl) (by have e1 : ((stmtF p.vars.length p.arrays.length (d + 1) c s).fst : Bool) = (false) := (by rw [stmtF_bad (by (rw [head3 (by omega), decide_eq_false (by omega)]; rfl))]; done); (first | rw [e1] | simp only [e1]) <;> rfl)
       · have q12 : (¬ (0 ≤ s.target)) ∨ (¬ (s.target ≤ 0)) := (fun hq => Or.imp (fun hq => of_decide_eq_false (hq)) (fun hq => of_decide_eq_false (hq)) (Bool.and_eq_false_iff.1 (hq))) (Eq.mp (Bool.not_eq_true' _) h12); refine rs1s G ⟨[(4, _, [])], [(!(decide ((0 : Int) ≤ s.target) && decide (s.target ≤ (0 : Int))), true), (true, true)], [(7, 0), (8, 0), (13, 0), (1014, 0), (16, 1), (17, 1), (18, 1), (22, 1), (1023, 1), (25, 1), (26, 1), (27, 1), (32, 1), (1033, 1), (35, 1), (36, 1), (37, 1), (42, 1), (1043, 1)]⟩ (calls_cons (c_within (s.target) (0) (0)) calls_nil) ⟨(by assumption), (by kernel_rfl), trivial⟩ [(2, iA n), (3, .ptr 3 0), (4, .ptr 8 0), (5, .ptr 9 0), (8, bA false), (10, bA false), (11, bA true), (88, bA true)] [IntKind.i64.wrap ((1 : Int) - (1 : Int)) = (1 : Int) - (1 : Int)] ⟨(by kernel_rfl), trivial⟩ fun ρ a w G => th_n ?_; refine rT G (true) (by kernel_rfl) ?_; refine wp_seq ?_; refine rs0s G [(2, iA n), (3, .ptr 3 0), (4, .ptr 8 0), (5, .ptr 9 0), (8, bA false), (10, bA false), (11, bA true)] fun ρ a w G => th_n (wp_ret (th_r ?_)); exact rx_ret (v := bA false) G (rg 8) (by kernel_rfl) (by kernel_rfl) (by show _ = List.map (It.ren (nth (rg 8))) (yRvF2 p d s c); unfold yRvF2; rw [stmtF_bad (by (rw [head3 (by omega), decide_eq_false (by omega)]; rfl))] <;> rfl) (by have e1 : ((stmtF p.vars.length p.arrays.length (d + 1) c s).fst : Bool) = (false) := (by rw [stmtF_bad (by (rw [head3 (by omega), decide_eq_false (by omega)]; rfl))]; done); (first | rw [e1] | simp only [e1]) <;> rfl)
     ·
      have q3 : s.kind = 2 := eq_of_beq h3; refine rT G (s.kind == (2 : Int)) (by assumption) ?_; refine rs0s G [(2, iA n), (3, .ptr 3 0), (4, .ptr 8 0), (5, .ptr 9 0), (8, bA false), (9, iA (↑p.arrays.length : Int)), (10, bA true), (11, bA true), (12, bA false), (13, bA false), (14, bA false)] ?_; intro ρ a w G; refine bl_n ?_; refine th_n (wp_seq (wp_seq ?_)); cases h17 : (!(decide ((0 : Int) ≤ s.target) && decide (s.target ≤ (↑p.arrays.length : Int) - (1 : Int))))
      ·
       have q17 : (0 ≤ s.target) ∧ (s.target ≤ (↑p.arrays.length : Int) - 1) := (fun hq => And.imp (fun hq => of_decide_eq_true (hq)) (fun hq => of_decide_eq_true (hq)) (Bool.and_eq_true_iff.1 (hq))) (Eq.mp (Bool.not_eq_false' _) h17); cases h18 : (s.count != (0 : Int))
       ·
        have q18 : s.count = 0 := (by simpa using h18); cases h19 : (decide ((↑s.body.length : Int) > (0 : Int)))
        ·
         have q19 : ¬ ((↑s.body.length : Int) > 0) := dFf h19; refine rs1s G ⟨[(4, _, [])], [(!(decide ((0 : Int) ≤ s.target) && decide (s.target ≤ (↑p.arrays.length : Int) - (1 : Int))), false), (false, false), (true, true), (s.count != (0 : Int), false), (decide ((↑s.body.length : Int) > (0 : Int)), false)], us [(7, 8, 0), (9, 12, 1), (13, 13, 0), (1013, 1013, 1), (1014, 1014, 0), (16, 18, 1), (19, 21, 2), (22, 22, 1), (1022, 1022, 2), (1023, 1023, 1), (25, 27, 3), (28, 31, 2), (32, 32, 3), (1032, 1032, 2), (1033, 1033, 3), (35, 37, 4), (38, 41, 2), (42, 42, 4), (1042, 1042, 2), (1043, 1043, 4)]⟩ (calls_cons (c_within (s.target) (0) ((↑p.arrays.length : Int) - 1)) calls_nil) ⟨(by assumption), (by kernel_rfl), (by kernel_rfl), (by assumption), (by assumption), trivial⟩ [(2, iA n), (3, .ptr 3 0), (4, .ptr 8 0), (5, .ptr 9 0), (8, bA false), (10, bA true), (11, bA true), (88, bA (decide ((↑s.els.length : Int) > 0)))] [IntKind.i64.wrap ((↑p.arrays.length : Int) - (1 : Int)) = (↑p.arrays.length : Int) - (1 : Int)] ⟨(by exact w64 (by omega) (by omega)), trivial⟩ fun ρ a w G => th_n ?_; cases h20 : (decide ((↑s.els.length : Int) > (0 : Int)))
         ·
          have q20 : ¬ ((↑s.els.length : Int) > 0) := dFf h20; refine rF G (decide ((↑s.els.length : Int) > (0 : Int))) (by assumption) ?_; refine wp_skip (th_n (wp_seq (wp_seq ?_))); cases h21 : (!rightB p.vars.length p.arrays.length s.index)
          ·
           have q21 : (rightB p.vars.length p.arrays.length s.index) = true := (Eq.mp (Bool.not_eq_false' _) h21); cases h22 : (!atomB s.index)
           ·
            have q22 : (atomB s.index) = true := (Eq.mp (Bool.not_eq_false' _) h22); cases h23 : (!rightB p.vars.length p.arrays.length s.value)
            ·
             have q23 : (rightB p.vars.length p.arrays.length s.value) = true := (Eq.mp (Bool.not_eq_false' _) h23); refine rs1s G ⟨[(5, _, [0, 1, 2, 4]), (10, _, [4]), (30, _, [0, 1, 2, 5])], [(true, true), (!rightB p.vars.length p.arrays.length s.index, false), (!atomB s.index, false), (false, false), (!rightB p.vars.length p.arrays.length s.value, false)], us [(2, 7, 0), (8, 11, 1), (12, 12, 0), (1012, 1012, 1), (1013, 1013, 0), (15, 17, 2), (18, 21, 3), (22, 22, 2), (1022, 1022, 3), (1023, 1023, 2), (25, 26, 3), (27, 31, 0), (32, 32, 3), (1032, 1032, 0), (1033, 1033, 3), (35, 37, 4), (38, 41, 3), (42, 42, 4), (1042, 1042, 3), (1043, 1043, 4)]⟩ (calls_cons (c_expr (p) (s.index)) (calls_cons (c_isPlain (s.index)) (calls_cons (c_expr (p) (s.value)) calls_nil))) ⟨(by kernel_rfl), (by assumption), (by assumption), (by kernel_rfl), (by assumption), trivial⟩ [(2, iA n), (3, .ptr 3 0), (4, .ptr 8 0), (5, .ptr 9 0), (8, bA false), (132, bA false)] [] trivial fun ρ a w G => th_n ?_; refine rF G (false) (by kernel_rfl) ?_; refine wp_skip (th_n (wp_seq ?_)); cases h24 : ((stmtsF p.vars.length p.arrays.length d (c + (1 : Nat)) s.body).fst)
             · refine rs1 (dk := dkP) G ⟨[(6, _, [0, 1, 2, 3, 6])], [((stmtsF p.vars.length p.arrays.length d (c + (1 : Nat)) s.body).fst, false)], us [(8, 14, 0), (1015, 1015, 0)]⟩ (calls_cons (ih (s.body) (c + 1) (n + 1) (by simp; omega) (by omega)) calls_nil) ⟨(by assumption), trivial⟩ (rg 8) [dI p.vars, dI p.arrays, dT p.body, .box [iA (↑(yRvF1 p d s c).snd : Int)], dE s.index.kids, dE s.value.kids, dT s.body, dT s.els] [(8, bA false)] [IntKind.i64.wrap (n + (1 : Int)) = n + (1 : Int)] ⟨(by exact w64 (by omega) (by omega)), trivial⟩ fun ρ a w G => th_n (wp_ret ?_); exact rx_ret (v := bA false) G (rg 8) (by kernel_rfl) (by kernel_rfl) (by show _ = List.map (It.ren (nth (rg 8))) (yRvF2 p d s c); unfold yRvF2; rw [stmtF_body (by omega) (by (rw [head2 (by omega)]; exact and_t3 (by omega) (by assumption) (by assumption) (by assumption))) (by assumption)] <;> rfl) (by have e1 : ((stmtF p.vars.length p.arrays.length (d + 1) c s).fst : Bool) = (false) := (by rw [stmtF_body (by omega) (by (rw [head2 (by omega)]; exact and_t3 (by omega) (by assumption) (by assumption) (by assumption))) (by assumption)]; assumption); (first | rw [e1] | simp only [e1]) <;> rfl)
             · refine rs1 (dk := dkP) G ⟨[(6, _, [0, 1, 2, 3, 6]), (14, _, [0, 1, 2, 3, 7])], [((stmtsF p.vars.length p.arrays.length d (c + (1 : Nat)) s.body).fst, true)], us [(8, 14, 0), (1015, 1015, 0)]⟩ (calls_cons (ih (s.body) (c + 1) (n + 1) (by simp; omega) (by omega)) (calls_cons (ih (s.els) ((yRvF1 p d s c).snd) (n + 1) (by exact stmtsF_le (by omega) (by assumption)) (by omega)) calls_nil)) ⟨(by assumption), trivial⟩ (rg 8) [dI p.vars, dI p.arrays, dT p.body, .box [iA (↑(yRvF0 p d s c).snd : Int)], dE s.index.kids, dE s.value.kids, dT s.body, dT s.els] [(8, bA (yRvF0 p d s c).fst)] [IntKind.i64.wrap (n + (1 : Int)) = n + (1 : Int), IntKind.i64.wrap (n + (1 : Int)) = n + (1 : Int)] ⟨(by exact w64 (by omega) (by omega)), (by exact w64 (by omega) (by omega)), trivial⟩ fun ρ a w G => th_n (wp_ret ?_); exact rx_ret (v := bA (stmtsF p.vars.length p.arrays.length d (stmtsF p.vars.length p.arrays.length d (c + 1) s.body).snd s.els).fst) G (rg 8) (by kernel_rfl) (by kernel_rfl) (by show _ = List.map (It.ren (nth (rg 8))) (yRvF2 p d s c); unfold yRvF2; rw [stmtF_els (by omega) (by (rw [head2 (by omega)]; exact and_t3 (by omega) (by assumption) (by assumption) (by assumption))) (by assumption)] <;> rfl) (by have e1 : ((stmtF p.vars.length p.arrays.length (d + 1) c s).fst : Bool) = ((stmtsF p.vars.length p.arrays.length d (stmtsF p.vars.length p.arrays.length d (c + 1) s.body).snd s.els).fst) := (by rw [stmtF_els (by omega) (by (rw [head2 (by omega)]; exact and_t3 (by omega) (by assumption) (by assumption) (by assumption))) (by assumption)]; done); (first | rw [e1] | simp only [e1]) <;> rfl)
            · have q23 : (rightB p.vars.length p.arrays.length s.value) = false := (Eq.mp (Bool.not_eq_true' _) h23); refine rs1s G ⟨[(5, _, [0, 1, 2, 4]), (10, _, [4]), (30, _, [0, 1, 2, 5])], [(true, true), (!rightB p.vars.length p.arrays.length s.index, false), (!atomB s.index, false), (false, false), (!rightB p.vars.length p.arrays.length s.value, true)], us [(2, 7, 0), (8, 11, 1), (12, 12, 0), (1012, 1012, 1), (1013, 1013, 0), (15, 17, 2), (18, 21, 3), (22, 22, 2), (1022, 1022, 3), (1023, 1023, 2), (25, 26, 3), (27, 31, 0), (32, 32, 3), (1032, 1032, 0), (1033, 1033, 3), (35, 37, 4), (42, 42, 4), (1043, 1043, 4)]⟩ (calls_cons (c_expr (p) (s.index)) (calls_cons (c_isPlain (s.index)) (calls_cons (c_expr (p) (s.value)) calls_nil))) ⟨(by kernel_rfl), (by assumption), (by assumption), (by kernel_rfl), (by assumption), trivial⟩ [(2, iA n), (3, .ptr 3 0), (4, .ptr 8 0), (5, .ptr 9 0), (8, bA false), (132, bA true)] [] trivial fun ρ a w G => th_n ?_; refine rT G (true) (by kernel_rfl) ?_; refine wp_seq ?_; refine rs0s G [(2, iA n), (3, .ptr 3 0), (4, .ptr 8 0), (5, .ptr 9 0), (8, bA false)] fun ρ a w G => th_n (wp_ret (th_r ?_)); exact rx_ret (v := bA false) G (rg 8) (by kernel_rfl) (by kernel_rfl) (by show _ = List.map (It.ren (nth (rg 8))) (yRvF2 p d s c); unfold yRvF2; rw [stmtF_bad (by (rw [head2 (by omega)]; simp [h100, h0, q0, h1, q1, h2, q2, h3, q3, h17, q17, h18, q18, h19, q19, h20, q20, h21, q21, h22, q22, h23, q23]; done))] <;> rfl) (by have e1 : ((stmtF p.vars.length p.arrays.length (d + 1) c s).fst : Bool) = (false) := (by rw [stmtF_bad (by (rw [head2 (by omega)]; simp [h100, h0, q0, h1, q1, h2, q2, h3, q3, h17, q17, h18, q18, h19, q19, h20, q20, h21, q21, h22, q22, h23, q23]; done))]; done); (first | rw [e1] | simp only [e1]) <;> rfl)
           · have q22 : (atomB s.index) = false := (Eq.mp (Bool.not_eq_true' _) h22); refine rs1s G ⟨[(5, _, [0, 1, 2, 4]), (10, _, [4])], [(true, true), (!rightB p.vars.length p.arrays.length s.index, false), (!atomB s.index, true)], us [(2, 7, 0), (8, 11, 1), (12, 12, 0), (1012, 1012, 1), (1013, 1013, 0), (15, 17, 2), (22, 22, 2), (1023, 1023, 2), (25, 26, 0), (32, 32, 0), (1033, 1033, 0), (35, 37, 0), (42, 42, 0), (1043, 1043, 0)]⟩ (calls_cons (c_expr (p) (s.index)) (calls_cons (c_isPlain (s.index)) calls_nil)) ⟨(by kernel_rfl), (by assumption), (by assumption), trivial⟩ [(2, iA n), (3, .ptr 3 0), (4, .ptr 8 0), (5, .ptr 9 0), (8, bA false), (132, bA true)] [] trivial fun ρ a w G => th_n ?_; refine rT G (true) (by kernel_rfl) ?_; refine wp_seq ?_; refine rs0s G [(2, iA n), (3, .ptr 3 0), (4, .ptr 8 0), (5, .ptr 9 0), (8, bA false)] fun ρ a w G => th_n (wp_ret (th_r ?_)); exact rx_ret (v := bA false) G (rg 8) (by kernel_rfl) (by kernel_rfl) (by show _ = List.map (It.ren (nth (rg 8))) (yRvF2 p d s c); unfold yRvF2; rw [stmtF_bad (by (rw [head2 (by omega)]; simp [h100, h0, q0, h1, q1, h2, q2, h3, q3, h17, q17, h18, q18, h19, q19, h20, q20, h21, q21, h22, q22]; done))] <;> rfl) (by have e1 : ((stmtF p.vars.length p.arrays.length (d + 1) c s).fst : Bool) = (false) := (by rw [stmtF_bad (by (rw [head2 (by omega)]; simp [h100, h0, q0, h1, q1, h2, q2, h3, q3, h17, q17, h18, q18, h19, q19, h20, q20, h21, q21, h22, q22]; done))]; done); (first | rw [e1] | simp only [e1]) <;> rfl)
          · have q21 : (rightB p.vars.length p.arrays.length s.index) = false := (Eq.mp (Bool.not_eq_true' _) h21); refine rs1s G ⟨[(5, _, [0, 1, 2, 4])], [(true, true), (!rightB p.vars.length p.arrays.length s.index, true)], us [(2, 7, 0), (8, 11, 1), (12, 12, 0), (1012, 1012, 1), (1013, 1013, 0), (15, 17, 0), (22, 22, 0), (1023, 1023, 0), (25, 26, 0), (32, 32, 0), (1033, 1033, 0), (35, 37, 0), (42, 42, 0), (1043, 1043, 0)]⟩ (calls_cons (c_expr (p) (s.index)) calls_nil) ⟨(by kernel_rfl), (by assumption), trivial⟩ [(2, iA n), (3, .ptr 3 0), (4, .ptr 8 0), (5, .ptr 9 0), (8, bA false), (132, bA true)] [] trivial fun ρ a w G => th_n ?_; refine rT G (true) (by kernel_rfl) ?_; refine wp_seq ?_; refine rs0s G [(2, iA n), (3, .ptr 3 0), (4, .ptr 8 0), (5, .ptr 9 0), (8, bA false)] fun ρ a w G => th_n (wp_ret (th_r ?_)); exact rx_ret (v := bA false) G (rg 8) (by kernel_rfl) (by kernel_rfl) (by show _ = List.map (It.ren (nth (rg 8))) (yRvF2 p d s c); unfold yRvF2; rw [stmtF_bad (by (rw [head2 (by omega)]; simp [h100, h0, q0, h1, q1, h2, q2, h3, q3, h17, q17, h18, q18, h19, q19, h20, q20, h21, q21]; done))] <;> rfl) (by have e1 : ((stmtF p.vars.length p.arrays.length (d + 1) c s).fst : Bool) = (false) := (by rw [stmtF_bad (by (rw [head2 (by omega)]; simp [h100, h0, q0, h1, q1, h2, q2, h3, q3, h17, q17, h18, q18, h19, q19, h20, q20, h21, q21]; done))]; done); (first | rw [e1] | simp only [e1]) <;> rfl)
         · have q20 : (↑s.els.length : Int) > 0 := dTt h20; refine rT G (decide ((↑s.els.length : Int) > (0 : Int))) (by assumption) ?_; refine wp_seq ?_; refine rs0s G [(2, iA n), (3, .ptr 3 0), (4, .ptr 8 0), (5, .ptr 9 0), (8, bA false), (10, bA true), (11, bA true)] fun ρ a w G => th_n (wp_ret (th_r ?_)); exact rx_ret (v := bA false) G (rg 8) (by kernel_rfl) (by kernel_rfl) (by show _ = List.map (It.ren (nth (rg 8))) (yRvF2 p d s c); unfold yRvF2; rw [stmtF_bad (by (rw [head2 (by omega), decide_eq_false (by omega)]; rfl))] <;> rfl) (by have e1 : ((stmtF p.vars.length p.arrays.length (d + 1) c s).fst : Bool) = (false) := (by rw [stmtF_bad (by (rw [head2 (by omega), decide_eq_false (by omega)]; rfl))]; done); (first | rw [e1] | simp only [e1]) <;> rfl)
        · have q19 : (↑s.body.length : Int) > 0 := dTt h19; refine rs1s G ⟨[(4, _, [])], [(!(decide ((0 : Int) ≤ s.target) && decide (s.target ≤ (↑p.arrays.length : Int) - (1 : Int))), false), (false, false), (true, true), (s.count != (0 : Int), false), (decide ((↑s.body.length : Int) > (0 : Int)), true)], us [(7, 8, 0), (9, 12, 1), (13, 13, 0), (1013, 1013, 1), (1014, 1014, 0), (16, 18, 1), (19, 21, 2), (22, 22, 1), (1022, 1022, 2), (1023, 1023, 1), (25, 27, 3), (28, 31, 2), (32, 32, 3), (1032, 1032, 2), (1033, 1033, 3), (35, 37, 4), (42, 42, 4), (1043, 1043, 4)]⟩ (calls_cons (c_within (s.target) (0) ((↑p.arrays.length : Int) - 1)) calls_nil) ⟨(by assumption), (by kernel_rfl), (by kernel_rfl), (by assumption), (by assumption), trivial⟩ [(2, iA n), (3, .ptr 3 0), (4, .ptr 8 0), (5, .ptr 9 0), (8, bA false), (10, bA true), (11, bA true), (88, bA true)] [IntKind.i64.wrap ((↑p.arrays.length : Int) - (1 : Int)) = (↑p.arrays.length : Int) - (1 : Int)] ⟨(by exact w64 (by omega) (by omega)), trivial⟩ fun ρ a w G => th_n ?_; refine rT G (true) (by kernel_rfl) ?_; refine wp_seq ?_; refine rs0s G [(2, iA n), (3, .ptr 3 0), (4, .ptr 8 0), (5, .ptr 9 0), (8, bA false), (10, bA true), (11, bA true)] fun ρ a w G => th_n (wp_ret (th_r ?_)); exact rx_ret (v := bA false) G (rg 8) (by kernel_rfl) (by kernel_rfl) (by show _ = List.map (It.ren (nth (rg 8))) (yRvF2 p d s c); unfold yRvF2; rw [stmtF_bad (by (rw [head2 (by omega), decide_eq_false (by omega)]; rfl))] <;> rfl) (by have e1 : ((stmtF p.vars.length p.arrays.length (d + 1) c s).fst : Bool) = (false) := (by rw [stmtF_bad (by (rw [head2 (by omega), decide_eq_false (by omega)]; rfl))]; done); (first | rw [e1] | simp only [e1]) <;> rfl)
       · have q18 : ¬ (s.count = 0) := bne_iff_ne.1 h18; refine rs1s G ⟨[(4, _, [])], [(!(decide ((0 : Int) ≤ s.target) && decide (s.target ≤ (↑p.arrays.length : Int) - (1 : Int))), false), (false, false), (true, true), (s.count != (0 : Int), true)], us [(7, 8, 0), (9, 12, 1), (13, 13, 0), (1013, 1013, 1), (1014, 1014, 0), (16, 18, 1), (19, 21, 2), (22, 22, 1), (1022, 1022, 2), (1023, 1023, 1), (25, 27, 3), (32, 32, 3), (1033, 1033, 3), (35, 37, 2), (42, 42, 2), (1043, 1043, 2)]⟩ (calls_cons (c_within (s.target) (0) ((↑p.arrays.length : Int) - 1)) calls_nil) ⟨(by assumption), (by kernel_rfl), (by kernel_rfl), (by assumption), trivial⟩ [(2, iA n), (3, .ptr 3 0), (4, .ptr 8 0), (5, .ptr 9 0), (8, bA false), (10, bA true), (11, bA true), (88, bA true)] [IntKind.i64.wrap ((↑p.arrays.length : Int) - (1 : Int)) = (↑p.arrays.length : Int) - (1 : Int)] ⟨(by exact w64 (by omega) (by omega)), trivial⟩ fun ρ a w G => th_n ?_; refine rT G (true) (by kernel_rfl) ?_; refine wp_seq ?_; refine rs0s G [(2, iA n), (3, .ptr 3 0), (4, .ptr 8 0), (5, .ptr 9 0), (8, bA false), (10, bA true), (11, bA true)] fun ρ a w G => th_n (wp_ret (th_r ?_)); exact rx_ret (v := bA false) G (rg 8) (by kernel_rfl) (by kernel_rfl) (by show _ = List.map (It.ren (nth (rg 8))) (yRvF2 p d s c); unfold yRvF2; rw [stmtF_bad (by (rw [head2 (by omega), decide_eq_false (by omega)]; rfl))] <;> rfl) (by have e1 : ((stmtF p.vars.length p.arrays.length (d + 1) c s).fst : Bool) = (false) := (by rw [stmtF_bad (by (rw [head2 (by omega), decide_eq_false (by omega)]; rfl))]; done); (first | rw [e1] | simp only [e1]) <;> rfl)
      · have q17 : (¬ (0 ≤ s.target)) ∨ (¬ (s.target ≤ (↑p.arrays.length : Int) - 1)) := (fun hq => Or.imp (fun hq => of_decide_eq_false (hq)) (fun hq => of_decide_eq_false (hq)) (Bool.and_eq_false_iff.1 (hq))) (Eq.mp (Bool.not_eq_true' _) h17); refine rs1s G ⟨[(4, _, [])], [(!(decide ((0 : Int) ≤ s.target) && decide (s.target ≤ (↑p.arrays.length : Int) - (1 : Int))), true), (true, true)], [(7, 0), (8, 0), (13, 0), (1014, 0), (16, 1), (17, 1), (18, 1), (22, 1), (1023, 1), (25, 1), (26, 1), (27, 1), (32, 1), (1033, 1), (35, 1), (36, 1), (37, 1), (42, 1), (1043, 1)]⟩ (calls_cons (c_within (s.target) (0) ((↑p.arrays.length : Int) - 1)) calls_nil) ⟨(by assumption), (by kernel_rfl), trivial⟩ [(2, iA n), (3, .ptr 3 0), (4, .ptr 8 0), (5, .ptr 9 0), (8, bA false), (10, bA true), (11, bA true), (88, bA true)] [IntKind.i64.wrap ((↑p.arrays.length : Int) - (1 : Int)) = (↑p.arrays.length : Int) - (1 : Int)] ⟨(by exact w64 (by omega) (by omega)), trivial⟩ fun ρ a w G => th_n ?_; refine rT G (true) (by kernel_rfl) ?_; refine wp_seq ?_; refine rs0s G [(2, iA n), (3, .ptr 3 0), (4, .ptr 8 0), (5, .ptr 9 0), (8, bA false), (10, bA true), (11, bA true)] fun ρ a w G => th_n (wp_ret (th_r ?_)); exact rx_ret (v := bA false) G (rg 8) (by kernel_rfl) (by kernel_rfl) (by show _ = List.map (It.ren (nth (rg 8))) (yRvF2 p d s c); unfold yRvF2; rw [stmtF_bad (by (rw [head2 (by omega), decide_eq_false (by omega)]; rfl))] <;> rfl) (by have e1 : ((stmtF p.vars.length p.arrays.length (d + 1) c s).fst : Bool) = (false) := (by rw [stmtF_bad (by (rw [head2 (by omega), decide_eq_false (by omega)]; rfl))]; done); (first | rw [e1] | simp only [e1]) <;> rfl)
    ·
     have q2 : s.kind = 5 := eq_of_beq h2; refine rT G (s.kind == (5 : Int)) (by assumption) ?_; refine rs0s G [(2, iA n), (3, .ptr 3 0), (4, .ptr 8 0), (5, .ptr 9 0), (8, bA false), (9, iA (↑p.vars.length : Int)), (10, bA false), (11, bA true), (12, bA false), (13, bA false), (14, bA false)] ?_; intro ρ a w G; refine bl_n ?_; refine th_n (wp_seq (wp_seq ?_)); cases h25 : (!(decide ((0 : Int) ≤ s.target) && decide (s.target ≤ (↑p.vars.length : Int) - (1 : Int))))
     ·
      have q25 : (0 ≤ s.target) ∧ (s.target ≤ (↑p.vars.length : Int) - 1) := (fun hq => And.imp (fun hq => of_decide_eq_true (hq)) (fun hq => of_decide_eq_true (hq)) (Bool.and_eq_true_iff.1 (hq))) (Eq.mp (Bool.not_eq_false' _) h25); cases h26 : (s.count != (0 : Int))
      ·
       have q26 : s.count = 0 := (by simpa using h26); cases h27 : (decide ((↑s.body.length : Int) > (0 : Int)))
       ·
        have q27 : ¬ ((↑s.body.length : Int) > 0) := dFf h27; refine rs1s G ⟨[(4, _, [])], [(!(decide ((0 : Int) ≤ s.target) && decide (s.target ≤ (↑p.vars.length : Int) - (1 : Int))), false), (false, false), (true, true), (s.count != (0 : Int), false), (decide ((↑s.body.length : Int) > (0 : Int)), false)], us [(7, 8, 0), (9, 12, 1), (13, 13, 0), (1013, 1013, 1), (1014, 1014, 0), (16, 18, 1), (19, 21, 2), (22, 22, 1), (1022, 1022, 2), (1023, 1023, 1), (25, 27, 3), (28, 31, 2), (32, 32, 3), (1032, 1032, 2), (1033, 1033, 3), (35, 37, 4), (38, 41, 2), (42, 42, 4), (1042, 1042, 2), (1043, 1043, 4)]⟩ (calls_cons (c_within (s.target) (0) ((↑p.vars.length : Int) - 1)) calls_nil) ⟨(by assumption), (by kernel_rfl), (by kernel_rfl), (by assumption), (by assumption), trivial⟩ [(2, iA n), (3, .ptr 3 0), (4, .ptr 8 0), (5, .ptr 9 0), (8, bA false), (10, bA false), (11, bA true), (88, bA (decide ((↑s.els.length : Int) > 0)))] [IntKind.i64.wrap ((↑p.vars.length : Int) - (1 : Int)) = (↑p.vars.length : Int) - (1 : Int)] ⟨(by exact w64 (by omega) (by omega)), trivial⟩ fun ρ a w G => th_n ?_; cases h28 : (decide ((↑s.els.length : Int) > (0 : Int)))
        ·
         have q28 : ¬ ((↑s.els.length : Int) > 0) := dFf h28; refine rF G (decide ((↑s.els.length : Int) > (0 : Int))) (by assumption) ?_; refine wp_skip (th_n (wp_seq (wp_seq ?_))); cases h29 : (!noneB s.index)
         ·
          have q29 : (noneB s.index) = true := (Eq.mp (Bool.not_eq_false' _) h29); cases h30 : (!rightB p.vars.length p.arrays.length s.value)
          ·
           have q30 : (rightB p.vars.length p.arrays.length s.value) = true := (Eq.mp (Bool.not_eq_false' _) h30); refine rs1s G ⟨[(20, _, [4]), (30, _, [0, 1, 2, 5])], [(false, false), (true, true), (!noneB s.index, false), (!rightB p.vars.length p.arrays.length s.value, false)], us [(2, 7, 0), (12, 12, 0), (1013, 1013, 0), (15, 17, 0), (18, 21, 1), (22, 22, 0), (1022, 1022, 1), (1023, 1023, 0), (25, 26, 2), (27, 31, 1), (32, 32, 2), (1032, 1032, 1), (1033, 1033, 2), (35, 37, 3), (38, 41, 0), (42, 42, 3), (1042, 1042, 0), (1043, 1043, 3)]⟩ (calls_cons (c_isNone (s.index)) (calls_cons (c_expr (p) (s.value)) calls_nil)) ⟨(by kernel_rfl), (by kernel_rfl), (by assumption), (by assumption), trivial⟩ [(2, iA n), (3, .ptr 3 0), (4, .ptr 8 0), (5, .ptr 9 0), (8, bA false), (132, bA false)] [] trivial fun ρ a w G => th_n ?_; refine rF G (false) (by kernel_rfl) ?_; refine wp_skip (th_n (wp_seq ?_)); cases h31 : ((stmtsF p.vars.length p.arrays.length d (c + (1 : Nat)) s.body).fst)
           · refine rs1 (dk := dkP) G ⟨[(6, _, [0, 1, 2, 3, 6])], [((stmtsF p.vars.length p.arrays.length d (c + (1 : Nat)) s.body).fst, false)], us [(8, 14, 0), (1015, 1015, 0)]⟩ (calls_cons (ih (s.body) (c + 1) (n + 1) (by simp; omega) (by omega)) calls_nil) ⟨(by assumption), trivial⟩ (rg 8) [dI p.vars, dI p.arrays, dT p.body, .box [iA (↑(yRvF1 p d s c).snd : Int)], dE s.index.kids, dE s.value.kids, dT s.body, dT s.els] [(8, bA false)] [IntKind.i64.wrap (n + (1 : Int)) = n + (1 : Int)] ⟨(by exact w64 (by omega) (by omega)), trivial⟩ fun ρ a w G => th_n (wp_ret ?_); exact rx_ret (v := bA false) G (rg 8) (by kernel_rfl) (by kernel_rfl) (by show _ = List.map (It.ren (nth (rg 8))) (yRvF2 p d s c); unfold yRvF2; rw [stmtF_body (by omega) (by (rw [head1 (by omega)]; exact and_t (by omega) (by assumption) (by assumption))) (by assumption)] <;> rfl) (by have e1 : ((stmtF p.vars.length p.arrays.length (d + 1) c s).fst : Bool) = (false) := (by rw [stmtF_body (by omega) (by (rw [head1 (by omega)]; exact and_t (by omega) (by assumption) (by assumption))) (by assumption)]; assumption); (first | rw [e1] | simp only [e1]) <;> rfl)
           · refine rs1 (dk := dkP) G ⟨[(6, _, [0, 1, 2, 3, 6]), (14, _, [0, 1, 2, 3, 7])], [((stmtsF p.vars.length p.arrays.length d (c + (1 : Nat)) s.body).fst, true)], us [(8, 14, 0), (1015, 1015, 0)]⟩ (calls_cons (ih (s.body) (c + 1) (n + 1) (by simp; omega) (by omega)) (calls_cons (ih (s.els) ((yRvF1 p d s c).snd) (n + 1) (by exact stmtsF_le (by omega) (by assumption)) (by omega)) calls_nil)) ⟨(by assumption), trivial⟩ (rg 8) [dI p.vars, dI p.arrays, dT p.body, .box [iA (↑(yRvF0 p d s c).snd : Int)], dE s.index.kids, dE s.value.kids, dT s.body, dT s.els] [(8, bA (yRvF0 p d s c).fst)] [IntKind.i64.wrap (n + (1 : Int)) = n + (1 : Int), IntKind.i64.wrap (n + (1 : Int)) = n + (1 : Int)] ⟨(by exact w64 (by omega) (by omega)), (by exact w64 (by omega) (by omega)), trivial⟩ fun ρ a w G => th_n (wp_ret ?_); exact rx_ret (v := bA (stmtsF p.vars.length p.arrays.length d (stmtsF p.vars.length p.arrays.length d (c + 1) s.body).snd s.els).fst) G (rg 8) (by kernel_rfl) (by kernel_rfl) (by show _ = List.map (It.ren (nth (rg 8))) (yRvF2 p d s c); unfold yRvF2; rw [stmtF_els (by omega) (by (rw [head1 (by omega)]; exact and_t (by omega) (by assumption) (by assumption))) (by assumption)] <;> rfl) (by have e1 : ((stmtF p.vars.length p.arrays.length (d + 1) c s).fst : Bool) = ((stmtsF p.vars.length p.arrays.length d (stmtsF p.vars.length p.arrays.length d (c + 1) s.body).snd s.els).fst) := (by rw [stmtF_els (by omega) (by (rw [head1 (by omega)]; exact and_t (by omega) (by assumption) (by assumption))) (by assumption)]; done); (first | rw [e1] | simp only [e1]) <;> rfl)
          · have q30 : (rightB p.vars.length p.arrays.length s.value) = false := (Eq.mp (Bool.not_eq_true' _) h30); refine rs1s G ⟨[(20, _, [4]), (30, _, [0, 1, 2, 5])], [(false, false), (true, true), (!noneB s.index, false), (!rightB p.vars.length p.arrays.length s.value, true)], us [(2, 7, 0), (12, 12, 0), (1013, 1013, 0), (15, 17, 0), (18, 21, 1), (22, 22, 0), (1022, 1022, 1), (1023, 1023, 0), (25, 26, 2), (27, 31, 1), (32, 32, 2), (1032, 1032, 1), (1033, 1033, 2), (35, 37, 3), (42, 42, 3), (1043, 1043, 3)]⟩ (calls_cons (c_isNone (s.index)) (calls_cons (c_expr (p) (s.value)) calls_nil)) ⟨(by kernel_rfl), (by kernel_rfl), (by assumption), (by assumption), trivial⟩ [(2, iA n), (3, .ptr 3 0), (4, .ptr 8 0), (5, .ptr 9 0), (8, bA false), (132, bA true)] [] trivial fun ρ a w G => th_n ?_; refine rT G (true) (by kernel_rfl) ?_; refine wp_seq ?_; refine rs0s G [(2, iA n), (3, .ptr 3 0), (4, .ptr 8 0), (5, .ptr 9 0), (8, bA false)] fun ρ a w G => th_n (wp_ret (th_r ?_)); exact rx_ret (v := bA false) G (rg 8) (by kernel_rfl) (by kernel_rfl) (by show _ = List.map (It.ren (nth (rg 8))) (yRvF2 p d s c); unfold yRvF2; rw [stmtF_bad (by (rw [head1 (by omega)]; simp [h100, h0, q0, h1, q1, h2, q2, h25, q25, h26, q26, h27, q27, h28, q28, h29, q29, h30, q30]; done))] <;> rfl) (by have e1 : ((stmtF p.vars.length p.arrays.length (d + 1) c s).fst : Bool) = (false) := (by rw [stmtF_bad (by (rw [head1 (by omega)]; simp [h100, h0, q0, h1, q1, h2, q2, h25, q25, h26, q26, h27, q27, h28, q28, h29, q29, h30, q30]; done))]; done); (first | rw [e1] | simp only [e1]) <;> rfl)
         · have q29 : (noneB s.index) = false := (Eq.mp (Bool.not_eq_true' _) h29); refine rs1s G ⟨[(20, _, [4])], [(false, false), (true, true), (!noneB s.index, true)], us [(2, 7, 0), (12, 12, 0), (1013, 1013, 0), (15, 17, 0), (18, 21, 1), (22, 22, 0), (1022, 1022, 1), (1023, 1023, 0), (25, 26, 2), (32, 32, 2), (1033, 1033, 2), (35, 37, 1), (42, 42, 1), (1043, 1043, 1)]⟩ (calls_cons (c_isNone (s.index)) calls_nil) ⟨(by kernel_rfl), (by kernel_rfl), (by assumption), trivial⟩ [(2, iA n), (3, .ptr 3 0), (4, .ptr 8 0), (5, .ptr 9 0), (8, bA false), (132, bA true)] [] trivial fun ρ a w G => th_n ?_; refine rT G (true) (by kernel_rfl) ?_; refine wp_seq ?_; refine rs0s G [(2, iA n), (3, .ptr 3 0), (4, .ptr 8 0), (5, .ptr 9 0), (8, bA false)] fun ρ a w G => th_n (wp_ret (th_r ?_)); exact rx_ret (v := bA false) G (rg 8) (by kernel_rfl) (by kernel_rfl) (by show _ = List.map (It.ren (nth (rg 8))) (yRvF2 p d s c); unfold yRvF2; rw [stmtF_bad (by (rw [head1 (by omega)]; simp [h100, h0, q0, h1, q1, h2, q2, h25, q25, h26, q26, h27, q27, h28, q28, h29, q29]; done))] <;> rfl) (by have e1 : ((stmtF p.vars.length p.arrays.length (d + 1) c s).fst : Bool) = (false) := (by rw [stmtF_bad (by (rw [head1 (by omega)]; simp [h100, h0, q0, h1, q1, h2, q2, h25, q25, h26, q26, h27, q27, h28, q28, h29, q29]; done))]; done); (first | rw [e1] | simp only [e1]) <;> rfl)
        · have q28 : (↑s.els.length : Int) > 0 := dTt h28; refine rT G (decide ((↑s.els.length : Int) > (0 : Int))) (by assumption) ?_; refine wp_seq ?_; refine rs0s G [(2, iA n), (3, .ptr 3 0), (4, .ptr 8 0), (5, .ptr 9 0), (8, bA false), (10, bA false), (11, bA true)] fun ρ a w G => th_n (wp_ret (th_r ?_)); exact rx_ret (v := bA false) G (rg 8) (by kernel_rfl) (by kernel_rfl) (by show _ = List.map (It.ren (nth (rg 8))) (yRvF2 p d s c); unfold yRvF2; rw [stmtF_bad (by (rw [head1 (by omega), decide_eq_false (by omega)]; rfl))] <;> rfl) (by have e1 : ((stmtF p.vars.length p.arrays.length (d + 1) c s).fst : Bool) = (false) := (by rw [stmtF_bad (by (rw [head1 (by omega), decide_eq_false (by omega)]; rfl))]; done); (first | rw [e1] | simp only [e1]) <;> rfl)
       · have q27 : (↑s.body.length : Int) > 0 := dTt h27; refine rs1s G ⟨[(4, _, [])], [(!(decide ((0 : Int) ≤ s.target) && decide (s.target ≤ (↑p.vars.length : Int) - (1 : Int))), false), (false, false), (true, true), (s.count != (0 : Int), false), (decide ((↑s.body.length : Int) > (0 : Int)), true)], us [(7, 8, 0), (9, 12, 1), (13, 13, 0), (1013, 1013, 1), (1014, 1014, 0), (16, 18, 1), (19, 21, 2), (22, 22, 1), (1022, 1022, 2), (1023, 1023, 1), (25, 27, 3), (28, 31, 2), (32, 32, 3), (1032, 1032, 2), (1033, 1033, 3), (35, 37, 4), (42, 42, 4), (1043, 1043, 4)]⟩ (calls_cons (c_within (s.target) (0) ((↑p.vars.length : Int) - 1)) calls_nil) ⟨(by assumption), (by kernel_rfl), (by kernel_rfl), (by assumption), (by assumption), trivial⟩ [(2, iA n), (3, .ptr 3 0), (4, .ptr 8 0), (5, .ptr 9 0), (8, bA false), (10, bA false), (11, bA true), (88, bA true)] [IntKind.i64.wrap ((↑p.vars.length : Int) - (1 : Int)) = (↑p.vars.length : Int) - (1 : Int)] ⟨(by exact w64 (by omega) (by omega)), trivial⟩ fun ρ a w G => th_n ?_; refine rT G (true) (by kernel_rfl) ?_; refine wp_seq ?_; refine rs0s G [(2, iA n), (3, .ptr 3 0), (4, .ptr 8 0), (5, .ptr 9 0), (8, bA false), (10, bA false), (11, bA true)] fun ρ a w G => th_n (wp_ret (th_r ?_)); exact rx_ret (v := bA false) G (rg 8) (by kernel_rfl) (by kernel_rfl) (by show _ = List.map (It.ren (nth (rg 8))) (yRvF2 p d s c); unfold yRvF2; rw [stmtF_bad (by (rw [head1 (by omega), decide_eq_false (by omega)]; rfl))] <;> rfl) (by have e1 : ((stmtF p.vars.length p.arrays.length (d + 1) c s).fst : Bool) = (false) := (by rw [stmtF_bad (by (rw [head1 (by omega), decide_eq_false (by omega)]; rfl))]; done); (first | rw [e1] | simp only [e1]) <;> rfl)
      · have q26 : ¬ (s.count = 0) := bne_iff_ne.1 h26; refine rs1s G ⟨[(4, _, [])], [(!(decide ((0 : Int) ≤ s.target) && decide (s.target ≤ (↑p.vars.length : Int) - (1 : Int))), false), (false, false), (true, true), (s.count != (0 : Int), true)], us [(7, 8, 0), (9, 12, 1), (13, 13, 0), (1013, 1013, 1), (1014, 1014, 0), (16, 18, 1), (19, 21, 2), (22, 22, 1), (1022, 1022, 2), (1023, 1023, 1), (25, 27, 3), (32, 32, 3), (1033, 1033, 3), (35, 37, 2), (42, 42, 2), (1043, 1043, 2)]⟩ (calls_cons (c_within (s.target) (0) ((↑p.vars.length : Int) - 1)) calls_nil) ⟨(by assumption), (by kernel_rfl), (by kernel_rfl), (by assumption), trivial⟩ [(2, iA n), (3, .ptr 3 0), (4, .ptr 8 0), (5, .ptr 9 0), (8, bA false), (10, bA false), (11, bA true), (88, bA true)] [IntKind.i64.wrap ((↑p.vars.length : Int) - (1 : Int)) = (↑p.vars.length : Int) - (1 : Int)] ⟨(by exact w64 (by omega) (by omega)), trivial⟩ fun ρ a w G => th_n ?_; refine rT G (true) (by kernel_rfl) ?_; refine wp_seq ?_; refine rs0s G [(2, iA n), (3, .ptr 3 0), (4, .ptr 8 0), (5, .ptr 9 0), (8, bA false), (10, bA false), (11, bA true)] fun ρ a w G => th_n (wp_ret (th_r ?_)); exact rx_ret (v := bA false) G (rg 8) (by kernel_rfl) (by kernel_rfl) (by show _ = List.map (It.ren (nth (rg 8))) (yRvF2 p d s c); unfold yRvF2; rw [stmtF_bad (by (rw [head1 (by omega), decide_eq_false (by omega)]; rfl))] <;> rfl) (by have e1 : ((stmtF p.vars.length p.arrays.length (d + 1) c s).fst : Bool) = (false) := (by rw [stmtF_bad (by (rw [head1 (by omega), decide_eq_false (by omega)]; rfl))]; done); (first | rw [e1] | simp only [e1]) <;> rfl)
     · have q25 : (¬ (0 ≤ s.target)) ∨ (¬ (s.target ≤ (↑p.vars.length : Int) - 1)) := (fun hq => Or.imp (fun hq => of_decide_eq_false (hq)) (fun hq => of_decide_eq_false (hq)) (Bool.and_eq_false_iff.1 (hq))) (Eq.mp (Bool.not_eq_true' _) h25); refine rs1s G ⟨[(4, _, [])], [(!(decide ((0 : Int) ≤ s.target) && decide (s.target ≤ (↑p.vars.length : Int) - (1 : Int))), true), (true, true)], [(7, 0), (8, 0), (13, 0), (1014, 0), (16, 1), (17, 1), (18, 1), (22, 1), (1023, 1), (25, 1), (26, 1), (27, 1), (32, 1), (1033, 1), (35, 1), (36, 1), (37, 1), (42, 1), (1043, 1)]⟩ (calls_cons (c_within (s.target) (0) ((↑p.vars.length : Int) - 1)) calls_nil) ⟨(by assumption), (by kernel_rfl), trivial⟩ [(2, iA n), (3, .ptr 3 0), (4, .ptr 8 0), (5, .ptr 9 0), (8, bA false), (10, bA false), (11, bA true), (88, bA true)] [IntKind.i64.wrap ((↑p.vars.length : Int) - (1 : Int)) = (↑p.vars.length : Int) - (1 : Int)] ⟨(by exact w64 (by omega) (by omega)), trivial⟩ fun ρ a w G => th_n ?_; refine rT G (true) (by kernel_rfl) ?_; refine wp_seq ?_; refine rs0s G [(2, iA n), (3, .ptr 3 0), (4, .ptr 8 0), (5, .ptr 9 0), (8, bA false), (10, bA false), (11, bA true)] fun ρ a w G => th_n (wp_ret (th_r ?_)); exact rx_ret (v := bA false) G (rg 8) (by kernel_rfl) (by kernel_rfl) (by show _ = List.map (It.ren (nth (rg 8))) (yRvF2 p d s c); unfold yRvF2; rw [stmtF_bad (by (rw [head1 (by omega), decide_eq_false (by omega)]; rfl))] <;> rfl) (by have e1 : ((stmtF p.vars.length p.arrays.length (d + 1) c s).fst : Bool) = (false) := (by rw [stmtF_bad (by (rw [head1 (by omega), decide_eq_false (by omega)]; rfl))]; done); (first | rw [e1] | simp only [e1]) <;> rfl)
   ·
    have q1 : s.kind = 1 := eq_of_beq h1; refine rT G (s.kind == (1 : Int)) (by assumption) ?_; refine wp_skip (th_n ?_); refine rT G (s.kind == (1 : Int)) (by assumption) ?_; refine rs0s G [(2, iA n), (3, .ptr 3 0), (4, .ptr 8 0), (5, .ptr 9 0), (8, bA false), (9, iA (↑p.vars.length : Int)), (10, bA false), (11, bA true), (12, bA false), (13, bA false), (14, bA false)] ?_; intro ρ a w G; refine bl_n ?_; refine th_n (wp_seq (wp_seq ?_)); cases h32 : (!(decide ((0 : Int) ≤ s.target) && decide (s.target ≤ (↑p.vars.length : Int) - (1 : Int))))
    ·
     have q32 : (0 ≤ s.target) ∧ (s.target ≤ (↑p.vars.length : Int) - 1) := (fun hq => And.imp (fun hq => of_decide_eq_true (hq)) (fun hq => of_decide_eq_true (hq)) (Bool.and_eq_true_iff.1 (hq))) (Eq.mp (Bool.not_eq_false' _) h32); cases h33 : (s.count != (0 : Int))
     ·
      have q33 : s.count = 0 := (by simpa using h33); cases h34 : (decide ((↑s.body.length : Int) > (0 : Int)))
      ·
       have q34 : ¬ ((↑s.body.length : Int) > 0) := dFf h34; refine rs1s G ⟨[(4, _, [])], [(!(decide ((0 : Int) ≤ s.target) && decide (s.target ≤ (↑p.vars.length : Int) - (1 : Int))), false), (false, false), (true, true), (s.count != (0 : Int), false), (decide ((↑s.body.length : Int) > (0 : Int)), false)], us [(7, 8, 0), (9, 12, 1), (13, 13, 0), (1013, 1013, 1), (1014, 1014, 0), (16, 18, 1), (19, 21, 2), (22, 22, 1), (1022, 1022, 2), (1023, 1023, 1), (25, 27, 3), (28, 31, 2), (32, 32, 3), (1032, 1032, 2), (1033, 1033, 3), (35, 37, 4), (38, 41, 2), (42, 42, 4), (1042, 1042, 2), (1043, 1043, 4)]⟩ (calls_cons (c_within (s.target) (0) ((↑p.vars.length : Int) - 1)) calls_nil) ⟨(by assumption), (by kernel_rfl), (by kernel_rfl), (by assumption), (by assumption), trivial⟩ [(2, iA n), (3, .ptr 3 0), (4, .ptr 8 0), (5, .ptr 9 0), (8, bA false), (10, bA false), (11, bA true), (88, bA (decide ((↑s.els.length : Int) > 0)))] [IntKind.i64.wrap ((↑p.vars.length : Int) - (1 : Int)) = (↑p.vars.length : Int) - (1 : Int)] ⟨(by exact w64 (by omega) (by omega)), trivial⟩ fun ρ a w G => th_n ?_; cases h35 : (decide ((↑s.els.length : Int) > (0 : Int)))
       ·
        have q35 : ¬ ((↑s.els.length : Int) > 0) := dFf h35; refine rF G (decide ((↑s.els.length : Int) > (0 : Int))) (by assumption) ?_; refine wp_skip (th_n (wp_seq (wp_seq ?_))); cases h36 : (!noneB s.index)
        ·
         have q36 : (noneB s.index) = true := (Eq.mp (Bool.not_eq_false' _) h36); cases h37 : (!rightB p.vars.length p.arrays.length s.value)
         ·
          have q37 : (rightB p.vars.length p.arrays.length s.value) = true := (Eq.mp (Bool.not_eq_false' _) h37); refine rs1s G ⟨[(20, _, [4]), (30, _, [0, 1, 2, 5])], [(false, false), (true, true), (!noneB s.index, false), (!rightB p.vars.length p.arrays.length s.value, false)], us [(2, 7, 0), (12, 12, 0), (1013, 1013, 0), (15, 17, 0), (18, 21, 1), (22, 22, 0), (1022, 1022, 1), (1023, 1023, 0), (25, 26, 2), (27, 31, 1), (32, 32, 2), (1032, 1032, 1), (1033, 1033, 2), (35, 37, 3), (38, 41, 0), (42, 42, 3), (1042, 1042, 0), (1043, 1043, 3)]⟩ (calls_cons (c_isNone (s.index)) (calls_cons (c_expr (p) (s.value)) calls_nil)) ⟨(by kernel_rfl), (by kernel_rfl), (by assumption), (by assumption), trivial⟩ [(2, iA n), (3, .ptr 3 0), (4, .ptr 8 0), (5, .ptr 9 0), (8, bA false), (132, bA false)] [] trivial fun ρ a w G => th_n ?_; refine rF G (false) (by kernel_rfl) ?_; refine wp_skip (th_n (wp_seq ?_)); cases h38 : ((stmtsF p.vars.length p.arrays.length d (c + (1 : Nat)) s.body).fst)
          · refine rs1 (dk := dkP) G ⟨[(6, _, [0, 1, 2, 3, 6])], [((stmtsF p.vars.length p.arrays.length d (c + (1 : Nat)) s.body).fst, false)], us [(8, 14, 0), (1015, 1015, 0)]⟩ (calls_cons (ih (s.body) (c + 1) (n + 1) (by simp; omega) (by omega)) calls_nil) ⟨(by assumption), trivial⟩ (rg 8) [dI p.vars, dI p.arrays, dT p.body, .box [iA (↑(yRvF1 p d s c).snd : Int)], dE s.index.kids, dE s.value.kids, dT s.body, dT s.els] [(8, bA false)] [IntKind.i64.wrap (n + (1 : Int)) = n + (1 : Int)] ⟨(by exact w64 (by omega) (by omega)), trivial⟩ fun ρ a w G => th_n (wp_ret ?_); exact rx_ret (v := bA false) G (rg 8) (by kernel_rfl) (by kernel_rfl) (by show _ = List.map (It.ren (nth (rg 8))) (yRvF2 p d s c); unfold yRvF2; rw [stmtF_body (by omega) (by (rw [head1 (by omega)]; exact and_t (by omega) (by assumption) (by assumption))) (by assumption)] <;> rfl) (by have e1 : ((stmtF p.vars.length p.arrays.length (d + 1) c s).fst : Bool) = (false) := (by rw [stmtF_body (by omega) (by (rw [head1 (by omega)]; exact and_t (by omega) (by assumption) (by assumption))) (by assumption)]; assumption); (first | rw [e1] | simp only [e1]) <;> rfl)
          · refine rs1 (dk := dkP) G ⟨[(6, _, [0, 1, 2, 3, 6]), (14, _, [0, 1, 2, 3, 7])], [((stmtsF p.vars.length p.arrays.length d (c + (1 : Nat)) s.body).fst, true)], us [(8, 14, 0), (1015, 1015, 0)]⟩ (calls_cons (ih (s.body) (c + 1) (n + 1) (by simp; omega) (by omega)) (calls_cons (ih (s.els) ((yRvF1 p d s c).snd) (n + 1) (by exact stmtsF_le (by omega) (by assumption)) (by omega)) calls_nil)) ⟨(by assumption), trivial⟩ (rg 8) [dI p.vars, dI p.arrays, dT p.body, .box [iA (↑(yRvF0 p d s c).snd : Int)], dE s.index.kids, dE s.value.kids, dT s.body, dT s.els] [(8, bA (yRvF0 p d s c).fst)] [IntKind.i64.wrap (n + (1 : Int)) = n + (1 : Int), IntKind.i64.wrap (n + (1 : Int)) = n + (1 : Int)] ⟨(by exact w64 (by omega) (by omega)), (by exact w64 (by omega) (by omega)), trivial⟩ fun ρ a w G => th_n (wp_ret ?_); exact rx_ret (v := bA (stmtsF p.vars.length p.arrays.length d (stmtsF p.vars.length p.arrays.length d (c + 1) s.body).snd s.els).fst) G (rg 8) (by kernel_rfl) (by kernel_rfl) (by show _ = List.map (It.ren (nth (rg 8))) (yRvF2 p d s c); unfold yRvF2; rw [stmtF_els (by omega) (by (rw [head1 (by omega)]; exact and_t (by omega) (by assumption) (by assumption))) (by assumption)] <;> rfl) (by have e1 : ((stmtF p.vars.length p.arrays.length (d + 1) c s).fst : Bool) = ((stmtsF p.vars.length p.arrays.length d (stmtsF p.vars.length p.arrays.length d (c + 1) s.body).snd s.els).fst) := (by rw [stmtF_els (by omega) (by (rw [head1 (by omega)]; exact and_t (by omega) (by assumption) (by assumption))) (by assumption)]; done); (first | rw [e1] | simp only [e1]) <;> rfl)
         · have q37 : (rightB p.vars.length p.arrays.length s.value) = false := (Eq.mp (Bool.not_eq_true' _) h37); refine rs1s G ⟨[(20, _, [4]), (30, _, [0, 1, 2, 5])], [(false, false), (true, true), (!noneB s.index, false), (!rightB p.vars.length p.arrays.length s.value, true)], us [(2, 7, 0), (12, 12, 0), (1013, 1013, 0), (15, 17, 0), (18, 21, 1), (22, 22, 0), (1022, 1022, 1), (1023, 1023, 0), (25, 26, 2), (27, 31, 1), (32, 32, 2), (1032, 1032, 1), (1033, 1033, 2), (35, 37, 3), (42, 42, 3), (1043, 1043, 3)]⟩ (calls_cons (c_isNone (s.index)) (calls_cons (c_expr (p) (s.value)) calls_nil)) ⟨(by kernel_rfl), (by kernel_rfl), (by assumption), (by assumption), trivial⟩ [(2, iA n), (3, .ptr 3 0), (4, .ptr 8 0), (5, .ptr 9 0), (8, bA false), (132, bA true)] [] trivial fun ρ a w G => th_n ?_; refine rT G (true) (by kernel_rfl) ?_; refine wp_seq ?_; refine rs0s G [(2, iA n), (3, .ptr 3 0), (4, .ptr 8 0), (5, .ptr 9 0), (8, bA false)] fun ρ a w G => th_n (wp_ret (th_r ?_)); exact rx_ret (v := bA false) G (rg 8) (by kernel_rfl) (by kernel_rfl) (by show _ = List.map (It.ren (nth (rg 8))) (yRvF2 p d s c); unfold yRvF2; rw [stmtF_bad (by (rw [head1 (by omega)]; simp [h100, h0, q0, h1, q1, h32, q32, h33, q33, h34, q34, h35, q35, h36, q36, h37, q37]; done))] <;> rfl) (by have e1 : ((stmtF p.vars.length p.arrays.length (d + 1) c s).fst : Bool) = (false) := (by rw [stmtF_bad (by (rw [head1 (by omega)]; simp [h100, h0, q0, h1, q1, h32, q32, h33, q33, h34, q34, h35, q35, h36, q36, h37, q37]; done))]; done); (first | rw [e1] | simp only [e1]) <;> rfl)
        · have q36 : (noneB s.index) = false := (Eq.mp (Bool.not_eq_true' _) h36); refine rs1s G ⟨[(20, _, [4])], [(false, false), (true, true), (!noneB s.index, true)], us [(2, 7, 0), (12, 12, 0), (1013, 1013, 0), (15, 17, 0), (18, 21, 1), (22, 22, 0), (1022, 1022, 1), (1023, 1023, 0), (25, 26, 2), (32, 32, 2), (1033, 1033, 2), (35, 37, 1), (42, 42, 1), (1043, 1043, 1)]⟩ (calls_cons (c_isNone (s.index)) calls_nil) ⟨(by kernel_rfl), (by kernel_rfl), (by assumption), trivial⟩ [(2, iA n), (3, .ptr 3 0), (4, .ptr 8 0), (5, .ptr 9 0), (8, bA false), (132, bA true)] [] trivial fun ρ a w G => th_n ?_; refine rT G (true) (by kernel_rfl) ?_; refine wp_seq ?_; refine rs0s G [(2, iA n), (3, .ptr 3 0), (4, .ptr 8 0), (5, .ptr 9 0), (8, bA false)] fun ρ a w G => th_n (wp_ret (th_r ?_)); exact rx_ret (v := bA false) G (rg 8) (by kernel_rfl) (by kernel_rfl) (by show _ = List.map (It.ren (nth (rg 8))) (yRvF2 p d s c); unfold yRvF2; rw [stmtF_bad (by (rw [head1 (by omega)]; simp [h100, h0, q0, h1, q1, h32, q32, h33, q33, h34, q34, h35, q35, h36, q36]; done))] <;> rfl) (by have e1 : ((stmtF p.vars.length p.arrays.length (d + 1) c s).fst : Bool) = (false) := (by rw [stmtF_bad (by (rw [head1 (by omega)]; simp [h100, h0, q0, h1, q1, h32, q32, h33, q33, h34, q34, h35, q35, h36, q36]; done))]; done); (first | rw [e1] | simp only [e1]) <;> rfl)
       · have q35 : (↑s.els.length : Int) > 0 := dTt h35; refine rT G (decide ((↑s.els.length : Int) > (0 : Int))) (by assumption) ?_; refine wp_seq ?_; refine rs0s G [(2, iA n), (3, .ptr 3 0), (4, .ptr 8 0), (5, .ptr 9 0), (8, bA false), (10, bA false), (11, bA true)] fun ρ a w G => th_n (wp_ret (th_r ?_)); exact rx_ret (v := bA false) G (rg 8) (by kernel_rfl) (by kernel_rfl) (by show _ = List.map (It.ren (nth (rg 8))) (yRvF2 p d s c); unfold yRvF2; rw [stmtF_bad (by (rw [head1 (by omega), decide_eq_false (by omega)]; rfl))] <;> rfl) (by have e1 : ((stmtF p.vars.length p.arrays.length (d + 1) c s).fst : Bool) = (false) := (by rw [stmtF_bad (by (rw [head1 (by omega), decide_eq_false (by omega)]; rfl))]; done); (first | rw [e1] | simp only [e1]) <;> rfl)
      · have q34 : (↑s.body.length : Int) > 0 := dTt h34; refine rs1s G ⟨[(4, _, [])], [(!(decide ((0 : Int) ≤ s.target) && decide (s.target ≤ (↑p.vars.length : Int) - (1 : Int))), false), (false, false), (true, true), (s.count != (0 : Int), false), (decide ((↑s.body.length : Int) > (0 : Int)), true)], us [(7, 8, 0), (9, 12, 1), (13, 13, 0), (1013, 1013, 1), (1014, 1014, 0), (16, 18, 1), (19, 21, 2), (22, 22, 1), (1022, 1022, 2), (1023, 1023, 1), (25, 27, 3), (28, 31, 2), (32, 32, 3), (1032, 1032, 2), (1033, 1033, 3), (35, 37, 4), (42, 42, 4), (1043, 1043, 4)]⟩ (calls_cons (c_within (s.target) (0) ((↑p.vars.length : Int) - 1)) calls_nil) ⟨(by assumption), (by kernel_rfl), (by kernel_rfl), (by assumption), (by assumption), trivial⟩ [(2, iA n), (3, .ptr 3 0), (4, .ptr 8 0), (5, .ptr 9 0), (8, bA false), (10, bA false), (11, bA true), (88, bA true)] [IntKind.i64.wrap ((↑p.vars.length : Int) - (1 : Int)) = (↑p.vars.length : Int) - (1 : Int)] ⟨(by exact w64 (by omega) (by omega)), trivial⟩ fun ρ a w G => th_n ?_; refine rT G (true) (by kernel_rfl) ?_; refine wp_seq ?_; refine rs0s G [(2, iA n), (3, .ptr 3 0), (4, .ptr 8 0), (5, .ptr 9 0), (8, bA false), (10, bA false), (11, bA true)] fun ρ a w G => th_n (wp_ret (th_r ?_)); exact rx_ret (v := bA false) G (rg 8) (by kernel_rfl) (by kernel_rfl) (by show _ = List.map (It.ren (nth (rg 8))) (yRvF2 p d s c); unfold yRvF2; rw [stmtF_bad (by (rw [head1 (by omega), decide_eq_false (by omega)]; rfl))] <;> rfl) (by have e1 : ((stmtF p.vars.length p.arrays.length (d + 1) c s).fst : Bool) = (false) := (by rw [stmtF_bad (by (rw [head1 (by omega), decide_eq_false (by omega)]; rfl))]; done); (first | rw [e1] | simp only [e1]) <;> rfl)
     · have q33 : ¬ (s.count = 0) := bne_iff_ne.1 h33; refine rs1s G ⟨[(4, _, [])], [(!(decide ((0 : Int) ≤ s.target) && decide (s.target ≤ (↑p.vars.length : Int) - (1 : Int))), false), (false, false), (true, true), (s.count != (0 : Int), true)], us [(7, 8, 0), (9, 12, 1), (13, 13, 0), (1013, 1013, 1), (1014, 1014, 0), (16, 18, 1), (19, 21, 2), (22, 22, 1), (1022, 1022, 2), (1023, 1023, 1), (25, 27, 3), (32, 32, 3), (1033, 1033, 3), (35, 37, 2), (42, 42, 2), (1043, 1043, 2)]⟩ (calls_cons (c_within (s.target) (0) ((↑p.vars.length : Int) - 1)) calls_nil) ⟨(by assumption), (by kernel_rfl), (by kernel_rfl), (by assumption), trivial⟩ [(2, iA n), (3, .ptr 3 0), (4, .ptr 8 0), (5, .ptr 9 0), (8, bA false), (10, bA false), (11, bA true), (88, bA true)] [IntKind.i64.wrap ((↑p.vars.length : Int) - (1 : Int)) = (↑p.vars.length : Int) - (1 : Int)] ⟨(by exact w64 (by omega) (by omega)), trivial⟩ fun ρ a w G => th_n ?_; refine rT G (true) (by kernel_rfl) ?_; refine wp_seq ?_; refine rs0s G [(2, iA n), (3, .ptr 3 0), (4, .ptr 8 0), (5, .ptr 9 0), (8, bA false), (10, bA false), (11, bA true)] fun ρ a w G => th_n (wp_ret (th_r ?_)); exact rx_ret (v := bA false) G (rg 8) (by kernel_rfl) (by kernel_rfl) (by show _ = List.map (It.ren (nth (rg 8))) (yRvF2 p d s c); unfold yRvF2; rw [stmtF_bad (by (rw [head1 (by omega), decide_eq_false (by omega)]; rfl))] <;> rfl) (by have e1 : ((stmtF p.vars.length p.arrays.length (d + 1) c s).fst : Bool) = (false) := (by rw [stmtF_bad (by (rw [head1 (by omega), decide_eq_false (by omega)]; rfl))]; done); (first | rw [e1] | simp only [e1]) <;> rfl)
    · have q32 : (¬ (0 ≤ s.target)) ∨ (¬ (s.target ≤ (↑p.vars.length : Int) - 1)) := (fun hq => Or.imp (fun hq => of_decide_eq_false (hq)) (fun hq => of_decide_eq_false (hq)) (Bool.and_eq_false_iff.1 (hq))) (Eq.mp (Bool.not_eq_true' _) h32); refine rs1s G ⟨[(4, _, [])], [(!(decide ((0 : Int) ≤ s.target) && decide (s.target ≤ (↑p.vars.length : Int) - (1 : Int))), true), (true, true)], [(7, 0), (8, 0), (13, 0), (1014, 0), (16, 1), (17, 1), (18, 1), (22, 1), (1023, 1), (25, 1), (26, 1), (27, 1), (32, 1), (1033, 1), (35, 1), (36, 1), (37, 1), (42, 1), (1043, 1)]⟩ (calls_cons (c_within (s.target) (0) ((↑p.vars.length : Int) - 1)) calls_nil) ⟨(by assumption), (by kernel_rfl), trivial⟩ [(2, iA n), (3, .ptr 3 0), (4, .ptr 8 0), (5, .ptr 9 0), (8, bA false), (10, bA false), (11, bA true), (88, bA true)] [IntKind.i64.wrap ((↑p.vars.length : Int) - (1 : Int)) = (↑p.vars.length : Int) - (1 : Int)] ⟨(by exact w64 (by omega) (by omega)), trivial⟩ fun ρ a w G => th_n ?_; refine rT G (true) (by kernel_rfl) ?_; refine wp_seq ?_; refine rs0s G [(2, iA n), (3, .ptr 3 0), (4, .ptr 8 0), (5, .ptr 9 0), (8, bA false), (10, bA false), (11, bA true)] fun ρ a w G => th_n (wp_ret (th_r ?_)); exact rx_ret (v := bA false) G (rg 8) (by kernel_rfl) (by kernel_rfl) (by show _ = List.map (It.ren (nth (rg 8))) (yRvF2 p d s c); unfold yRvF2; rw [stmtF_bad (by (rw [head1 (by omega), decide_eq_false (by omega)]; rfl))] <;> rfl) (by have e1 : ((stmtF p.vars.length p.arrays.length (d + 1) c s).fst : Bool) = (false) := (by rw [stmtF_bad (by (rw [head1 (by omega), decide_eq_false (by omega)]; rfl))]; done); (first | rw [e1] | simp only [e1]) <;> rfl)
  · have q0 : (↑c : Int) + 1 > 60 := dTt h0; refine rs1s G ⟨[], [(decide ((↑c : Int) + (1 : Int) > (60 : Int)), true)], [(5, 0), (6, 0), (1007, 0)]⟩ calls_nil ⟨(by assumption), trivial⟩ [(2, iA n), (3, .ptr 3 0), (4, .ptr 8 0), (5, .ptr 9 0), (8, bA false), (27, bA true)] [] trivial fun ρ a w G => th_n ?_; refine rT G (true) (by kernel_rfl) ?_; refine wp_seq ?_; refine rs0s G [(2, iA n), (3, .ptr 3 0), (4, .ptr 8 0), (5, .ptr 9 0), (8, bA false)] fun ρ a w G => th_n (wp_ret (th_r ?_)); exact rx_ret (v := bA false) G (rg 8) (by kernel_rfl) (by kernel_rfl) (by show _ = List.map (It.ren (nth (rg 8))) (yRvF2 p d s c); unfold yRvF2; have e1 : ((↑(stmtF p.vars.length p.arrays.length (d + 1) c s).snd : Int) : Int) = ((↑c : Int) + 1) := (by simp [stmtF_over (d := d + 1) (s := s) (show 60 < c + 1 by omega)]; done); (first | rw [e1] | simp only [e1]) <;> rfl) (by have e1 : ((stmtF p.vars.length p.arrays.length (d + 1) c s).fst : Bool) = (false) := (by simp [stmtF_over (d := d + 1) (s := s) (show 60 < c + 1 by omega)]; done); (first | rw [e1] | simp only [e1]) <;> rfl)


theorem c_stmtsD (p : LProg) : ∀ (d : Nat), d ≤ 5 → ∀ (ss : List LStmt) (c : Nat) (n : Int), c ≤ 60 → n = 6 - (d : Int) → Ctr.ok Try.prog (stmtsC p d c ss n) := by
  intro d
  induction d with
  | zero => intro hd ss c n hc hn; exact c_stmtsS p 0 hd (fun s c n hc hn => c_stmt0 p s c hc n (by omega)) ss c n hc hn
  | succ d ih => intro hd ss c n hc hn; exact c_stmtsS p (d + 1) hd (fun s c n hc hn => c_stmtS p d (by omega) (ih (by omega)) s c n hc (by omega)) ss c n hc hn
theorem c_stmtsBody (p : LProg) (n : Int) (hn : n = 1) : Ctr.ok Try.prog ⟨83, [pA 0, .ref 2, iA n, .ptr 3 0], pS p ++ [.box [iA 0]], pS p ++ [.box [iA (stmtsF p.vars.length p.arrays.length 5 0 p.body).2]], bA (stmtsF p.vars.length p.arrays.length 5 0 p.body).1⟩ :=
  Ctr.dup (S := pS p ++ [.box [iA 0]]) (S' := pS p ++ [.box [iA (stmtsF p.vars.length p.arrays.length 5 0 p.body).2]]) (d := .stmts p.body) (i := 2) (c_stmtsD p 5 (by omega) p.body 0 n (by omega) (by omega)) rfl rfl rfl (fun ρ h => by simp only [AV.vals, AV.val]; rw [show ρ 4 = ρ 2 from h]) rfl

set_option maxRecDepth 100000 in
theorem c_iProgramValid (p : LProg) : Ctr.ok Try.prog (fnC 42 [pA 0] (pS p) (bA (progB p))) := by
  refine rx_enter 15 Try.func42 (by rfl) (by kernel_rfl) (by kernel_rfl) ?_; intro ι φ ψ w0 w F ρ0 ρ a G; replace G := Gam.at G [dI p.vars, dI p.arrays, dT p.body] [(0, pA 0)]; refine wp_seq ?_; refine rs0 G (rg 4) [dI p.vars, dI p.arrays, dT p.body, .box (pL 0)] [(1, .ptr 3 0), (2, bA false)] fun ρ a w G => th_n (wp_seq ?_); refine rs0 G (rg 5) [dI p.vars, dI p.arrays, dT p.body, .box (pL 0), .box [iA 0]] [(1, .ptr 3 0), (2, bA false), (3, .ptr 4 0)] fun ρ a w G => th_n (wp_seq ?_); cases h0 : (headsB p.vars p.arrays)
  · refine rs1 (dk := dkP) G ⟨[(4, _, [0, 1])], [(headsB p.vars p.arrays, false)], us [(6, 9, 0), (1010, 1010, 0)]⟩ (calls_cons (c_declared (p.vars) (p.arrays)) calls_nil) ⟨(by assumption), trivial⟩ [0, 1, 2] [dI p.vars, dI p.arrays, dT p.body] [(2, bA false)] [] trivial fun ρ a w G => th_n (wp_ret ?_); exact rx_ret (v := bA false) G [0, 1, 2] (by kernel_rfl) (by kernel_rfl) (by kernel_rfl) (by have e1 : (progB p : Bool) = (false) := (by exact progB_heads (by assumption)); (first | rw [e1] | simp only [e1]) <;> rfl)
  · refine rs1 (dk := dkP) G ⟨[(4, _, [0, 1]), (9, _, [0, 1, 2, 4])], [(headsB p.vars p.arrays, true)], us [(6, 9, 0), (1010, 1010, 0)]⟩ (calls_cons (c_declared (p.vars) (p.arrays)) (calls_cons (c_stmtsBody (p) (1) (by kernel_rfl)) calls_nil)) ⟨(by assumption), trivial⟩ [0, 1, 2] [dI p.vars, dI p.arrays, dT p.body] [(2, bA (stmtsF p.vars.length p.arrays.length 5 0 p.body).fst)] [] trivial fun ρ a w G => th_n (wp_ret ?_); exact rx_ret (v := bA (stmtsF p.vars.length p.arrays.length 5 0 p.body).fst) G [0, 1, 2] (by kernel_rfl) (by kernel_rfl) (by kernel_rfl) (by have e1 : (progB p : Bool) = ((stmtsF p.vars.length p.arrays.length 5 0 p.body).fst) := (by rw [← stmtsF_prog (p := p) (by assumption)]); (first | rw [e1] | simp only [e1]) <;> rfl)

end Go.Proofs.Ytimmlkmpbmbgdaa
