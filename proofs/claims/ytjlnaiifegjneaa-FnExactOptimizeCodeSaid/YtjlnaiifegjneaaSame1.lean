/-
  Equality of lists of ints and of instructions: the reference's l2Ints, slices.Equal. Conditions: none.
-/
import Derived.Test.YtjlnaiifegjneaaLawCode
import Derived.Test.YtjlnaiifegjneaaMem
import Derived.Laws.StructEq
namespace Go.Proofs.Ytjlnaiifegjneaa
open Go Go.RowKit

theorem spec_l2Ints (v1 v2 : Value) (xs ys : List Int) (w : World) (h1 : Row w v1 xs.length 1 (ints xs)) (h2 : Row w v2 ys.length 1 (ints ys)) :
    Calls Try.prog 107 #[v1, v2] w fun e w' => e = .returned (.bool (decide (xs = ys))) ∧ ∃ n, w' = w.drewN n := by
  obtain ⟨a1, c1, rfl, -, hm1, -, hc1⟩ := h1.open1
  obtain ⟨a2, c2, rfl, -, hm2, -, hc2⟩ := h2.open1
  by_cases hl : xs.length = ys.length
  · rw [← hl] at hc2 ⊢
    clear h1 h2 hm2
    go_enter Try.func107, Try.ntmps107
    go_wp2
    go_loopw [5] (fun i wr => ∃ k : Nat, k ≤ xs.length ∧ i = .int .i64 k ∧ xs.take k = ys.take k ∧ ∃ n, wr = w.drewN n) (fun i _ => xs.length - (intOf i).toNat)
    case atStart => exact ⟨0, Nat.zero_le _, rfl, rfl, 0, rfl⟩
    case round =>
      obtain ⟨k, hk, rfl, ht, nd, rfl⟩ := hrel
      have HT : Hid (xs.take k = ys.take k) := ht
      clear ht
      have HL : Hid (xs.length = ys.length) := hl
      clear hl
      by_cases hlt : k < xs.length
      · have hlt2 : k < ys.length := by have := HL.out; omega
        obtain ⟨b1, o1, rfl, hb1, hx⟩ := hc1 k hlt
        obtain ⟨b2, o2, rfl, hb2, hy⟩ := hc2 k hlt
        rw [ints_get _ _ hlt] at hx
        rw [ints_get _ _ hlt2] at hy
        clear hc1 hc2
        go_wp2
        go_quiet (fail)
        go_wp2
        · rename_i hd
          go_ret
          exact ⟨ret_bool (by symm; simp; intro h; subst h; simp at hd), _, by first | rfl | exact World.drewN_drewN _ _ _⟩
        · rename_i hd
          refine ⟨⟨k + 1, by omega, by go_num, take_eq_succ HT.out hlt hlt2 (by simpa using hd), _, by first | rfl | exact World.drewN_drewN _ _ _⟩, by simp [intOf]; omega⟩
      · go_wp2
        go_ret
        exact ⟨ret_bool (by symm; simp; exact take_eq_all HT.out (by omega) (by have := HL.out; omega)), _, rfl⟩
  · have hne : ((xs.length : Int) == (ys.length : Int)) = false := by simp; omega
    clear hc1 hc2
    go_enter Try.func107, Try.ntmps107
    go_wp2
    go_ret
    exact ⟨ret_bool (by symm; simp; intro h; exact hl (by rw [h])), 0, rfl⟩

/-- Two instructions compared. -/
theorem ins_neq (x y : LIns) (w : World) : (binOp .neq 66 (.agg #[.int .i64 x.op, .int .i64 x.a, .int .i64 x.b, .int .i64 x.c, .int .i64 x.d]) (.agg #[.int .i64 y.op, .int .i64 y.a, .int .i64 y.b, .int .i64 y.c, .int .i64 y.d])).run Try.prog w = .ok (.bool (!decide (x.l = y.l))) w := by
  rw [run_neq_struct, run_equalIn_struct _ _ _ _ _ (by kernel_rfl) (by kernel_rfl)]
  rw [show (Try.prog.fieldsOf 66).toList = [⟨ "Op", 3, 0, false, "", "", 0⟩, ⟨ "A", 3, 1, false, "", "", 8⟩, ⟨ "B", 3, 2, false, "", "", 16⟩, ⟨ "C", 3, 3, false, "", "", 24⟩, ⟨ "D", 3, 4, false, "", "", 32⟩] from by kernel_rfl]
  simp only [LIns.l, List.cons.injEq, and_true]
  simp [go_sem, Op.eqFields]
  (repeat' split) <;> simp_all

theorem equal_ints (v1 v2 : Value) (xs ys : List Int) (w : World) (h1 : Row w v1 xs.length 1 (ints xs)) (h2 : Row w v2 ys.length 1 (ints ys)) :
    Calls Try.prog 110 #[v1, v2] w fun e w' => e = .returned (.bool (decide (xs = ys))) ∧ ∃ n, w' = w.drewN n := by
  obtain ⟨a1, c1, rfl, -, hm1, -, hc1⟩ := h1.open1
  obtain ⟨a2, c2, rfl, -, hm2, -, hc2⟩ := h2.open1
  by_cases hl : xs.length = ys.length
  · have heq : ((xs.length : Int) == (ys.length : Int)) = true := by simp; omega
    have HL : Hid (xs.length = ys.length) := hl
    clear h1 h2 hl
    go_enter Try.func110, Try.ntmps110
    go_wp2
    go_loopw [5, 13] (fun _ i wr => ∃ k : Nat, k ≤ xs.length ∧ i = .int .i64 k ∧ xs.take k = ys.take k ∧ ∃ n, wr = w.drewN n) (fun _ i _ => xs.length - (intOf i).toNat)
    case atStart => exact ⟨0, Nat.zero_le _, rfl, rfl, 0, rfl⟩
    case round =>
      obtain ⟨k, hk, rfl, ht, nd, rfl⟩ := hrel
      have HT : Hid (xs.take k = ys.take k) := ht
      clear ht
      by_cases hlt : k < xs.length
      · have hlt2 : k < ys.length := by have := HL.out; omega
        obtain ⟨b1, o1, rfl, hb1, hx⟩ := hc1 k hlt
        obtain ⟨b2, o2, rfl, hb2, hy⟩ := hc2 k hlt2
        rw [ints_get _ _ hlt] at hx
        rw [ints_get _ _ hlt2] at hy
        clear hc1 hc2
        go_wp2
        go_quiet (fail)
        go_wp2
        · rename_i hd
          go_ret
          exact ⟨ret_bool (by symm; simp; intro h; subst h; simp at hd), _, by first | rfl | exact World.drewN_drewN _ _ _⟩
        · rename_i hd
          refine ⟨⟨k + 1, by omega, by go_num, take_eq_succ HT.out hlt hlt2 (by simpa using hd), _, by first | rfl | exact World.drewN_drewN _ _ _⟩, by simp [intOf]; omega⟩
      · have hge : decide ((k : Int) < (xs.length : Int)) = false := by simp; omega
        go_wp2
        go_ret
        exact ⟨ret_bool (by symm; simp; exact take_eq_all HT.out (by omega) (by have := HL.out; omega)), _, rfl⟩
  · have hne : ((xs.length : Int) == (ys.length : Int)) = false := by simp; omega
    clear hc1 hc2
    go_enter Try.func110, Try.ntmps110
    go_wp2
    go_ret
    exact ⟨ret_bool (by symm; simp; intro h; exact hl (by rw [h])), 0, rfl⟩

theorem equal_ins (v1 v2 : Value) (xs ys : List LIns) (w : World) (h1 : InsRow w v1 xs) (h2 : InsRow w v2 ys) :
    Calls Try.prog 111 #[v1, v2] w fun e w' => e = .returned (.bool (decide (insF xs = insF ys))) ∧ ∃ n, w' = w.drewN n := by
  obtain ⟨a1, c1, rfl, -, hm1, -, hc1⟩ := h1.ins
  obtain ⟨a2, c2, rfl, -, hm2, -, hc2⟩ := h2.ins
  by_cases hl : xs.length = ys.length
  · have heq : ((xs.length : Int) == (ys.length : Int)) = true := by simp; omega
    have HL : Hid (xs.length = ys.length) := hl
    clear h1 h2 hl
    go_enter Try.func111, Try.ntmps111
    go_wp2
    go_loopw [5, 13] (fun _ i wr => ∃ k : Nat, k ≤ xs.length ∧ i = .int .i64 k ∧ xs.take k = ys.take k ∧ ∃ n, wr = w.drewN n) (fun _ i _ => xs.length - (intOf i).toNat)
    case atStart => exact ⟨0, Nat.zero_le _, rfl, rfl, 0, rfl⟩
    case round =>
      obtain ⟨k, hk, rfl, ht, nd, rfl⟩ := hrel
      have HT : Hid (xs.take k = ys.take k) := ht
      clear ht
      by_cases hlt : k < xs.length
      · have hlt2 : k < ys.length := by have := HL.out; omega
        obtain ⟨b1, o1, e1, hb1, i0, i1, i2, i3, i4⟩ := hc1 k hlt
        obtain ⟨b2, o2, e2, hb2, j0, j1, j2, j3, j4⟩ := hc2 k hlt2
        have hq := fun w => ins_neq xs[k] ys[k] w
        have HE := show Hid _ from (fun (h : xs[k].l = ys[k].l) => take_eq_succ HT.out hlt hlt2 (LIns.ext' h))
        obtain ⟨q, hq0⟩ : ∃ q, q = !decide (xs[k].l = ys[k].l) := ⟨_, rfl⟩
        rw [← hq0] at hq
        have HQ0 := show Hid _ from hq0
        obtain ⟨x, hx⟩ : ∃ x, x = xs[k] := ⟨_, rfl⟩
        obtain ⟨y, hy⟩ : ∃ y, y = ys[k] := ⟨_, rfl⟩
        rw [← hx] at i0 i1 i2 i3 i4
        rw [← hy] at j0 j1 j2 j3 j4
        simp only [← hx, ← hy] at hq
        subst e1 e2
        clear hc1 hc2 hq0 hx hy
        cases q
        · go_wp2
          go_quiet (fail)
          go_wp2
          refine ⟨⟨k + 1, by omega, by go_num, HE.out (by have := HQ0.out; simpa using this), _, by first | rfl | exact World.drewN_drewN _ _ _⟩, by simp [intOf]; omega⟩
        · go_wp2
          go_quiet (fail)
          go_wp2
          go_ret
          exact ⟨ret_bool (by symm; simp; intro h; have := insF_inj h; subst this; simpa using HQ0.out), _, by first | rfl | exact World.drewN_drewN _ _ _⟩
      · go_wp2
        go_ret
        exact ⟨ret_bool (by symm; simp; exact congrArg insF (take_eq_all HT.out (by omega) (by have := HL.out; omega))), _, rfl⟩
  · have hne : ((xs.length : Int) == (ys.length : Int)) = false := by simp; omega
    clear hc1 hc2
    go_enter Try.func111, Try.ntmps111
    go_wp2
    go_ret
    exact ⟨ret_bool (by symm; simp; intro h; exact hl (by rw [insF_inj h])), 0, rfl⟩

set_option maxHeartbeats 1000000 in
theorem impl_CodeSame (v u : Value) (c d : LCode) (w : World) (h : CodeRow w v c) (h' : CodeRow w u d) :
    Calls Try.prog 82 #[v, u] w fun e w' => e = .returned (.bool (c.same d)) ∧ Below w.heap.size w w' := by
  obtain ⟨v1, v2, v3, rfl, h1, h2, h3⟩ := h
  obtain ⟨u1, u2, u3, rfl, g1, g2, g3⟩ := h'
  obtain ⟨W, hW, M⟩ : ∃ W, W = ((w.alloc (.cells #[v1, v2, v3] 36)).alloc (.cells #[u1, u2, u3] 36)) ∧ Mem (fun _ => True) (fun _ => True) w W [.box w.heap.size [v1, v2, v3], .box (w.heap.size + 1) [u1, u2, u3]] :=
    ⟨_, rfl, ((Mem.start fun _ _ => trivial).box _ _).box' _ _ (by simp)⟩
  have hs : Hid (c.same d = (decide (c.vars = d.vars) && decide (c.arrays = d.arrays) && decide (insF c.list = insF d.list))) := rfl
  have HR := show Hid (∀ W', Below W.heap.size W W' → (Row W' v1 c.vars.length 1 (ints c.vars) ∧ Row W' v2 c.arrays.length 1 (ints c.arrays) ∧ InsRow W' v3 c.list) ∧ Row W' u1 d.vars.length 1 (ints d.vars) ∧ Row W' u2 d.arrays.length 1 (ints d.arrays) ∧ InsRow W' u3 d.list) from fun W' k => by
    have bb := (M.call k).below fun _ _ => trivial
    exact ⟨⟨h1.below bb, h2.below bb, h3.below bb⟩, g1.below bb, g2.below bb, g3.below bb⟩
  have HB := show Hid (∀ n, Below w.heap.size w (W.drewN n)) from fun n => (M.call (below_drewN (Below.refl _ _) n)).below fun _ _ => trivial
  have x0 := M.c 0 0 rfl rfl
  have x1 := M.c 0 1 rfl rfl
  have x2 := M.c 0 2 rfl rfl
  have y0 := M.c 1 0 rfl rfl
  have y1 := M.c 1 1 rfl rfl
  have y2 := M.c 1 2 rfl rfl
  rw [hW] at x0 x1 x2 y0 y1 y2
  clear h1 h2 h3 g1 g2 g3 M
  go_enter Try.func82, Try.ntmps82
  go_wp2_with fail
  rw [← hW] at x0 x1 x2 y0 y1 y2 ⊢
  clear hW
  refine (equal_ints _ _ c.vars d.vars _ (HR.out _ (Below.refl _ _)).1.1 (HR.out _ (Below.refl _ _)).2.1).mono ?_
  rintro e w1 ⟨rfl, n1, rfl⟩
  by_cases q1 : c.vars = d.vars
  · rw [decide_eq_true q1]
    have Q1 := show Hid _ from q1
    clear q1
    go_wp2_with fail
    refine (equal_ints _ _ c.arrays d.arrays _ (HR.out _ (below_drewN (Below.refl _ _) n1)).1.2.1 (HR.out _ (below_drewN (Below.refl _ _) n1)).2.2.1).mono ?_
    rintro e w1 ⟨rfl, n2, rfl⟩
    by_cases q2 : c.arrays = d.arrays
    · rw [decide_eq_true q2]
      have Q2 := show Hid _ from q2
      clear q2
      go_wp2_with fail
      refine (equal_ins _ _ c.list d.list _ (HR.out _ (below_drewN (Below.refl _ _) (n1 + n2))).1.2.2 (HR.out _ (below_drewN (Below.refl _ _) (n1 + n2))).2.2.2).mono ?_
      rintro e w1 ⟨rfl, n3, rfl⟩
      obtain ⟨q, hq⟩ : ∃ q, q = decide (insF c.list = insF d.list) := ⟨_, rfl⟩
      rw [← hq]
      have HQ := show Hid _ from hq
      clear hq
      go_wp2_with fail
      go_ret
      exact ⟨ret_bool (by rw [hs.out, decide_eq_true Q1.out, decide_eq_true Q2.out, HQ.out]; rfl), HB.out _⟩
    · rw [decide_eq_false q2]
      go_wp2_with fail
      go_ret
      exact ⟨ret_bool (by rw [hs.out, decide_eq_false q2]; simp), HB.out _⟩
  · rw [decide_eq_false q1]
    go_wp2_with fail
    go_ret
    exact ⟨ret_bool (by rw [hs.out, decide_eq_false q1]; simp), HB.out _⟩

end Go.Proofs.Ytjlnaiifegjneaa
