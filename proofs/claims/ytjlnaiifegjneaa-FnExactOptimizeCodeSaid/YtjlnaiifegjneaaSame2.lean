/-
  Equality of code, the reference's. Conditions: none.
-/
import Derived.Test.YtjlnaiifegjneaaSame1
namespace Go.Proofs.Ytjlnaiifegjneaa
open Go Go.RowKit

set_option maxHeartbeats 2000000 in
theorem spec_CodeSame (v u : Value) (c d : LCode) (w : World) (h : CodeRow w v c) (h' : CodeRow w u d) :
    Calls Try.prog 80 #[v, u] w fun e w' => e = .returned (.bool (c.same d)) ∧ Below w.heap.size w w' := by
  obtain ⟨v1, v2, v3, rfl, h1, h2, h3⟩ := h
  obtain ⟨u1, u2, u3, rfl, g1, g2, g3⟩ := h'
  obtain ⟨a1, k1, rfl, -, hm1, -, hc1⟩ := h3.ins
  obtain ⟨a2, k2, rfl, -, hm2, -, hc2⟩ := g3.ins
  obtain ⟨W, hW, M⟩ : ∃ W, W = ((w.alloc (.cells #[v1, v2, .slice a1 c.list.length k1] 36)).alloc (.cells #[u1, u2, .slice a2 d.list.length k2] 36)) ∧ Mem (fun _ => True) (fun _ => True) w W [.box w.heap.size [v1, v2, .slice a1 c.list.length k1], .box (w.heap.size + 1) [u1, u2, .slice a2 d.list.length k2]] :=
    ⟨_, rfl, ((Mem.start fun _ _ => trivial).box _ _).box' _ _ (by simp)⟩
  have hs : Hid (c.same d = (decide (c.vars = d.vars) && decide (c.arrays = d.arrays) && decide (insF c.list = insF d.list))) := rfl
  have HR := show Hid (∀ n, (Row (W.drewN n) v1 c.vars.length 1 (ints c.vars) ∧ Row (W.drewN n) v2 c.arrays.length 1 (ints c.arrays)) ∧ Row (W.drewN n) u1 d.vars.length 1 (ints d.vars) ∧ Row (W.drewN n) u2 d.arrays.length 1 (ints d.arrays)) from fun n => by
    have bb := (M.call (below_drewN (Below.refl _ _) n)).below fun _ _ => trivial
    exact ⟨⟨h1.below bb, h2.below bb⟩, g1.below bb, g2.below bb⟩
  have HB := show Hid (∀ n, Below w.heap.size w (W.drewN n)) from fun n => (M.call (below_drewN (Below.refl _ _) n)).below fun _ _ => trivial
  have hb0 := M.below fun _ _ => trivial
  have HC1 := show Hid (∀ k (h : k < c.list.length), ∃ b o, a1 = some ⟨b, o, none⟩ ∧ W.cell? ⟨b, o + k * 5, none⟩ = some (.int .i64 c.list[k].op) ∧ W.cell? ⟨b, o + k * 5 + 1, none⟩ = some (.int .i64 c.list[k].a) ∧ W.cell? ⟨b, o + k * 5 + 2, none⟩ = some (.int .i64 c.list[k].b) ∧ W.cell? ⟨b, o + k * 5 + 3, none⟩ = some (.int .i64 c.list[k].c) ∧ W.cell? ⟨b, o + k * 5 + 4, none⟩ = some (.int .i64 c.list[k].d)) from fun k hk => by
    obtain ⟨b, o, e, hb, i0, i1, i2, i3, i4⟩ := hc1 k hk
    rw [← (bcell hb0).1 _ _ hb] at i0 i1 i2 i3 i4
    exact ⟨b, o, e, i0, i1, i2, i3, i4⟩
  have HC2 := show Hid (∀ k (h : k < d.list.length), ∃ b o, a2 = some ⟨b, o, none⟩ ∧ W.cell? ⟨b, o + k * 5, none⟩ = some (.int .i64 d.list[k].op) ∧ W.cell? ⟨b, o + k * 5 + 1, none⟩ = some (.int .i64 d.list[k].a) ∧ W.cell? ⟨b, o + k * 5 + 2, none⟩ = some (.int .i64 d.list[k].b) ∧ W.cell? ⟨b, o + k * 5 + 3, none⟩ = some (.int .i64 d.list[k].c) ∧ W.cell? ⟨b, o + k * 5 + 4, none⟩ = some (.int .i64 d.list[k].d)) from fun k hk => by
    obtain ⟨b, o, e, hb, i0, i1, i2, i3, i4⟩ := hc2 k hk
    rw [← (bcell hb0).1 _ _ hb] at i0 i1 i2 i3 i4
    exact ⟨b, o, e, i0, i1, i2, i3, i4⟩
  have x0 := M.c 0 0 rfl rfl
  have x1 := M.c 0 1 rfl rfl
  have x2 := M.c 0 2 rfl rfl
  have y0 := M.c 1 0 rfl rfl
  have y1 := M.c 1 1 rfl rfl
  have y2 := M.c 1 2 rfl rfl
  rw [hW] at x0 x1 x2 y0 y1 y2
  clear h1 h2 h3 g1 g2 g3 M hc1 hc2 hb0
  go_enter Try.func80, Try.ntmps80
  go_wp2_with fail
  rw [← hW] at x0 x1 x2 y0 y1 y2 ⊢
  clear hW
  refine (spec_l2Ints _ _ c.vars d.vars _ (HR.out 0).1.1 (HR.out 0).2.1).mono ?_
  rintro e w1 ⟨rfl, n1, rfl⟩
  by_cases q1 : c.vars = d.vars
  · rw [decide_eq_true q1]
    have Q1 := show Hid _ from q1
    clear q1
    go_wp2_with fail
    refine (spec_l2Ints _ _ c.arrays d.arrays _ (HR.out n1).1.2 (HR.out n1).2.2).mono ?_
    rintro e w1 ⟨rfl, n2, rfl⟩
    by_cases q2 : c.arrays = d.arrays
    · rw [decide_eq_true q2]
      have Q2 := show Hid _ from q2
      clear q2
      by_cases hl : c.list.length = d.list.length
      · have heq : ((c.list.length : Int) == (d.list.length : Int)) = true := by simp; omega
        have HL := show Hid _ from hl
        clear hl
        go_wp2_with fail
        go_loopw [5] (fun i wr => ∃ k : Nat, k ≤ c.list.length ∧ i = .int .i64 k ∧ c.list.take k = d.list.take k ∧ ∃ n, wr = W.drewN n) (fun i _ => c.list.length - (intOf i).toNat)
        case atStart => exact ⟨0, Nat.zero_le _, rfl, rfl, _, by first | rfl | exact World.drewN_drewN _ _ _⟩
        case round =>
          obtain ⟨k, hk, rfl, ht, nd, rfl⟩ := hrel
          have HT : Hid (c.list.take k = d.list.take k) := ht
          clear ht
          by_cases hlt : k < c.list.length
          · have hlt2 : k < d.list.length := by have := HL.out; omega
            obtain ⟨b1, o1, e1, i0, i1, i2, i3, i4⟩ := HC1.out k hlt
            obtain ⟨b2, o2, e2, j0, j1, j2, j3, j4⟩ := HC2.out k hlt2
            have hq := fun w => ins_neq c.list[k] d.list[k] w
            have HE := show Hid _ from (fun (h : c.list[k].l = d.list[k].l) => take_eq_succ HT.out hlt hlt2 (LIns.ext' h))
            obtain ⟨q, hq0⟩ : ∃ q, q = !decide (c.list[k].l = d.list[k].l) := ⟨_, rfl⟩
            rw [← hq0] at hq
            have HQ0 := show Hid _ from hq0
            obtain ⟨x, hx⟩ : ∃ x, x = c.list[k] := ⟨_, rfl⟩
            obtain ⟨y, hy⟩ : ∃ y, y = d.list[k] := ⟨_, rfl⟩
            rw [← hx] at i0 i1 i2 i3 i4
            rw [← hy] at j0 j1 j2 j3 j4
            simp only [← hx, ← hy] at hq
            subst e1 e2
            clear hq0 hx hy
            cases q
            · go_wp2
              go_quiet (fail)
              go_wp2
              refine ⟨⟨k + 1, by omega, by go_num, HE.out (by have := HQ0.out; simpa using this), _, by first | rfl | exact World.drewN_drewN _ _ _⟩, by simp [intOf]; omega⟩
            · go_wp2
              go_quiet (fail)
              go_wp2
              go_ret
              exact ⟨ret_bool (by rw [hs.out, decide_eq_false (fun h => by have hcd := insF_inj h; have h1 := HQ0.out; simp [hcd] at h1 : ¬ insF c.list = insF d.list)]; simp), by rw [World.drewN_drewN]; exact HB.out _⟩
          · go_wp2
            go_ret
            exact ⟨ret_bool (by rw [hs.out, decide_eq_true Q1.out, decide_eq_true Q2.out, decide_eq_true (congrArg insF (take_eq_all HT.out (by omega) (by have := HL.out; omega)))]; rfl), HB.out _⟩
      · have hne : ((c.list.length : Int) == (d.list.length : Int)) = false := by simp; omega
        have HL := show Hid _ from hl
        clear hl
        go_wp2_with fail
        go_ret
        exact ⟨ret_bool (by rw [hs.out, decide_eq_false (fun h => HL.out (by rw [insF_inj h]) : ¬ insF c.list = insF d.list)]; simp), HB.out _⟩
    · rw [decide_eq_false q2]
      go_wp2_with fail
      go_ret
      exact ⟨ret_bool (by rw [hs.out, decide_eq_false q2]; simp), HB.out _⟩
  · rw [decide_eq_false q1]
    go_wp2_with fail
    go_ret
    exact ⟨ret_bool (by rw [hs.out, decide_eq_false q1]; simp), HB.out _⟩

end Go.Proofs.Ytjlnaiifegjneaa
