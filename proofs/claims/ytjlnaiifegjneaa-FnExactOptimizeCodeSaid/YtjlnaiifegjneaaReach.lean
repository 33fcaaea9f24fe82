/-
  What may follow an instruction: the reference's l8Next and the program's follow, a contract each. Conditions: the arguments are code and a place in it.
-/
import Derived.Test.YtjlnaiifegjneaaApp
import Derived.Test.YtjlnaiifegjneaaPure2
namespace Go.Proofs.Ytjlnaiifegjneaa
open Go Go.RowKit

theorem row_empty (w : World) (a : Option Addr) (sz : Nat) : Row w (.slice a 0 0) 0 sz [] := ⟨by simp, a, 0, rfl, Nat.le_refl _, by unfold maxLen; omega, fun h => absurd h (by omega)⟩

set_option maxHeartbeats 2000000 in
theorem spec_l8Next (v : Value) (c : LCode) (i : Nat) (w : World) (h : CodeRow w v c) (hi : i < c.list.length) :
    Calls Try.prog 71 #[v, .int .i64 i] w fun e w' => ∃ u, e = .returned u ∧ Own w' w.heap.size w'.heap.size 3 1 u (nextS c.list[i] i).length (ints (nextS c.list[i] i)) ∧ Below w.heap.size w w' := by
  obtain ⟨v1, v2, v3, rfl, h1, h2, h3⟩ := h
  obtain ⟨a3, k3, rfl, hk3, hm3, -, hc3⟩ := h3.ins
  obtain ⟨W, hW⟩ : ∃ W, W = w.alloc (.cells #[v1, v2, .slice a3 c.list.length k3] 36) := ⟨_, rfl⟩
  have B0 : Below w.heap.size w W := by rw [hW]; go_grown
  have s0 := B0.size
  have L1 : Blk W w.heap.size [v1, v2, .slice a3 c.list.length k3] := by rw [hW]; exact (Blk.new w [v1, v2, .slice a3 c.list.length k3] _)
  obtain ⟨b, off, rfl, hb3, i0, i1, i2, i3, i4⟩ := hc3 i hi
  rw [← (bcell B0).1 _ _ hb3] at i0 i1 i2 i3 i4
  have x2 := L1.cell 2
  simp at x2
  generalize c.list[i] = x at *
  rw [hW] at x2 i0 i1 i2 i3 i4
  clear hc3 h3 h1 h2
  by_cases h13 : x.op = 13
  · have q13 : (x.op == 13) = true := by simp [h13]
    have HN := show Hid (nextS x i = []) from by simp [Hid, nextS, h13]
    clear h13
    go_enter Try.func71, Try.ntmps71
    go_wp2_with fail
    go_ret
    rw [HN.out]
    exact ⟨_, rfl, (own_built _ #[] 0 1 _ (by simp) rfl (by omega)).wide (by simp; omega) (by simp), by go_grown⟩
  · have q13 : (x.op == 13) = false := by simp [h13]
    by_cases h8 : x.op = 8
    · have q8 : (x.op == 8) = true := by simp [h8]
      have HN := show Hid (nextS x i = [x.a]) from by simp [Hid, nextS, h8]
      clear h13 h8
      go_enter Try.func71, Try.ntmps71
      go_wp2_with fail
      go_ret
      rw [HN.out]
      exact ⟨_, rfl, (own_built _ #[_] 1 1 _ (by simp) rfl (by omega)).wide (by simp; omega) (by simp), by go_grown⟩
    · have q8 : (x.op == 8) = false := by simp [h8]
      by_cases h9 : x.op = 9 ∨ x.op = 10
      · have HN := show Hid (nextS x i = [(i : Int) + 1, x.b]) from by simp [Hid, nextS, h13, h8, h9]
        have h9' : (x.op == 9) = true ∨ ((x.op == 9) = false ∧ (x.op == 10) = true) := by
          rcases h9 with h9 | h9
          · left; simp [h9]
          · right; simp [h9]
        clear h13 h8 h9
        rcases h9' with q9 | ⟨q9, q10⟩
        all_goals
          go_enter Try.func71, Try.ntmps71
          go_wp2_with fail
          go_ret
          rw [HN.out]
          exact ⟨_, rfl, ((own_built _ #[.int .i64 ((i : Int) + 1), .int .i64 x.b] 2 1 _ (by simp) rfl (by omega))).wide (by simp; omega) (by simp), by go_grown⟩
      · have q9 : (x.op == 9) = false := by simp; omega
        have q10 : (x.op == 10) = false := by simp; omega
        have HN := show Hid (nextS x i = [(i : Int) + 1]) from by simp [Hid, nextS, h13, h8, h9]
        clear h13 h8 h9
        go_enter Try.func71, Try.ntmps71
        go_wp2_with fail
        go_ret
        rw [HN.out]
        exact ⟨_, rfl, (own_built _ #[_] 1 1 _ (by simp) rfl (by omega)).wide (by simp; omega) (by simp), by go_grown⟩

/-- The same, by place. -/
theorem spec_next (v : Value) (c : LCode) (t : Int) (w : World) (h : CodeRow w v c) (h0 : 0 ≤ t) (h1 : t < c.list.length) :
    Calls Try.prog 71 #[v, .int .i64 t] w fun e w' => ∃ u, e = .returned u ∧ Own w' w.heap.size w'.heap.size 3 1 u (nx c t).length (ints (nx c t)) ∧ Below w.heap.size w w' := by
  obtain ⟨i, rfl⟩ : ∃ i : Nat, t = i := ⟨t.toNat, by omega⟩
  have hi : i < c.list.length := by omega
  have e : nx c i = nextS c.list[i] i := nx_at (t := (i : Int)) hi
  rw [e]
  exact spec_l8Next v c i w h hi

theorem impl_target (x : LIns) (w : World) :
    Calls Try.prog 98 #[x.v] w fun e w' => e = .returned (.int .i64 (tgtOf x)) ∧ Below w.heap.size w w' := by
  obtain ⟨x0, x1, x2, x3, x4⟩ := x
  by_cases h8 : x0 = 8
  · have HN := show Hid (tgtOf ⟨x0, x1, x2, x3, x4⟩ = x1) from by simp [Hid, tgtOf, h8]
    have q8 : (x0 == 8) = true := by simp [h8]
    clear h8
    go_enter Try.func98, Try.ntmps98
    go_wp2_with fail
    go_ret
    exact ⟨ret_int HN.out.symm, by go_grown⟩
  · have q8 : (x0 == 8) = false := by simp [h8]
    by_cases h9 : x0 = 9 ∨ x0 = 10
    · have HN := show Hid (tgtOf ⟨x0, x1, x2, x3, x4⟩ = x2) from by simp [Hid, tgtOf, h8, h9]
      have h9' : (x0 == 9) = true ∨ ((x0 == 9) = false ∧ (x0 == 10) = true) := by
        rcases h9 with h9 | h9
        · left; simp [h9]
        · right; simp [h9]
      clear h8 h9
      rcases h9' with q9 | ⟨q9, q10⟩
      all_goals
        go_enter Try.func98, Try.ntmps98
        go_wp2_with fail
        go_ret
        exact ⟨ret_int HN.out.symm, by go_grown⟩
    · have HN := show Hid (tgtOf ⟨x0, x1, x2, x3, x4⟩ = -1) from by simp [Hid, tgtOf, h8, h9]
      have q9 : (x0 == 9) = false := by simp; omega
      have q10 : (x0 == 10) = false := by simp; omega
      clear h8 h9
      go_enter Try.func98, Try.ntmps98
      go_wp2_with fail
      go_ret
      exact ⟨ret_int HN.out.symm, by go_grown⟩

set_option maxHeartbeats 2000000 in
theorem impl_follow_own (v : Value) (c : LCode) (i : Nat) (w : World) (h : CodeRow w v c) (hi : i < c.list.length) :
    Calls Try.prog 76 #[v, .int .i64 i] w fun e w' => ∃ u, e = .returned u ∧ Own w' w.heap.size w'.heap.size 3 1 u (nextI c.list[i] i).length (ints (nextI c.list[i] i)) ∧ Below w.heap.size w w' := by
  obtain ⟨v1, v2, v3, rfl, h1, h2, h3⟩ := h
  obtain ⟨a3, k3, rfl, hk3, hm3, -, hc3⟩ := h3.ins
  obtain ⟨W, hW⟩ : ∃ W, W = (w.alloc (.cells #[v1, v2, .slice a3 c.list.length k3] 36)) := ⟨_, rfl⟩
  have B0 : Below w.heap.size w W := by rw [hW]; go_grown
  have L1 : Blk W w.heap.size [v1, v2, .slice a3 c.list.length k3] := by rw [hW]; exact (Blk.new w [v1, v2, .slice a3 c.list.length k3] _)
  have sW : W.heap.size = w.heap.size + 1 := by rw [hW]; simp
  obtain ⟨b, off, rfl, hb3, i0, i1, i2, i3, i4⟩ := hc3 i hi
  rw [← (bcell B0).1 _ _ hb3] at i0 i1 i2 i3 i4
  have x2 := L1.cell 2
  simp at x2
  generalize c.list[i] = x at *
  clear hc3 h3 h1 h2
  go_enter Try.func76, Try.ntmps76
  rw [hW] at x2 i0 i1 i2 i3 i4
  go_wp2_with fail
  rw [← hW]
  clear x2 i0 i1 i2 i3 i4 hW
  have s0 := B0.size
  have L2 := Blk.new W [.int .i64 x.op, .int .i64 x.a, .int .i64 x.b, .int .i64 x.c, .int .i64 x.d] 66
  have B1 : Below w.heap.size w (W.alloc (.cells #[.int .i64 x.op, .int .i64 x.a, .int .i64 x.b, .int .i64 x.c, .int .i64 x.d] 66)) := B0.trans (Below.mono (by go_grown : Below W.heap.size W _) s0)
  generalize W.alloc (.cells #[.int .i64 x.op, .int .i64 x.a, .int .i64 x.b, .int .i64 x.c, .int .i64 x.d] 66) = W1 at *
  rw [sW] at L2
  clear B0 s0 sW
  have s1 := B1.size
  refine (impl_target x _).mono ?_
  rintro e w1 ⟨rfl, b1⟩
  replace L2 := L2.below b1 L2.lt
  have B2 := B1.trans (b1.mono s1)
  have s2 := B2.size
  have HN : Hid (nextI x i = (if 0 ≤ tgtOf x then [tgtOf x] else []) ++ (if x.op ≠ 8 ∧ x.op ≠ 13 then [(i : Int) + 1] else [])) := rfl
  generalize tgtOf x = tg at *
  have c0 := L2.cell 0
  simp only [List.getElem?_cons_zero] at c0
  by_cases ht : 0 ≤ tg
  · have HT := show Hid _ from ht
    go_wp2_with (first | (at_builtin; refine wpList_app rfl _ _ rfl Try.underlying28 infoI rfl (by omega) rfl (World.ownsRow_nil _ w1.heap.size _ _) rfl (row_one' w1 (.int .i64 tg) _ rfl) (fun u hu => by simp at hu; subst hu; rfl) (by omega) (by omega) (by simp) ?_; rintro a1 q1 w2 o2 b2 - -; have b2' := ((Below.refl w1.heap.size w1).alloc (Nat.le_refl _) _).trans b2; replace L2 := L2.below b2' L2.lt; have B3 := B2.trans (b2'.mono s2); have s3 := b2'.size; have d0 := L2.cell 0; simp only [List.getElem?_cons_zero] at d0; clear b2) | (at_builtin; refine wpList_app rfl _ _ rfl Try.underlying28 infoI rfl (by omega) rfl (o2.alloc _) rfl (row_one' w2 (.int .i64 ((i : Int) + 1)) _ rfl) (fun u hu => by simp at hu; subst hu; rfl) (by omega) (by omega) (by simp; omega) ?_; rintro a2 q2 w3 o3 b3 - -; have b3' := ((Below.refl w1.heap.size w2).alloc s3 _).trans b3; have B4 := B3.trans (Below.mono (b3' : Below w1.heap.size w2 w3) s2)))
    all_goals go_ret
    all_goals simp only [bne_iff_ne, ne_eq, bne_eq_false_iff_eq] at *
    all_goals first
      | (have e : nextI x i = [tg, (i : Int) + 1] := by
           rw [HN.out, if_pos HT.out]; clear HN HT; simp; omega
         rw [e]; exact ⟨_, rfl, Own.mk' (owns_base o3 s2), B4⟩)
      | (have e : nextI x i = [tg] := by
           rw [HN.out, if_pos HT.out]; clear HN HT; simp; omega
         rw [e]; exact ⟨_, rfl, Own.mk' (owns_base o2 s2), B3⟩)
  · have HT := show Hid (¬ 0 ≤ tg) from ht
    go_wp2_with ((at_builtin; refine wpList_app rfl _ _ rfl Try.underlying28 infoI rfl (by omega) rfl (World.ownsRow_nil _ w1.heap.size _ _) rfl (row_one' w1 (.int .i64 ((i : Int) + 1)) _ rfl) (fun u hu => by simp at hu; subst hu; rfl) (by omega) (by omega) (by simp) ?_; rintro a1 q1 w2 o2 b2 - -; have b2' := ((Below.refl w1.heap.size w1).alloc (Nat.le_refl _) _).trans b2; have B3 := B2.trans (b2'.mono s2)))
    all_goals go_ret
    all_goals simp only [bne_iff_ne, ne_eq, bne_eq_false_iff_eq] at *
    all_goals first
      | (have e : nextI x i = [(i : Int) + 1] := by
           rw [HN.out, if_neg (by have := HT.out; omega)]; clear HN HT; simp; omega
         rw [e]; exact ⟨_, rfl, Own.mk' (owns_base o2 s2), B3⟩)
      | (have e : nextI x i = [] := by
           rw [HN.out, if_neg (by have := HT.out; omega)]; clear HN HT; simp; omega
         rw [e]; exact ⟨_, rfl, ⟨World.ownsRow_nil _ _ _ _, fun g hg => by cases hg⟩, B2⟩)

theorem impl_follow (v : Value) (c : LCode) (i : Nat) (w : World) (h : CodeRow w v c) (hi : i < c.list.length) :
    Calls Try.prog 76 #[v, .int .i64 i] w fun e w' => ∃ u, e = .returned u ∧ Row w' u (nextI c.list[i] i).length 1 (ints (nextI c.list[i] i)) ∧ Below w.heap.size w w' :=
  (impl_follow_own v c i w h hi).mono fun _ _ ⟨u, h1, h2, h3⟩ => ⟨u, h1, h2.row, h3⟩

theorem impl_follows_own (v : Value) (c : LCode) (hc : codeOk c = true) (t : Int) (w : World) (h : CodeRow w v c) (h0 : 0 ≤ t) (h1 : t < c.list.length) :
    Calls Try.prog 76 #[v, .int .i64 t] w fun e w' => ∃ u ns, e = .returned u ∧ ns.length ≤ 2 ∧ (∀ x, x ∈ ns ↔ x ∈ nx c t) ∧ Own w' w.heap.size w'.heap.size 3 1 u ns.length (ints ns) ∧ Below w.heap.size w w' := by
  obtain ⟨i, rfl⟩ : ∃ i : Nat, t = i := ⟨t.toNat, by omega⟩
  have hi : i < c.list.length := by omega
  have e : nx c i = nextS c.list[i] i := nx_at (t := (i : Int)) hi
  rw [e]
  refine (impl_follow_own v c i w h hi).mono fun _ _ ⟨u, h1, h2, h3⟩ => ⟨u, _, h1, nextI_len _ _, fun x => nextI_mem ((codeOk_parts hc).2.2.2.1 i hi) _ _, h2, h3⟩

theorem impl_follows (v : Value) (c : LCode) (hc : codeOk c = true) (t : Int) (w : World) (h : CodeRow w v c) (h0 : 0 ≤ t) (h1 : t < c.list.length) :
    Calls Try.prog 76 #[v, .int .i64 t] w fun e w' => ∃ u ns, e = .returned u ∧ ns.length ≤ 2 ∧ (∀ x, x ∈ ns ↔ x ∈ nx c t) ∧ Row w' u ns.length 1 (ints ns) ∧ Below w.heap.size w w' := by
  obtain ⟨i, rfl⟩ : ∃ i : Nat, t = i := ⟨t.toNat, by omega⟩
  have hi : i < c.list.length := by omega
  have e : nx c i = nextS c.list[i] i := nx_at (t := (i : Int)) hi
  rw [e]
  refine (impl_follow v c i w h hi).mono fun e w' ⟨u, h1, h2, h3⟩ => ⟨u, _, h1, nextI_len _ _, fun x => nextI_mem ((codeOk_parts hc).2.2.2.1 i hi) _ _, h2, h3⟩

end Go.Proofs.Ytjlnaiifegjneaa
